/- Part of the proof: the runs of functions on the abstract machine. -/
import Derived.Test.YthcchjhieolflaaPam33
import Derived.Test.YthcchjhieolflaaFns
import Derived.Test.YthcchjhieolflaaDVe
import Derived.Test.YthcchjhieolflaaDVc
import Derived.Test.YthcchjhieolflaaDVr
namespace Go.Proofs.Ythcchjhieolflaa.M
open Go Go.Pam Go.RowKit Go.WideShapes
set_option maxRecDepth 4000
set_option linter.unusedVariables false
set_option linter.unusedSimpArgs false

-- 6 prefect/prefectlaw11.VectorTells
/-- prefect/prefectlaw11.VectorTells -/
def F6 (k : Nat) (a0 : Sl Api_CSN) (a1 : Sl Api_CSN) (a2 : Api_CSN) (a3 : Int) : Option Bool :=
  Option.bind (F18 k ) fun y2 =>
  if !y2 then
  some false
  else
  if (decide ((Sl.len a0) > 10)) || (decide ((Sl.len a1) > 10)) then
  some true
  else
  Option.bind (Option.bind (F20 k a3) fun y44 =>
  Option.bind (F21 k a3) fun y45 =>
  Option.bind (F19 k y44 y45) fun y46 =>
  if y46 then
  Option.bind (F22 k a0) fun y47 =>
  Option.bind (F23 k a0) fun y48 =>
  if y47 == y48 then
  Option.bind (F24 k a0 a2) fun y49 =>
  Option.bind (F25 k a0 a2) fun y50 =>
  Option.bind (F19 k y49 y50) fun y51 =>
  if y51 then
  Option.bind (F26 k a0 a1) fun y52 =>
  Option.bind (F27 k a0 a1) fun y53 =>
  Option.bind (F19 k y52 y53) fun y54 =>
  if y54 then
  Option.bind (F28 k a0 a1) fun y55 =>
  Option.bind (F29 k a0 a1) fun y56 =>
  Option.bind (F19 k y55 y56) fun y57 =>
  if y57 then
  Option.bind (F30 k a0 a1) fun y58 =>
  Option.bind (F31 k a0 a1) fun y59 =>
  if y58 == y59 then
  Option.bind (F32 k a0 a2) fun y60 =>
  Option.bind (F33 k a0 a2) fun y61 =>
  if y60 == y61 then
  Option.bind (F34 k a0) fun y62 =>
  Option.bind (F35 k a0) fun y63 =>
  if (y62.Time == y63.Time) && ((y62.Seq == y63.Seq) && ((y62.Rep == y63.Rep) && true)) then
  Option.bind (F36 k a0 a1) fun y64 =>
  Option.bind (F37 k a0) fun y65 =>
  Option.bind (F37 k a1) fun y68 =>
  Option.bind (F19 k y65 y68) fun y72 =>
  some (y64 == y72)
  else
  some false
  else
  some false
  else
  some false
  else
  some false
  else
  some false
  else
  some false
  else
  some false
  else
  some false) fun y43 =>
  some y43
theorem s6 : ∀ k : Nat, ∀ {a0 : Sl Api_CSN} {a1 : Sl Api_CSN} {a2 : Api_CSN} {a3 : Int} {r : Bool}, F6 k a0 a1 a2 a3 = some r → ∀ {vs : List PV}, vs.map PV.strip = [(encSl e_Api_CSN a0), (encSl e_Api_CSN a1), (.agg [(.int .i64 a2.Time), (.int .i64 a2.Seq), (.int .i64 a2.Rep)]), (.int .i64 a3)] → ∀ S : List SObj, evw env 6 vs S = some ((.bool r), S, false) := by
  intro k a0 a1 a2 a3 r h vs ha S
  unfold F6 at h
  refine evw_pureW (pf := fn6) rfl rfl ha (Nat.le_of_ble_eq_true rfl) (by simp [PV.clean, cleanL, clean_encSl clean_Api_CSN]) rfl ?_
  refine WB.of (pf := fn6) rfl ?_
  have H := Hp.start []
  refine WC.seqR ?_
  refine WO.box' rfl rfl rfl rfl rfl H ?_
  intro i1 S hi1 H
  refine WO.step (v := (.bool false)) rfl (nz rfl rfl) ?_
  refine WO.nil ?_
  refine WC.seq ?_
  refine WC.seqR ?_
  obtain ⟨y2, hy2, h⟩ := bindS h
  refine WO.step (v := (.bool y2)) rfl (nz rfl (stp_call (vs := []) rfl rfl (s18 _ hy2 rfl _))) ?_
  refine WO.step (v := (.bool (!y2))) rfl (nz rfl rfl) ?_
  refine WO.nil ?_
  rcases iteS h with ⟨hc82, h⟩ | ⟨hc82, h⟩
  · refine WC.condT rfl hc82 ?_
    refine WC.seqR ?_
    refine WO.step (v := (.bool false)) rfl (nz rfl rfl) ?_
    refine WO.nil ?_
    refine WC.ret ?_
    refine KX.seq_r ?_
    obtain rfl := Option.some.inj h
    refine KB.ret (vs := [(.bool false)]) (res_tmp rfl res_nil) (fl_cons' rfl rfl) ?_
    exact rfl
  · refine WC.condF rfl hc82 ?_
    refine WC.skip ?_
    refine KX.seq_n ?_
    refine WC.seq ?_
    refine WC.seqR ?_
    refine WO.step (v := (encSl e_Api_CSN a0)) rfl (nz rfl rfl) ?_
    refine WO.step (v := (.int .i64 (Sl.len a0))) rfl (nz rfl (stp_len rfl (isSl_enc _ _) rfl)) ?_
    refine WO.step (v := (.bool (decide ((Sl.len a0) > 10)))) rfl (nz rfl rfl) ?_
    refine WO.step (v := (.bool (decide ((Sl.len a0) > 10)))) rfl (nz rfl rfl) ?_
    refine WO.split 4 (fun σ' S' e' => Known ([(0, (encSl e_Api_CSN a0)), (1, (encSl e_Api_CSN a1)), (3, (.int .i64 a3)), (6, (.ptr i1 0)), (18, (.bool ((decide ((Sl.len a0) > 10)) || (decide ((Sl.len a1) > 10)))))]) σ' ∧ Hp [] [] S' [(i1, .cells [(.int .i64 a2.Time), (.int .i64 a2.Seq), (.int .i64 a2.Rep)])] [] [] ∧ e' = false) ?_ ?_
    · cases hc4 : (decide ((Sl.len a0) > 10))
      · skip
        refine WO.go0 rfl rfl ?_
        refine WO.step (v := (encSl e_Api_CSN a1)) rfl (nz rfl rfl) ?_
        refine WO.go0 rfl rfl ?_
        refine WO.step (v := (.int .i64 (Sl.len a1))) rfl (nz rfl (stp_len rfl (isSl_enc _ _) rfl)) ?_
        refine WO.go0 rfl rfl ?_
        refine WO.step (v := (.bool (decide ((Sl.len a1) > 10)))) rfl (nz rfl rfl) ?_
        refine WO.step (v := (.bool (decide ((Sl.len a1) > 10)))) rfl (nz rfl rfl) ?_
        refine WO.nil ?_
        exact ⟨(known_cons rfl (known_cons rfl (known_cons rfl (known_cons rfl (known_cons rfl known_nil))))), H, rfl⟩
      · skip
        refine WO.by rfl rfl rfl ?_
        refine WO.by rfl rfl rfl ?_
        refine WO.by rfl rfl rfl ?_
        refine WO.step (v := (.bool true)) rfl (nz rfl rfl) ?_
        refine WO.nil ?_
        exact ⟨(known_cons rfl (known_cons rfl (known_cons rfl (known_cons rfl (known_cons rfl known_nil))))), H, rfl⟩
    · rintro σ S e ⟨hk, H, rfl⟩
      refine WO.of_known hk ?_
      refine WO.nil ?_
      rcases iteS h with ⟨hc81, h⟩ | ⟨hc81, h⟩
      · refine WC.condT rfl hc81 ?_
        refine WC.seqR ?_
        refine WO.step (v := (.bool true)) rfl (nz rfl rfl) ?_
        refine WO.nil ?_
        refine WC.ret ?_
        refine KX.seq_r ?_
        obtain rfl := Option.some.inj h
        refine KB.ret (vs := [(.bool true)]) (res_tmp rfl res_nil) (fl_cons' rfl rfl) ?_
        exact rfl
      · refine WC.condF rfl hc81 ?_
        refine WC.skip ?_
        refine KX.seq_n ?_
        refine WC.seq ?_
        obtain ⟨y43, hy43, hOy43⟩ := bindS h
        refine WC.drawJ (fun σ' S' e' => Known ([(8, (.bool y43))]) σ' ∧ Hp [] [] S' [(i1, .cells [(.int .i64 a2.Time), (.int .i64 a2.Seq), (.int .i64 a2.Rep)])] [] [] ∧ e' = false) ?_ ?_
        · replace h := hy43
          refine WK.step (v := (.int .i64 a3)) rfl (nz rfl rfl) rfl rfl rfl rfl ?_
          obtain ⟨y44, hy44, h⟩ := bindS h
          refine WK.callP (v := (encSl e_Api_CSN y44)) rfl (nz rfl (stp_call (vs := [(.int .i64 a3)]) rfl rfl (s20 _ hy44 rfl _))) rfl ?_
          refine WK.step (v := (.int .i64 a3)) rfl (nz rfl rfl) rfl rfl rfl rfl ?_
          obtain ⟨y45, hy45, h⟩ := bindS h
          refine WK.callP (v := (encSl e_Api_CSN y45)) rfl (nz rfl (stp_call (vs := [(.int .i64 a3)]) rfl rfl (s21 _ hy45 rfl _))) rfl ?_
          obtain ⟨y46, hy46, h⟩ := bindS h
          refine WK.callP (v := (.bool y46)) rfl (nz (fz_tmp' (isSl_enc _ _).frz (fz_tmp' (isSl_enc _ _).frz rfl)) (stp_call (vs := [(encSl e_Api_CSN y44), (encSl e_Api_CSN y45)]) rfl rfl (s19 _ hy46 (by simp only [strip_enc, List.map_cons, List.map_nil, tupled]) _))) rfl ?_
          refine WK.step (v := (.bool y46)) rfl (nz rfl rfl) rfl rfl rfl rfl ?_
          cases hc80 : y46
          · replace h := iteF h hc80
            refine WK.by rfl rfl rfl ?_
            refine WK.by rfl rfl rfl ?_
            refine WK.by rfl rfl rfl ?_
            refine WK.by rfl rfl rfl ?_
            refine WK.by rfl rfl rfl ?_
            refine WK.step (v := (.bool false)) rfl (nz rfl rfl) rfl rfl rfl rfl ?_
            refine WK.step (v := (.bool false)) rfl (nz rfl rfl) rfl rfl rfl rfl ?_
            refine WK.by rfl rfl rfl ?_
            refine WK.by rfl rfl rfl ?_
            refine WK.by rfl rfl rfl ?_
            refine WK.by rfl rfl rfl ?_
            refine WK.by rfl rfl rfl ?_
            refine WK.by rfl rfl rfl ?_
            refine WK.by rfl rfl rfl ?_
            refine WK.step (v := (.bool false)) rfl (nz rfl rfl) rfl rfl rfl rfl ?_
            refine WK.step (v := (.bool false)) rfl (nz rfl rfl) rfl rfl rfl rfl ?_
            refine WK.by rfl rfl rfl ?_
            refine WK.by rfl rfl rfl ?_
            refine WK.by rfl rfl rfl ?_
            refine WK.by rfl rfl rfl ?_
            refine WK.by rfl rfl rfl ?_
            refine WK.by rfl rfl rfl ?_
            refine WK.by rfl rfl rfl ?_
            refine WK.step (v := (.bool false)) rfl (nz rfl rfl) rfl rfl rfl rfl ?_
            refine WK.step (v := (.bool false)) rfl (nz rfl rfl) rfl rfl rfl rfl ?_
            refine WK.by rfl rfl rfl ?_
            refine WK.by rfl rfl rfl ?_
            refine WK.by rfl rfl rfl ?_
            refine WK.by rfl rfl rfl ?_
            refine WK.by rfl rfl rfl ?_
            refine WK.by rfl rfl rfl ?_
            refine WK.by rfl rfl rfl ?_
            refine WK.step (v := (.bool false)) rfl (nz rfl rfl) rfl rfl rfl rfl ?_
            refine WK.step (v := (.bool false)) rfl (nz rfl rfl) rfl rfl rfl rfl ?_
            refine WK.by rfl rfl rfl ?_
            refine WK.by rfl rfl rfl ?_
            refine WK.by rfl rfl rfl ?_
            refine WK.by rfl rfl rfl ?_
            refine WK.by rfl rfl rfl ?_
            refine WK.by rfl rfl rfl ?_
            refine WK.by rfl rfl rfl ?_
            refine WK.step (v := (.bool false)) rfl (nz rfl rfl) rfl rfl rfl rfl ?_
            refine WK.step (v := (.bool false)) rfl (nz rfl rfl) rfl rfl rfl rfl ?_
            refine WK.by rfl rfl rfl ?_
            refine WK.by rfl rfl rfl ?_
            refine WK.by rfl rfl rfl ?_
            refine WK.by rfl rfl rfl ?_
            refine WK.by rfl rfl rfl ?_
            refine WK.by rfl rfl rfl ?_
            refine WK.by rfl rfl rfl ?_
            refine WK.step (v := (.bool false)) rfl (nz rfl rfl) rfl rfl rfl rfl ?_
            refine WK.step (v := (.bool false)) rfl (nz rfl rfl) rfl rfl rfl rfl ?_
            refine WK.by rfl rfl rfl ?_
            refine WK.by rfl rfl rfl ?_
            refine WK.by rfl rfl rfl ?_
            refine WK.by rfl rfl rfl ?_
            refine WK.by rfl rfl rfl ?_
            refine WK.step (v := (.bool false)) rfl (nz rfl rfl) rfl rfl rfl rfl ?_
            refine WK.step (v := (.bool false)) rfl (nz rfl rfl) rfl rfl rfl rfl ?_
            refine WK.by rfl rfl rfl ?_
            refine WK.by rfl rfl rfl ?_
            refine WK.by rfl rfl rfl ?_
            refine WK.by rfl rfl rfl ?_
            refine WK.by rfl rfl rfl ?_
            refine WK.by rfl rfl rfl ?_
            refine WK.nil ?_
            refine WO.by rfl rfl rfl ?_
            refine WO.by rfl rfl rfl ?_
            refine WO.by rfl rfl rfl ?_
            refine WO.step (v := (.bool false)) rfl (nz rfl rfl) ?_
            refine WO.step (v := (.bool false)) rfl (nz rfl rfl) ?_
            refine WO.nil ?_
            obtain rfl := Option.some.inj h
            exact ⟨(known_cons rfl known_nil), (H.sub (.cons_cons _ .slnil) .slnil .slnil), rfl⟩
          · replace h := iteT h hc80
            refine WK.go0 rfl rfl ?_
            refine WK.step (v := (encSl e_Api_CSN a0)) rfl (nz rfl rfl) rfl rfl rfl rfl ?_
            refine WK.go0 rfl rfl ?_
            obtain ⟨y47, hy47, h⟩ := bindS h
            refine WK.callP (v := (.bool y47)) rfl (nz (fz_tmp' (isSl_enc _ _).frz rfl) (stp_call (vs := [(encSl e_Api_CSN a0)]) rfl rfl (s22 _ hy47 (by simp only [strip_enc, List.map_cons, List.map_nil, tupled]) _))) rfl ?_
            refine WK.go0 rfl rfl ?_
            refine WK.step (v := (encSl e_Api_CSN a0)) rfl (nz rfl rfl) rfl rfl rfl rfl ?_
            refine WK.go0 rfl rfl ?_
            obtain ⟨y48, hy48, h⟩ := bindS h
            refine WK.callP (v := (.bool y48)) rfl (nz (fz_tmp' (isSl_enc _ _).frz rfl) (stp_call (vs := [(encSl e_Api_CSN a0)]) rfl rfl (s23 _ hy48 (by simp only [strip_enc, List.map_cons, List.map_nil, tupled]) _))) rfl ?_
            refine WK.go0 rfl rfl ?_
            refine WK.step (v := (.bool (y47 == y48))) rfl (nz rfl rfl) rfl rfl rfl rfl ?_
            refine WK.step (v := (.bool (y47 == y48))) rfl (nz rfl rfl) rfl rfl rfl rfl ?_
            refine WK.step (v := (.bool (y47 == y48))) rfl (nz rfl rfl) rfl rfl rfl rfl ?_
            cases hc79 : (y47 == y48)
            · replace h := iteF h hc79
              refine WK.by rfl rfl rfl ?_
              refine WK.by rfl rfl rfl ?_
              refine WK.by rfl rfl rfl ?_
              refine WK.by rfl rfl rfl ?_
              refine WK.by rfl rfl rfl ?_
              refine WK.by rfl rfl rfl ?_
              refine WK.by rfl rfl rfl ?_
              refine WK.step (v := (.bool false)) rfl (nz rfl rfl) rfl rfl rfl rfl ?_
              refine WK.step (v := (.bool false)) rfl (nz rfl rfl) rfl rfl rfl rfl ?_
              refine WK.by rfl rfl rfl ?_
              refine WK.by rfl rfl rfl ?_
              refine WK.by rfl rfl rfl ?_
              refine WK.by rfl rfl rfl ?_
              refine WK.by rfl rfl rfl ?_
              refine WK.by rfl rfl rfl ?_
              refine WK.by rfl rfl rfl ?_
              refine WK.step (v := (.bool false)) rfl (nz rfl rfl) rfl rfl rfl rfl ?_
              refine WK.step (v := (.bool false)) rfl (nz rfl rfl) rfl rfl rfl rfl ?_
              refine WK.by rfl rfl rfl ?_
              refine WK.by rfl rfl rfl ?_
              refine WK.by rfl rfl rfl ?_
              refine WK.by rfl rfl rfl ?_
              refine WK.by rfl rfl rfl ?_
              refine WK.by rfl rfl rfl ?_
              refine WK.by rfl rfl rfl ?_
              refine WK.step (v := (.bool false)) rfl (nz rfl rfl) rfl rfl rfl rfl ?_
              refine WK.step (v := (.bool false)) rfl (nz rfl rfl) rfl rfl rfl rfl ?_
              refine WK.by rfl rfl rfl ?_
              refine WK.by rfl rfl rfl ?_
              refine WK.by rfl rfl rfl ?_
              refine WK.by rfl rfl rfl ?_
              refine WK.by rfl rfl rfl ?_
              refine WK.by rfl rfl rfl ?_
              refine WK.by rfl rfl rfl ?_
              refine WK.step (v := (.bool false)) rfl (nz rfl rfl) rfl rfl rfl rfl ?_
              refine WK.step (v := (.bool false)) rfl (nz rfl rfl) rfl rfl rfl rfl ?_
              refine WK.by rfl rfl rfl ?_
              refine WK.by rfl rfl rfl ?_
              refine WK.by rfl rfl rfl ?_
              refine WK.by rfl rfl rfl ?_
              refine WK.by rfl rfl rfl ?_
              refine WK.by rfl rfl rfl ?_
              refine WK.by rfl rfl rfl ?_
              refine WK.step (v := (.bool false)) rfl (nz rfl rfl) rfl rfl rfl rfl ?_
              refine WK.step (v := (.bool false)) rfl (nz rfl rfl) rfl rfl rfl rfl ?_
              refine WK.by rfl rfl rfl ?_
              refine WK.by rfl rfl rfl ?_
              refine WK.by rfl rfl rfl ?_
              refine WK.by rfl rfl rfl ?_
              refine WK.by rfl rfl rfl ?_
              refine WK.step (v := (.bool false)) rfl (nz rfl rfl) rfl rfl rfl rfl ?_
              refine WK.step (v := (.bool false)) rfl (nz rfl rfl) rfl rfl rfl rfl ?_
              refine WK.by rfl rfl rfl ?_
              refine WK.by rfl rfl rfl ?_
              refine WK.by rfl rfl rfl ?_
              refine WK.by rfl rfl rfl ?_
              refine WK.by rfl rfl rfl ?_
              refine WK.by rfl rfl rfl ?_
              refine WK.nil ?_
              refine WO.by rfl rfl rfl ?_
              refine WO.by rfl rfl rfl ?_
              refine WO.by rfl rfl rfl ?_
              refine WO.step (v := (.bool false)) rfl (nz rfl rfl) ?_
              refine WO.step (v := (.bool false)) rfl (nz rfl rfl) ?_
              refine WO.nil ?_
              obtain rfl := Option.some.inj h
              exact ⟨(known_cons rfl known_nil), (H.sub (.cons_cons _ .slnil) .slnil .slnil), rfl⟩
            · replace h := iteT h hc79
              refine WK.go0 rfl rfl ?_
              refine WK.step (v := (encSl e_Api_CSN a0)) rfl (nz rfl rfl) rfl rfl rfl rfl ?_
              refine WK.go0 rfl rfl ?_
              refine WK.load rfl rfl (ld (H.get 0 rfl) rfl) hist_nil ?_
              refine WK.go0 rfl rfl ?_
              obtain ⟨y49, hy49, h⟩ := bindS h
              refine WK.callP (v := (encSl e_Api_CSN y49)) rfl (nz (fz_tmp' (isSl_enc _ _).frz (fz_tmp' rfl rfl)) (stp_call (vs := [(encSl e_Api_CSN a0), (.agg [(.int .i64 a2.Time), (.int .i64 a2.Seq), (.int .i64 a2.Rep)])]) rfl rfl (s24 _ hy49 (by simp only [strip_enc, st_agg, List.map_cons, List.map_nil, st1_int, tupled, e_Api_CSN]) _))) rfl ?_
              refine WK.go0 rfl rfl ?_
              refine WK.step (v := (encSl e_Api_CSN a0)) rfl (nz rfl rfl) rfl rfl rfl rfl ?_
              refine WK.go0 rfl rfl ?_
              refine WK.load rfl rfl (ld (H.get 0 rfl) rfl) hist_nil ?_
              refine WK.go0 rfl rfl ?_
              obtain ⟨y50, hy50, h⟩ := bindS h
              refine WK.callP (v := (encSl e_Api_CSN y50)) rfl (nz (fz_tmp' (isSl_enc _ _).frz (fz_tmp' rfl rfl)) (stp_call (vs := [(encSl e_Api_CSN a0), (.agg [(.int .i64 a2.Time), (.int .i64 a2.Seq), (.int .i64 a2.Rep)])]) rfl rfl (s25 _ hy50 (by simp only [strip_enc, st_agg, List.map_cons, List.map_nil, st1_int, tupled, e_Api_CSN]) _))) rfl ?_
              refine WK.go0 rfl rfl ?_
              obtain ⟨y51, hy51, h⟩ := bindS h
              refine WK.callP (v := (.bool y51)) rfl (nz (fz_tmp' (isSl_enc _ _).frz (fz_tmp' (isSl_enc _ _).frz rfl)) (stp_call (vs := [(encSl e_Api_CSN y49), (encSl e_Api_CSN y50)]) rfl rfl (s19 _ hy51 (by simp only [strip_enc, List.map_cons, List.map_nil, tupled]) _))) rfl ?_
              refine WK.step (v := (.bool y51)) rfl (nz rfl rfl) rfl rfl rfl rfl ?_
              refine WK.step (v := (.bool y51)) rfl (nz rfl rfl) rfl rfl rfl rfl ?_
              cases hc78 : y51
              · replace h := iteF h hc78
                refine WK.by rfl rfl rfl ?_
                refine WK.by rfl rfl rfl ?_
                refine WK.by rfl rfl rfl ?_
                refine WK.by rfl rfl rfl ?_
                refine WK.by rfl rfl rfl ?_
                refine WK.by rfl rfl rfl ?_
                refine WK.by rfl rfl rfl ?_
                refine WK.step (v := (.bool false)) rfl (nz rfl rfl) rfl rfl rfl rfl ?_
                refine WK.step (v := (.bool false)) rfl (nz rfl rfl) rfl rfl rfl rfl ?_
                refine WK.by rfl rfl rfl ?_
                refine WK.by rfl rfl rfl ?_
                refine WK.by rfl rfl rfl ?_
                refine WK.by rfl rfl rfl ?_
                refine WK.by rfl rfl rfl ?_
                refine WK.by rfl rfl rfl ?_
                refine WK.by rfl rfl rfl ?_
                refine WK.step (v := (.bool false)) rfl (nz rfl rfl) rfl rfl rfl rfl ?_
                refine WK.step (v := (.bool false)) rfl (nz rfl rfl) rfl rfl rfl rfl ?_
                refine WK.by rfl rfl rfl ?_
                refine WK.by rfl rfl rfl ?_
                refine WK.by rfl rfl rfl ?_
                refine WK.by rfl rfl rfl ?_
                refine WK.by rfl rfl rfl ?_
                refine WK.by rfl rfl rfl ?_
                refine WK.by rfl rfl rfl ?_
                refine WK.step (v := (.bool false)) rfl (nz rfl rfl) rfl rfl rfl rfl ?_
                refine WK.step (v := (.bool false)) rfl (nz rfl rfl) rfl rfl rfl rfl ?_
                refine WK.by rfl rfl rfl ?_
                refine WK.by rfl rfl rfl ?_
                refine WK.by rfl rfl rfl ?_
                refine WK.by rfl rfl rfl ?_
                refine WK.by rfl rfl rfl ?_
                refine WK.by rfl rfl rfl ?_
                refine WK.by rfl rfl rfl ?_
                refine WK.step (v := (.bool false)) rfl (nz rfl rfl) rfl rfl rfl rfl ?_
                refine WK.step (v := (.bool false)) rfl (nz rfl rfl) rfl rfl rfl rfl ?_
                refine WK.by rfl rfl rfl ?_
                refine WK.by rfl rfl rfl ?_
                refine WK.by rfl rfl rfl ?_
                refine WK.by rfl rfl rfl ?_
                refine WK.by rfl rfl rfl ?_
                refine WK.step (v := (.bool false)) rfl (nz rfl rfl) rfl rfl rfl rfl ?_
                refine WK.step (v := (.bool false)) rfl (nz rfl rfl) rfl rfl rfl rfl ?_
                refine WK.by rfl rfl rfl ?_
                refine WK.by rfl rfl rfl ?_
                refine WK.by rfl rfl rfl ?_
                refine WK.by rfl rfl rfl ?_
                refine WK.by rfl rfl rfl ?_
                refine WK.by rfl rfl rfl ?_
                refine WK.nil ?_
                refine WO.by rfl rfl rfl ?_
                refine WO.by rfl rfl rfl ?_
                refine WO.by rfl rfl rfl ?_
                refine WO.step (v := (.bool false)) rfl (nz rfl rfl) ?_
                refine WO.step (v := (.bool false)) rfl (nz rfl rfl) ?_
                refine WO.nil ?_
                obtain rfl := Option.some.inj h
                exact ⟨(known_cons rfl known_nil), (H.sub (.cons_cons _ .slnil) .slnil .slnil), rfl⟩
              · replace h := iteT h hc78
                refine WK.go0 rfl rfl ?_
                refine WK.step (v := (encSl e_Api_CSN a0)) rfl (nz rfl rfl) rfl rfl rfl rfl ?_
                refine WK.go0 rfl rfl ?_
                refine WK.step (v := (encSl e_Api_CSN a1)) rfl (nz rfl rfl) rfl rfl rfl rfl ?_
                refine WK.go0 rfl rfl ?_
                obtain ⟨y52, hy52, h⟩ := bindS h
                refine WK.callP (v := (encSl e_Api_CSN y52)) rfl (nz (fz_tmp' (isSl_enc _ _).frz (fz_tmp' (isSl_enc _ _).frz rfl)) (stp_call (vs := [(encSl e_Api_CSN a0), (encSl e_Api_CSN a1)]) rfl rfl (s26 _ hy52 (by simp only [strip_enc, List.map_cons, List.map_nil, tupled]) _))) rfl ?_
                refine WK.go0 rfl rfl ?_
                refine WK.step (v := (encSl e_Api_CSN a0)) rfl (nz rfl rfl) rfl rfl rfl rfl ?_
                refine WK.go0 rfl rfl ?_
                refine WK.step (v := (encSl e_Api_CSN a1)) rfl (nz rfl rfl) rfl rfl rfl rfl ?_
                refine WK.go0 rfl rfl ?_
                obtain ⟨y53, hy53, h⟩ := bindS h
                refine WK.callP (v := (encSl e_Api_CSN y53)) rfl (nz (fz_tmp' (isSl_enc _ _).frz (fz_tmp' (isSl_enc _ _).frz rfl)) (stp_call (vs := [(encSl e_Api_CSN a0), (encSl e_Api_CSN a1)]) rfl rfl (s27 _ hy53 (by simp only [strip_enc, List.map_cons, List.map_nil, tupled]) _))) rfl ?_
                refine WK.go0 rfl rfl ?_
                obtain ⟨y54, hy54, h⟩ := bindS h
                refine WK.callP (v := (.bool y54)) rfl (nz (fz_tmp' (isSl_enc _ _).frz (fz_tmp' (isSl_enc _ _).frz rfl)) (stp_call (vs := [(encSl e_Api_CSN y52), (encSl e_Api_CSN y53)]) rfl rfl (s19 _ hy54 (by simp only [strip_enc, List.map_cons, List.map_nil, tupled]) _))) rfl ?_
                refine WK.step (v := (.bool y54)) rfl (nz rfl rfl) rfl rfl rfl rfl ?_
                refine WK.step (v := (.bool y54)) rfl (nz rfl rfl) rfl rfl rfl rfl ?_
                cases hc77 : y54
                · replace h := iteF h hc77
                  refine WK.by rfl rfl rfl ?_
                  refine WK.by rfl rfl rfl ?_
                  refine WK.by rfl rfl rfl ?_
                  refine WK.by rfl rfl rfl ?_
                  refine WK.by rfl rfl rfl ?_
                  refine WK.by rfl rfl rfl ?_
                  refine WK.by rfl rfl rfl ?_
                  refine WK.step (v := (.bool false)) rfl (nz rfl rfl) rfl rfl rfl rfl ?_
                  refine WK.step (v := (.bool false)) rfl (nz rfl rfl) rfl rfl rfl rfl ?_
                  refine WK.by rfl rfl rfl ?_
                  refine WK.by rfl rfl rfl ?_
                  refine WK.by rfl rfl rfl ?_
                  refine WK.by rfl rfl rfl ?_
                  refine WK.by rfl rfl rfl ?_
                  refine WK.by rfl rfl rfl ?_
                  refine WK.by rfl rfl rfl ?_
                  refine WK.step (v := (.bool false)) rfl (nz rfl rfl) rfl rfl rfl rfl ?_
                  refine WK.step (v := (.bool false)) rfl (nz rfl rfl) rfl rfl rfl rfl ?_
                  refine WK.by rfl rfl rfl ?_
                  refine WK.by rfl rfl rfl ?_
                  refine WK.by rfl rfl rfl ?_
                  refine WK.by rfl rfl rfl ?_
                  refine WK.by rfl rfl rfl ?_
                  refine WK.by rfl rfl rfl ?_
                  refine WK.by rfl rfl rfl ?_
                  refine WK.step (v := (.bool false)) rfl (nz rfl rfl) rfl rfl rfl rfl ?_
                  refine WK.step (v := (.bool false)) rfl (nz rfl rfl) rfl rfl rfl rfl ?_
                  refine WK.by rfl rfl rfl ?_
                  refine WK.by rfl rfl rfl ?_
                  refine WK.by rfl rfl rfl ?_
                  refine WK.by rfl rfl rfl ?_
                  refine WK.by rfl rfl rfl ?_
                  refine WK.step (v := (.bool false)) rfl (nz rfl rfl) rfl rfl rfl rfl ?_
                  refine WK.step (v := (.bool false)) rfl (nz rfl rfl) rfl rfl rfl rfl ?_
                  refine WK.by rfl rfl rfl ?_
                  refine WK.by rfl rfl rfl ?_
                  refine WK.by rfl rfl rfl ?_
                  refine WK.by rfl rfl rfl ?_
                  refine WK.by rfl rfl rfl ?_
                  refine WK.by rfl rfl rfl ?_
                  refine WK.nil ?_
                  refine WO.by rfl rfl rfl ?_
                  refine WO.by rfl rfl rfl ?_
                  refine WO.by rfl rfl rfl ?_
                  refine WO.step (v := (.bool false)) rfl (nz rfl rfl) ?_
                  refine WO.step (v := (.bool false)) rfl (nz rfl rfl) ?_
                  refine WO.nil ?_
                  obtain rfl := Option.some.inj h
                  exact ⟨(known_cons rfl known_nil), (H.sub (.cons_cons _ .slnil) .slnil .slnil), rfl⟩
                · replace h := iteT h hc77
                  refine WK.go0 rfl rfl ?_
                  refine WK.step (v := (encSl e_Api_CSN a0)) rfl (nz rfl rfl) rfl rfl rfl rfl ?_
                  refine WK.go0 rfl rfl ?_
                  refine WK.step (v := (encSl e_Api_CSN a1)) rfl (nz rfl rfl) rfl rfl rfl rfl ?_
                  refine WK.go0 rfl rfl ?_
                  obtain ⟨y55, hy55, h⟩ := bindS h
                  refine WK.callP (v := (encSl e_Api_CSN y55)) rfl (nz (fz_tmp' (isSl_enc _ _).frz (fz_tmp' (isSl_enc _ _).frz rfl)) (stp_call (vs := [(encSl e_Api_CSN a0), (encSl e_Api_CSN a1)]) rfl rfl (s28 _ hy55 (by simp only [strip_enc, List.map_cons, List.map_nil, tupled]) _))) rfl ?_
                  refine WK.go0 rfl rfl ?_
                  refine WK.step (v := (encSl e_Api_CSN a0)) rfl (nz rfl rfl) rfl rfl rfl rfl ?_
                  refine WK.go0 rfl rfl ?_
                  refine WK.step (v := (encSl e_Api_CSN a1)) rfl (nz rfl rfl) rfl rfl rfl rfl ?_
                  refine WK.go0 rfl rfl ?_
                  obtain ⟨y56, hy56, h⟩ := bindS h
                  refine WK.callP (v := (encSl e_Api_CSN y56)) rfl (nz (fz_tmp' (isSl_enc _ _).frz (fz_tmp' (isSl_enc _ _).frz rfl)) (stp_call (vs := [(encSl e_Api_CSN a0), (encSl e_Api_CSN a1)]) rfl rfl (s29 _ hy56 (by simp only [strip_enc, List.map_cons, List.map_nil, tupled]) _))) rfl ?_
                  refine WK.go0 rfl rfl ?_
                  obtain ⟨y57, hy57, h⟩ := bindS h
                  refine WK.callP (v := (.bool y57)) rfl (nz (fz_tmp' (isSl_enc _ _).frz (fz_tmp' (isSl_enc _ _).frz rfl)) (stp_call (vs := [(encSl e_Api_CSN y55), (encSl e_Api_CSN y56)]) rfl rfl (s19 _ hy57 (by simp only [strip_enc, List.map_cons, List.map_nil, tupled]) _))) rfl ?_
                  refine WK.step (v := (.bool y57)) rfl (nz rfl rfl) rfl rfl rfl rfl ?_
                  refine WK.step (v := (.bool y57)) rfl (nz rfl rfl) rfl rfl rfl rfl ?_
                  cases hc76 : y57
                  · replace h := iteF h hc76
                    refine WK.by rfl rfl rfl ?_
                    refine WK.by rfl rfl rfl ?_
                    refine WK.by rfl rfl rfl ?_
                    refine WK.by rfl rfl rfl ?_
                    refine WK.by rfl rfl rfl ?_
                    refine WK.by rfl rfl rfl ?_
                    refine WK.by rfl rfl rfl ?_
                    refine WK.step (v := (.bool false)) rfl (nz rfl rfl) rfl rfl rfl rfl ?_
                    refine WK.step (v := (.bool false)) rfl (nz rfl rfl) rfl rfl rfl rfl ?_
                    refine WK.by rfl rfl rfl ?_
                    refine WK.by rfl rfl rfl ?_
                    refine WK.by rfl rfl rfl ?_
                    refine WK.by rfl rfl rfl ?_
                    refine WK.by rfl rfl rfl ?_
                    refine WK.by rfl rfl rfl ?_
                    refine WK.by rfl rfl rfl ?_
                    refine WK.step (v := (.bool false)) rfl (nz rfl rfl) rfl rfl rfl rfl ?_
                    refine WK.step (v := (.bool false)) rfl (nz rfl rfl) rfl rfl rfl rfl ?_
                    refine WK.by rfl rfl rfl ?_
                    refine WK.by rfl rfl rfl ?_
                    refine WK.by rfl rfl rfl ?_
                    refine WK.by rfl rfl rfl ?_
                    refine WK.by rfl rfl rfl ?_
                    refine WK.step (v := (.bool false)) rfl (nz rfl rfl) rfl rfl rfl rfl ?_
                    refine WK.step (v := (.bool false)) rfl (nz rfl rfl) rfl rfl rfl rfl ?_
                    refine WK.by rfl rfl rfl ?_
                    refine WK.by rfl rfl rfl ?_
                    refine WK.by rfl rfl rfl ?_
                    refine WK.by rfl rfl rfl ?_
                    refine WK.by rfl rfl rfl ?_
                    refine WK.by rfl rfl rfl ?_
                    refine WK.nil ?_
                    refine WO.by rfl rfl rfl ?_
                    refine WO.by rfl rfl rfl ?_
                    refine WO.by rfl rfl rfl ?_
                    refine WO.step (v := (.bool false)) rfl (nz rfl rfl) ?_
                    refine WO.step (v := (.bool false)) rfl (nz rfl rfl) ?_
                    refine WO.nil ?_
                    obtain rfl := Option.some.inj h
                    exact ⟨(known_cons rfl known_nil), (H.sub (.cons_cons _ .slnil) .slnil .slnil), rfl⟩
                  · replace h := iteT h hc76
                    refine WK.go0 rfl rfl ?_
                    refine WK.step (v := (encSl e_Api_CSN a0)) rfl (nz rfl rfl) rfl rfl rfl rfl ?_
                    refine WK.go0 rfl rfl ?_
                    refine WK.step (v := (encSl e_Api_CSN a1)) rfl (nz rfl rfl) rfl rfl rfl rfl ?_
                    refine WK.go0 rfl rfl ?_
                    obtain ⟨y58, hy58, h⟩ := bindS h
                    refine WK.callP (v := (.bool y58)) rfl (nz (fz_tmp' (isSl_enc _ _).frz (fz_tmp' (isSl_enc _ _).frz rfl)) (stp_call (vs := [(encSl e_Api_CSN a0), (encSl e_Api_CSN a1)]) rfl rfl (s30 _ hy58 (by simp only [strip_enc, List.map_cons, List.map_nil, tupled]) _))) rfl ?_
                    refine WK.go0 rfl rfl ?_
                    refine WK.step (v := (encSl e_Api_CSN a0)) rfl (nz rfl rfl) rfl rfl rfl rfl ?_
                    refine WK.go0 rfl rfl ?_
                    refine WK.step (v := (encSl e_Api_CSN a1)) rfl (nz rfl rfl) rfl rfl rfl rfl ?_
                    refine WK.go0 rfl rfl ?_
                    obtain ⟨y59, hy59, h⟩ := bindS h
                    refine WK.callP (v := (.bool y59)) rfl (nz (fz_tmp' (isSl_enc _ _).frz (fz_tmp' (isSl_enc _ _).frz rfl)) (stp_call (vs := [(encSl e_Api_CSN a0), (encSl e_Api_CSN a1)]) rfl rfl (s31 _ hy59 (by simp only [strip_enc, List.map_cons, List.map_nil, tupled]) _))) rfl ?_
                    refine WK.go0 rfl rfl ?_
                    refine WK.step (v := (.bool (y58 == y59))) rfl (nz rfl rfl) rfl rfl rfl rfl ?_
                    refine WK.step (v := (.bool (y58 == y59))) rfl (nz rfl rfl) rfl rfl rfl rfl ?_
                    refine WK.step (v := (.bool (y58 == y59))) rfl (nz rfl rfl) rfl rfl rfl rfl ?_
                    cases hc75 : (y58 == y59)
                    · replace h := iteF h hc75
                      refine WK.by rfl rfl rfl ?_
                      refine WK.by rfl rfl rfl ?_
                      refine WK.by rfl rfl rfl ?_
                      refine WK.by rfl rfl rfl ?_
                      refine WK.by rfl rfl rfl ?_
                      refine WK.by rfl rfl rfl ?_
                      refine WK.by rfl rfl rfl ?_
                      refine WK.step (v := (.bool false)) rfl (nz rfl rfl) rfl rfl rfl rfl ?_
                      refine WK.step (v := (.bool false)) rfl (nz rfl rfl) rfl rfl rfl rfl ?_
                      refine WK.by rfl rfl rfl ?_
                      refine WK.by rfl rfl rfl ?_
                      refine WK.by rfl rfl rfl ?_
                      refine WK.by rfl rfl rfl ?_
                      refine WK.by rfl rfl rfl ?_
                      refine WK.step (v := (.bool false)) rfl (nz rfl rfl) rfl rfl rfl rfl ?_
                      refine WK.step (v := (.bool false)) rfl (nz rfl rfl) rfl rfl rfl rfl ?_
                      refine WK.by rfl rfl rfl ?_
                      refine WK.by rfl rfl rfl ?_
                      refine WK.by rfl rfl rfl ?_
                      refine WK.by rfl rfl rfl ?_
                      refine WK.by rfl rfl rfl ?_
                      refine WK.by rfl rfl rfl ?_
                      refine WK.nil ?_
                      refine WO.by rfl rfl rfl ?_
                      refine WO.by rfl rfl rfl ?_
                      refine WO.by rfl rfl rfl ?_
                      refine WO.step (v := (.bool false)) rfl (nz rfl rfl) ?_
                      refine WO.step (v := (.bool false)) rfl (nz rfl rfl) ?_
                      refine WO.nil ?_
                      obtain rfl := Option.some.inj h
                      exact ⟨(known_cons rfl known_nil), (H.sub (.cons_cons _ .slnil) .slnil .slnil), rfl⟩
                    · replace h := iteT h hc75
                      refine WK.go0 rfl rfl ?_
                      refine WK.step (v := (encSl e_Api_CSN a0)) rfl (nz rfl rfl) rfl rfl rfl rfl ?_
                      refine WK.go0 rfl rfl ?_
                      refine WK.load rfl rfl (ld (H.get 0 rfl) rfl) hist_nil ?_
                      refine WK.go0 rfl rfl ?_
                      obtain ⟨y60, hy60, h⟩ := bindS h
                      refine WK.callP (v := (.bool y60)) rfl (nz (fz_tmp' (isSl_enc _ _).frz (fz_tmp' rfl rfl)) (stp_call (vs := [(encSl e_Api_CSN a0), (.agg [(.int .i64 a2.Time), (.int .i64 a2.Seq), (.int .i64 a2.Rep)])]) rfl rfl (s32 _ hy60 (by simp only [strip_enc, st_agg, List.map_cons, List.map_nil, st1_int, tupled, e_Api_CSN]) _))) rfl ?_
                      refine WK.go0 rfl rfl ?_
                      refine WK.step (v := (encSl e_Api_CSN a0)) rfl (nz rfl rfl) rfl rfl rfl rfl ?_
                      refine WK.go0 rfl rfl ?_
                      refine WK.load rfl rfl (ld (H.get 0 rfl) rfl) hist_nil ?_
                      refine WK.go0 rfl rfl ?_
                      obtain ⟨y61, hy61, h⟩ := bindS h
                      refine WK.callP (v := (.bool y61)) rfl (nz (fz_tmp' (isSl_enc _ _).frz (fz_tmp' rfl rfl)) (stp_call (vs := [(encSl e_Api_CSN a0), (.agg [(.int .i64 a2.Time), (.int .i64 a2.Seq), (.int .i64 a2.Rep)])]) rfl rfl (s33 _ hy61 (by simp only [strip_enc, st_agg, List.map_cons, List.map_nil, st1_int, tupled, e_Api_CSN]) _))) rfl ?_
                      refine WK.go0 rfl rfl ?_
                      refine WK.step (v := (.bool (y60 == y61))) rfl (nz rfl rfl) rfl rfl rfl rfl ?_
                      refine WK.step (v := (.bool (y60 == y61))) rfl (nz rfl rfl) rfl rfl rfl rfl ?_
                      refine WK.step (v := (.bool (y60 == y61))) rfl (nz rfl rfl) rfl rfl rfl rfl ?_
                      cases hc74 : (y60 == y61)
                      · replace h := iteF h hc74
                        refine WK.by rfl rfl rfl ?_
                        refine WK.by rfl rfl rfl ?_
                        refine WK.by rfl rfl rfl ?_
                        refine WK.by rfl rfl rfl ?_
                        refine WK.by rfl rfl rfl ?_
                        refine WK.step (v := (.bool false)) rfl (nz rfl rfl) rfl rfl rfl rfl ?_
                        refine WK.step (v := (.bool false)) rfl (nz rfl rfl) rfl rfl rfl rfl ?_
                        refine WK.by rfl rfl rfl ?_
                        refine WK.by rfl rfl rfl ?_
                        refine WK.by rfl rfl rfl ?_
                        refine WK.by rfl rfl rfl ?_
                        refine WK.by rfl rfl rfl ?_
                        refine WK.by rfl rfl rfl ?_
                        refine WK.nil ?_
                        refine WO.by rfl rfl rfl ?_
                        refine WO.by rfl rfl rfl ?_
                        refine WO.by rfl rfl rfl ?_
                        refine WO.step (v := (.bool false)) rfl (nz rfl rfl) ?_
                        refine WO.step (v := (.bool false)) rfl (nz rfl rfl) ?_
                        refine WO.nil ?_
                        obtain rfl := Option.some.inj h
                        exact ⟨(known_cons rfl known_nil), (H.sub (.cons_cons _ .slnil) .slnil .slnil), rfl⟩
                      · replace h := iteT h hc74
                        refine WK.go0 rfl rfl ?_
                        refine WK.step (v := (encSl e_Api_CSN a0)) rfl (nz rfl rfl) rfl rfl rfl rfl ?_
                        refine WK.go0 rfl rfl ?_
                        obtain ⟨y62, hy62, h⟩ := bindS h
                        refine WK.callP (v := (.agg [(.int .i64 y62.Time), (.int .i64 y62.Seq), (.int .i64 y62.Rep)])) rfl (nz (fz_tmp' (isSl_enc _ _).frz rfl) (stp_call (vs := [(encSl e_Api_CSN a0)]) rfl rfl (s34 _ hy62 (by simp only [strip_enc, List.map_cons, List.map_nil, tupled]) _))) rfl ?_
                        refine WK.go0 rfl rfl ?_
                        refine WK.step (v := (encSl e_Api_CSN a0)) rfl (nz rfl rfl) rfl rfl rfl rfl ?_
                        refine WK.go0 rfl rfl ?_
                        obtain ⟨y63, hy63, h⟩ := bindS h
                        refine WK.callP (v := (.agg [(.int .i64 y63.Time), (.int .i64 y63.Seq), (.int .i64 y63.Rep)])) rfl (nz (fz_tmp' (isSl_enc _ _).frz rfl) (stp_call (vs := [(encSl e_Api_CSN a0)]) rfl rfl (s35 _ hy63 (by simp only [strip_enc, List.map_cons, List.map_nil, tupled]) _))) rfl ?_
                        refine WK.go0 rfl rfl ?_
                        refine WK.step (v := (.bool ((y62.Time == y63.Time) && ((y62.Seq == y63.Seq) && ((y62.Rep == y63.Rep) && true))))) rfl (nz rfl (stp_eq rfl rfl rfl rfl rfl)) rfl rfl rfl rfl ?_
                        refine WK.step (v := (.bool ((y62.Time == y63.Time) && ((y62.Seq == y63.Seq) && ((y62.Rep == y63.Rep) && true))))) rfl (nz rfl rfl) rfl rfl rfl rfl ?_
                        refine WK.step (v := (.bool ((y62.Time == y63.Time) && ((y62.Seq == y63.Seq) && ((y62.Rep == y63.Rep) && true))))) rfl (nz rfl rfl) rfl rfl rfl rfl ?_
                        cases hc73 : ((y62.Time == y63.Time) && ((y62.Seq == y63.Seq) && ((y62.Rep == y63.Rep) && true)))
                        · replace h := iteF h hc73
                          refine WK.by rfl rfl rfl ?_
                          refine WK.by rfl rfl rfl ?_
                          refine WK.by rfl rfl rfl ?_
                          refine WK.by rfl rfl rfl ?_
                          refine WK.by rfl rfl rfl ?_
                          refine WK.by rfl rfl rfl ?_
                          refine WK.nil ?_
                          refine WO.by rfl rfl rfl ?_
                          refine WO.by rfl rfl rfl ?_
                          refine WO.by rfl rfl rfl ?_
                          refine WO.step (v := (.bool false)) rfl (nz rfl rfl) ?_
                          refine WO.step (v := (.bool false)) rfl (nz rfl rfl) ?_
                          refine WO.nil ?_
                          obtain rfl := Option.some.inj h
                          exact ⟨(known_cons rfl known_nil), (H.sub (.cons_cons _ .slnil) .slnil .slnil), rfl⟩
                        · replace h := iteT h hc73
                          refine WK.go0 rfl rfl ?_
                          refine WK.step (v := (encSl e_Api_CSN a0)) rfl (nz rfl rfl) rfl rfl rfl rfl ?_
                          refine WK.go0 rfl rfl ?_
                          refine WK.step (v := (encSl e_Api_CSN a1)) rfl (nz rfl rfl) rfl rfl rfl rfl ?_
                          refine WK.go0 rfl rfl ?_
                          obtain ⟨y64, hy64, h⟩ := bindS h
                          refine WK.callP (v := (.bool y64)) rfl (nz (fz_tmp' (isSl_enc _ _).frz (fz_tmp' (isSl_enc _ _).frz rfl)) (stp_call (vs := [(encSl e_Api_CSN a0), (encSl e_Api_CSN a1)]) rfl rfl (s36 _ hy64 (by simp only [strip_enc, List.map_cons, List.map_nil, tupled]) _))) rfl ?_
                          refine WK.go0 rfl rfl ?_
                          refine WK.step (v := (encSl e_Api_CSN a0)) rfl (nz rfl rfl) rfl rfl rfl rfl ?_
                          refine WK.go0 rfl rfl ?_
                          obtain ⟨y65, hy65, h⟩ := bindS h
                          have Hh67 := H
                          refine WK.ex rfl (nzx (fz_tmp' (isSl_enc _ _).frz rfl) (stp_callW (vs := [(encSl e_Api_CSN a0)]) rfl rfl H (s37 _ hy65 (by simp only [strip_enc, List.map_cons, List.map_nil, tupled]) _))) rfl ?_
                          rintro v66 S ⟨hv66, H⟩
                          replace H : Hp [] [] _ [(i1, .cells [(.int .i64 a2.Time), (.int .i64 a2.Seq), (.int .i64 a2.Rep)])] [] [(v66, rowO e_Api_CSN 3 false y65)] := H
                          refine ⟨(pend_cons (ld (H.get 0 rfl) rfl) (pend_cons (ld (H.get 0 rfl) rfl) (pend_cons (ld (H.get 0 rfl) rfl) (pend_cons (ld (H.get 0 rfl) rfl) pend_nil)))), ?_⟩
                          refine WK.go0 rfl rfl ?_
                          refine WK.step (v := (encSl e_Api_CSN a1)) rfl (nz rfl rfl) rfl rfl rfl rfl ?_
                          refine WK.nil ?_
                          refine WO.go0 rfl rfl ?_
                          obtain ⟨y68, hy68, h⟩ := bindS h
                          refine WO.ex rfl (nzx (fz_tmp' (isSl_enc _ _).frz rfl) (stp_callW (vs := [(encSl e_Api_CSN a1)]) rfl rfl H (s37 _ hy68 (by simp only [strip_enc, List.map_cons, List.map_nil, tupled]) _))) ?_
                          rintro v69 S ⟨hv69, H⟩
                          replace H : Hp [] [] _ [(i1, .cells [(.int .i64 a2.Time), (.int .i64 a2.Seq), (.int .i64 a2.Rep)])] [] [(v69, rowO e_Api_CSN 3 false y68), (v66, rowO e_Api_CSN 3 false y65)] := H
                          refine WO.go0 rfl rfl ?_
                          obtain ⟨S, q70, H⟩ := IsW.frz (f := e_Api_CSN) H 1 rfl hv66
                          replace H : Hp [] [] _ [(i1, .cells [(.int .i64 a2.Time), (.int .i64 a2.Seq), (.int .i64 a2.Rep)])] [] [(v69, rowO e_Api_CSN 3 false y68), (v66, rowO e_Api_CSN 3 true y65)] := H
                          obtain ⟨S, q71, H⟩ := IsW.frz (f := e_Api_CSN) H 0 rfl hv69
                          replace H : Hp [] [] _ [(i1, .cells [(.int .i64 a2.Time), (.int .i64 a2.Seq), (.int .i64 a2.Rep)])] [] [(v69, rowO e_Api_CSN 3 true y68), (v66, rowO e_Api_CSN 3 true y65)] := H
                          obtain ⟨y72, hy72, h⟩ := bindS h
                          refine WO.step (v := (.bool y72)) rfl (yz (fz_W q70 (fz_W q71 rfl)) (stp_call (vs := [(encSl e_Api_CSN y65), (encSl e_Api_CSN y68)]) rfl rfl (s19 _ hy72 (by simp only [strip_enc, List.map_cons, List.map_nil, tupled]) _))) ?_
                          refine WO.go0 rfl rfl ?_
                          refine WO.step (v := (.bool (y64 == y72))) rfl (nz rfl rfl) ?_
                          refine WO.step (v := (.bool (y64 == y72))) rfl (nz rfl rfl) ?_
                          refine WO.step (v := (.bool (y64 == y72))) rfl (nz rfl rfl) ?_
                          refine WO.nil ?_
                          obtain rfl := Option.some.inj h
                          exact ⟨(known_cons rfl known_nil), (H.sub (.cons_cons _ .slnil) .slnil (.cons _ (.cons _ .slnil))), rfl⟩
        · rintro σ S e ⟨hk, H, rfl⟩
          replace h := hOy43
          refine KX.of_known hk ?_
          refine KX.seq_n ?_
          refine WC.ret ?_
          obtain rfl := Option.some.inj h
          refine KB.ret (vs := [(.bool y43)]) (res_tmp rfl res_nil) (fl_cons' rfl rfl) ?_
          exact rfl
end Go.Proofs.Ythcchjhieolflaa.M
