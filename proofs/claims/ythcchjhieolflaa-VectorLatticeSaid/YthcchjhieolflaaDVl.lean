/- Part of the proof: the runs of functions on the abstract machine. -/
import Derived.Test.YthcchjhieolflaaPam33
import Derived.Test.YthcchjhieolflaaFns
import Derived.Test.YthcchjhieolflaaDVe
import Derived.Test.YthcchjhieolflaaDVc
namespace Go.Proofs.Ythcchjhieolflaa.M
open Go Go.Pam Go.RowKit Go.WideShapes
set_option maxRecDepth 4000
set_option linter.unusedVariables false
set_option linter.unusedSimpArgs false

-- 7 prefect/prefectlaw11.VectorLattice
/-- prefect/prefectlaw11.VectorLattice -/
def F7 (k : Nat) (a0 : Sl Api_CSN) (a1 : Sl Api_CSN) (a2 : Sl Api_CSN) (a3 : Api_CSN) : Option Bool :=
  Option.bind (F18 k ) fun y2 =>
  if !y2 then
  some false
  else
  Option.bind (F22 k a0) fun y4 =>
  Option.bind (if !y4 then
  some true
  else
  Option.bind (F22 k a1) fun y10 =>
  some (!y10)) fun y9 =>
  Option.bind (if y9 then
  some true
  else
  Option.bind (F22 k a2) fun y17 =>
  some (!y17)) fun y16 =>
  if (y16 || ((Sl.len a0) != (Sl.len a1))) || ((Sl.len a1) != (Sl.len a2)) then
  some true
  else
  Option.bind (F26 k a0 a1) fun y22 =>
  Option.bind (F28 k a0 a1) fun y23 =>
  Option.bind (F30 k a0 a2) fun y24 =>
  Option.bind (if y24 then
  Option.bind (F30 k a1 a2) fun y30 =>
  some y30
  else
  some false) fun y29 =>
  Option.bind (F30 k a2 a0) fun y32 =>
  Option.bind (if y32 then
  Option.bind (F30 k a2 a1) fun y38 =>
  some y38
  else
  some false) fun y37 =>
  Option.bind (F30 k a0 y22) fun y40 =>
  Option.bind (if y40 then
  Option.bind (F30 k a1 y22) fun y46 =>
  some y46
  else
  some false) fun y45 =>
  Option.bind (if y45 then
  Option.bind (F30 k y23 a0) fun y53 =>
  some y53
  else
  some false) fun y52 =>
  Option.bind (if y52 then
  Option.bind (F30 k y23 a1) fun y60 =>
  some y60
  else
  some false) fun y59 =>
  Option.bind (if y59 then
  Option.bind (if !y29 then
  some true
  else
  Option.bind (F30 k y22 a2) fun y90 =>
  some y90) fun y89 =>
  some y89
  else
  some false) fun y84 =>
  Option.bind (if y84 then
  Option.bind (if !y37 then
  some true
  else
  Option.bind (F30 k a2 y23) fun y121 =>
  some y121) fun y120 =>
  some y120
  else
  some false) fun y115 =>
  Option.bind (if y115 then
  Option.bind (F26 k y22 a2) fun y138 =>
  Option.bind (F26 k a1 a2) fun y139 =>
  Option.bind (F26 k a0 y139) fun y140 =>
  Option.bind (F36 k y138 y140) fun y141 =>
  some y141
  else
  some false) fun y137 =>
  Option.bind (if y137 then
  Option.bind (F26 k a1 a0) fun y151 =>
  Option.bind (F36 k y22 y151) fun y152 =>
  some y152
  else
  some false) fun y150 =>
  Option.bind (if y150 then
  Option.bind (F26 k a0 y23) fun y162 =>
  Option.bind (F36 k y162 a0) fun y163 =>
  some y163
  else
  some false) fun y161 =>
  Option.bind (if y161 then
  Option.bind (F32 k y22 a3) fun y194 =>
  Option.bind (F32 k a0 a3) fun y195 =>
  Option.bind (if y195 then
  some true
  else
  Option.bind (F32 k a1 a3) fun y201 =>
  some y201) fun y200 =>
  some (y194 == y200)
  else
  some false) fun y193 =>
  Option.bind (if y193 then
  Option.bind (F32 k y23 a3) fun y233 =>
  Option.bind (F32 k a0 a3) fun y234 =>
  Option.bind (if y234 then
  Option.bind (F32 k a1 a3) fun y240 =>
  some y240
  else
  some false) fun y239 =>
  some (y233 == y239)
  else
  some false) fun y232 =>
  Option.bind (if y232 then
  Option.bind (F24 k a0 a3) fun y247 =>
  Option.bind (F30 k a0 y247) fun y248 =>
  some y248
  else
  some false) fun y246 =>
  some y246
theorem s7 : ∀ k : Nat, ∀ {a0 : Sl Api_CSN} {a1 : Sl Api_CSN} {a2 : Sl Api_CSN} {a3 : Api_CSN} {r : Bool}, F7 k a0 a1 a2 a3 = some r → ∀ {vs : List PV}, vs.map PV.strip = [(encSl e_Api_CSN a0), (encSl e_Api_CSN a1), (encSl e_Api_CSN a2), (.agg [(.int .i64 a3.Time), (.int .i64 a3.Seq), (.int .i64 a3.Rep)])] → ∀ S : List SObj, evw env 7 vs S = some ((.bool r), S, false) := by
  intro k a0 a1 a2 a3 r h vs ha S
  unfold F7 at h
  refine evw_pureW (pf := fn7) rfl rfl ha (Nat.le_of_ble_eq_true rfl) (by simp [PV.clean, cleanL, clean_encSl clean_Api_CSN]) rfl ?_
  refine WB.of (pf := fn7) rfl ?_
  have H := Hp.start []
  refine WC.seqR ?_
  refine WO.box' rfl rfl rfl rfl rfl H ?_
  intro i1 S hi1 H
  refine WO.step (v := (.bool false)) rfl (nz rfl rfl) ?_
  refine WO.nil ?_
  refine WC.seq ?_
  refine WC.seqR ?_
  obtain ⟨y2, hy2, h⟩ := bindS h
  refine WO.step (v := (.bool y2)) rfl (nz rfl (stp_call (vs := []) rfl rfl (s18 _ hy2 rfl _))) ?_
  refine WO.step (v := (.bool (!y2))) rfl (nz rfl rfl) ?_
  refine WO.nil ?_
  rcases iteS h with ⟨hc251, h⟩ | ⟨hc251, h⟩
  · refine WC.condT rfl hc251 ?_
    refine WC.seqR ?_
    refine WO.step (v := (.bool false)) rfl (nz rfl rfl) ?_
    refine WO.nil ?_
    refine WC.ret ?_
    refine KX.seq_r ?_
    obtain rfl := Option.some.inj h
    refine KB.ret (vs := [(.bool false)]) (res_tmp rfl res_nil) (fl_cons' rfl rfl) ?_
    exact rfl
  · refine WC.condF rfl hc251 ?_
    refine WC.skip ?_
    refine KX.seq_n ?_
    refine WC.seq ?_
    refine WC.seqR ?_
    refine WO.step (v := (encSl e_Api_CSN a0)) rfl (nz rfl rfl) ?_
    obtain ⟨y4, hy4, h⟩ := bindS h
    refine WO.step (v := (.bool y4)) rfl (nz (fz_tmp' (isSl_enc _ _).frz rfl) (stp_call (vs := [(encSl e_Api_CSN a0)]) rfl rfl (s22 _ hy4 (by simp only [strip_enc, List.map_cons, List.map_nil, tupled]) _))) ?_
    refine WO.step (v := (.bool (!y4))) rfl (nz rfl rfl) ?_
    refine WO.step (v := (.bool (!y4))) rfl (nz rfl rfl) ?_
    obtain ⟨y9, hy9, hOy9⟩ := bindS h
    refine WO.split 4 (fun σ' S' e' => Known ([(0, (encSl e_Api_CSN a0)), (1, (encSl e_Api_CSN a1)), (2, (encSl e_Api_CSN a2)), (7, (.ptr i1 0)), (22, (.bool y9))]) σ' ∧ Hp [] [] S' [(i1, .cells [(.int .i64 a3.Time), (.int .i64 a3.Seq), (.int .i64 a3.Rep)])] [] [] ∧ e' = false) ?_ ?_
    · replace h := hy9
      cases hc11 : (!y4)
      · replace h := iteF h hc11
        refine WO.go0 rfl rfl ?_
        refine WO.step (v := (encSl e_Api_CSN a1)) rfl (nz rfl rfl) ?_
        refine WO.go0 rfl rfl ?_
        obtain ⟨y10, hy10, h⟩ := bindS h
        refine WO.step (v := (.bool y10)) rfl (nz (fz_tmp' (isSl_enc _ _).frz rfl) (stp_call (vs := [(encSl e_Api_CSN a1)]) rfl rfl (s22 _ hy10 (by simp only [strip_enc, List.map_cons, List.map_nil, tupled]) _))) ?_
        refine WO.go0 rfl rfl ?_
        refine WO.step (v := (.bool (!y10))) rfl (nz rfl rfl) ?_
        refine WO.step (v := (.bool (!y10))) rfl (nz rfl rfl) ?_
        refine WO.nil ?_
        obtain rfl := Option.some.inj h
        exact ⟨(known_cons rfl (known_cons rfl (known_cons rfl (known_cons rfl (known_cons rfl known_nil))))), (H.sub (.cons_cons _ .slnil) .slnil .slnil), rfl⟩
      · replace h := iteT h hc11
        refine WO.by rfl rfl rfl ?_
        refine WO.by rfl rfl rfl ?_
        refine WO.by rfl rfl rfl ?_
        refine WO.step (v := (.bool true)) rfl (nz rfl rfl) ?_
        refine WO.nil ?_
        obtain rfl := Option.some.inj h
        exact ⟨(known_cons rfl (known_cons rfl (known_cons rfl (known_cons rfl (known_cons rfl known_nil))))), (H.sub (.cons_cons _ .slnil) .slnil .slnil), rfl⟩
    · rintro σ S e ⟨hk, H, rfl⟩
      replace h := hOy9
      refine WO.of_known hk ?_
      refine WO.step (v := (.bool y9)) rfl (nz rfl rfl) ?_
      obtain ⟨y16, hy16, hOy16⟩ := bindS h
      refine WO.split 4 (fun σ' S' e' => Known ([(0, (encSl e_Api_CSN a0)), (1, (encSl e_Api_CSN a1)), (2, (encSl e_Api_CSN a2)), (7, (.ptr i1 0)), (27, (.bool y16))]) σ' ∧ Hp [] [] S' [(i1, .cells [(.int .i64 a3.Time), (.int .i64 a3.Seq), (.int .i64 a3.Rep)])] [] [] ∧ e' = false) ?_ ?_
      · replace h := hy16
        cases hc18 : y9
        · replace h := iteF h hc18
          refine WO.go0 rfl rfl ?_
          refine WO.step (v := (encSl e_Api_CSN a2)) rfl (nz rfl rfl) ?_
          refine WO.go0 rfl rfl ?_
          obtain ⟨y17, hy17, h⟩ := bindS h
          refine WO.step (v := (.bool y17)) rfl (nz (fz_tmp' (isSl_enc _ _).frz rfl) (stp_call (vs := [(encSl e_Api_CSN a2)]) rfl rfl (s22 _ hy17 (by simp only [strip_enc, List.map_cons, List.map_nil, tupled]) _))) ?_
          refine WO.go0 rfl rfl ?_
          refine WO.step (v := (.bool (!y17))) rfl (nz rfl rfl) ?_
          refine WO.step (v := (.bool (!y17))) rfl (nz rfl rfl) ?_
          refine WO.nil ?_
          obtain rfl := Option.some.inj h
          exact ⟨(known_cons rfl (known_cons rfl (known_cons rfl (known_cons rfl (known_cons rfl known_nil))))), (H.sub (.cons_cons _ .slnil) .slnil .slnil), rfl⟩
        · replace h := iteT h hc18
          refine WO.by rfl rfl rfl ?_
          refine WO.by rfl rfl rfl ?_
          refine WO.by rfl rfl rfl ?_
          refine WO.step (v := (.bool true)) rfl (nz rfl rfl) ?_
          refine WO.nil ?_
          obtain rfl := Option.some.inj h
          exact ⟨(known_cons rfl (known_cons rfl (known_cons rfl (known_cons rfl (known_cons rfl known_nil))))), (H.sub (.cons_cons _ .slnil) .slnil .slnil), rfl⟩
      · rintro σ S e ⟨hk, H, rfl⟩
        replace h := hOy16
        refine WO.of_known hk ?_
        refine WO.step (v := (.bool y16)) rfl (nz rfl rfl) ?_
        refine WO.split 6 (fun σ' S' e' => Known ([(0, (encSl e_Api_CSN a0)), (1, (encSl e_Api_CSN a1)), (2, (encSl e_Api_CSN a2)), (7, (.ptr i1 0)), (34, (.bool (y16 || ((Sl.len a0) != (Sl.len a1)))))]) σ' ∧ Hp [] [] S' [(i1, .cells [(.int .i64 a3.Time), (.int .i64 a3.Seq), (.int .i64 a3.Rep)])] [] [] ∧ e' = false) ?_ ?_
        · cases hc19 : y16
          · skip
            refine WO.go0 rfl rfl ?_
            refine WO.step (v := (encSl e_Api_CSN a0)) rfl (nz rfl rfl) ?_
            refine WO.go0 rfl rfl ?_
            refine WO.step (v := (.int .i64 (Sl.len a0))) rfl (nz rfl (stp_len rfl (isSl_enc _ _) rfl)) ?_
            refine WO.go0 rfl rfl ?_
            refine WO.step (v := (encSl e_Api_CSN a1)) rfl (nz rfl rfl) ?_
            refine WO.go0 rfl rfl ?_
            refine WO.step (v := (.int .i64 (Sl.len a1))) rfl (nz rfl (stp_len rfl (isSl_enc _ _) rfl)) ?_
            refine WO.go0 rfl rfl ?_
            refine WO.step (v := (.bool ((Sl.len a0) != (Sl.len a1)))) rfl (nz rfl rfl) ?_
            refine WO.step (v := (.bool ((Sl.len a0) != (Sl.len a1)))) rfl (nz rfl rfl) ?_
            refine WO.nil ?_
            exact ⟨(known_cons rfl (known_cons rfl (known_cons rfl (known_cons rfl (known_cons rfl known_nil))))), H, rfl⟩
          · skip
            refine WO.by rfl rfl rfl ?_
            refine WO.by rfl rfl rfl ?_
            refine WO.by rfl rfl rfl ?_
            refine WO.by rfl rfl rfl ?_
            refine WO.by rfl rfl rfl ?_
            refine WO.step (v := (.bool true)) rfl (nz rfl rfl) ?_
            refine WO.nil ?_
            exact ⟨(known_cons rfl (known_cons rfl (known_cons rfl (known_cons rfl (known_cons rfl known_nil))))), H, rfl⟩
        · rintro σ S e ⟨hk, H, rfl⟩
          refine WO.of_known hk ?_
          refine WO.step (v := (.bool (y16 || ((Sl.len a0) != (Sl.len a1))))) rfl (nz rfl rfl) ?_
          refine WO.split 6 (fun σ' S' e' => Known ([(0, (encSl e_Api_CSN a0)), (1, (encSl e_Api_CSN a1)), (2, (encSl e_Api_CSN a2)), (7, (.ptr i1 0)), (41, (.bool ((y16 || ((Sl.len a0) != (Sl.len a1))) || ((Sl.len a1) != (Sl.len a2)))))]) σ' ∧ Hp [] [] S' [(i1, .cells [(.int .i64 a3.Time), (.int .i64 a3.Seq), (.int .i64 a3.Rep)])] [] [] ∧ e' = false) ?_ ?_
          · cases hc20 : (y16 || ((Sl.len a0) != (Sl.len a1)))
            · skip
              refine WO.go0 rfl rfl ?_
              refine WO.step (v := (encSl e_Api_CSN a1)) rfl (nz rfl rfl) ?_
              refine WO.go0 rfl rfl ?_
              refine WO.step (v := (.int .i64 (Sl.len a1))) rfl (nz rfl (stp_len rfl (isSl_enc _ _) rfl)) ?_
              refine WO.go0 rfl rfl ?_
              refine WO.step (v := (encSl e_Api_CSN a2)) rfl (nz rfl rfl) ?_
              refine WO.go0 rfl rfl ?_
              refine WO.step (v := (.int .i64 (Sl.len a2))) rfl (nz rfl (stp_len rfl (isSl_enc _ _) rfl)) ?_
              refine WO.go0 rfl rfl ?_
              refine WO.step (v := (.bool ((Sl.len a1) != (Sl.len a2)))) rfl (nz rfl rfl) ?_
              refine WO.step (v := (.bool ((Sl.len a1) != (Sl.len a2)))) rfl (nz rfl rfl) ?_
              refine WO.nil ?_
              exact ⟨(known_cons rfl (known_cons rfl (known_cons rfl (known_cons rfl (known_cons rfl known_nil))))), H, rfl⟩
            · skip
              refine WO.by rfl rfl rfl ?_
              refine WO.by rfl rfl rfl ?_
              refine WO.by rfl rfl rfl ?_
              refine WO.by rfl rfl rfl ?_
              refine WO.by rfl rfl rfl ?_
              refine WO.step (v := (.bool true)) rfl (nz rfl rfl) ?_
              refine WO.nil ?_
              exact ⟨(known_cons rfl (known_cons rfl (known_cons rfl (known_cons rfl (known_cons rfl known_nil))))), H, rfl⟩
          · rintro σ S e ⟨hk, H, rfl⟩
            refine WO.of_known hk ?_
            refine WO.nil ?_
            rcases iteS h with ⟨hc250, h⟩ | ⟨hc250, h⟩
            · refine WC.condT rfl hc250 ?_
              refine WC.seqR ?_
              refine WO.step (v := (.bool true)) rfl (nz rfl rfl) ?_
              refine WO.nil ?_
              refine WC.ret ?_
              refine KX.seq_r ?_
              obtain rfl := Option.some.inj h
              refine KB.ret (vs := [(.bool true)]) (res_tmp rfl res_nil) (fl_cons' rfl rfl) ?_
              exact rfl
            · refine WC.condF rfl hc250 ?_
              refine WC.skip ?_
              refine KX.seq_n ?_
              refine WC.seqR ?_
              refine WO.step (v := (encSl e_Api_CSN a0)) rfl (nz rfl rfl) ?_
              refine WO.step (v := (encSl e_Api_CSN a1)) rfl (nz rfl rfl) ?_
              obtain ⟨y22, hy22, h⟩ := bindS h
              refine WO.step (v := (encSl e_Api_CSN y22)) rfl (nz (fz_tmp' (isSl_enc _ _).frz (fz_tmp' (isSl_enc _ _).frz rfl)) (stp_call (vs := [(encSl e_Api_CSN a0), (encSl e_Api_CSN a1)]) rfl rfl (s26 _ hy22 (by simp only [strip_enc, List.map_cons, List.map_nil, tupled]) _))) ?_
              refine WO.step (v := (encSl e_Api_CSN a0)) rfl (nz rfl rfl) ?_
              refine WO.step (v := (encSl e_Api_CSN a1)) rfl (nz rfl rfl) ?_
              obtain ⟨y23, hy23, h⟩ := bindS h
              refine WO.step (v := (encSl e_Api_CSN y23)) rfl (nz (fz_tmp' (isSl_enc _ _).frz (fz_tmp' (isSl_enc _ _).frz rfl)) (stp_call (vs := [(encSl e_Api_CSN a0), (encSl e_Api_CSN a1)]) rfl rfl (s28 _ hy23 (by simp only [strip_enc, List.map_cons, List.map_nil, tupled]) _))) ?_
              refine WO.step (v := (encSl e_Api_CSN y22)) rfl (nz rfl rfl) ?_
              refine WO.step (v := (encSl e_Api_CSN y23)) rfl (nz rfl rfl) ?_
              refine WO.nil ?_
              refine WC.seqR ?_
              refine WO.step (v := (encSl e_Api_CSN a0)) rfl (nz rfl rfl) ?_
              refine WO.step (v := (encSl e_Api_CSN a2)) rfl (nz rfl rfl) ?_
              obtain ⟨y24, hy24, h⟩ := bindS h
              refine WO.step (v := (.bool y24)) rfl (nz (fz_tmp' (isSl_enc _ _).frz (fz_tmp' (isSl_enc _ _).frz rfl)) (stp_call (vs := [(encSl e_Api_CSN a0), (encSl e_Api_CSN a2)]) rfl rfl (s30 _ hy24 (by simp only [strip_enc, List.map_cons, List.map_nil, tupled]) _))) ?_
              refine WO.step (v := (.bool y24)) rfl (nz rfl rfl) ?_
              obtain ⟨y29, hy29, hOy29⟩ := bindS h
              refine WO.split 4 (fun σ' S' e' => Known ([(0, (encSl e_Api_CSN a0)), (1, (encSl e_Api_CSN a1)), (2, (encSl e_Api_CSN a2)), (7, (.ptr i1 0)), (9, (encSl e_Api_CSN y22)), (10, (encSl e_Api_CSN y23)), (55, (.bool y29))]) σ' ∧ Hp [] [] S' [(i1, .cells [(.int .i64 a3.Time), (.int .i64 a3.Seq), (.int .i64 a3.Rep)])] [] [] ∧ e' = false) ?_ ?_
              · replace h := hy29
                cases hc31 : y24
                · replace h := iteF h hc31
                  refine WO.by rfl rfl rfl ?_
                  refine WO.by rfl rfl rfl ?_
                  refine WO.by rfl rfl rfl ?_
                  refine WO.step (v := (.bool false)) rfl (nz rfl rfl) ?_
                  refine WO.nil ?_
                  obtain rfl := Option.some.inj h
                  exact ⟨(known_cons rfl (known_cons rfl (known_cons rfl (known_cons rfl (known_cons rfl (known_cons rfl (known_cons rfl known_nil))))))), (H.sub (.cons_cons _ .slnil) .slnil .slnil), rfl⟩
                · replace h := iteT h hc31
                  refine WO.go0 rfl rfl ?_
                  refine WO.step (v := (encSl e_Api_CSN a1)) rfl (nz rfl rfl) ?_
                  refine WO.go0 rfl rfl ?_
                  refine WO.step (v := (encSl e_Api_CSN a2)) rfl (nz rfl rfl) ?_
                  refine WO.go0 rfl rfl ?_
                  obtain ⟨y30, hy30, h⟩ := bindS h
                  refine WO.step (v := (.bool y30)) rfl (nz (fz_tmp' (isSl_enc _ _).frz (fz_tmp' (isSl_enc _ _).frz rfl)) (stp_call (vs := [(encSl e_Api_CSN a1), (encSl e_Api_CSN a2)]) rfl rfl (s30 _ hy30 (by simp only [strip_enc, List.map_cons, List.map_nil, tupled]) _))) ?_
                  refine WO.step (v := (.bool y30)) rfl (nz rfl rfl) ?_
                  refine WO.nil ?_
                  obtain rfl := Option.some.inj h
                  exact ⟨(known_cons rfl (known_cons rfl (known_cons rfl (known_cons rfl (known_cons rfl (known_cons rfl (known_cons rfl known_nil))))))), (H.sub (.cons_cons _ .slnil) .slnil .slnil), rfl⟩
              · rintro σ S e ⟨hk, H, rfl⟩
                replace h := hOy29
                refine WO.of_known hk ?_
                refine WO.step (v := (.bool y29)) rfl (nz rfl rfl) ?_
                refine WO.nil ?_
                refine WC.seqR ?_
                refine WO.step (v := (encSl e_Api_CSN a2)) rfl (nz rfl rfl) ?_
                refine WO.step (v := (encSl e_Api_CSN a0)) rfl (nz rfl rfl) ?_
                obtain ⟨y32, hy32, h⟩ := bindS h
                refine WO.step (v := (.bool y32)) rfl (nz (fz_tmp' (isSl_enc _ _).frz (fz_tmp' (isSl_enc _ _).frz rfl)) (stp_call (vs := [(encSl e_Api_CSN a2), (encSl e_Api_CSN a0)]) rfl rfl (s30 _ hy32 (by simp only [strip_enc, List.map_cons, List.map_nil, tupled]) _))) ?_
                refine WO.step (v := (.bool y32)) rfl (nz rfl rfl) ?_
                obtain ⟨y37, hy37, hOy37⟩ := bindS h
                refine WO.split 4 (fun σ' S' e' => Known ([(0, (encSl e_Api_CSN a0)), (1, (encSl e_Api_CSN a1)), (2, (encSl e_Api_CSN a2)), (7, (.ptr i1 0)), (9, (encSl e_Api_CSN y22)), (10, (encSl e_Api_CSN y23)), (11, (.bool y29)), (63, (.bool y37))]) σ' ∧ Hp [] [] S' [(i1, .cells [(.int .i64 a3.Time), (.int .i64 a3.Seq), (.int .i64 a3.Rep)])] [] [] ∧ e' = false) ?_ ?_
                · replace h := hy37
                  cases hc39 : y32
                  · replace h := iteF h hc39
                    refine WO.by rfl rfl rfl ?_
                    refine WO.by rfl rfl rfl ?_
                    refine WO.by rfl rfl rfl ?_
                    refine WO.step (v := (.bool false)) rfl (nz rfl rfl) ?_
                    refine WO.nil ?_
                    obtain rfl := Option.some.inj h
                    exact ⟨(known_cons rfl (known_cons rfl (known_cons rfl (known_cons rfl (known_cons rfl (known_cons rfl (known_cons rfl (known_cons rfl known_nil)))))))), (H.sub (.cons_cons _ .slnil) .slnil .slnil), rfl⟩
                  · replace h := iteT h hc39
                    refine WO.go0 rfl rfl ?_
                    refine WO.step (v := (encSl e_Api_CSN a2)) rfl (nz rfl rfl) ?_
                    refine WO.go0 rfl rfl ?_
                    refine WO.step (v := (encSl e_Api_CSN a1)) rfl (nz rfl rfl) ?_
                    refine WO.go0 rfl rfl ?_
                    obtain ⟨y38, hy38, h⟩ := bindS h
                    refine WO.step (v := (.bool y38)) rfl (nz (fz_tmp' (isSl_enc _ _).frz (fz_tmp' (isSl_enc _ _).frz rfl)) (stp_call (vs := [(encSl e_Api_CSN a2), (encSl e_Api_CSN a1)]) rfl rfl (s30 _ hy38 (by simp only [strip_enc, List.map_cons, List.map_nil, tupled]) _))) ?_
                    refine WO.step (v := (.bool y38)) rfl (nz rfl rfl) ?_
                    refine WO.nil ?_
                    obtain rfl := Option.some.inj h
                    exact ⟨(known_cons rfl (known_cons rfl (known_cons rfl (known_cons rfl (known_cons rfl (known_cons rfl (known_cons rfl (known_cons rfl known_nil)))))))), (H.sub (.cons_cons _ .slnil) .slnil .slnil), rfl⟩
                · rintro σ S e ⟨hk, H, rfl⟩
                  replace h := hOy37
                  refine WO.of_known hk ?_
                  refine WO.step (v := (.bool y37)) rfl (nz rfl rfl) ?_
                  refine WO.nil ?_
                  refine WC.seq ?_
                  refine WC.draw ?_
                  refine WH.step (v := (encSl e_Api_CSN a0)) rfl (nz rfl rfl) rfl rfl ?_
                  refine WH.step (v := (encSl e_Api_CSN y22)) rfl (nz rfl rfl) rfl rfl ?_
                  obtain ⟨y40, hy40, h⟩ := bindS h
                  refine WH.step (v := (.bool y40)) rfl (nz (fz_tmp' (isSl_enc _ _).frz (fz_tmp' (isSl_enc _ _).frz rfl)) (stp_call (vs := [(encSl e_Api_CSN a0), (encSl e_Api_CSN y22)]) rfl rfl (s30 _ hy40 (by simp only [strip_enc, List.map_cons, List.map_nil, tupled]) _))) rfl rfl ?_
                  refine WH.step (v := (.bool y40)) rfl (nz rfl rfl) rfl rfl ?_
                  obtain ⟨y45, hy45, hOy45⟩ := bindS h
                  refine WH.split 4 (fun σ' => Known ([(0, (encSl e_Api_CSN a0)), (1, (encSl e_Api_CSN a1)), (2, (encSl e_Api_CSN a2)), (7, (.ptr i1 0)), (9, (encSl e_Api_CSN y22)), (10, (encSl e_Api_CSN y23)), (11, (.bool y29)), (12, (.bool y37)), (71, (.bool y45))]) σ') ?_ ?_
                  · replace h := hy45
                    cases hc47 : y40
                    · replace h := iteF h hc47
                      refine WH.by rfl rfl rfl ?_
                      refine WH.by rfl rfl rfl ?_
                      refine WH.by rfl rfl rfl ?_
                      refine WH.step (v := (.bool false)) rfl (nz rfl rfl) rfl rfl ?_
                      refine WH.nil ?_
                      obtain rfl := Option.some.inj h
                      exact (known_cons rfl (known_cons rfl (known_cons rfl (known_cons rfl (known_cons rfl (known_cons rfl (known_cons rfl (known_cons rfl (known_cons rfl known_nil)))))))))
                    · replace h := iteT h hc47
                      refine WH.go0 rfl rfl ?_
                      refine WH.step (v := (encSl e_Api_CSN a1)) rfl (nz rfl rfl) rfl rfl ?_
                      refine WH.go0 rfl rfl ?_
                      refine WH.step (v := (encSl e_Api_CSN y22)) rfl (nz rfl rfl) rfl rfl ?_
                      refine WH.go0 rfl rfl ?_
                      obtain ⟨y46, hy46, h⟩ := bindS h
                      refine WH.step (v := (.bool y46)) rfl (nz (fz_tmp' (isSl_enc _ _).frz (fz_tmp' (isSl_enc _ _).frz rfl)) (stp_call (vs := [(encSl e_Api_CSN a1), (encSl e_Api_CSN y22)]) rfl rfl (s30 _ hy46 (by simp only [strip_enc, List.map_cons, List.map_nil, tupled]) _))) rfl rfl ?_
                      refine WH.step (v := (.bool y46)) rfl (nz rfl rfl) rfl rfl ?_
                      refine WH.nil ?_
                      obtain rfl := Option.some.inj h
                      exact (known_cons rfl (known_cons rfl (known_cons rfl (known_cons rfl (known_cons rfl (known_cons rfl (known_cons rfl (known_cons rfl (known_cons rfl known_nil)))))))))
                  · rintro σ hk
                    replace h := hOy45
                    refine WH.of_known hk ?_
                    refine WH.step (v := (.bool y45)) rfl (nz rfl rfl) rfl rfl ?_
                    obtain ⟨y52, hy52, hOy52⟩ := bindS h
                    refine WH.split 4 (fun σ' => Known ([(0, (encSl e_Api_CSN a0)), (1, (encSl e_Api_CSN a1)), (2, (encSl e_Api_CSN a2)), (7, (.ptr i1 0)), (9, (encSl e_Api_CSN y22)), (10, (encSl e_Api_CSN y23)), (11, (.bool y29)), (12, (.bool y37)), (76, (.bool y52))]) σ') ?_ ?_
                    · replace h := hy52
                      cases hc54 : y45
                      · replace h := iteF h hc54
                        refine WH.by rfl rfl rfl ?_
                        refine WH.by rfl rfl rfl ?_
                        refine WH.by rfl rfl rfl ?_
                        refine WH.step (v := (.bool false)) rfl (nz rfl rfl) rfl rfl ?_
                        refine WH.nil ?_
                        obtain rfl := Option.some.inj h
                        exact (known_cons rfl (known_cons rfl (known_cons rfl (known_cons rfl (known_cons rfl (known_cons rfl (known_cons rfl (known_cons rfl (known_cons rfl known_nil)))))))))
                      · replace h := iteT h hc54
                        refine WH.go0 rfl rfl ?_
                        refine WH.step (v := (encSl e_Api_CSN y23)) rfl (nz rfl rfl) rfl rfl ?_
                        refine WH.go0 rfl rfl ?_
                        refine WH.step (v := (encSl e_Api_CSN a0)) rfl (nz rfl rfl) rfl rfl ?_
                        refine WH.go0 rfl rfl ?_
                        obtain ⟨y53, hy53, h⟩ := bindS h
                        refine WH.step (v := (.bool y53)) rfl (nz (fz_tmp' (isSl_enc _ _).frz (fz_tmp' (isSl_enc _ _).frz rfl)) (stp_call (vs := [(encSl e_Api_CSN y23), (encSl e_Api_CSN a0)]) rfl rfl (s30 _ hy53 (by simp only [strip_enc, List.map_cons, List.map_nil, tupled]) _))) rfl rfl ?_
                        refine WH.step (v := (.bool y53)) rfl (nz rfl rfl) rfl rfl ?_
                        refine WH.nil ?_
                        obtain rfl := Option.some.inj h
                        exact (known_cons rfl (known_cons rfl (known_cons rfl (known_cons rfl (known_cons rfl (known_cons rfl (known_cons rfl (known_cons rfl (known_cons rfl known_nil)))))))))
                    · rintro σ hk
                      replace h := hOy52
                      refine WH.of_known hk ?_
                      refine WH.step (v := (.bool y52)) rfl (nz rfl rfl) rfl rfl ?_
                      obtain ⟨y59, hy59, hOy59⟩ := bindS h
                      refine WH.split 4 (fun σ' => Known ([(0, (encSl e_Api_CSN a0)), (1, (encSl e_Api_CSN a1)), (2, (encSl e_Api_CSN a2)), (7, (.ptr i1 0)), (9, (encSl e_Api_CSN y22)), (10, (encSl e_Api_CSN y23)), (11, (.bool y29)), (12, (.bool y37)), (81, (.bool y59))]) σ') ?_ ?_
                      · replace h := hy59
                        cases hc61 : y52
                        · replace h := iteF h hc61
                          refine WH.by rfl rfl rfl ?_
                          refine WH.by rfl rfl rfl ?_
                          refine WH.by rfl rfl rfl ?_
                          refine WH.step (v := (.bool false)) rfl (nz rfl rfl) rfl rfl ?_
                          refine WH.nil ?_
                          obtain rfl := Option.some.inj h
                          exact (known_cons rfl (known_cons rfl (known_cons rfl (known_cons rfl (known_cons rfl (known_cons rfl (known_cons rfl (known_cons rfl (known_cons rfl known_nil)))))))))
                        · replace h := iteT h hc61
                          refine WH.go0 rfl rfl ?_
                          refine WH.step (v := (encSl e_Api_CSN y23)) rfl (nz rfl rfl) rfl rfl ?_
                          refine WH.go0 rfl rfl ?_
                          refine WH.step (v := (encSl e_Api_CSN a1)) rfl (nz rfl rfl) rfl rfl ?_
                          refine WH.go0 rfl rfl ?_
                          obtain ⟨y60, hy60, h⟩ := bindS h
                          refine WH.step (v := (.bool y60)) rfl (nz (fz_tmp' (isSl_enc _ _).frz (fz_tmp' (isSl_enc _ _).frz rfl)) (stp_call (vs := [(encSl e_Api_CSN y23), (encSl e_Api_CSN a1)]) rfl rfl (s30 _ hy60 (by simp only [strip_enc, List.map_cons, List.map_nil, tupled]) _))) rfl rfl ?_
                          refine WH.step (v := (.bool y60)) rfl (nz rfl rfl) rfl rfl ?_
                          refine WH.nil ?_
                          obtain rfl := Option.some.inj h
                          exact (known_cons rfl (known_cons rfl (known_cons rfl (known_cons rfl (known_cons rfl (known_cons rfl (known_cons rfl (known_cons rfl (known_cons rfl known_nil)))))))))
                      · rintro σ hk
                        replace h := hOy59
                        refine WH.of_known hk ?_
                        refine WH.step (v := (.bool y59)) rfl (nz rfl rfl) rfl rfl ?_
                        obtain ⟨y84, hy84, hOy84⟩ := bindS h
                        refine WH.split 8 (fun σ' => Known ([(0, (encSl e_Api_CSN a0)), (1, (encSl e_Api_CSN a1)), (2, (encSl e_Api_CSN a2)), (7, (.ptr i1 0)), (9, (encSl e_Api_CSN y22)), (10, (encSl e_Api_CSN y23)), (12, (.bool y37)), (90, (.bool y84))]) σ') ?_ ?_
                        · replace h := hy84
                          cases hc92 : y59
                          · replace h := iteF h hc92
                            refine WH.by rfl rfl rfl ?_
                            refine WH.by rfl rfl rfl ?_
                            refine WH.by rfl rfl rfl ?_
                            refine WH.by0 rfl rfl ?_
                            refine WH.by0 rfl rfl ?_
                            refine WH.by0 rfl rfl ?_
                            refine WH.by rfl rfl rfl ?_
                            refine WH.step (v := (.bool false)) rfl (nz rfl rfl) rfl rfl ?_
                            refine WH.nil ?_
                            obtain rfl := Option.some.inj h
                            exact (known_cons rfl (known_cons rfl (known_cons rfl (known_cons rfl (known_cons rfl (known_cons rfl (known_cons rfl (known_cons rfl known_nil))))))))
                          · replace h := iteT h hc92
                            refine WH.go0 rfl rfl ?_
                            refine WH.step (v := (.bool y29)) rfl (nz rfl rfl) rfl rfl ?_
                            refine WH.go0 rfl rfl ?_
                            refine WH.step (v := (.bool (!y29))) rfl (nz rfl rfl) rfl rfl ?_
                            refine WH.go0 rfl rfl ?_
                            refine WH.step (v := (.bool (!y29))) rfl (nz rfl rfl) rfl rfl ?_
                            obtain ⟨y89, hy89, hOy89⟩ := bindS h
                            refine WH.split 4 (fun σ' => Known ([(0, (encSl e_Api_CSN a0)), (1, (encSl e_Api_CSN a1)), (2, (encSl e_Api_CSN a2)), (7, (.ptr i1 0)), (9, (encSl e_Api_CSN y22)), (10, (encSl e_Api_CSN y23)), (12, (.bool y37)), (82, (.bool true)), (89, (.bool y89))]) σ') ?_ ?_
                            · replace h := hy89
                              cases hc91 : (!y29)
                              · replace h := iteF h hc91
                                refine WH.go0 rfl rfl ?_
                                refine WH.step (v := (encSl e_Api_CSN y22)) rfl (nz rfl rfl) rfl rfl ?_
                                refine WH.go0 rfl rfl ?_
                                refine WH.step (v := (encSl e_Api_CSN a2)) rfl (nz rfl rfl) rfl rfl ?_
                                refine WH.go0 rfl rfl ?_
                                obtain ⟨y90, hy90, h⟩ := bindS h
                                refine WH.step (v := (.bool y90)) rfl (nz (fz_tmp' (isSl_enc _ _).frz (fz_tmp' (isSl_enc _ _).frz rfl)) (stp_call (vs := [(encSl e_Api_CSN y22), (encSl e_Api_CSN a2)]) rfl rfl (s30 _ hy90 (by simp only [strip_enc, List.map_cons, List.map_nil, tupled]) _))) rfl rfl ?_
                                refine WH.go0 rfl rfl ?_
                                refine WH.step (v := (.bool y90)) rfl (nz rfl rfl) rfl rfl ?_
                                refine WH.nil ?_
                                obtain rfl := Option.some.inj h
                                exact (known_cons rfl (known_cons rfl (known_cons rfl (known_cons rfl (known_cons rfl (known_cons rfl (known_cons rfl (known_cons rfl (known_cons rfl known_nil)))))))))
                              · replace h := iteT h hc91
                                refine WH.by rfl rfl rfl ?_
                                refine WH.by rfl rfl rfl ?_
                                refine WH.by rfl rfl rfl ?_
                                refine WH.go0 rfl rfl ?_
                                refine WH.step (v := (.bool true)) rfl (nz rfl rfl) rfl rfl ?_
                                refine WH.nil ?_
                                obtain rfl := Option.some.inj h
                                exact (known_cons rfl (known_cons rfl (known_cons rfl (known_cons rfl (known_cons rfl (known_cons rfl (known_cons rfl (known_cons rfl (known_cons rfl known_nil)))))))))
                            · rintro σ hk
                              replace h := hOy89
                              refine WH.of_known hk ?_
                              refine WH.step (v := (.bool y89)) rfl (nz rfl rfl) rfl rfl ?_
                              refine WH.nil ?_
                              obtain rfl := Option.some.inj h
                              exact (known_cons rfl (known_cons rfl (known_cons rfl (known_cons rfl (known_cons rfl (known_cons rfl (known_cons rfl (known_cons rfl known_nil))))))))
                        · rintro σ hk
                          replace h := hOy84
                          refine WH.of_known hk ?_
                          refine WH.step (v := (.bool y84)) rfl (nz rfl rfl) rfl rfl ?_
                          obtain ⟨y115, hy115, hOy115⟩ := bindS h
                          refine WH.split 8 (fun σ' => Known ([(0, (encSl e_Api_CSN a0)), (1, (encSl e_Api_CSN a1)), (2, (encSl e_Api_CSN a2)), (7, (.ptr i1 0)), (9, (encSl e_Api_CSN y22)), (10, (encSl e_Api_CSN y23)), (99, (.bool y115))]) σ') ?_ ?_
                          · replace h := hy115
                            cases hc123 : y84
                            · replace h := iteF h hc123
                              refine WH.by rfl rfl rfl ?_
                              refine WH.by rfl rfl rfl ?_
                              refine WH.by rfl rfl rfl ?_
                              refine WH.by0 rfl rfl ?_
                              refine WH.by0 rfl rfl ?_
                              refine WH.by0 rfl rfl ?_
                              refine WH.by rfl rfl rfl ?_
                              refine WH.step (v := (.bool false)) rfl (nz rfl rfl) rfl rfl ?_
                              refine WH.nil ?_
                              obtain rfl := Option.some.inj h
                              exact (known_cons rfl (known_cons rfl (known_cons rfl (known_cons rfl (known_cons rfl (known_cons rfl (known_cons rfl known_nil)))))))
                            · replace h := iteT h hc123
                              refine WH.go0 rfl rfl ?_
                              refine WH.step (v := (.bool y37)) rfl (nz rfl rfl) rfl rfl ?_
                              refine WH.go0 rfl rfl ?_
                              refine WH.step (v := (.bool (!y37))) rfl (nz rfl rfl) rfl rfl ?_
                              refine WH.go0 rfl rfl ?_
                              refine WH.step (v := (.bool (!y37))) rfl (nz rfl rfl) rfl rfl ?_
                              obtain ⟨y120, hy120, hOy120⟩ := bindS h
                              refine WH.split 4 (fun σ' => Known ([(0, (encSl e_Api_CSN a0)), (1, (encSl e_Api_CSN a1)), (2, (encSl e_Api_CSN a2)), (7, (.ptr i1 0)), (9, (encSl e_Api_CSN y22)), (10, (encSl e_Api_CSN y23)), (91, (.bool true)), (98, (.bool y120))]) σ') ?_ ?_
                              · replace h := hy120
                                cases hc122 : (!y37)
                                · replace h := iteF h hc122
                                  refine WH.go0 rfl rfl ?_
                                  refine WH.step (v := (encSl e_Api_CSN a2)) rfl (nz rfl rfl) rfl rfl ?_
                                  refine WH.go0 rfl rfl ?_
                                  refine WH.step (v := (encSl e_Api_CSN y23)) rfl (nz rfl rfl) rfl rfl ?_
                                  refine WH.go0 rfl rfl ?_
                                  obtain ⟨y121, hy121, h⟩ := bindS h
                                  refine WH.step (v := (.bool y121)) rfl (nz (fz_tmp' (isSl_enc _ _).frz (fz_tmp' (isSl_enc _ _).frz rfl)) (stp_call (vs := [(encSl e_Api_CSN a2), (encSl e_Api_CSN y23)]) rfl rfl (s30 _ hy121 (by simp only [strip_enc, List.map_cons, List.map_nil, tupled]) _))) rfl rfl ?_
                                  refine WH.go0 rfl rfl ?_
                                  refine WH.step (v := (.bool y121)) rfl (nz rfl rfl) rfl rfl ?_
                                  refine WH.nil ?_
                                  obtain rfl := Option.some.inj h
                                  exact (known_cons rfl (known_cons rfl (known_cons rfl (known_cons rfl (known_cons rfl (known_cons rfl (known_cons rfl (known_cons rfl known_nil))))))))
                                · replace h := iteT h hc122
                                  refine WH.by rfl rfl rfl ?_
                                  refine WH.by rfl rfl rfl ?_
                                  refine WH.by rfl rfl rfl ?_
                                  refine WH.go0 rfl rfl ?_
                                  refine WH.step (v := (.bool true)) rfl (nz rfl rfl) rfl rfl ?_
                                  refine WH.nil ?_
                                  obtain rfl := Option.some.inj h
                                  exact (known_cons rfl (known_cons rfl (known_cons rfl (known_cons rfl (known_cons rfl (known_cons rfl (known_cons rfl (known_cons rfl known_nil))))))))
                              · rintro σ hk
                                replace h := hOy120
                                refine WH.of_known hk ?_
                                refine WH.step (v := (.bool y120)) rfl (nz rfl rfl) rfl rfl ?_
                                refine WH.nil ?_
                                obtain rfl := Option.some.inj h
                                exact (known_cons rfl (known_cons rfl (known_cons rfl (known_cons rfl (known_cons rfl (known_cons rfl (known_cons rfl known_nil)))))))
                          · rintro σ hk
                            replace h := hOy115
                            refine WH.of_known hk ?_
                            refine WH.step (v := (.bool y115)) rfl (nz rfl rfl) rfl rfl ?_
                            obtain ⟨y137, hy137, hOy137⟩ := bindS h
                            refine WH.split 10 (fun σ' => Known ([(0, (encSl e_Api_CSN a0)), (1, (encSl e_Api_CSN a1)), (7, (.ptr i1 0)), (9, (encSl e_Api_CSN y22)), (10, (encSl e_Api_CSN y23)), (110, (.bool y137))]) σ') ?_ ?_
                            · replace h := hy137
                              cases hc142 : y115
                              · replace h := iteF h hc142
                                refine WH.by rfl rfl rfl ?_
                                refine WH.by rfl rfl rfl ?_
                                refine WH.by rfl rfl rfl ?_
                                refine WH.by rfl rfl rfl ?_
                                refine WH.by rfl rfl rfl ?_
                                refine WH.by rfl rfl rfl ?_
                                refine WH.by rfl rfl rfl ?_
                                refine WH.by rfl rfl rfl ?_
                                refine WH.by rfl rfl rfl ?_
                                refine WH.step (v := (.bool false)) rfl (nz rfl rfl) rfl rfl ?_
                                refine WH.nil ?_
                                obtain rfl := Option.some.inj h
                                exact (known_cons rfl (known_cons rfl (known_cons rfl (known_cons rfl (known_cons rfl (known_cons rfl known_nil))))))
                              · replace h := iteT h hc142
                                refine WH.go0 rfl rfl ?_
                                refine WH.step (v := (encSl e_Api_CSN y22)) rfl (nz rfl rfl) rfl rfl ?_
                                refine WH.go0 rfl rfl ?_
                                refine WH.step (v := (encSl e_Api_CSN a2)) rfl (nz rfl rfl) rfl rfl ?_
                                refine WH.go0 rfl rfl ?_
                                obtain ⟨y138, hy138, h⟩ := bindS h
                                refine WH.step (v := (encSl e_Api_CSN y138)) rfl (nz (fz_tmp' (isSl_enc _ _).frz (fz_tmp' (isSl_enc _ _).frz rfl)) (stp_call (vs := [(encSl e_Api_CSN y22), (encSl e_Api_CSN a2)]) rfl rfl (s26 _ hy138 (by simp only [strip_enc, List.map_cons, List.map_nil, tupled]) _))) rfl rfl ?_
                                refine WH.go0 rfl rfl ?_
                                refine WH.step (v := (encSl e_Api_CSN a0)) rfl (nz rfl rfl) rfl rfl ?_
                                refine WH.go0 rfl rfl ?_
                                refine WH.step (v := (encSl e_Api_CSN a1)) rfl (nz rfl rfl) rfl rfl ?_
                                refine WH.go0 rfl rfl ?_
                                refine WH.step (v := (encSl e_Api_CSN a2)) rfl (nz rfl rfl) rfl rfl ?_
                                refine WH.go0 rfl rfl ?_
                                obtain ⟨y139, hy139, h⟩ := bindS h
                                refine WH.step (v := (encSl e_Api_CSN y139)) rfl (nz (fz_tmp' (isSl_enc _ _).frz (fz_tmp' (isSl_enc _ _).frz rfl)) (stp_call (vs := [(encSl e_Api_CSN a1), (encSl e_Api_CSN a2)]) rfl rfl (s26 _ hy139 (by simp only [strip_enc, List.map_cons, List.map_nil, tupled]) _))) rfl rfl ?_
                                refine WH.go0 rfl rfl ?_
                                obtain ⟨y140, hy140, h⟩ := bindS h
                                refine WH.step (v := (encSl e_Api_CSN y140)) rfl (nz (fz_tmp' (isSl_enc _ _).frz (fz_tmp' (isSl_enc _ _).frz rfl)) (stp_call (vs := [(encSl e_Api_CSN a0), (encSl e_Api_CSN y139)]) rfl rfl (s26 _ hy140 (by simp only [strip_enc, List.map_cons, List.map_nil, tupled]) _))) rfl rfl ?_
                                refine WH.go0 rfl rfl ?_
                                obtain ⟨y141, hy141, h⟩ := bindS h
                                refine WH.step (v := (.bool y141)) rfl (nz (fz_tmp' (isSl_enc _ _).frz (fz_tmp' (isSl_enc _ _).frz rfl)) (stp_call (vs := [(encSl e_Api_CSN y138), (encSl e_Api_CSN y140)]) rfl rfl (s36 _ hy141 (by simp only [strip_enc, List.map_cons, List.map_nil, tupled]) _))) rfl rfl ?_
                                refine WH.step (v := (.bool y141)) rfl (nz rfl rfl) rfl rfl ?_
                                refine WH.nil ?_
                                obtain rfl := Option.some.inj h
                                exact (known_cons rfl (known_cons rfl (known_cons rfl (known_cons rfl (known_cons rfl (known_cons rfl known_nil))))))
                            · rintro σ hk
                              replace h := hOy137
                              refine WH.of_known hk ?_
                              refine WH.step (v := (.bool y137)) rfl (nz rfl rfl) rfl rfl ?_
                              obtain ⟨y150, hy150, hOy150⟩ := bindS h
                              refine WH.split 6 (fun σ' => Known ([(0, (encSl e_Api_CSN a0)), (1, (encSl e_Api_CSN a1)), (7, (.ptr i1 0)), (9, (encSl e_Api_CSN y22)), (10, (encSl e_Api_CSN y23)), (117, (.bool y150))]) σ') ?_ ?_
                              · replace h := hy150
                                cases hc153 : y137
                                · replace h := iteF h hc153
                                  refine WH.by rfl rfl rfl ?_
                                  refine WH.by rfl rfl rfl ?_
                                  refine WH.by rfl rfl rfl ?_
                                  refine WH.by rfl rfl rfl ?_
                                  refine WH.by rfl rfl rfl ?_
                                  refine WH.step (v := (.bool false)) rfl (nz rfl rfl) rfl rfl ?_
                                  refine WH.nil ?_
                                  obtain rfl := Option.some.inj h
                                  exact (known_cons rfl (known_cons rfl (known_cons rfl (known_cons rfl (known_cons rfl (known_cons rfl known_nil))))))
                                · replace h := iteT h hc153
                                  refine WH.go0 rfl rfl ?_
                                  refine WH.step (v := (encSl e_Api_CSN y22)) rfl (nz rfl rfl) rfl rfl ?_
                                  refine WH.go0 rfl rfl ?_
                                  refine WH.step (v := (encSl e_Api_CSN a1)) rfl (nz rfl rfl) rfl rfl ?_
                                  refine WH.go0 rfl rfl ?_
                                  refine WH.step (v := (encSl e_Api_CSN a0)) rfl (nz rfl rfl) rfl rfl ?_
                                  refine WH.go0 rfl rfl ?_
                                  obtain ⟨y151, hy151, h⟩ := bindS h
                                  refine WH.step (v := (encSl e_Api_CSN y151)) rfl (nz (fz_tmp' (isSl_enc _ _).frz (fz_tmp' (isSl_enc _ _).frz rfl)) (stp_call (vs := [(encSl e_Api_CSN a1), (encSl e_Api_CSN a0)]) rfl rfl (s26 _ hy151 (by simp only [strip_enc, List.map_cons, List.map_nil, tupled]) _))) rfl rfl ?_
                                  refine WH.go0 rfl rfl ?_
                                  obtain ⟨y152, hy152, h⟩ := bindS h
                                  refine WH.step (v := (.bool y152)) rfl (nz (fz_tmp' (isSl_enc _ _).frz (fz_tmp' (isSl_enc _ _).frz rfl)) (stp_call (vs := [(encSl e_Api_CSN y22), (encSl e_Api_CSN y151)]) rfl rfl (s36 _ hy152 (by simp only [strip_enc, List.map_cons, List.map_nil, tupled]) _))) rfl rfl ?_
                                  refine WH.step (v := (.bool y152)) rfl (nz rfl rfl) rfl rfl ?_
                                  refine WH.nil ?_
                                  obtain rfl := Option.some.inj h
                                  exact (known_cons rfl (known_cons rfl (known_cons rfl (known_cons rfl (known_cons rfl (known_cons rfl known_nil))))))
                              · rintro σ hk
                                replace h := hOy150
                                refine WH.of_known hk ?_
                                refine WH.step (v := (.bool y150)) rfl (nz rfl rfl) rfl rfl ?_
                                obtain ⟨y161, hy161, hOy161⟩ := bindS h
                                refine WH.split 6 (fun σ' => Known ([(0, (encSl e_Api_CSN a0)), (1, (encSl e_Api_CSN a1)), (7, (.ptr i1 0)), (9, (encSl e_Api_CSN y22)), (10, (encSl e_Api_CSN y23)), (124, (.bool y161))]) σ') ?_ ?_
                                · replace h := hy161
                                  cases hc164 : y150
                                  · replace h := iteF h hc164
                                    refine WH.by rfl rfl rfl ?_
                                    refine WH.by rfl rfl rfl ?_
                                    refine WH.by rfl rfl rfl ?_
                                    refine WH.by rfl rfl rfl ?_
                                    refine WH.by rfl rfl rfl ?_
                                    refine WH.step (v := (.bool false)) rfl (nz rfl rfl) rfl rfl ?_
                                    refine WH.nil ?_
                                    obtain rfl := Option.some.inj h
                                    exact (known_cons rfl (known_cons rfl (known_cons rfl (known_cons rfl (known_cons rfl (known_cons rfl known_nil))))))
                                  · replace h := iteT h hc164
                                    refine WH.go0 rfl rfl ?_
                                    refine WH.step (v := (encSl e_Api_CSN a0)) rfl (nz rfl rfl) rfl rfl ?_
                                    refine WH.go0 rfl rfl ?_
                                    refine WH.step (v := (encSl e_Api_CSN y23)) rfl (nz rfl rfl) rfl rfl ?_
                                    refine WH.go0 rfl rfl ?_
                                    obtain ⟨y162, hy162, h⟩ := bindS h
                                    refine WH.step (v := (encSl e_Api_CSN y162)) rfl (nz (fz_tmp' (isSl_enc _ _).frz (fz_tmp' (isSl_enc _ _).frz rfl)) (stp_call (vs := [(encSl e_Api_CSN a0), (encSl e_Api_CSN y23)]) rfl rfl (s26 _ hy162 (by simp only [strip_enc, List.map_cons, List.map_nil, tupled]) _))) rfl rfl ?_
                                    refine WH.go0 rfl rfl ?_
                                    refine WH.step (v := (encSl e_Api_CSN a0)) rfl (nz rfl rfl) rfl rfl ?_
                                    refine WH.go0 rfl rfl ?_
                                    obtain ⟨y163, hy163, h⟩ := bindS h
                                    refine WH.step (v := (.bool y163)) rfl (nz (fz_tmp' (isSl_enc _ _).frz (fz_tmp' (isSl_enc _ _).frz rfl)) (stp_call (vs := [(encSl e_Api_CSN y162), (encSl e_Api_CSN a0)]) rfl rfl (s36 _ hy163 (by simp only [strip_enc, List.map_cons, List.map_nil, tupled]) _))) rfl rfl ?_
                                    refine WH.step (v := (.bool y163)) rfl (nz rfl rfl) rfl rfl ?_
                                    refine WH.nil ?_
                                    obtain rfl := Option.some.inj h
                                    exact (known_cons rfl (known_cons rfl (known_cons rfl (known_cons rfl (known_cons rfl (known_cons rfl known_nil))))))
                                · rintro σ hk
                                  replace h := hOy161
                                  refine WH.of_known hk ?_
                                  refine WH.step (v := (.bool y161)) rfl (nz rfl rfl) rfl rfl ?_
                                  obtain ⟨y193, hy193, hOy193⟩ := bindS h
                                  refine WH.split 13 (fun σ' => Known ([(0, (encSl e_Api_CSN a0)), (1, (encSl e_Api_CSN a1)), (7, (.ptr i1 0)), (10, (encSl e_Api_CSN y23)), (138, (.bool y193))]) σ') ?_ ?_
                                  · replace h := hy193
                                    cases hc203 : y161
                                    · replace h := iteF h hc203
                                      refine WH.by rfl rfl rfl ?_
                                      refine WH.by rfl rfl rfl ?_
                                      refine WH.by rfl rfl rfl ?_
                                      refine WH.by rfl rfl rfl ?_
                                      refine WH.by rfl rfl rfl ?_
                                      refine WH.by rfl rfl rfl ?_
                                      refine WH.by rfl rfl rfl ?_
                                      refine WH.by0 rfl rfl ?_
                                      refine WH.by0 rfl rfl ?_
                                      refine WH.by0 rfl rfl ?_
                                      refine WH.by rfl rfl rfl ?_
                                      refine WH.by rfl rfl rfl ?_
                                      refine WH.step (v := (.bool false)) rfl (nz rfl rfl) rfl rfl ?_
                                      refine WH.nil ?_
                                      obtain rfl := Option.some.inj h
                                      exact (known_cons rfl (known_cons rfl (known_cons rfl (known_cons rfl (known_cons rfl known_nil)))))
                                    · replace h := iteT h hc203
                                      refine WH.go0 rfl rfl ?_
                                      refine WH.step (v := (encSl e_Api_CSN y22)) rfl (nz rfl rfl) rfl rfl ?_
                                      refine WH.go0 rfl rfl ?_
                                      refine WH.step (v := (.agg [(.int .i64 a3.Time), (.int .i64 a3.Seq), (.int .i64 a3.Rep)])) rfl (nz rfl (stp_load rfl (H.get 0 rfl) rfl)) rfl rfl ?_
                                      refine WH.go0 rfl rfl ?_
                                      obtain ⟨y194, hy194, h⟩ := bindS h
                                      refine WH.step (v := (.bool y194)) rfl (nz (fz_tmp' (isSl_enc _ _).frz (fz_tmp' rfl rfl)) (stp_call (vs := [(encSl e_Api_CSN y22), (.agg [(.int .i64 a3.Time), (.int .i64 a3.Seq), (.int .i64 a3.Rep)])]) rfl rfl (s32 _ hy194 (by simp only [strip_enc, st_agg, List.map_cons, List.map_nil, st1_int, tupled, e_Api_CSN]) _))) rfl rfl ?_
                                      refine WH.go0 rfl rfl ?_
                                      refine WH.step (v := (encSl e_Api_CSN a0)) rfl (nz rfl rfl) rfl rfl ?_
                                      refine WH.go0 rfl rfl ?_
                                      refine WH.step (v := (.agg [(.int .i64 a3.Time), (.int .i64 a3.Seq), (.int .i64 a3.Rep)])) rfl (nz rfl (stp_load rfl (H.get 0 rfl) rfl)) rfl rfl ?_
                                      refine WH.go0 rfl rfl ?_
                                      obtain ⟨y195, hy195, h⟩ := bindS h
                                      refine WH.step (v := (.bool y195)) rfl (nz (fz_tmp' (isSl_enc _ _).frz (fz_tmp' rfl rfl)) (stp_call (vs := [(encSl e_Api_CSN a0), (.agg [(.int .i64 a3.Time), (.int .i64 a3.Seq), (.int .i64 a3.Rep)])]) rfl rfl (s32 _ hy195 (by simp only [strip_enc, st_agg, List.map_cons, List.map_nil, st1_int, tupled, e_Api_CSN]) _))) rfl rfl ?_
                                      refine WH.go0 rfl rfl ?_
                                      refine WH.step (v := (.bool y195)) rfl (nz rfl rfl) rfl rfl ?_
                                      obtain ⟨y200, hy200, hOy200⟩ := bindS h
                                      refine WH.split 4 (fun σ' => Known ([(0, (encSl e_Api_CSN a0)), (1, (encSl e_Api_CSN a1)), (7, (.ptr i1 0)), (10, (encSl e_Api_CSN y23)), (125, (.bool true)), (128, (.bool y194)), (136, (.bool y200))]) σ') ?_ ?_
                                      · replace h := hy200
                                        cases hc202 : y195
                                        · replace h := iteF h hc202
                                          refine WH.go0 rfl rfl ?_
                                          refine WH.step (v := (encSl e_Api_CSN a1)) rfl (nz rfl rfl) rfl rfl ?_
                                          refine WH.go0 rfl rfl ?_
                                          refine WH.step (v := (.agg [(.int .i64 a3.Time), (.int .i64 a3.Seq), (.int .i64 a3.Rep)])) rfl (nz rfl (stp_load rfl (H.get 0 rfl) rfl)) rfl rfl ?_
                                          refine WH.go0 rfl rfl ?_
                                          obtain ⟨y201, hy201, h⟩ := bindS h
                                          refine WH.step (v := (.bool y201)) rfl (nz (fz_tmp' (isSl_enc _ _).frz (fz_tmp' rfl rfl)) (stp_call (vs := [(encSl e_Api_CSN a1), (.agg [(.int .i64 a3.Time), (.int .i64 a3.Seq), (.int .i64 a3.Rep)])]) rfl rfl (s32 _ hy201 (by simp only [strip_enc, st_agg, List.map_cons, List.map_nil, st1_int, tupled, e_Api_CSN]) _))) rfl rfl ?_
                                          refine WH.go0 rfl rfl ?_
                                          refine WH.step (v := (.bool y201)) rfl (nz rfl rfl) rfl rfl ?_
                                          refine WH.nil ?_
                                          obtain rfl := Option.some.inj h
                                          exact (known_cons rfl (known_cons rfl (known_cons rfl (known_cons rfl (known_cons rfl (known_cons rfl (known_cons rfl known_nil)))))))
                                        · replace h := iteT h hc202
                                          refine WH.by rfl rfl rfl ?_
                                          refine WH.by rfl rfl rfl ?_
                                          refine WH.by rfl rfl rfl ?_
                                          refine WH.go0 rfl rfl ?_
                                          refine WH.step (v := (.bool true)) rfl (nz rfl rfl) rfl rfl ?_
                                          refine WH.nil ?_
                                          obtain rfl := Option.some.inj h
                                          exact (known_cons rfl (known_cons rfl (known_cons rfl (known_cons rfl (known_cons rfl (known_cons rfl (known_cons rfl known_nil)))))))
                                      · rintro σ hk
                                        replace h := hOy200
                                        refine WH.of_known hk ?_
                                        refine WH.go0 rfl rfl ?_
                                        refine WH.step (v := (.bool (y194 == y200))) rfl (nz rfl rfl) rfl rfl ?_
                                        refine WH.step (v := (.bool (y194 == y200))) rfl (nz rfl rfl) rfl rfl ?_
                                        refine WH.nil ?_
                                        obtain rfl := Option.some.inj h
                                        exact (known_cons rfl (known_cons rfl (known_cons rfl (known_cons rfl (known_cons rfl known_nil)))))
                                  · rintro σ hk
                                    replace h := hOy193
                                    refine WH.of_known hk ?_
                                    refine WH.step (v := (.bool y193)) rfl (nz rfl rfl) rfl rfl ?_
                                    obtain ⟨y232, hy232, hOy232⟩ := bindS h
                                    refine WH.split 13 (fun σ' => Known ([(0, (encSl e_Api_CSN a0)), (7, (.ptr i1 0)), (152, (.bool y232))]) σ') ?_ ?_
                                    · replace h := hy232
                                      cases hc242 : y193
                                      · replace h := iteF h hc242
                                        refine WH.by rfl rfl rfl ?_
                                        refine WH.by rfl rfl rfl ?_
                                        refine WH.by rfl rfl rfl ?_
                                        refine WH.by rfl rfl rfl ?_
                                        refine WH.by rfl rfl rfl ?_
                                        refine WH.by rfl rfl rfl ?_
                                        refine WH.by rfl rfl rfl ?_
                                        refine WH.by0 rfl rfl ?_
                                        refine WH.by0 rfl rfl ?_
                                        refine WH.by0 rfl rfl ?_
                                        refine WH.by rfl rfl rfl ?_
                                        refine WH.by rfl rfl rfl ?_
                                        refine WH.step (v := (.bool false)) rfl (nz rfl rfl) rfl rfl ?_
                                        refine WH.nil ?_
                                        obtain rfl := Option.some.inj h
                                        exact (known_cons rfl (known_cons rfl (known_cons rfl known_nil)))
                                      · replace h := iteT h hc242
                                        refine WH.go0 rfl rfl ?_
                                        refine WH.step (v := (encSl e_Api_CSN y23)) rfl (nz rfl rfl) rfl rfl ?_
                                        refine WH.go0 rfl rfl ?_
                                        refine WH.step (v := (.agg [(.int .i64 a3.Time), (.int .i64 a3.Seq), (.int .i64 a3.Rep)])) rfl (nz rfl (stp_load rfl (H.get 0 rfl) rfl)) rfl rfl ?_
                                        refine WH.go0 rfl rfl ?_
                                        obtain ⟨y233, hy233, h⟩ := bindS h
                                        refine WH.step (v := (.bool y233)) rfl (nz (fz_tmp' (isSl_enc _ _).frz (fz_tmp' rfl rfl)) (stp_call (vs := [(encSl e_Api_CSN y23), (.agg [(.int .i64 a3.Time), (.int .i64 a3.Seq), (.int .i64 a3.Rep)])]) rfl rfl (s32 _ hy233 (by simp only [strip_enc, st_agg, List.map_cons, List.map_nil, st1_int, tupled, e_Api_CSN]) _))) rfl rfl ?_
                                        refine WH.go0 rfl rfl ?_
                                        refine WH.step (v := (encSl e_Api_CSN a0)) rfl (nz rfl rfl) rfl rfl ?_
                                        refine WH.go0 rfl rfl ?_
                                        refine WH.step (v := (.agg [(.int .i64 a3.Time), (.int .i64 a3.Seq), (.int .i64 a3.Rep)])) rfl (nz rfl (stp_load rfl (H.get 0 rfl) rfl)) rfl rfl ?_
                                        refine WH.go0 rfl rfl ?_
                                        obtain ⟨y234, hy234, h⟩ := bindS h
                                        refine WH.step (v := (.bool y234)) rfl (nz (fz_tmp' (isSl_enc _ _).frz (fz_tmp' rfl rfl)) (stp_call (vs := [(encSl e_Api_CSN a0), (.agg [(.int .i64 a3.Time), (.int .i64 a3.Seq), (.int .i64 a3.Rep)])]) rfl rfl (s32 _ hy234 (by simp only [strip_enc, st_agg, List.map_cons, List.map_nil, st1_int, tupled, e_Api_CSN]) _))) rfl rfl ?_
                                        refine WH.go0 rfl rfl ?_
                                        refine WH.step (v := (.bool y234)) rfl (nz rfl rfl) rfl rfl ?_
                                        obtain ⟨y239, hy239, hOy239⟩ := bindS h
                                        refine WH.split 4 (fun σ' => Known ([(0, (encSl e_Api_CSN a0)), (7, (.ptr i1 0)), (139, (.bool true)), (142, (.bool y233)), (150, (.bool y239))]) σ') ?_ ?_
                                        · replace h := hy239
                                          cases hc241 : y234
                                          · replace h := iteF h hc241
                                            refine WH.by rfl rfl rfl ?_
                                            refine WH.by rfl rfl rfl ?_
                                            refine WH.by rfl rfl rfl ?_
                                            refine WH.go0 rfl rfl ?_
                                            refine WH.step (v := (.bool false)) rfl (nz rfl rfl) rfl rfl ?_
                                            refine WH.nil ?_
                                            obtain rfl := Option.some.inj h
                                            exact (known_cons rfl (known_cons rfl (known_cons rfl (known_cons rfl (known_cons rfl known_nil)))))
                                          · replace h := iteT h hc241
                                            refine WH.go0 rfl rfl ?_
                                            refine WH.step (v := (encSl e_Api_CSN a1)) rfl (nz rfl rfl) rfl rfl ?_
                                            refine WH.go0 rfl rfl ?_
                                            refine WH.step (v := (.agg [(.int .i64 a3.Time), (.int .i64 a3.Seq), (.int .i64 a3.Rep)])) rfl (nz rfl (stp_load rfl (H.get 0 rfl) rfl)) rfl rfl ?_
                                            refine WH.go0 rfl rfl ?_
                                            obtain ⟨y240, hy240, h⟩ := bindS h
                                            refine WH.step (v := (.bool y240)) rfl (nz (fz_tmp' (isSl_enc _ _).frz (fz_tmp' rfl rfl)) (stp_call (vs := [(encSl e_Api_CSN a1), (.agg [(.int .i64 a3.Time), (.int .i64 a3.Seq), (.int .i64 a3.Rep)])]) rfl rfl (s32 _ hy240 (by simp only [strip_enc, st_agg, List.map_cons, List.map_nil, st1_int, tupled, e_Api_CSN]) _))) rfl rfl ?_
                                            refine WH.go0 rfl rfl ?_
                                            refine WH.step (v := (.bool y240)) rfl (nz rfl rfl) rfl rfl ?_
                                            refine WH.nil ?_
                                            obtain rfl := Option.some.inj h
                                            exact (known_cons rfl (known_cons rfl (known_cons rfl (known_cons rfl (known_cons rfl known_nil)))))
                                        · rintro σ hk
                                          replace h := hOy239
                                          refine WH.of_known hk ?_
                                          refine WH.go0 rfl rfl ?_
                                          refine WH.step (v := (.bool (y233 == y239))) rfl (nz rfl rfl) rfl rfl ?_
                                          refine WH.step (v := (.bool (y233 == y239))) rfl (nz rfl rfl) rfl rfl ?_
                                          refine WH.nil ?_
                                          obtain rfl := Option.some.inj h
                                          exact (known_cons rfl (known_cons rfl (known_cons rfl known_nil)))
                                    · rintro σ hk
                                      replace h := hOy232
                                      refine WH.of_known hk ?_
                                      refine WH.step (v := (.bool y232)) rfl (nz rfl rfl) rfl rfl ?_
                                      obtain ⟨y246, hy246, hOy246⟩ := bindS h
                                      refine WD.split 2 (fun σ' S' e' => Known ([(159, (.bool y246))]) σ' ∧ Hp [] [] S' [(i1, .cells [(.int .i64 a3.Time), (.int .i64 a3.Seq), (.int .i64 a3.Rep)])] [] [] ∧ e' = false) ?_ ?_
                                      · replace h := hy246
                                        cases hc249 : y232
                                        · replace h := iteF h hc249
                                          refine WH.by rfl rfl rfl ?_
                                          refine WH.by rfl rfl rfl ?_
                                          refine WH.by rfl rfl rfl ?_
                                          refine WH.by rfl rfl rfl ?_
                                          refine WH.nil ?_
                                          refine WO.by rfl rfl rfl ?_
                                          refine WO.step (v := (.bool false)) rfl (nz rfl rfl) ?_
                                          refine WO.nil ?_
                                          obtain rfl := Option.some.inj h
                                          exact ⟨(known_cons rfl known_nil), (H.sub (.cons_cons _ .slnil) .slnil .slnil), rfl⟩
                                        · replace h := iteT h hc249
                                          refine WH.go0 rfl rfl ?_
                                          refine WH.step (v := (encSl e_Api_CSN a0)) rfl (nz rfl rfl) rfl rfl ?_
                                          refine WH.go0 rfl rfl ?_
                                          refine WH.step (v := (encSl e_Api_CSN a0)) rfl (nz rfl rfl) rfl rfl ?_
                                          refine WH.go0 rfl rfl ?_
                                          refine WH.step (v := (.agg [(.int .i64 a3.Time), (.int .i64 a3.Seq), (.int .i64 a3.Rep)])) rfl (nz rfl (stp_load rfl (H.get 0 rfl) rfl)) rfl rfl ?_
                                          refine WH.go0 rfl rfl ?_
                                          obtain ⟨y247, hy247, h⟩ := bindS h
                                          refine WH.step (v := (encSl e_Api_CSN y247)) rfl (nz (fz_tmp' (isSl_enc _ _).frz (fz_tmp' rfl rfl)) (stp_call (vs := [(encSl e_Api_CSN a0), (.agg [(.int .i64 a3.Time), (.int .i64 a3.Seq), (.int .i64 a3.Rep)])]) rfl rfl (s24 _ hy247 (by simp only [strip_enc, st_agg, List.map_cons, List.map_nil, st1_int, tupled, e_Api_CSN]) _))) rfl rfl ?_
                                          refine WH.nil ?_
                                          refine WO.go0 rfl rfl ?_
                                          obtain ⟨y248, hy248, h⟩ := bindS h
                                          refine WO.step (v := (.bool y248)) rfl (nz (fz_tmp' (isSl_enc _ _).frz (fz_tmp' (isSl_enc _ _).frz rfl)) (stp_call (vs := [(encSl e_Api_CSN a0), (encSl e_Api_CSN y247)]) rfl rfl (s30 _ hy248 (by simp only [strip_enc, List.map_cons, List.map_nil, tupled]) _))) ?_
                                          refine WO.step (v := (.bool y248)) rfl (nz rfl rfl) ?_
                                          refine WO.nil ?_
                                          obtain rfl := Option.some.inj h
                                          exact ⟨(known_cons rfl known_nil), (H.sub (.cons_cons _ .slnil) .slnil .slnil), rfl⟩
                                      · rintro σ S e ⟨hk, H, rfl⟩
                                        replace h := hOy246
                                        refine WO.of_known hk ?_
                                        refine WO.step (v := (.bool y246)) rfl (nz rfl rfl) ?_
                                        refine WO.nil ?_
                                        refine KX.seq_n ?_
                                        refine WC.ret ?_
                                        obtain rfl := Option.some.inj h
                                        refine KB.ret (vs := [(.bool y246)]) (res_tmp rfl res_nil) (fl_cons' rfl rfl) ?_
                                        exact rfl
end Go.Proofs.Ythcchjhieolflaa.M
