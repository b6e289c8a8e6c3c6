/- Part of the proof: the runs of functions on the abstract machine. -/
import Derived.Test.YtfpgfgpbjadoaaaDoorPamM4
import Derived.Test.YtfpgfgpbjadoaaaDoorFns
import Derived.Test.YtfpgfgpbjadoaaaDoorWDe
import Derived.Test.YtfpgfgpbjadoaaaDoorWDc
import Derived.Test.YtfpgfgpbjadoaaaDoorWDr
import Derived.Test.YtfpgfgpbjadoaaaDoorWDs
import Derived.Test.YtfpgfgpbjadoaaaDoorWDf
import Derived.Test.YtfpgfgpbjadoaaaDoorWDk
namespace Go.Proofs.YtfpgfgpbjadoaaaDoor.M
open Go Go.Pam Go.RowKit Go.WideShapes
set_option maxRecDepth 4000
set_option linter.unusedVariables false
set_option linter.unusedSimpArgs false
-- 4 prefect/prefectlaw21.WalScans
def F4_L0 (k : Nat) (a42 : Sl Str) (a43 : Int) (a44 : Int) (a45 : Int) : Nat → Str → Int → Option (Out Bool (Str × Int))
  | 0, _, _ => none
  | n + 1, x46, x47 =>
    if decide (x47 < (Sl.len a42)) then
    Option.bind (Sl.at? a42 x47) fun y55 =>
    if decide ((Str.len y55) > 100) then
    some (Out.ret true)
    else
    Option.bind (Sl.at? a42 x47) fun y57 =>
    Option.bind (F13 k y57) fun y58 =>
    Option.bind (Str.app? x46 y58) fun z59 =>
    F4_L0 k a42 a43 a44 a45 n z59 (ad .i64 x47 1)
    else
    some (Out.brk (x46, x47))
/-- prefect/prefectlaw21.WalScans -/
def F4 (k : Nat) (a0 : Sl Str) (a1 : Int) (a2 : Int) (a3 : Int) : Option Bool :=
  Option.bind (F7 k ) fun y1 =>
  if !y1 then
  some false
  else
  if decide ((Sl.len a0) > 12) then
  some true
  else
  Option.bind (F4_L0 k a0 a1 a2 a3 k [] 0) fun y62 =>
  match y62 with
  | .ret y62r => some y62r
  | .brk y62b =>
  Option.bind (F8 k y62b.1) fun y63 =>
  Option.bind (if (y63.2.2 != 0) || (y63.2.1 != (Str.len y62b.1)) then
  some true
  else
  Option.bind (F14 k y63.1 a0) fun y70 =>
  some (!y70)) fun y69 =>
  if y69 then
  some false
  else
  if (Str.len y62b.1) == 0 then
  some true
  else
  Option.bind (rem? (cv .i64 a1) (Str.len y62b.1)) fun z74 =>
  Option.bind (Str.sub? y62b.1 0 z74) fun z75 =>
  Option.bind (F8 k z75) fun y76 =>
  Option.bind (if ((y76.2.2 != 0) || (decide (y76.2.1 > z74))) || (decide ((Sl.len y76.1) > (Sl.len a0))) then
  some true
  else
  Option.bind (Sl.sub? a0 0 (Sl.len y76.1)) fun z90 =>
  Option.bind (F14 k y76.1 z90) fun y92 =>
  some (!y92)) fun y89 =>
  if y89 then
  some false
  else
  Option.bind (rem? (cv .i64 a2) (Sl.len (Str.bytes y62b.1))) fun z96 =>
  Option.bind (rem? (cv .i64 a2) (Sl.len (Str.bytes y62b.1))) fun z97 =>
  Option.bind (Sl.at? (Str.bytes y62b.1) z97) fun y98 =>
  Option.bind (Sl.at? (Str.bytes y62b.1) z96) fun y100 =>
  Option.bind (F8 k (Str.of (Sl.set (Str.bytes y62b.1) z96 (bXor .u8 y98 a3)))) fun y104 =>
  Option.bind (F9 k (Str.of (Sl.set (Str.bytes y62b.1) z96 (bXor .u8 y98 a3)))) fun y106 =>
  Option.bind (F14 k y104.1 y106.1) fun y107 =>
  some ((y107 && (y104.2.1 == y106.2.1)) && (y104.2.2 == y106.2.2))
theorem l4_L0 {k : Nat} {a42 : Sl Str} {a43 : Int} {a44 : Int} {a45 : Int} {S0 : List SObj} {R : List Nat} {K : KX}  {o : Out Bool (Str × Int)}
    (hret : ∀ r : Bool, o = .ret r → ∀ {σ' : Nat → PV} {S' : List SObj}, Known [(8, (.bool r))] σ' → Hp S0 R S' [] [] [] → K .ret σ' S' false)
    (hbrk : ∀ y : Str × Int, o = .brk y → ∀ {σ' : Nat → PV} {S' : List SObj}, Known [(0, (encSl eS a42)), (1, (.int .u16 a43)), (2, (.int .u16 a44)), (3, (.int .u8 a45)), (9, (.str y.1))] σ' → Hp S0 R S' [] [] [] → K (.exit 0) σ' S' false) :
    ∀ {n : Nat} {x46 : Str} {x47 : Int}, F4_L0 k a42 a43 a44 a45 n x46 x47 = some o → ∀ {σ : Nat → PV} {S : List SObj}, Known [(0, (encSl eS a42)), (1, (.int .u16 a43)), (2, (.int .u16 a44)), (3, (.int .u8 a45)), (9, (.str x46)), (10, (.int .i64 x47))] σ → Hp S0 R S [] [] [] → WC env ⟨154, S0.length⟩ (.loop pc4L0) σ S false K := by
  intro n
  induction n with
  | zero => intro _ _ h; cases h
  | succ n ih =>
    intro x46 x47 h σ S  hk H
    rw [F4_L0] at h
    refine WC.loop ?_
    refine WC.of_known hk ?_
    refine WC.seq ?_
    refine WC.seqR ?_
    refine WO.step (v := (.int .i64 x47)) rfl (nz rfl rfl) ?_
    refine WO.step (v := (encSl eS a42)) rfl (nz rfl rfl) ?_
    refine WO.step (v := (.int .i64 (Sl.len a42))) rfl (nz rfl (stp_len rfl (isSl_enc _ _) rfl)) ?_
    refine WO.step (v := (.bool (decide (x47 < (Sl.len a42))))) rfl (nz rfl rfl) ?_
    refine WO.nil ?_
    rcases iteS h with ⟨hc61, h⟩ | ⟨hc61, h⟩
    · refine WC.condT rfl hc61 ?_
      refine WC.skip ?_
      refine KX.seq_n ?_
      refine WC.seq ?_
      refine WC.block ?_
      refine WC.seq ?_
      refine WC.seqR ?_
      refine WO.step (v := (encSl eS a42)) rfl (nz rfl rfl) ?_
      refine WO.step (v := (.int .i64 x47)) rfl (nz rfl rfl) ?_
      obtain ⟨y55, hy55, h⟩ := bindS h
      refine WO.step (v := (.iptr [(.str y55)] 0)) rfl (nz rfl (stp_idxAddr rfl (isSl_enc _ _) rfl rfl rfl hy55 rfl rfl)) ?_
      refine WO.step (v := (.str y55)) rfl (nz rfl rfl) ?_
      refine WO.step (v := (.int .i64 (Str.len y55))) rfl (nz rfl rfl) ?_
      refine WO.step (v := (.bool (decide ((Str.len y55) > 100)))) rfl (nz rfl rfl) ?_
      refine WO.nil ?_
      rcases iteS h with ⟨hc60, h⟩ | ⟨hc60, h⟩
      · refine WC.condT rfl hc60 ?_
        refine WC.seqR ?_
        refine WO.step (v := (.bool true)) rfl (nz rfl rfl) ?_
        refine WO.nil ?_
        refine WC.ret ?_
        refine KX.seq_r ?_
        refine KX.block_r ?_
        refine KX.seq_r ?_
        refine KX.seq_r ?_
        obtain rfl := Option.some.inj h
        exact hret _ rfl (known_cons rfl known_nil) (H.sub .slnil .slnil .slnil)
      · refine WC.condF rfl hc60 ?_
        refine WC.skip ?_
        refine KX.seq_n ?_
        refine WC.region ?_
        refine WO.step (v := (.str x46)) rfl (nz rfl rfl) ?_
        refine WO.step (v := (encSl eS a42)) rfl (nz rfl rfl) ?_
        refine WO.step (v := (.int .i64 x47)) rfl (nz rfl rfl) ?_
        obtain ⟨y57, hy57, h⟩ := bindS h
        refine WO.step (v := (.iptr [(.str y57)] 0)) rfl (nz rfl (stp_idxAddr rfl (isSl_enc _ _) rfl rfl rfl hy57 rfl rfl)) ?_
        refine WO.step (v := (.str y57)) rfl (nz rfl rfl) ?_
        obtain ⟨y58, hy58, h⟩ := bindS h
        refine WO.step (v := (.str y58)) rfl (nz rfl (stp_call (vs := [(.str y57)]) rfl rfl (s13 _ hy58 rfl _))) ?_
        obtain ⟨z59, hz59, h⟩ := bindS h
        refine WO.step (v := (.str z59)) rfl (nz rfl (stp_strApp rfl rfl hz59)) ?_
        refine WO.step (v := (.str z59)) rfl (nz rfl rfl) ?_
        refine WO.nil ?_
        refine KX.block_n ?_
        refine KX.seq_n ?_
        refine WC.region ?_
        refine WO.step (v := (.int .i64 x47)) rfl (nz rfl rfl) ?_
        refine WO.step (v := (.int .i64 (ad .i64 x47 1))) rfl (nz rfl rfl) ?_
        refine WO.step (v := (.int .i64 (ad .i64 x47 1))) rfl (nz rfl rfl) ?_
        refine WO.nil ?_
        refine KX.seq_n ?_
        exact ih h  (known_cons rfl (known_cons rfl (known_cons rfl (known_cons rfl (known_cons rfl (known_cons rfl known_nil)))))) (H.sub .slnil .slnil .slnil)
    · refine WC.condF rfl hc61 ?_
      refine WC.exit ?_
      refine KX.seq_x ?_
      refine KX.seq_x ?_
      obtain rfl := Option.some.inj h
      exact hbrk _ rfl  (known_cons rfl (known_cons rfl (known_cons rfl (known_cons rfl (known_cons rfl known_nil))))) (H.sub .slnil .slnil .slnil)
theorem s4 : ∀ k : Nat, ∀ {a0 : Sl Str} {a1 : Int} {a2 : Int} {a3 : Int} {r : Bool}, F4 k a0 a1 a2 a3 = some r → ∀ {vs : List PV}, vs.map PV.strip = [(encSl eS a0), (.int .u16 a1), (.int .u16 a2), (.int .u8 a3)] → ∀ S : List SObj, evw env 4 vs S = some ((.bool r), S, false) := by
  intro k a0 a1 a2 a3 r h vs ha S
  unfold F4 at h
  refine evw_pureW (pf := fn4) rfl rfl ha (Nat.le_of_ble_eq_true rfl) (by simp [PV.clean, cleanL, clean_encSl clean_eS]) rfl ?_
  refine WB.of (pf := fn4) rfl ?_
  have H := Hp.start []
  refine WC.seqR ?_
  refine WO.step (v := (.bool false)) rfl (nz rfl rfl) ?_
  refine WO.nil ?_
  refine WC.seq ?_
  refine WC.seqR ?_
  obtain ⟨y1, hy1, h⟩ := bindS h
  refine WO.step (v := (.bool y1)) rfl (nz rfl (stp_call (vs := []) rfl rfl (s7 _ hy1 rfl _))) ?_
  refine WO.step (v := (.bool (!y1))) rfl (nz rfl rfl) ?_
  refine WO.nil ?_
  rcases iteS h with ⟨hc114, h⟩ | ⟨hc114, h⟩
  · refine WC.condT rfl hc114 ?_
    refine WC.seqR ?_
    refine WO.step (v := (.bool false)) rfl (nz rfl rfl) ?_
    refine WO.nil ?_
    refine WC.ret ?_
    refine KX.seq_r ?_
    obtain rfl := Option.some.inj h
    refine KB.ret (vs := [(.bool false)]) (res_tmp rfl res_nil) (fl_cons' rfl rfl) ?_
    exact rfl
  · refine WC.condF rfl hc114 ?_
    refine WC.skip ?_
    refine KX.seq_n ?_
    refine WC.seq ?_
    refine WC.seqR ?_
    refine WO.step (v := (encSl eS a0)) rfl (nz rfl rfl) ?_
    refine WO.step (v := (.int .i64 (Sl.len a0))) rfl (nz rfl (stp_len rfl (isSl_enc _ _) rfl)) ?_
    refine WO.step (v := (.bool (decide ((Sl.len a0) > 12)))) rfl (nz rfl rfl) ?_
    refine WO.nil ?_
    rcases iteS h with ⟨hc113, h⟩ | ⟨hc113, h⟩
    · refine WC.condT rfl hc113 ?_
      refine WC.seqR ?_
      refine WO.step (v := (.bool true)) rfl (nz rfl rfl) ?_
      refine WO.nil ?_
      refine WC.ret ?_
      refine KX.seq_r ?_
      obtain rfl := Option.some.inj h
      refine KB.ret (vs := [(.bool true)]) (res_tmp rfl res_nil) (fl_cons' rfl rfl) ?_
      exact rfl
    · refine WC.condF rfl hc113 ?_
      refine WC.skip ?_
      refine KX.seq_n ?_
      refine WC.seqR ?_
      refine WO.step (v := (.str [])) rfl (nz rfl rfl) ?_
      refine WO.nil ?_
      refine WC.seq ?_
      refine WC.seqR ?_
      refine WO.step (v := (.int .i64 0)) rfl (nz rfl rfl) ?_
      refine WO.nil ?_
      obtain ⟨y62, hy62, hOy62⟩ := bindS h
      refine WC.block ?_
      refine l4_L0 ?_ ?_ hy62  (known_cons rfl (known_cons rfl (known_cons rfl (known_cons rfl (known_cons rfl (known_cons rfl known_nil)))))) (H.sub .slnil .slnil .slnil)
      · intro y62r he σ S  hk H; subst he; replace h := hOy62; dsimp only at h
        refine KX.of_known hk ?_
        refine KX.block_r ?_
        refine KX.seq_r ?_
        obtain rfl := Option.some.inj h
        refine KB.ret (vs := [(.bool y62r)]) (res_tmp rfl res_nil) (fl_cons' rfl rfl) ?_
        exact rfl
      · intro y62b he σ S  hk H; subst he; replace h := hOy62; dsimp only at h
        refine KX.of_known hk ?_
        refine KX.block_x ?_
        refine KX.seq_n ?_
        refine WC.seqR ?_
        refine WO.step (v := (.str y62b.1)) rfl (nz rfl rfl) ?_
        obtain ⟨y63, hy63, h⟩ := bindS h
        refine WO.step (v := (.tup [(encSl eS y63.1), (.int .i64 y63.2.1), (.int .i64 y63.2.2)])) rfl (nz rfl (stp_call (vs := [(.str y62b.1)]) rfl rfl (s8 _ hy63 rfl _))) ?_
        refine WO.step (v := (.tup [(encSl eS y63.1), (.int .i64 y63.2.1), (.int .i64 y63.2.2)])) rfl (nz rfl rfl) ?_
        refine WO.step (v := (encSl eS y63.1)) rfl (nz rfl rfl) ?_
        refine WO.step (v := (.int .i64 y63.2.1)) rfl (nz rfl rfl) ?_
        refine WO.step (v := (.int .i64 y63.2.2)) rfl (nz rfl rfl) ?_
        refine WO.step (v := (encSl eS y63.1)) rfl (nz rfl rfl) ?_
        refine WO.step (v := (.int .i64 y63.2.1)) rfl (nz rfl rfl) ?_
        refine WO.step (v := (.int .i64 y63.2.2)) rfl (nz rfl rfl) ?_
        refine WO.nil ?_
        refine WC.seq ?_
        refine WC.seqR ?_
        refine WO.step (v := (.int .i64 y63.2.2)) rfl (nz rfl rfl) ?_
        refine WO.step (v := (.bool (y63.2.2 != 0))) rfl (nz rfl rfl) ?_
        refine WO.step (v := (.bool (y63.2.2 != 0))) rfl (nz rfl rfl) ?_
        refine WO.split 5 (fun σ' S' e' => Known ([(0, (encSl eS a0)), (1, (.int .u16 a1)), (2, (.int .u16 a2)), (3, (.int .u8 a3)), (9, (.str y62b.1)), (11, (encSl eS y63.1)), (62, (.bool ((y63.2.2 != 0) || (y63.2.1 != (Str.len y62b.1)))))]) σ' ∧ Hp [] [] S' [] [] [] ∧ e' = false) ?_ ?_
        · revert H
          cases hc64 : (y63.2.2 != 0)
          · intro H
            refine WO.go0 rfl rfl ?_
            refine WO.step (v := (.int .i64 y63.2.1)) rfl (nz rfl rfl) ?_
            refine WO.go0 rfl rfl ?_
            refine WO.step (v := (.str y62b.1)) rfl (nz rfl rfl) ?_
            refine WO.go0 rfl rfl ?_
            refine WO.step (v := (.int .i64 (Str.len y62b.1))) rfl (nz rfl rfl) ?_
            refine WO.go0 rfl rfl ?_
            refine WO.step (v := (.bool (y63.2.1 != (Str.len y62b.1)))) rfl (nz rfl rfl) ?_
            refine WO.step (v := (.bool (y63.2.1 != (Str.len y62b.1)))) rfl (nz rfl rfl) ?_
            refine WO.nil ?_
            exact ⟨(known_cons rfl (known_cons rfl (known_cons rfl (known_cons rfl (known_cons rfl (known_cons rfl (known_cons rfl known_nil))))))), H, rfl⟩
          · intro H
            refine WO.by rfl rfl rfl ?_
            refine WO.by rfl rfl rfl ?_
            refine WO.by rfl rfl rfl ?_
            refine WO.by rfl rfl rfl ?_
            refine WO.step (v := (.bool true)) rfl (nz rfl rfl) ?_
            refine WO.nil ?_
            exact ⟨(known_cons rfl (known_cons rfl (known_cons rfl (known_cons rfl (known_cons rfl (known_cons rfl (known_cons rfl known_nil))))))), H, rfl⟩
        · rintro σ S e ⟨hk, H, rfl⟩
          refine WO.of_known hk ?_
          refine WO.step (v := (.bool ((y63.2.2 != 0) || (y63.2.1 != (Str.len y62b.1))))) rfl (nz rfl rfl) ?_
          obtain ⟨y69, hy69, hOy69⟩ := bindS h
          refine WO.split 5 (fun σ' S' e' => Known ([(0, (encSl eS a0)), (1, (.int .u16 a1)), (2, (.int .u16 a2)), (3, (.int .u8 a3)), (9, (.str y62b.1)), (68, (.bool y69))]) σ' ∧ Hp [] [] S' [] [] [] ∧ e' = false) ?_ ?_
          · replace h := hy69
            revert H
            cases hc71 : ((y63.2.2 != 0) || (y63.2.1 != (Str.len y62b.1)))
            · intro H
              replace h := iteF h hc71
              refine WO.go0 rfl rfl ?_
              refine WO.step (v := (encSl eS y63.1)) rfl (nz rfl rfl) ?_
              refine WO.go0 rfl rfl ?_
              refine WO.step (v := (encSl eS a0)) rfl (nz rfl rfl) ?_
              refine WO.go0 rfl rfl ?_
              obtain ⟨y70, hy70, h⟩ := bindS h
              refine WO.step (v := (.bool y70)) rfl (nz (fz_tmp' (isSl_enc _ _).frz (fz_tmp' (isSl_enc _ _).frz rfl)) (stp_call (vs := [(encSl eS y63.1), (encSl eS a0)]) rfl rfl (s14 _ hy70 (by simp only [strip_enc, List.map_cons, List.map_nil, tupled]) _))) ?_
              refine WO.go0 rfl rfl ?_
              refine WO.step (v := (.bool (!y70))) rfl (nz rfl rfl) ?_
              refine WO.step (v := (.bool (!y70))) rfl (nz rfl rfl) ?_
              refine WO.nil ?_
              obtain rfl := Option.some.inj h
              exact ⟨(known_cons rfl (known_cons rfl (known_cons rfl (known_cons rfl (known_cons rfl (known_cons rfl known_nil)))))), (H.sub .slnil .slnil .slnil), rfl⟩
            · intro H
              replace h := iteT h hc71
              refine WO.by rfl rfl rfl ?_
              refine WO.by rfl rfl rfl ?_
              refine WO.by rfl rfl rfl ?_
              refine WO.by rfl rfl rfl ?_
              refine WO.step (v := (.bool true)) rfl (nz rfl rfl) ?_
              refine WO.nil ?_
              obtain rfl := Option.some.inj h
              exact ⟨(known_cons rfl (known_cons rfl (known_cons rfl (known_cons rfl (known_cons rfl (known_cons rfl known_nil)))))), (H.sub .slnil .slnil .slnil), rfl⟩
          · rintro σ S e ⟨hk, H, rfl⟩
            replace h := hOy69
            refine WO.of_known hk ?_
            refine WO.nil ?_
            rcases iteS h with ⟨hc112, h⟩ | ⟨hc112, h⟩
            · refine WC.condT rfl hc112 ?_
              refine WC.seqR ?_
              refine WO.step (v := (.bool false)) rfl (nz rfl rfl) ?_
              refine WO.nil ?_
              refine WC.ret ?_
              refine KX.seq_r ?_
              obtain rfl := Option.some.inj h
              refine KB.ret (vs := [(.bool false)]) (res_tmp rfl res_nil) (fl_cons' rfl rfl) ?_
              exact rfl
            · refine WC.condF rfl hc112 ?_
              refine WC.skip ?_
              refine KX.seq_n ?_
              refine WC.seq ?_
              refine WC.seqR ?_
              refine WO.step (v := (.str y62b.1)) rfl (nz rfl rfl) ?_
              refine WO.step (v := (.int .i64 (Str.len y62b.1))) rfl (nz rfl rfl) ?_
              refine WO.step (v := (.bool ((Str.len y62b.1) == 0))) rfl (nz rfl rfl) ?_
              refine WO.nil ?_
              rcases iteS h with ⟨hc111, h⟩ | ⟨hc111, h⟩
              · refine WC.condT rfl hc111 ?_
                refine WC.seqR ?_
                refine WO.step (v := (.bool true)) rfl (nz rfl rfl) ?_
                refine WO.nil ?_
                refine WC.ret ?_
                refine KX.seq_r ?_
                obtain rfl := Option.some.inj h
                refine KB.ret (vs := [(.bool true)]) (res_tmp rfl res_nil) (fl_cons' rfl rfl) ?_
                exact rfl
              · refine WC.condF rfl hc111 ?_
                refine WC.skip ?_
                refine KX.seq_n ?_
                refine WC.seqR ?_
                refine WO.step (v := (.int .u16 a1)) rfl (nz rfl rfl) ?_
                refine WO.step (v := (.int .i64 (cv .i64 a1))) rfl (nz rfl rfl) ?_
                refine WO.step (v := (.str y62b.1)) rfl (nz rfl rfl) ?_
                refine WO.step (v := (.int .i64 (Str.len y62b.1))) rfl (nz rfl rfl) ?_
                obtain ⟨z74, hz74, h⟩ := bindS h
                refine WO.step (v := (.int .i64 z74)) rfl (nz rfl (stp_rem rfl rfl hz74)) ?_
                refine WO.step (v := (.int .i64 z74)) rfl (nz rfl rfl) ?_
                refine WO.nil ?_
                refine WC.seqR ?_
                refine WO.step (v := (.str y62b.1)) rfl (nz rfl rfl) ?_
                refine WO.step (v := (.int .i64 z74)) rfl (nz rfl rfl) ?_
                obtain ⟨z75, hz75, h⟩ := bindS h
                refine WO.step (v := (.str z75)) rfl (nz rfl (stp_subStr rfl rfl rfl rfl hz75)) ?_
                obtain ⟨y76, hy76, h⟩ := bindS h
                refine WO.step (v := (.tup [(encSl eS y76.1), (.int .i64 y76.2.1), (.int .i64 y76.2.2)])) rfl (nz rfl (stp_call (vs := [(.str z75)]) rfl rfl (s8 _ hy76 rfl _))) ?_
                refine WO.step (v := (.tup [(encSl eS y76.1), (.int .i64 y76.2.1), (.int .i64 y76.2.2)])) rfl (nz rfl rfl) ?_
                refine WO.step (v := (encSl eS y76.1)) rfl (nz rfl rfl) ?_
                refine WO.step (v := (.int .i64 y76.2.1)) rfl (nz rfl rfl) ?_
                refine WO.step (v := (.int .i64 y76.2.2)) rfl (nz rfl rfl) ?_
                refine WO.step (v := (encSl eS y76.1)) rfl (nz rfl rfl) ?_
                refine WO.step (v := (.int .i64 y76.2.1)) rfl (nz rfl rfl) ?_
                refine WO.step (v := (.int .i64 y76.2.2)) rfl (nz rfl rfl) ?_
                refine WO.nil ?_
                refine WC.seq ?_
                refine WC.seqR ?_
                refine WO.step (v := (.int .i64 y76.2.2)) rfl (nz rfl rfl) ?_
                refine WO.step (v := (.bool (y76.2.2 != 0))) rfl (nz rfl rfl) ?_
                refine WO.step (v := (.bool (y76.2.2 != 0))) rfl (nz rfl rfl) ?_
                refine WO.split 4 (fun σ' S' e' => Known ([(0, (encSl eS a0)), (2, (.int .u16 a2)), (3, (.int .u8 a3)), (9, (.str y62b.1)), (15, (encSl eS y76.1)), (91, (.bool ((y76.2.2 != 0) || (decide (y76.2.1 > z74)))))]) σ' ∧ Hp [] [] S' [] [] [] ∧ e' = false) ?_ ?_
                · revert H
                  cases hc77 : (y76.2.2 != 0)
                  · intro H
                    refine WO.go0 rfl rfl ?_
                    refine WO.step (v := (.int .i64 y76.2.1)) rfl (nz rfl rfl) ?_
                    refine WO.go0 rfl rfl ?_
                    refine WO.step (v := (.int .i64 z74)) rfl (nz rfl rfl) ?_
                    refine WO.go0 rfl rfl ?_
                    refine WO.step (v := (.bool (decide (y76.2.1 > z74)))) rfl (nz rfl rfl) ?_
                    refine WO.step (v := (.bool (decide (y76.2.1 > z74)))) rfl (nz rfl rfl) ?_
                    refine WO.nil ?_
                    exact ⟨(known_cons rfl (known_cons rfl (known_cons rfl (known_cons rfl (known_cons rfl (known_cons rfl known_nil)))))), H, rfl⟩
                  · intro H
                    refine WO.by rfl rfl rfl ?_
                    refine WO.by rfl rfl rfl ?_
                    refine WO.by rfl rfl rfl ?_
                    refine WO.step (v := (.bool true)) rfl (nz rfl rfl) ?_
                    refine WO.nil ?_
                    exact ⟨(known_cons rfl (known_cons rfl (known_cons rfl (known_cons rfl (known_cons rfl (known_cons rfl known_nil)))))), H, rfl⟩
                · rintro σ S e ⟨hk, H, rfl⟩
                  refine WO.of_known hk ?_
                  refine WO.step (v := (.bool ((y76.2.2 != 0) || (decide (y76.2.1 > z74))))) rfl (nz rfl rfl) ?_
                  refine WO.split 6 (fun σ' S' e' => Known ([(0, (encSl eS a0)), (2, (.int .u16 a2)), (3, (.int .u8 a3)), (9, (.str y62b.1)), (15, (encSl eS y76.1)), (98, (.bool (((y76.2.2 != 0) || (decide (y76.2.1 > z74))) || (decide ((Sl.len y76.1) > (Sl.len a0))))))]) σ' ∧ Hp [] [] S' [] [] [] ∧ e' = false) ?_ ?_
                  · revert H
                    cases hc78 : ((y76.2.2 != 0) || (decide (y76.2.1 > z74)))
                    · intro H
                      refine WO.go0 rfl rfl ?_
                      refine WO.step (v := (encSl eS y76.1)) rfl (nz rfl rfl) ?_
                      refine WO.go0 rfl rfl ?_
                      refine WO.step (v := (.int .i64 (Sl.len y76.1))) rfl (nz rfl (stp_len rfl (isSl_enc _ _) rfl)) ?_
                      refine WO.go0 rfl rfl ?_
                      refine WO.step (v := (encSl eS a0)) rfl (nz rfl rfl) ?_
                      refine WO.go0 rfl rfl ?_
                      refine WO.step (v := (.int .i64 (Sl.len a0))) rfl (nz rfl (stp_len rfl (isSl_enc _ _) rfl)) ?_
                      refine WO.go0 rfl rfl ?_
                      refine WO.step (v := (.bool (decide ((Sl.len y76.1) > (Sl.len a0))))) rfl (nz rfl rfl) ?_
                      refine WO.step (v := (.bool (decide ((Sl.len y76.1) > (Sl.len a0))))) rfl (nz rfl rfl) ?_
                      refine WO.nil ?_
                      exact ⟨(known_cons rfl (known_cons rfl (known_cons rfl (known_cons rfl (known_cons rfl (known_cons rfl known_nil)))))), H, rfl⟩
                    · intro H
                      refine WO.by rfl rfl rfl ?_
                      refine WO.by rfl rfl rfl ?_
                      refine WO.by rfl rfl rfl ?_
                      refine WO.by rfl rfl rfl ?_
                      refine WO.by rfl rfl rfl ?_
                      refine WO.step (v := (.bool true)) rfl (nz rfl rfl) ?_
                      refine WO.nil ?_
                      exact ⟨(known_cons rfl (known_cons rfl (known_cons rfl (known_cons rfl (known_cons rfl (known_cons rfl known_nil)))))), H, rfl⟩
                  · rintro σ S e ⟨hk, H, rfl⟩
                    refine WO.of_known hk ?_
                    refine WO.step (v := (.bool (((y76.2.2 != 0) || (decide (y76.2.1 > z74))) || (decide ((Sl.len y76.1) > (Sl.len a0)))))) rfl (nz rfl rfl) ?_
                    obtain ⟨y89, hy89, hOy89⟩ := bindS h
                    refine WO.split 8 (fun σ' S' e' => Known ([(2, (.int .u16 a2)), (3, (.int .u8 a3)), (9, (.str y62b.1)), (107, (.bool y89))]) σ' ∧ Hp [] [] S' [] [] [] ∧ e' = false) ?_ ?_
                    · replace h := hy89
                      revert H
                      cases hc93 : (((y76.2.2 != 0) || (decide (y76.2.1 > z74))) || (decide ((Sl.len y76.1) > (Sl.len a0))))
                      · intro H
                        replace h := iteF h hc93
                        refine WO.go0 rfl rfl ?_
                        refine WO.step (v := (encSl eS y76.1)) rfl (nz rfl rfl) ?_
                        refine WO.go0 rfl rfl ?_
                        refine WO.step (v := (encSl eS a0)) rfl (nz rfl rfl) ?_
                        refine WO.go0 rfl rfl ?_
                        refine WO.step (v := (encSl eS y76.1)) rfl (nz rfl rfl) ?_
                        refine WO.go0 rfl rfl ?_
                        refine WO.step (v := (.int .i64 (Sl.len y76.1))) rfl (nz rfl (stp_len rfl (isSl_enc _ _) rfl)) ?_
                        refine WO.go0 rfl rfl ?_
                        obtain ⟨z90, hz90, h⟩ := bindS h
                        refine WO.ex1 rfl (nzx1 rfl (stp_subSl rfl (isSl_enc _ _) rfl rfl rfl rfl (fun _ => rfl) hz90)) ?_
                        intro v91 hv91
                        refine WO.go0 rfl rfl ?_
                        obtain ⟨y92, hy92, h⟩ := bindS h
                        refine WO.step (v := (.bool y92)) rfl (nz (fz_tmp' (isSl_enc _ _).frz (fz_tmp' hv91.frz rfl)) (stp_call (vs := [(encSl eS y76.1), v91]) rfl rfl (s14 _ hy92 (by simp only [strip_enc, hv91.strip, List.map_cons, List.map_nil, tupled]) _))) ?_
                        refine WO.go0 rfl rfl ?_
                        refine WO.step (v := (.bool (!y92))) rfl (nz rfl rfl) ?_
                        refine WO.step (v := (.bool (!y92))) rfl (nz rfl rfl) ?_
                        refine WO.nil ?_
                        obtain rfl := Option.some.inj h
                        exact ⟨(known_cons rfl (known_cons rfl (known_cons rfl (known_cons rfl known_nil)))), (H.sub .slnil .slnil .slnil), rfl⟩
                      · intro H
                        replace h := iteT h hc93
                        refine WO.by rfl rfl rfl ?_
                        refine WO.by rfl rfl rfl ?_
                        refine WO.by rfl rfl rfl ?_
                        refine WO.by rfl rfl rfl ?_
                        refine WO.by rfl rfl rfl ?_
                        refine WO.by rfl rfl rfl ?_
                        refine WO.by rfl rfl rfl ?_
                        refine WO.step (v := (.bool true)) rfl (nz rfl rfl) ?_
                        refine WO.nil ?_
                        obtain rfl := Option.some.inj h
                        exact ⟨(known_cons rfl (known_cons rfl (known_cons rfl (known_cons rfl known_nil)))), (H.sub .slnil .slnil .slnil), rfl⟩
                    · rintro σ S e ⟨hk, H, rfl⟩
                      replace h := hOy89
                      refine WO.of_known hk ?_
                      refine WO.nil ?_
                      rcases iteS h with ⟨hc110, h⟩ | ⟨hc110, h⟩
                      · refine WC.condT rfl hc110 ?_
                        refine WC.seqR ?_
                        refine WO.step (v := (.bool false)) rfl (nz rfl rfl) ?_
                        refine WO.nil ?_
                        refine WC.ret ?_
                        refine KX.seq_r ?_
                        obtain rfl := Option.some.inj h
                        refine KB.ret (vs := [(.bool false)]) (res_tmp rfl res_nil) (fl_cons' rfl rfl) ?_
                        exact rfl
                      · refine WC.condF rfl hc110 ?_
                        refine WC.skip ?_
                        refine KX.seq_n ?_
                        refine WC.seqR ?_
                        refine WO.step (v := (.str y62b.1)) rfl (nz rfl rfl) ?_
                        refine WO.ex rfl (bzn rfl (born_bytes rfl rfl rfl rfl H)) ?_
                        rintro v95 S ⟨hv95, H⟩
                        replace H : Hp [] [] _ [] [] [(v95, rowO (eI .u8) 1 false (Str.bytes y62b.1))] := H
                        refine WO.step (v := v95) rfl (nz rfl rfl) ?_
                        refine WO.nil ?_
                        refine WC.seq ?_
                        refine WC.draw ?_
                        refine WH.step (v := v95) rfl (nz rfl rfl) rfl rfl ?_
                        refine WH.step (v := (.int .u16 a2)) rfl (nz rfl rfl) rfl rfl ?_
                        refine WH.step (v := (.int .i64 (cv .i64 a2))) rfl (nz rfl rfl) rfl rfl ?_
                        refine WH.step (v := v95) rfl (nz rfl rfl) rfl rfl ?_
                        refine WH.step (v := (.int .i64 (Sl.len (Str.bytes y62b.1)))) rfl (nz rfl (stp_lenW rfl hv95 rfl)) rfl rfl ?_
                        obtain ⟨z96, hz96, h⟩ := bindS h
                        refine WH.step (v := (.int .i64 z96)) rfl (nz rfl (stp_rem rfl rfl hz96)) rfl rfl ?_
                        refine WH.step (v := v95) rfl (nz rfl rfl) rfl rfl ?_
                        refine WH.step (v := (.int .u16 a2)) rfl (nz rfl rfl) rfl rfl ?_
                        refine WH.step (v := (.int .i64 (cv .i64 a2))) rfl (nz rfl rfl) rfl rfl ?_
                        refine WH.step (v := v95) rfl (nz rfl rfl) rfl rfl ?_
                        refine WH.step (v := (.int .i64 (Sl.len (Str.bytes y62b.1)))) rfl (nz rfl (stp_lenW rfl hv95 rfl)) rfl rfl ?_
                        obtain ⟨z97, hz97, h⟩ := bindS h
                        refine WH.step (v := (.int .i64 z97)) rfl (nz rfl (stp_rem rfl rfl hz97)) rfl rfl ?_
                        obtain ⟨y98, hy98, h⟩ := bindS h
                        obtain ⟨i99, hi99⟩ := IsW.id hv95 hy98
                        refine WH.step (v := (.ptr i99 (Int.toNat z97 * 1 + 0))) rfl (nz rfl (stp_idxW (sz := 1) rfl hv95 rfl rfl rfl hy98 hi99)) rfl rfl ?_
                        refine WH.step (v := (.int .u8 y98)) rfl (nz rfl (stp_loadW rfl (H.getW 0 rfl hi99) hy98 (Nat.le_of_ble_eq_true rfl) rfl)) rfl rfl ?_
                        refine WH.step (v := (.int .u8 a3)) rfl (nz rfl rfl) rfl rfl ?_
                        refine WH.step (v := (.int .u8 (bXor .u8 y98 a3))) rfl (nz rfl rfl) rfl rfl ?_
                        refine WH.nil ?_
                        obtain ⟨y100, hy100, h⟩ := bindS h
                        obtain ⟨i101, hi101⟩ := IsW.id hv95 hy100
                        refine WO.step (v := (.ptr i101 (Int.toNat z96 * 1 + 0))) rfl (nz rfl (stp_idxW (sz := 1) rfl hv95 rfl rfl rfl hy100 hi101)) ?_
                        refine WO.storeW 0 (f := (eI .u8)) (u := (.int .u8 (bXor .u8 y98 a3))) (y' := bXor .u8 y98 a3) (xc := [(.int .u8 (bXor .u8 y98 a3))]) (e' := false) rfl rfl H rfl hi101 rfl rfl hy100 rfl rfl rfl rfl (Nat.le_of_ble_eq_true rfl) (Nat.le_of_ble_eq_true rfl) rfl (clean_e rfl) ?_
                        intro S H
                        have hw102 := IsW.set hv95 z96 (bXor .u8 y98 a3)
                        replace H : Hp [] [] _ [] [] [(v95, rowO (eI .u8) 1 false (Sl.set (Str.bytes y62b.1) z96 (bXor .u8 y98 a3)))] := H
                        refine WO.nil ?_
                        refine KX.seq_n ?_
                        refine WC.seqR ?_
                        refine WO.step (v := v95) rfl (nz rfl rfl) ?_
                        obtain ⟨S, q103, H⟩ := IsW.frz (f := (eI .u8)) H 0 rfl hw102
                        replace H : Hp [] [] _ [] [] [(v95, rowO (eI .u8) 1 true (Sl.set (Str.bytes y62b.1) z96 (bXor .u8 y98 a3)))] := H
                        refine WO.step (v := (.str (Str.of (Sl.set (Str.bytes y62b.1) z96 (bXor .u8 y98 a3))))) rfl (yz (fz_W q103 rfl) (stp_text rfl (isSl_enc _ _) rfl rfl rfl)) ?_
                        obtain ⟨y104, hy104, h⟩ := bindS h
                        refine WO.step (v := (.tup [(encSl eS y104.1), (.int .i64 y104.2.1), (.int .i64 y104.2.2)])) rfl (nz rfl (stp_call (vs := [(.str (Str.of (Sl.set (Str.bytes y62b.1) z96 (bXor .u8 y98 a3))))]) rfl rfl (s8 _ hy104 rfl _))) ?_
                        refine WO.step (v := (.tup [(encSl eS y104.1), (.int .i64 y104.2.1), (.int .i64 y104.2.2)])) rfl (nz rfl rfl) ?_
                        refine WO.step (v := (encSl eS y104.1)) rfl (nz rfl rfl) ?_
                        refine WO.step (v := (.int .i64 y104.2.1)) rfl (nz rfl rfl) ?_
                        refine WO.step (v := (.int .i64 y104.2.2)) rfl (nz rfl rfl) ?_
                        refine WO.step (v := (encSl eS y104.1)) rfl (nz rfl rfl) ?_
                        refine WO.step (v := (.int .i64 y104.2.1)) rfl (nz rfl rfl) ?_
                        refine WO.step (v := (.int .i64 y104.2.2)) rfl (nz rfl rfl) ?_
                        refine WO.nil ?_
                        refine WC.seqR ?_
                        refine WO.step (v := v95) rfl (nz rfl rfl) ?_
                        obtain ⟨S, q105, H⟩ := IsW.frz (f := (eI .u8)) H 0 rfl hw102
                        replace H : Hp [] [] _ [] [] [(v95, rowO (eI .u8) 1 true (Sl.set (Str.bytes y62b.1) z96 (bXor .u8 y98 a3)))] := H
                        refine WO.step (v := (.str (Str.of (Sl.set (Str.bytes y62b.1) z96 (bXor .u8 y98 a3))))) rfl (yz (fz_W q105 rfl) (stp_text rfl (isSl_enc _ _) rfl rfl rfl)) ?_
                        obtain ⟨y106, hy106, h⟩ := bindS h
                        refine WO.step (v := (.tup [(encSl eS y106.1), (.int .i64 y106.2.1), (.int .i64 y106.2.2)])) rfl (nz rfl (stp_call (vs := [(.str (Str.of (Sl.set (Str.bytes y62b.1) z96 (bXor .u8 y98 a3))))]) rfl rfl (s9 _ hy106 rfl _))) ?_
                        refine WO.step (v := (.tup [(encSl eS y106.1), (.int .i64 y106.2.1), (.int .i64 y106.2.2)])) rfl (nz rfl rfl) ?_
                        refine WO.step (v := (encSl eS y106.1)) rfl (nz rfl rfl) ?_
                        refine WO.step (v := (.int .i64 y106.2.1)) rfl (nz rfl rfl) ?_
                        refine WO.step (v := (.int .i64 y106.2.2)) rfl (nz rfl rfl) ?_
                        refine WO.step (v := (encSl eS y106.1)) rfl (nz rfl rfl) ?_
                        refine WO.step (v := (.int .i64 y106.2.1)) rfl (nz rfl rfl) ?_
                        refine WO.step (v := (.int .i64 y106.2.2)) rfl (nz rfl rfl) ?_
                        refine WO.nil ?_
                        refine WC.seqR ?_
                        refine WO.step (v := (encSl eS y104.1)) rfl (nz rfl rfl) ?_
                        refine WO.step (v := (encSl eS y106.1)) rfl (nz rfl rfl) ?_
                        obtain ⟨y107, hy107, h⟩ := bindS h
                        refine WO.step (v := (.bool y107)) rfl (nz (fz_tmp' (isSl_enc _ _).frz (fz_tmp' (isSl_enc _ _).frz rfl)) (stp_call (vs := [(encSl eS y104.1), (encSl eS y106.1)]) rfl rfl (s14 _ hy107 (by simp only [strip_enc, List.map_cons, List.map_nil, tupled]) _))) ?_
                        refine WO.step (v := (.bool y107)) rfl (nz rfl rfl) ?_
                        refine WO.split 4 (fun σ' S' e' => Known ([(21, (.int .i64 y104.2.2)), (24, (.int .i64 y106.2.2)), (148, (.bool (y107 && (y104.2.1 == y106.2.1))))]) σ' ∧ Hp [] [] S' [] [] [(v95, rowO (eI .u8) 1 true (Sl.set (Str.bytes y62b.1) z96 (bXor .u8 y98 a3)))] ∧ e' = false) ?_ ?_
                        · revert H
                          cases hc108 : y107
                          · intro H
                            refine WO.by rfl rfl rfl ?_
                            refine WO.by rfl rfl rfl ?_
                            refine WO.by rfl rfl rfl ?_
                            refine WO.step (v := (.bool false)) rfl (nz rfl rfl) ?_
                            refine WO.nil ?_
                            exact ⟨(known_cons rfl (known_cons rfl (known_cons rfl known_nil))), H, rfl⟩
                          · intro H
                            refine WO.go0 rfl rfl ?_
                            refine WO.step (v := (.int .i64 y104.2.1)) rfl (nz rfl rfl) ?_
                            refine WO.go0 rfl rfl ?_
                            refine WO.step (v := (.int .i64 y106.2.1)) rfl (nz rfl rfl) ?_
                            refine WO.go0 rfl rfl ?_
                            refine WO.step (v := (.bool (y104.2.1 == y106.2.1))) rfl (nz rfl rfl) ?_
                            refine WO.step (v := (.bool (y104.2.1 == y106.2.1))) rfl (nz rfl rfl) ?_
                            refine WO.nil ?_
                            exact ⟨(known_cons rfl (known_cons rfl (known_cons rfl known_nil))), H, rfl⟩
                        · rintro σ S e ⟨hk, H, rfl⟩
                          refine WO.of_known hk ?_
                          refine WO.step (v := (.bool (y107 && (y104.2.1 == y106.2.1)))) rfl (nz rfl rfl) ?_
                          refine WO.split 4 (fun σ' S' e' => Known ([(153, (.bool ((y107 && (y104.2.1 == y106.2.1)) && (y104.2.2 == y106.2.2))))]) σ' ∧ Hp [] [] S' [] [] [(v95, rowO (eI .u8) 1 true (Sl.set (Str.bytes y62b.1) z96 (bXor .u8 y98 a3)))] ∧ e' = false) ?_ ?_
                          · revert H
                            cases hc109 : (y107 && (y104.2.1 == y106.2.1))
                            · intro H
                              refine WO.by rfl rfl rfl ?_
                              refine WO.by rfl rfl rfl ?_
                              refine WO.by rfl rfl rfl ?_
                              refine WO.step (v := (.bool false)) rfl (nz rfl rfl) ?_
                              refine WO.nil ?_
                              exact ⟨(known_cons rfl known_nil), H, rfl⟩
                            · intro H
                              refine WO.go0 rfl rfl ?_
                              refine WO.step (v := (.int .i64 y104.2.2)) rfl (nz rfl rfl) ?_
                              refine WO.go0 rfl rfl ?_
                              refine WO.step (v := (.int .i64 y106.2.2)) rfl (nz rfl rfl) ?_
                              refine WO.go0 rfl rfl ?_
                              refine WO.step (v := (.bool (y104.2.2 == y106.2.2))) rfl (nz rfl rfl) ?_
                              refine WO.step (v := (.bool (y104.2.2 == y106.2.2))) rfl (nz rfl rfl) ?_
                              refine WO.nil ?_
                              exact ⟨(known_cons rfl known_nil), H, rfl⟩
                          · rintro σ S e ⟨hk, H, rfl⟩
                            refine WO.of_known hk ?_
                            refine WO.step (v := (.bool ((y107 && (y104.2.1 == y106.2.1)) && (y104.2.2 == y106.2.2)))) rfl (nz rfl rfl) ?_
                            refine WO.nil ?_
                            refine WC.ret ?_
                            obtain rfl := Option.some.inj h
                            refine KB.ret (vs := [(.bool ((y107 && (y104.2.1 == y106.2.1)) && (y104.2.2 == y106.2.2)))]) (res_tmp rfl res_nil) (fl_cons' rfl rfl) ?_
                            exact rfl
end Go.Proofs.YtfpgfgpbjadoaaaDoor.M
