/- Part of the proof: the runs of functions on the abstract machine. -/
import Derived.Test.YtecimmaoilignaaGreatDoorPamM4
import Derived.Test.YtecimmaoilignaaGreatDoorSL
import Derived.Test.YtecimmaoilignaaGreatDoorSDe
import Derived.Test.YtecimmaoilignaaGreatDoorSDc
namespace Go.Proofs.YtecimmaoilignaaGreatDoor.M.L
open Go Go.Pam Go.RowKit Go.WideShapes
set_option maxRecDepth 4000
set_option linter.unusedVariables false
set_option linter.unusedSimpArgs false
-- 49 prefect/wal.packs
def F49_L0 (k : Nat) (a33 : Sl Str) (a34 : Int) : Nat → Int → Str → Option (Int × Str)
  | 0, _, _ => none
  | n + 1, x35, w32 =>
    if decide (x35 < a34) then
    Option.bind (Sl.at? a33 x35) fun y41 =>
    Option.bind (F95 k y41) fun y42 =>
    Option.bind (Str.put? w32 y42) fun z44 =>
    F49_L0 k a33 a34 n (ad .i64 x35 1) z44
    else
    some (x35, w32)
/-- prefect/wal.packs -/
def F49 (k : Nat) (a0 : Sl Str) : Option Str :=
  Option.bind (F49_L0 k a0 (Sl.len a0) k 0 []) fun y47 =>
  some y47.2
theorem l49_L0 {k : Nat} {a33 : Sl Str} {a34 : Int} {S0 : List SObj} {R : List Nat} {K : KX} {i1 : Nat}  {o : (Int × Str)}
    (hbrk : ∀ {σ' : Nat → PV} {S' : List SObj}, ∀ (v46 : PV) (_ : IsBd o.2 v46), Known [(3, (.ptr i1 0))] σ' → Hp S0 R S' [(i1, bdO 168 v46)] [] [(v46, .buf o.2 5)] → K (.exit 0) σ' S' true) :
    ∀ {n : Nat} {x35 : Int} {w32 : Str}, F49_L0 k a33 a34 n x35 w32 = some o → ∀ {σ : Nat → PV} {S : List SObj}, ∀ (v31 : PV) (_ : IsBd w32 v31), Known [(3, (.ptr i1 0)), (6, (encSl eS a33)), (7, (.int .i64 a34)), (8, (.int .i64 x35))] σ → Hp S0 R S [(i1, bdO 168 v31)] [] [(v31, .buf w32 5)] → WC env ⟨17, S0.length⟩ (.loop pc49L0) σ S true K := by
  intro n
  induction n with
  | zero => intro _ _ h; cases h
  | succ n ih =>
    intro x35 w32 h σ S v31 hv31 hk H
    rw [F49_L0] at h
    refine WC.loop ?_
    refine WC.of_known hk ?_
    refine WC.seqR ?_
    refine WO.step (v := (.bool (decide (x35 < a34)))) rfl (nz rfl rfl) ?_
    refine WO.nil ?_
    refine WC.seq ?_
    rcases iteS h with ⟨hc45, h⟩ | ⟨hc45, h⟩
    · refine WC.condT rfl hc45 ?_
      refine WC.skip ?_
      refine KX.seq_n ?_
      refine WC.seq ?_
      refine WC.block ?_
      refine WC.seqR ?_
      obtain ⟨y41, hy41, h⟩ := bindS h
      refine WO.step (v := (.iptr [(.str y41)] 0)) rfl (nz rfl (stp_idxAddr rfl (isSl_enc _ _) rfl rfl rfl hy41 rfl rfl)) ?_
      refine WO.step (v := (.str y41)) rfl (nz rfl rfl) ?_
      refine WO.step (v := (.str y41)) rfl (nz rfl rfl) ?_
      refine WO.nil ?_
      refine WC.region ?_
      refine WO.step (v := (.str y41)) rfl (nz rfl rfl) ?_
      obtain ⟨y42, hy42, h⟩ := bindS h
      refine WO.step (v := (.str y42)) rfl (nz rfl (stp_call (vs := [(.str y41)]) rfl rfl (s95 _ hy42 rfl _))) ?_
      obtain ⟨z44, hz44, h⟩ := bindS h
      refine WO.bdW rfl (call_bdS 0 0 rfl rfl rfl H rfl rfl rfl hv31 hz44) ?_
      rintro v43 S ⟨hv43, H⟩
      replace H : Hp S0 R _ [(i1, bdO 168 v43)] [] [(v43, .buf z44 5)] := H
      refine WO.nil ?_
      refine KX.block_n ?_
      refine KX.seq_n ?_
      refine WC.region ?_
      refine WO.step (v := (.int .i64 (ad .i64 x35 1))) rfl (nz rfl rfl) ?_
      refine WO.step (v := (.int .i64 (ad .i64 x35 1))) rfl (nz rfl rfl) ?_
      refine WO.nil ?_
      refine KX.seq_n ?_
      exact ih h v43 (hv43) (known_cons rfl (known_cons rfl (known_cons rfl (known_cons rfl known_nil)))) (H.sub (.cons_cons _ .slnil) .slnil (.cons_cons _ .slnil))
    · refine WC.condF rfl hc45 ?_
      refine WC.exit ?_
      refine KX.seq_x ?_
      refine KX.seq_x ?_
      obtain rfl := Option.some.inj h
      exact hbrk v31 (hv31) (known_cons rfl known_nil) (H.sub (.cons_cons _ .slnil) .slnil (.cons_cons _ .slnil))
theorem s49 : ∀ k : Nat, ∀ {a0 : Sl Str} {r : Str}, F49 k a0 = some r → ∀ {vs : List PV}, vs.map PV.strip = [(encSl eS a0)] → ∀ S : List SObj, evw env 49 vs S = some ((.str r), S, false) := by
  intro k a0 r h vs ha S
  unfold F49 at h
  refine evw_pureW (pf := fn49) rfl rfl ha (Nat.le_of_ble_eq_true rfl) (by simp [PV.clean, cleanL, clean_encSl clean_eS]) rfl ?_
  refine WB.ofE (K := fun v _ => v.strip = _) (pf := fn49) rfl ?_
  have H := Hp.start []
  refine WC.seqR ?_
  refine WO.step (v := (.str [])) rfl (nz rfl rfl) ?_
  refine WO.nil ?_
  refine WC.seqR ?_
  refine WO.bdNew (ti := ty168) 5 rfl H rfl rfl rfl ?_
  intro i1 S hi1 H
  replace H : Hp [] [] _ [(i1, bdO 168 .poison)] [] [(.poison, .buf [] 5)] := H
  refine WO.nil ?_
  refine WC.seq ?_
  refine WC.seqR ?_
  refine WO.step (v := (encSl eS a0)) rfl (nz rfl rfl) ?_
  refine WO.step (v := (.int .i64 (Sl.len a0))) rfl (nz rfl (stp_len rfl (isSl_enc _ _) rfl)) ?_
  refine WO.step (v := (.int .i64 0)) rfl (nz rfl rfl) ?_
  refine WO.nil ?_
  obtain ⟨y47, hy47, hOy47⟩ := bindS h
  refine WC.block ?_
  refine l49_L0 ?_ hy47 .poison (isBd_new) (known_cons rfl (known_cons rfl (known_cons rfl (known_cons rfl known_nil)))) (H.sub (.cons_cons _ .slnil) .slnil (.cons_cons _ .slnil))
  · intro σ S v48 hv48 hk H; replace h := hOy47
    refine KX.of_known hk ?_
    refine KX.block_x ?_
    refine KX.seq_n ?_
    refine WC.seqR ?_
    refine WO.bdT rfl (call_bdT 0 0 rfl rfl rfl H rfl rfl rfl hv48) ?_
    intro S H
    replace H : Hp [] [] _ [] [] [] := H
    refine WO.step (v := (.str y47.2)) rfl (nz rfl rfl) ?_
    refine WO.nil ?_
    refine WC.ret ?_
    obtain rfl := Option.some.inj h
    refine KB.ret (vs := [(.str y47.2)]) (res_tmp rfl res_nil) (fl_cons' rfl rfl) ?_
    exact rfl
end Go.Proofs.YtecimmaoilignaaGreatDoor.M.L
