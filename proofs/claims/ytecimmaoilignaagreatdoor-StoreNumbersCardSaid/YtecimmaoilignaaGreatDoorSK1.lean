/- The disk's functions walked: what a disk is in the store; off, step. -/
import Derived.Test.YtecimmaoilignaaGreatDoorPamM4
import Derived.Test.YtecimmaoilignaaGreatDoorSL
import Derived.Test.YtecimmaoilignaaGreatDoorSDe
namespace Go.Proofs.YtecimmaoilignaaGreatDoor.M.L
set_option linter.unusedVariables false
set_option linter.unusedSimpArgs false
open Go Go.Pam
set_option maxRecDepth 4000
structure DOp where
  name : Str
  b : Str
  put : Bool
def eOp (o : DOp) : PV := .agg [.str o.name, .str o.b, .bool o.put]
structure Dsk where
  room : Int
  kept : Mp Str
  now : Mp Str
  pend : List DOp
  steps : Int
  left : Int
abbrev dcell (j1 j2 : Nat) (v : PV) (d : Dsk) : List PV := [.int .i64 d.room, .map j1, .map j2, v, .int .i64 d.steps, .int .i64 d.left]
/-- What is pending. -/
inductive IsP (p : List DOp) : PV → SObj → Prop
  | nil (o : SObj) (h : p = []) : IsP p .nils o
  | row (r : Nat) (xs : List PV) (h : p.map eOp ++ xs.drop p.length = xs) : IsP p (.rsl r p.length) (.row xs 3 false)
abbrev DC (i j1 j2 : Nat) (v : PV) (d : Dsk) (C : List (Nat × SObj)) : List (Nat × SObj) := (i, SObj.cells (dcell j1 j2 v d)) :: (j1, encM eS d.kept) :: (j2, encM eS d.now) :: C
abbrev DH (S0 : List SObj) (R : List Nat) (S : List SObj) (i j1 j2 : Nat) (v : PV) (o : SObj) (d : Dsk) (C : List (Nat × SObj)) (A : List (PV × Nat)) (W : List (PV × SObj)) : Prop :=
  Hp S0 R S (DC i j1 j2 v d C) A ((v, o) :: W)
section
variable {S S0 : List SObj} {R : List Nat} {C : List (Nat × SObj)} {A : List (PV × Nat)} {W : List (PV × SObj)} {i j1 j2 : Nat} {v : PV} {o : SObj} {d d' : Dsk}
/-- What a method of a disk answers. -/
def DR (n : FuncId) (args : List PV) (r : PV) (S0 : List SObj) (R : List Nat) (S : List SObj) (i j1 j2 : Nat) (v : PV) (d' : Dsk) (C : List (Nat × SObj)) (A : List (PV × Nat)) (W : List (PV × SObj)) : Prop :=
  ∃ S' v' o' e, evw env n args S = some (r, S', e) ∧ IsP d'.pend v' o' ∧ DH S0 R S' i j1 j2 v' o' d' C A W ∧ (e = true ∨ Go.Pam.rowAt v' = Go.Pam.rowAt v)
theorem DR.of {n : FuncId} {pf : PFn} {args : List PV} {r : PV} (hi : env.intr n = none) (hf : env.fn n = some pf) (hl : Nat.ble args.length pf.ntmps = true) (hc : cleanL (args.map PV.strip) = false) (hr : (r.strip, r.clean) = (r, true))
    (H : DH S0 R S i j1 j2 v o d C A W)
    (h : WB env pf args S fun u S' e => u = r ∧ ∃ v' o', IsP d'.pend v' o' ∧ DH S0 R S' i j1 j2 v' o' d' C A W ∧ (e = true ∨ Go.Pam.rowAt v' = Go.Pam.rowAt v)) : DR n args r S0 R S i j1 j2 v d' C A W := by
  obtain ⟨q, h1, h2⟩ := evw_storeW (K := fun q => ∃ S' v' o' e, q = (r, S', e) ∧ IsP d'.pend v' o' ∧ DH S0 R S' i j1 j2 v' o' d' C A W ∧ (e = true ∨ Go.Pam.rowAt v' = Go.Pam.rowAt v)) hi hf (Nat.le_of_ble_eq_true hl) hc
    (WB.mono' h fun u S' e hu => by
      obtain ⟨rfl, v', o', hp, H', he⟩ := hu
      by_cases e0 : e = true
      · subst e0; exact ⟨S', v', o', true, by unfold leave; rw [if_neg (by simp)], hp, H', .inl rfl⟩
      · have e1 : e = false := by simpa using e0
        subst e1
        have hv : Go.Pam.rowAt v' = Go.Pam.rowAt v := he.elim (fun h => by cases h) id
        refine ⟨S'.take S.length, v', o', false, by unfold leave; rw [if_pos ⟨rfl, by rw [(Go.Pam.p2 hr).1]; exact (Go.Pam.p2 hr).2⟩, (Go.Pam.p2 hr).1], hp, ?_, .inr hv⟩
        have hC := H.ltC
        have hW := H.ltW
        refine H'.take _ H.len (fun p hp => ?_) H.ltA fun q hq id hid => ?_
        · simp only [List.mem_cons] at hp
          rcases hp with rfl | rfl | rfl | hp
          · exact hC (i, SObj.cells (dcell j1 j2 v d)) (by simp)
          · exact hC (j1, encM eS d.kept) (by simp)
          · exact hC (j2, encM eS d.now) (by simp)
          · exact hC p (by simp [hp])
        · simp only [List.mem_cons] at hq
          rcases hq with rfl | hq
          · exact hW (v, o) (by simp) id (by rw [← hv]; exact hid)
          · exact hW q (by simp [hq]) id hid)
  obtain ⟨S', v', o', e, rfl, h3⟩ := h2
  exact ⟨S', v', o', e, h1, h3⟩
theorem off_dk (H : DH S0 R S i j1 j2 v o d C A W) : evw env 97 [.ptr i 0] S = some (.bool (d.left == 0), S, false) := by
  refine evw_roW (pf := fn97) rfl rfl rfl rfl rfl (WB.of (pf := fn97) rfl ?_)
  refine WC.seqR (us 1 rfl (WO.nil ?_))
  refine WC.seqR (us 3 rfl ?_)
  refine Wg H 0 rfl ?_
  refine us 2 rfl (WO.nil ?_)
  exact WC.ret (Kr (.bool (d.left == 0)) rfl ⟨rfl, rfl, rfl⟩)
def Dsk.step (d : Dsk) : Dsk := { d with steps := ad .i64 d.steps 1, left := if decide (d.left > 0) then sb .i64 d.left 1 else d.left }
theorem step_dk (hp : IsP d.pend v o) (H : DH S0 R S i j1 j2 v o d C A W) : DR 100 [.ptr i 0] (.int .i64 0) S0 R S i j1 j2 v d.step C A W := by
  refine DR.of (pf := fn100) rfl rfl rfl rfl rfl H (WB.of (pf := fn100) rfl ?_)
  refine WC.seqR (us 1 rfl (WO.nil ?_))
  refine WC.seqR (us 3 rfl ?_)
  refine Wg H 0 rfl ?_
  refine us 3 rfl ?_
  refine WO.stc 0 H (cs' := dcell j1 j2 v { d with steps := ad .i64 d.steps 1 }) rfl fun S1 H => ?_
  refine WO.nil ?_
  refine WC.seq ?_
  refine WC.seqR (us 3 rfl ?_)
  refine Wg H 0 rfl ?_
  refine us 1 rfl (WO.nil ?_)
  by_cases hc : decide (d.left > 0) = true
  · refine WC.condT rfl hc ?_
    refine WC.region (us 3 rfl ?_)
    refine Wg H 0 rfl ?_
    refine us 3 rfl ?_
    refine WO.stc 0 H (cs' := dcell j1 j2 v d.step) (by unfold Dsk.step; rw [hc]; rfl) fun S1 H => ?_
    refine WO.nil ?_
    refine WC.seqR (us 1 rfl (WO.nil ?_))
    exact WC.ret (Kr (.int .i64 0) rfl ⟨rfl, v, o, hp, H, .inr rfl⟩)
  · have hc : decide (d.left > 0) = false := by simpa using hc
    refine WC.condF rfl hc ?_
    refine WC.skip ?_
    refine WC.seqR (us 1 rfl (WO.nil ?_))
    refine WC.ret (Kr (.int .i64 0) rfl ⟨rfl, v, o, hp, ?_, .inr rfl⟩)
    have e : d.step = { d with steps := ad .i64 d.steps 1 } := by unfold Dsk.step; rw [hc]; rfl
    rw [e]; exact H
end
end Go.Proofs.YtecimmaoilignaaGreatDoor.M.L
