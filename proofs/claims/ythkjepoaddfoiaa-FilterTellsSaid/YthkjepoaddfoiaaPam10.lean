/- Soundness of the single steps, fifth part: binary operations, composites, append. -/
import Derived.Test.YthkjepoaddfoiaaPam9
namespace Go.Pam
set_option linter.unusedVariables false
set_option linter.unusedSimpArgs false
open Go.RowKit

section
variable {P : Program} {ctx : Ctx} {S : List SObj} {g : G} {w : World} {n : Nat}

theorem eqIn_agg (hc : CtxTy P ctx) {d : Nat} {t : TypeId} {xs ys : List PV} {r : Bool} (h : eqIn ctx d t (.agg xs) (.agg ys) = some r) : P.eqGuardType P.depth t = false := by
  cases d with
  | zero => simp [eqIn] at h
  | succ d =>
    unfold eqIn at h
    split at h
    · cases h
    rename_i ti hti
    split at h <;> first
      | (rename_i h1 h2; cases h1; done)
      | skip
    all_goals first
      | (split at h
         · rename_i hok
           exact ((hc.ty _ _ hti).eqok hok).1
         · cases h)
      | cases h

theorem eqIn_poison {d : Nat} {t : TypeId} {x y : PV} {r : Bool} (h : eqIn ctx d t x y = some r) : x ≠ .poison ∧ y ≠ .poison := by
  cases d with
  | zero => simp [eqIn] at h
  | succ d =>
    constructor
    · rintro rfl
      unfold eqIn at h
      split at h
      · cases h
      split at h <;> first
        | (rename_i q1 q2 q3; cases q2; done)
        | (rename_i q1 q2; cases q2; done)
        | (rename_i q1 q2; cases q1; done)
        | (rename_i q1; cases q1; done)
        | cases h
    · rintro rfl
      unfold eqIn at h
      split at h
      · cases h
      split at h <;> first
        | (rename_i q1 q2 q3; cases q3; done)
        | (rename_i q1 q2; cases q2; done)
        | (rename_i q1 q2; cases q1; done)
        | (rename_i q1; cases q1; done)
        | cases h

theorem eqGuard_run (hc : CtxTy P ctx) {op : BinOp} {t : TypeId} {xo yo : Operand} {x y : PV} {v v' : Value} {r : Bool} {d : Nat} (hx : V g w n x v) (hy : V g w n y v')
    (hg : eqGuardOk xo yo x y = true) (h : eqIn ctx d t x y = some r) : (eqGuard op t xo yo v v').run P w = .ok () w := by
  obtain ⟨p1, p2⟩ := eqIn_poison h
  by_cases h1 : v = .nilIface ∧ v' = .nilIface
  · obtain ⟨rfl, rfl⟩ := h1
    have ex : x = .nili := by cases hx <;> first | rfl | exact absurd rfl p1
    have ey : y = .nili := by cases hy <;> first | rfl | exact absurd rfl p2
    subst ex; subst ey
    simp only [eqGuardOk, Bool.or_eq_true] at hg
    cases xo with
    | const c => cases op <;> rfl
    | _ =>
      cases yo with
      | const c => cases op <;> rfl
      | _ => simp at hg
  · by_cases h2 : ∃ cs ds, v = .agg cs ∧ v' = .agg ds
    · obtain ⟨cs, ds, rfl, rfl⟩ := h2
      have ex : ∃ z, x = .agg z := by cases hx <;> first | exact ⟨_, rfl⟩ | exact absurd rfl p1
      have ey : ∃ z, y = .agg z := by cases hy <;> first | exact ⟨_, rfl⟩ | exact absurd rfl p2
      obtain ⟨_, rfl⟩ := ex
      obtain ⟨_, rfl⟩ := ey
      have := eqIn_agg hc h
      cases op <;> first | rfl | simp [eqGuard, this]
    · cases op <;> try rfl
      all_goals (cases v <;> try rfl)
      all_goals (cases v' <;> first | rfl | (exfalso; exact h1 ⟨rfl, rfl⟩) | (exfalso; exact h2 ⟨_, _, rfl, rfl⟩))

def other (v v' : Value) : Prop := (∀ k a k' b, v = .int k a → v' = .int k' b → False) ∧ (∀ a b, v = .string a → v' = .string b → False) ∧ (∀ k a, v ≠ .float k a) ∧ (∀ k a b, v ≠ .complex k a b)

theorem binOp_eql {t : TypeId} {v v' : Value} (h : other v v') : binOp .eql t v v' = (do pure (.bool (← Op.equal t v v'))) := by
  obtain ⟨h1, h2, h3, h4⟩ := h
  cases v <;> cases v' <;> first
    | rfl
    | exact (h1 _ _ _ _ rfl rfl).elim
    | exact (h2 _ _ rfl rfl).elim
    | exact (h3 _ _ rfl).elim
    | exact (h4 _ _ _ rfl).elim

theorem binOp_neq {t : TypeId} {v v' : Value} (h : other v v') : binOp .neq t v v' = (do pure (.bool (!(← Op.equal t v v')))) := by
  obtain ⟨h1, h2, h3, h4⟩ := h
  cases v <;> cases v' <;> first
    | rfl
    | exact (h1 _ _ _ _ rfl rfl).elim
    | exact (h2 _ _ rfl rfl).elim
    | exact (h3 _ _ rfl).elim
    | exact (h4 _ _ _ rfl).elim

theorem other_of {x y : PV} {v v' : Value} (hx : V g w n x v) (hy : V g w n y v') (p1 : x ≠ .poison) (p2 : y ≠ .poison)
    (h1 : ∀ k a k' b, x = .int k a → y = .int k' b → False) (h2 : ∀ a b, x = .str a → y = .str b → False) : other v v' := by
  refine ⟨?_, ?_, ?_, ?_⟩
  · rintro k a k' b rfl rfl
    cases hx with
    | poison => exact p1 rfl
    | int => cases hy with
      | poison => exact p2 rfl
      | int => exact h1 _ _ _ _ rfl rfl
  · rintro a b rfl rfl
    cases hx with
    | poison => exact p1 rfl
    | str => cases hy with
      | poison => exact p2 rfl
      | str => exact h2 _ _ rfl rfl
  · rintro k a rfl
    cases hx
    exact p1 rfl
  · rintro k a b rfl
    cases hx
    exact p1 rfl

theorem binPV_sound (hc : CtxTy P ctx) {op : BinOp} {t : TypeId} {xo yo : Operand} {x y z : PV} {v v' : Value} (hx : V g w n x v) (hy : V g w n y v') (h : binPV ctx op t xo yo x y = some z) :
    ∃ u, ((do eqGuard op t xo yo v v'; binOp op t v v') : Sem Value).run P w = .ok u w ∧ V g w n z u := by
  unfold binPV at h
  split at h
  · rename_i k a k' b
    rw [hx.inv_int, hy.inv_int]
    obtain ⟨u, h1, h2⟩ := shiftOp_sound (P := P) (g := g) (w := w) (n := n) (k' := k') h
    exact ⟨u, by simpa [eqGuard_at_int, binOp] using h1, h2⟩
  · rename_i k a k' b
    rw [hx.inv_int, hy.inv_int]
    obtain ⟨u, h1, h2⟩ := shiftOp_sound (P := P) (g := g) (w := w) (n := n) (k' := k') h
    exact ⟨u, by simpa [eqGuard_at_int, binOp] using h1, h2⟩
  · rename_i k a k' b hsl hsr
    rw [hx.inv_int, hy.inv_int]
    split at h
    · cases h
    rename_i hk
    simp only [Decidable.not_not] at hk
    subst hk
    have e1 : op ≠ .shl := by rintro rfl; exact hsl rfl
    have e2 : op ≠ .shr := by rintro rfl; exact hsr rfl
    obtain ⟨u, h1, h2⟩ := intOp_sound (P := P) (g := g) (w := w) (n := n) e1 e2 t h
    exact ⟨u, by simpa [eqGuard_at_int] using h1, h2⟩
  · rename_i a b
    obtain ⟨s, rfl, rfl⟩ := hx.inv_str
    obtain ⟨s', rfl, rfl⟩ := hy.inv_str
    obtain ⟨u, h1, h2⟩ := strOp_sound (P := P) (g := g) (w := w) (n := n) h
    exact ⟨u, by simpa [eqGuard_at_string, binOp] using h1, h2⟩
  · split at h
    case isFalse => cases h
    rename_i hg
    cases he : eqIn ctx 40 t x y with
    | none => simp [he] at h
    | some r =>
      simp [he] at h; subst h
      have h1 := eqGuard_run hc (op := .eql) hx hy hg he
      have h2 := eqIn_sound hc 40 t x y v v' r Op.maxDepth (by decide) hx hy he
      obtain ⟨p1, p2⟩ := eqIn_poison he
      have ho := other_of hx hy p1 p2 (by rintro k a k' b rfl rfl; simp_all; rename_i q; exact q k a k' b rfl rfl rfl rfl) (by rintro a b rfl rfl; simp_all)
      refine ⟨.bool r, ?_, .bool r⟩
      simp only [Sem.run_bind, h1, Result.andThen_ok, binOp_eql ho, Op.equal, h2, Sem.run_pure]
  · split at h
    case isFalse => cases h
    rename_i hg
    cases he : eqIn ctx 40 t x y with
    | none => simp [he] at h
    | some r =>
      simp [he] at h; subst h
      have h1 := eqGuard_run hc (op := .neq) hx hy hg he
      have h2 := eqIn_sound hc 40 t x y v v' r Op.maxDepth (by decide) hx hy he
      obtain ⟨p1, p2⟩ := eqIn_poison he
      have ho := other_of hx hy p1 p2 (by rintro k a k' b rfl rfl; simp_all; rename_i q; exact q k a k' b rfl rfl rfl rfl) (by rintro a b rfl rfl; simp_all)
      refine ⟨.bool !r, ?_, .bool _⟩
      simp only [Sem.run_bind, h1, Result.andThen_ok, binOp_neq ho, Op.equal, h2, Sem.run_pure]
  · cases h

theorem unPV_sound {op : UnOp} {x z : PV} {v : Value} (hx : V g w n x v) (h : unPV op x = some z) : ∃ u, (Op.unary op v).run P w = .ok u w ∧ V g w n z u := by
  unfold unPV at h
  split at h
  · rename_i k i
    rw [hx.inv_int]
    injection h with h; subst h
    exact ⟨_, rfl, .int _ _⟩
  · rename_i k i
    rw [hx.inv_int]
    obtain ⟨j, rfl, h1⟩ := bitsOf_sound (P := P) (w := w) h
    exact ⟨_, h1, .int _ _⟩
  · rename_i b
    rw [hx.inv_bool]
    injection h with h; subst h
    exact ⟨_, rfl, .bool _⟩
  · cases h
end
end Go.Pam
