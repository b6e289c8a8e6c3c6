/- What a run over unknown values may use. -/
import Derived.Test.YthcchjhieolflaaPam17
namespace Go.Pam

/-- How the store's operations stand to one another. -/
structure Stor (sn : List SObj → Nat) (sget : List SObj → Nat → Option SObj) (sset : List SObj → Nat → SObj → List SObj) (spush : List SObj → SObj → List SObj) (same : List SObj → List SObj → Bool → Bool) : Prop where
  getPush : ∀ S x i, sget (spush S x) i = if i = sn S then some x else sget S i
  getSet : ∀ S i x j, sget (sset S i x) j = if i = j then (if i < sn S then some x else none) else sget S j
  snPush : ∀ S x, sn (spush S x) = sn S + 1
  snSet : ∀ S i x, sn (sset S i x) = sn S
  lt : ∀ S i x, sget S i = some x → i < sn S

theorem real_stor {o : Prim} (h : o = real) : Stor o.sn o.sget o.sset o.spush o.same := by
  subst h
  refine ⟨fun S x i => ?_, fun S i x j => ?_, fun S x => by simp [real], fun S i x => by simp [real], fun S i x h => ?_⟩
  · show (S ++ [x])[i]? = if i = S.length then some x else S[i]?
    by_cases h : i = S.length
    · subst h; simp
    · rw [if_neg h]
      rcases Nat.lt_or_ge i S.length with hl | hl
      · rw [List.getElem?_append_left hl]
      · rw [List.getElem?_eq_none (by simp; omega), List.getElem?_eq_none hl]
  · show (S.set i x)[j]? = if i = j then (if i < S.length then some x else none) else S[j]?
    rw [List.getElem?_set]
  · simp only [real] at h
    exact (List.getElem?_eq_some_iff.1 h).1

/-- What was there is there as it was. -/
def Older (sn : List SObj → Nat) (sget : List SObj → Nat → Option SObj) (S S' : List SObj) : Prop := sn S ≤ sn S' ∧ ∀ i, i < sn S → sget S' i = sget S i

theorem Older.refl {sn : List SObj → Nat} {sget : List SObj → Nat → Option SObj} {S : List SObj} : Older sn sget S S := ⟨Nat.le_refl _, fun _ _ => rfl⟩
theorem Older.trans {sn : List SObj → Nat} {sget : List SObj → Nat → Option SObj} {S S' S'' : List SObj} (h : Older sn sget S S') (h' : Older sn sget S' S'') : Older sn sget S S'' :=
  ⟨Nat.le_trans h.1 h'.1, fun i hi => (h'.2 i (Nat.lt_of_lt_of_le hi h.1)).trans (h.2 i hi)⟩
end Go.Pam
