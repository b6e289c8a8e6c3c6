/- Filters: a text's reading gives back what was printed. -/
import Derived.Test.YthkjepoaddfoiaaFilZa
import Derived.Test.YthkjepoaddfoiaaFilVa
namespace Go.Proofs.Ythkjepoaddfoiaa.M
open Go Go.Pam
set_option maxRecDepth 20000
set_option linter.unusedVariables false
set_option linter.unusedSimpArgs false

theorem all_K2 {n : Nat} {full : List Fil} : ∀ {l m : List Fil} (i : Nat), l.length = m.length → (∀ j, m[j]? = full[i + j]?) → allFrom (fun i x => match full[i]? with | some y => sameS n x y | none => false) i l = true → K2 n l m
 | [], [], i, _, _, _ => .nil
 | f :: l, g :: m, i, hl, hf, h => by
  have h0 : full[i]? = some g := by have := hf 0; simpa using this.symm
  have h' : ((match full[i]? with | some y => sameS n f y | none => false) && allFrom (fun i x => match full[i]? with | some y => sameS n x y | none => false) (i + 1) l) = true := h
  rw [h0, Bool.and_eq_true] at h'
  exact .cons h'.1 (all_K2 (i + 1) (by simpa using hl) (fun j => by have := hf (j + 1); rw [show i + 1 + j = i + (j + 1) by omega]; simpa using this) h'.2)

theorem K2.eqs {n : Nat} (ih : ∀ f g, sameS n f g = true → isS n g = isS n f ∧ cS n g = cS n f ∧ prS n g = prS n f) {l m : List Fil} (h : K2 n l m) : m.all (isS n) = l.all (isS n) ∧ m.map (cS n) = l.map (cS n) ∧ m.flatMap (prS n) = l.flatMap (prS n) := by
 induction h with
 | nil => exact ⟨rfl, rfl, rfl⟩
 | cons h1 _ ih2 =>
  obtain ⟨a, b, c⟩ := ih _ _ h1
  obtain ⟨a', b', c'⟩ := ih2
  exact ⟨by rw [List.all_cons, List.all_cons, a, a'], by rw [List.map_cons, List.map_cons, b, b'], by rw [List.flatMap_cons, List.flatMap_cons, c, c']⟩

theorem same_eq : ∀ (n : Nat) (f g : Fil), sameS n f g = true → isS n g = isS n f ∧ cS n g = cS n f ∧ prS n g = prS n f
 | 0, f, g, h => by cases h
 | n + 1, f, g, h => by
  rw [sameS] at h
  simp only [Bool.and_eq_true, decide_eq_true_eq, beq_iff_eq] at h
  obtain ⟨⟨⟨⟨⟨h1, h2⟩, h3⟩, h4⟩, h5⟩, h6⟩ := h
  have hk := all_K2 0 h5 (fun j => by rw [Nat.zero_add]) h6
  obtain ⟨e1, e2, e3⟩ := hk.eqs (same_eq n)
  refine ⟨?_, ?_, ?_⟩
  ·rw [isS, isS, ← h1, ← h2, ← h3, ← h4, ← h5, e1]
  ·rw [cS, cS, ← h1, e2]
  ·rw [prS, prS, ← h1, ← h2, ← h3, ← h4, e3]

theorem back {f : Fil} (hf : fewP 22 f) (hi : isS 22 f = true) (hc : cS 22 f ≤ 20) (hl : (prS 22 f).length ≤ 160000) {k : Nat} (hk : 200300 ≤ k) (hk2 : k < 1000000) :
  ∃ g, F18 k (prS 22 f) = some (g, 0) ∧ F17 k f g = some true ∧ fewP 22 g ∧ sameS 22 f g = true := by
 have hat : At ⟨prS 22 f, 0, 20, false⟩ (prS 22 f ++ []) := ⟨rfl, Int.le_refl _, by simp⟩
 obtain ⟨g, g1, g2⟩ := rb 22 k (by omega) f ⟨prS 22 f, 0, 20, false⟩ [] hi hc (Int.le_refl _) hat hl
 obtain ⟨r', f', c1, c2, c3, c4, c5, c6, c7⟩ := f28 hl 20 k (by omega) (by omega) ⟨prS 22 f, 0, 20, false⟩ ⟨rfl, Int.le_refl _, (show (0 : Int) ≤ ((prS 22 f).length : Int) + 3 by omega), fun _ => (show (0 : Int) ≤ ((prS 22 f).length : Int) by omega)⟩ (show (0 : Int) ≤ ((prS 22 f).length : Int) by omega) (by simp) (by simp)
 rw [g1] at c1
 injection c1 with c1
 injection c1 with c1 c1'
 subst c1'
 obtain ⟨s1, s2, s3⟩ := same_eq 22 f g g2
 obtain ⟨q1, q2, q3⟩ := is_of (k := k) c7 (s1.trans hi) (by rw [s2]; exact hc) (by omega) hk2
 obtain ⟨p, hp⟩ := prS_head hi
 refine ⟨g, ?_, ?_, c7, g2⟩
 ·unfold F18
  rw [bnd g1]
  have hne : ((fwdL ⟨prS 22 f, 0, 20, false⟩ (prS 22 f).length (cS 22 f)).fails || (prS 22 f == [])) = false := by
   rw [hp]; rfl
  simp only
  rw [hne, if_neg (by simp), bnd q2, s3]
  simp
 ·rw [f17 22 k f g hf c7 (by omega) hk2, g2]
end Go.Proofs.Ythkjepoaddfoiaa.M
