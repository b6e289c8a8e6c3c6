/- Filters: what is read is printed so. -/
import Derived.Test.YthkjepoaddfoiaaFilVa
import Derived.Test.YthkjepoaddfoiaaFDq
import Derived.Test.YthkjepoaddfoiaaFilK
namespace Go.Proofs.Ythkjepoaddfoiaa.M
open Go Go.Pam
set_option maxRecDepth 20000
set_option linter.unusedVariables false
set_option linter.unusedSimpArgs false

theorem empty_same {k : Nat} (hk : 200300 ≤ k) (hk2 : k < 1000000) : F17 k (Api_Filter.mk 0 [] [] none none) (Api_Filter.mk 0 [] [] none none) = some true := by
 have hf : fewP 1 (Api_Filter.mk 0 [] [] none none) := ⟨by simp [Sl.l], by simp, by simp, by simp [Sl.l], (fun v hv => by cases hv), (fun g hg => by cases hg)⟩
 rw [f17 1 k _ _ hf hf (by omega) hk2]
 rfl

theorem f19 {s : Str} (hs : s.length ≤ 160000) {k : Nat} (hk : 200300 ≤ k) (hk2 : k < 1000000) : F19 k s = some true := by
 unfold F19
 rcases f18 hs hk hk2 with h | ⟨f, h, h1, h2, h3, h4, h5⟩
 ·rw [bnd h, if_pos (by simp), if_pos (by simp), bnd (empty_same hk hk2)]
  rfl
 ·obtain ⟨q1, q2, q3⟩ := is_of h1 h2 h3 (show 22 + 200110 ≤ k by omega) hk2
  rw [h4] at q2 q3
  rw [bnd h, if_neg (by simp)]
  simp only
  rw [bnd q1, if_pos rfl, bnd q2]
  simp only [Option.bind_some, beq_self_eq_true, if_true]
  rw [bnd q3]
  simp

end Go.Proofs.Ythkjepoaddfoiaa.M
