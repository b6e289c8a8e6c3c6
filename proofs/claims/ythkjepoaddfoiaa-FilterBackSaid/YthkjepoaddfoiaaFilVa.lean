/- Filters: a filter that is few and true is printed. -/
import Derived.Test.YthkjepoaddfoiaaFilU
namespace Go.Proofs.Ythkjepoaddfoiaa.M
open Go Go.Pam
set_option maxRecDepth 20000
set_option linter.unusedVariables false
set_option linter.unusedSimpArgs false

theorem is_of {k n : Nat} {f : Fil} (hf : fewP n f) (hi : isS n f = true) (hc : cS n f ≤ 20) (hk : n + 200110 ≤ k) (hk2 : k < 1000000) : F12 k f = some true ∧ F13 k f = some (prS n f) ∧ F11 k f = some (prS n f) := by
 have e14 := f14 n k f hf (by omega)
 have e23 := f23 n k f hf (by omega) hk2
 have hI : F12 k f = some true := by
  unfold F12
  rw [bnd e14, if_pos (decide_eq_true hc), bnd e23, hi]
  rfl
 refine ⟨hI, ?_, f11 n k f hf hi hc hk hk2⟩
 unfold F13
 rw [bnd hI, if_neg (by simp), bnd (f24 n k f hf hi hc hk hk2)]

end Go.Proofs.Ythkjepoaddfoiaa.M
