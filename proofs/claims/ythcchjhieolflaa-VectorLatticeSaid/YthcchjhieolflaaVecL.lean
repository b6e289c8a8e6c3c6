/- VectorLattice from its plain form. -/
import Derived.Test.YthcchjhieolflaaVecB
import Derived.Test.YthcchjhieolflaaDVo
namespace Go.Proofs.Ythcchjhieolflaa.M
open Go Go.Pam
set_option linter.unusedVariables false
set_option linter.unusedSimpArgs false

theorem vectorLattice_true (a0 a1 a2 : Sl Api_CSN) (a3 : Api_CSN) (o0 : (Sl.l a0).length ≤ maxLen ∧ ∀ a ∈ Sl.l a0, Ok_Api_CSN a) (o1 : (Sl.l a1).length ≤ maxLen ∧ ∀ a ∈ Sl.l a1, Ok_Api_CSN a) (o2 : (Sl.l a2).length ≤ maxLen ∧ ∀ a ∈ Sl.l a2, Ok_Api_CSN a) (o3 : Ok_Api_CSN a3) : evw env 7 [encSl e_Api_CSN a0, encSl e_Api_CSN a1, encSl e_Api_CSN a2, e_Api_CSN a3] [] = some (.bool true, [], false) := by
  refine s7 60 (F7_true a0 a1 a2 a3) ?_ []
  simp only [List.map_cons, List.map_nil, strip_enc]
  rfl
end Go.Proofs.Ythcchjhieolflaa.M
