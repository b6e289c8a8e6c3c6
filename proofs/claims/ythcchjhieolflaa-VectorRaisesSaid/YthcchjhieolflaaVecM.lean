/- VectorRaises from its plain form. -/
import Derived.Test.YthcchjhieolflaaVecC
import Derived.Test.YthcchjhieolflaaDVo
namespace Go.Proofs.Ythcchjhieolflaa.M
open Go Go.Pam
set_option linter.unusedVariables false
set_option linter.unusedSimpArgs false

theorem vectorRaises_true (a0 : Sl Api_CSN) (a1 : Api_CSN) (o0 : (Sl.l a0).length ≤ maxLen ∧ ∀ a ∈ Sl.l a0, Ok_Api_CSN a) (o1 : Ok_Api_CSN a1) : evw env 8 [encSl e_Api_CSN a0, e_Api_CSN a1] [] = some (.bool true, [], false) := by
  refine s8 60 (F8_true a0 a1) ?_ []
  simp only [List.map_cons, List.map_nil, strip_enc]
  rfl
end Go.Proofs.Ythcchjhieolflaa.M
