/- VectorTells from its plain form. -/
import Derived.Test.YthcchjhieolflaaVecR
import Derived.Test.YthcchjhieolflaaDVt
import Derived.Test.YthcchjhieolflaaDVo
namespace Go.Proofs.Ythcchjhieolflaa.M
open Go Go.Pam
set_option linter.unusedVariables false

theorem vectorTells_true (a0 a1 : Sl Api_CSN) (a2 : Api_CSN) (a3 : Int) (o0 : (Sl.l a0).length ≤ maxLen ∧ ∀ a ∈ Sl.l a0, Ok_Api_CSN a) (o1 : (Sl.l a1).length ≤ maxLen ∧ ∀ a ∈ Sl.l a1, Ok_Api_CSN a) (o2 : Ok_Api_CSN a2) (o3 : (Lit.int .i64 a3).wf = true) : evw env 6 [encSl e_Api_CSN a0, encSl e_Api_CSN a1, e_Api_CSN a2, .int .i64 a3] [] = some (.bool true, [], false) := by
  refine s6 60 (F6_true a0 a1 a2 a3) ?_ []
  simp only [List.map_cons, List.map_nil, strip_enc]
  rfl
end Go.Proofs.Ythcchjhieolflaa.M
