/- Filters: what is known of them by running it. -/
import Derived.Test.YthkjepoaddfoiaaFilA
import Derived.Tactics
namespace Go.Proofs.Ythkjepoaddfoiaa.M
set_option linter.unusedVariables false
set_option linter.unusedSimpArgs false
open Go Go.Pam
set_option maxRecDepth 20000
theorem known7 : F8 300000 = some true := by kernel_rfl
end Go.Proofs.Ythkjepoaddfoiaa.M
