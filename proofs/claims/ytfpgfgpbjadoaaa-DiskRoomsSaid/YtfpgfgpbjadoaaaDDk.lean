/- The known answers: the machine's run, by evaluation. -/
import Derived.Test.YtfpgfgpbjadoaaaPamM4
import Derived.Test.YtfpgfgpbjadoaaaFns
import Derived.Test.YtfpgfgpbjadoaaaDDe
import Derived.Tactics
namespace Go.Proofs.Ytfpgfgpbjadoaaa.M
open Go Go.Pam Go.RowKit Go.WideShapes
set_option maxRecDepth 100000
set_option linter.unusedVariables false
set_option linter.unusedSimpArgs false
theorem run7 (n : Nat) (S : List SObj) : ev env (n + 6000) 7 [] S = some (.bool true, S, false) := by kernel_rfl
def F7 (k : Nat) : Option Bool := some true
theorem s7 : ∀ k : Nat, ∀ {r : Bool}, F7 k  = some r → ∀ {vs : List PV}, vs.map PV.strip = [] → ∀ S : List SObj, evw env 7 vs S = some ((.bool r), S, false) := by
  intro k r h vs hv S
  obtain rfl := List.map_eq_nil_iff.1 hv
  obtain rfl := Option.some.inj h
  refine lim_of 6000 fun k' hk' => ?_
  have h2 := run7 (k' - 6000) S
  rwa [Nat.sub_add_cancel hk'] at h2
end Go.Proofs.Ytfpgfgpbjadoaaa.M
