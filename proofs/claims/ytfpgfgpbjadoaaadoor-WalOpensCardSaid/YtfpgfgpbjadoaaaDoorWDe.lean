/- Part of the proof: the runs of functions on the abstract machine. -/
import Derived.Test.YtfpgfgpbjadoaaaDoorPamM4
import Derived.Test.YtfpgfgpbjadoaaaDoorFns
namespace Go.Proofs.YtfpgfgpbjadoaaaDoor.M
open Go Go.Pam Go.RowKit Go.WideShapes
set_option maxRecDepth 4000
set_option linter.unusedVariables false
set_option linter.unusedSimpArgs false
def env : Env := ⟨ctx, fnOf, fun f => if f = 22 then some (isFltH 24 51) else if f = 23 then some (asPtrH 51 54) else if f = 27 then some cloneH else if f = 37 then some (wsH 88 5) else if f = 38 then some (stH 88 5) else none⟩
end Go.Proofs.YtfpgfgpbjadoaaaDoor.M
