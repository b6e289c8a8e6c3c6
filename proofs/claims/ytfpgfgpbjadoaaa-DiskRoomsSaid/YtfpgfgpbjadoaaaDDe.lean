/- Part of the proof: the runs of functions on the abstract machine. -/
import Derived.Test.YtfpgfgpbjadoaaaPamM4
import Derived.Test.YtfpgfgpbjadoaaaFns
namespace Go.Proofs.Ytfpgfgpbjadoaaa.M
open Go Go.Pam Go.RowKit Go.WideShapes
set_option maxRecDepth 4000
set_option linter.unusedVariables false
set_option linter.unusedSimpArgs false
def env : Env := ⟨ctx, fnOf, fun f => if f = 22 then some cloneH else if f = 16 then some listH else none⟩
end Go.Proofs.Ytfpgfgpbjadoaaa.M
