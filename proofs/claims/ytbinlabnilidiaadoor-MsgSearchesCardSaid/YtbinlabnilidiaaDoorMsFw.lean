/- Filters: what is few. -/
import Derived.Test.YtbinlabnilidiaaDoorMsX
import Derived.Test.YtbinlabnilidiaaDoorMsFb
namespace Go.Proofs.YtbinlabnilidiaaDoor.M
open Go Go.Pam
set_option maxRecDepth 20000
set_option linter.unusedVariables false
set_option linter.unusedSimpArgs false

end Go.Proofs.YtbinlabnilidiaaDoor.M
