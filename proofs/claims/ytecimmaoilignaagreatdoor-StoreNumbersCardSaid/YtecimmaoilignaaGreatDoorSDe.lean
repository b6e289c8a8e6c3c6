/- Part of the proof: the runs of functions on the abstract machine. -/
import Derived.Test.YtecimmaoilignaaGreatDoorPamM4
import Derived.Test.YtecimmaoilignaaGreatDoorSL
namespace Go.Proofs.YtecimmaoilignaaGreatDoor.M.L
open Go Go.Pam Go.RowKit Go.WideShapes
set_option maxRecDepth 4000
set_option linter.unusedVariables false
set_option linter.unusedSimpArgs false
structure Api_CSN where
  Time : Int
  Seq : Int
  Rep : Int
  deriving DecidableEq
structure Csn_Gen where
  last : Api_CSN
  deriving DecidableEq
end Go.Proofs.YtecimmaoilignaaGreatDoor.M.L
