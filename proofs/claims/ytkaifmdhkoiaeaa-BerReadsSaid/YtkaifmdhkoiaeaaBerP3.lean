/- Part of the proof: the runs of functions on the abstract machine. -/
import Derived.Test.YtkaifmdhkoiaeaaBerP2
namespace Go.Proofs.Ytkaifmdhkoiaeaa.M
open Go Go.Pam
theorem berReads_true (s : List UInt8) : evw env 3 [.str s] [] = some (.bool true, [], false) := s3 6000 (F3_true s) rfl []
end Go.Proofs.Ytkaifmdhkoiaeaa.M
