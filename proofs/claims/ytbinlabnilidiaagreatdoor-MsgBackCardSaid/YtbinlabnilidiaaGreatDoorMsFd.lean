/- (f42 is in MsFc again: it must stand beside sameS.) -/
import Derived.Test.YtbinlabnilidiaaGreatDoorMsFc
