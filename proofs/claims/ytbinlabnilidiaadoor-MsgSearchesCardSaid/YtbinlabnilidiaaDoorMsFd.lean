/- (f20 is in MsFc again: it must stand beside sameS.) -/
import Derived.Test.YtbinlabnilidiaaDoorMsFc
