/- All of the functions' texts. -/
import Derived.Test.YtbinlabnilidiaaGreatDoorMDp
import Derived.Test.YtbinlabnilidiaaGreatDoorMDo
