/- All of the functions. -/
import Derived.Test.YtbinlabnilidiaaGreatDoorMDt
import Derived.Test.YtbinlabnilidiaaGreatDoorMDo
