/- All of the functions. -/
import Derived.Test.YtbinlabnilidiaaDoorMDe
import Derived.Test.YtbinlabnilidiaaDoorMDc
import Derived.Test.YtbinlabnilidiaaDoorMDc1
import Derived.Test.YtbinlabnilidiaaDoorMDw
import Derived.Test.YtbinlabnilidiaaDoorMDr
import Derived.Test.YtbinlabnilidiaaDoorMDd
import Derived.Test.YtbinlabnilidiaaDoorMDd1
import Derived.Test.YtbinlabnilidiaaDoorMDk
import Derived.Test.YtbinlabnilidiaaDoorMDq
