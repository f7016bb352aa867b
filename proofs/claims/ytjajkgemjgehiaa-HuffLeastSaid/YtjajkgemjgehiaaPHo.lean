import Derived.Test.YtjajkgemjgehiaaPHx0
import Derived.Test.YtjajkgemjgehiaaPHx1
import Derived.Test.YtjajkgemjgehiaaPHx2
import Derived.Test.YtjajkgemjgehiaaPHx3
/- The printed functions of this claim, those that build. -/
