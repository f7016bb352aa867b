import Derived.Test.YtjbckpfhenogiaaPHx0
import Derived.Test.YtjbckpfhenogiaaPHx1
import Derived.Test.YtjbckpfhenogiaaPHx2
/- The printed functions of this claim, those that build. -/
