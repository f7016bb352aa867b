import Derived.Test.YtfkoiebnpgodmaaDoorPHx0
import Derived.Test.YtfkoiebnpgodmaaDoorPHx1
import Derived.Test.YtfkoiebnpgodmaaDoorPHx2
import Derived.Test.YtfkoiebnpgodmaaDoorPHx3
import Derived.Test.YtfkoiebnpgodmaaDoorPHx4
/- The printed functions of this claim, those that build. -/
