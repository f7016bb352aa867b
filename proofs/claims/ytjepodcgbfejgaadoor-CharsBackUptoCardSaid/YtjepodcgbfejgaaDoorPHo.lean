import Derived.Test.YtjepodcgbfejgaaDoorPHx0
import Derived.Test.YtjepodcgbfejgaaDoorPHx1
import Derived.Test.YtjepodcgbfejgaaDoorPHx2
import Derived.Test.YtjepodcgbfejgaaDoorPHx4
/- The printed functions of this claim, those that build. -/
