import Derived.Test.YtjepodcgbfejgaaGreatDoorPHx0
import Derived.Test.YtjepodcgbfejgaaGreatDoorPHx1
import Derived.Test.YtjepodcgbfejgaaGreatDoorPHx4
import Derived.Test.YtjepodcgbfejgaaGreatDoorPHx5
/- The printed functions of this claim, those that build. -/
