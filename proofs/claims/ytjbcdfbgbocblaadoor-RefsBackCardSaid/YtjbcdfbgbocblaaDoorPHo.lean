import Derived.Test.YtjbcdfbgbocblaaDoorPHx0
import Derived.Test.YtjbcdfbgbocblaaDoorPHx1
import Derived.Test.YtjbcdfbgbocblaaDoorPHx10
import Derived.Test.YtjbcdfbgbocblaaDoorPHx2
import Derived.Test.YtjbcdfbgbocblaaDoorPHx3
import Derived.Test.YtjbcdfbgbocblaaDoorPHx4
import Derived.Test.YtjbcdfbgbocblaaDoorPHx5
import Derived.Test.YtjbcdfbgbocblaaDoorPHx6
import Derived.Test.YtjbcdfbgbocblaaDoorPHx7
import Derived.Test.YtjbcdfbgbocblaaDoorPHx8
import Derived.Test.YtjbcdfbgbocblaaDoorPHx9
/- The printed functions of this claim, those that build. -/
