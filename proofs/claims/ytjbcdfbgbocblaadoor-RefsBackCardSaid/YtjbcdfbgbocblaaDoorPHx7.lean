-- YtjbcdfbgbocblaaDoor: printed for this claim (all functions at once)
import Derived.Test.YtjbcdfbgbocblaaDoorPHx0
import Derived.Test.YtjbcdfbgbocblaaDoorPHx1
import Derived.Test.YtjbcdfbgbocblaaDoorPHx6
namespace Go.Proofs.YtjbcdfbgbocblaaDoor.PH
open Go.RowKit Go.Proofs.YtjbcdfbgbocblaaDoorW.PrintWords Go.Proofs.YtjbcdfbgbocblaaDoorW.PrintLast Go.Proofs.YtjbcdfbgbocblaaDoorW.PrintMore
attribute [local go_sem] max2_int min2_int max_two min_two
set_option linter.unusedVariables false
set_option linter.unusedSimpArgs false

attribute [local go_sem high] eqA30
end Go.Proofs.YtjbcdfbgbocblaaDoor.PH
