-- YtjbcdfbgbocblaaDoor: printed for this claim (all functions at once)
import Derived.Test.YtjbcdfbgbocblaaDoorProg
import Derived.Below
import Derived.Deep.Draws
import Derived.Deep.AppendLies
import Derived.Maps.AppendAt
import Derived.OwnWalk
import Derived.Laws.BytesArg
import Derived.Laws.MakeOwn
import Derived.Laws.OwnMore
import Derived.Deep.OwnRows
import Derived.Tactics
import Derived.Lib.ConvBytes
import Derived.Laws.Slices
import Derived.WalkKit
import Derived.KernelRfl
import Derived.RowKit3
import Derived.Deep.LoopGhost
import Derived.Deep.QuietTactic
import Derived.BigQuiet
import Derived.WideLaws
import Derived.Deep.DeepCutAuto
import Derived.Deep.CutBlock
import Derived.Deep.RegionHeld3
import Derived.Laws.Rows
import Derived.Lib.AppendStr
import Derived.ArgAppend
import Derived.Laws.IdiomCopy
import Derived.OrdersHeld
import Derived.Laws.BitsLemmas
import Derived.RowKit
import Derived.Test.YtjbcdfbgbocblaaDoorWWords
import Derived.Test.YtjbcdfbgbocblaaDoorWLast
import Derived.Test.YtjbcdfbgbocblaaDoorWTab
import Derived.Test.YtjbcdfbgbocblaaDoorWFour
import Derived.Test.YtjbcdfbgbocblaaDoorWQPut
import Derived.Test.YtjbcdfbgbocblaaDoorWApart
import Derived.Test.YtjbcdfbgbocblaaDoorWArr
import Derived.Test.YtjbcdfbgbocblaaDoorWZeros
import Derived.Test.YtjbcdfbgbocblaaDoorWFoot
import Derived.Test.YtjbcdfbgbocblaaDoorWKept
import Derived.Test.YtjbcdfbgbocblaaDoorWShare
import Derived.Test.YtjbcdfbgbocblaaDoorWN
import Derived.Test.YtjbcdfbgbocblaaDoorWFootNe
import Derived.Test.YtjbcdfbgbocblaaDoorWAt
import Derived.Test.YtjbcdfbgbocblaaDoorWEqStruct
import Derived.Test.YtjbcdfbgbocblaaDoorWRepsOne
import Derived.Test.YtjbcdfbgbocblaaDoorWInv
import Derived.Test.YtjbcdfbgbocblaaDoorWInvWords
import Derived.Test.YtjbcdfbgbocblaaDoorWGuard
import Derived.Test.YtjbcdfbgbocblaaDoorWNEv
import Derived.Test.YtjbcdfbgbocblaaDoorWMore
namespace Go.Proofs.YtjbcdfbgbocblaaDoor.PH
open Go.RowKit Go.Proofs.YtjbcdfbgbocblaaDoorW.PrintWords Go.Proofs.YtjbcdfbgbocblaaDoorW.PrintLast Go.Proofs.YtjbcdfbgbocblaaDoorW.PrintMore
attribute [local go_sem] max2_int min2_int max_two min_two
set_option linter.unusedVariables false
set_option linter.unusedSimpArgs false



def errW : Option Int → Value
  | none => .nilIface
  | some c => .iface 108 (.int .i64 c)
theorem errW_none : errW none = .nilIface := rfl
theorem errW_some (c : Int) : errW (some c) = .iface 108 (.int .i64 c) := rfl

-- the values' own types

end Go.Proofs.YtjbcdfbgbocblaaDoor.PH
