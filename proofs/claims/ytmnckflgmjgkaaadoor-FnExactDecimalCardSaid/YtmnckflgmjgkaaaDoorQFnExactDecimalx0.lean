/-
Each Go function that this text names answers as the Lean function beside it says, wherever that one answers; conditions: the arguments lie in memory as each theorem states it.
-/
import Derived.Test.YtmnckflgmjgkaaaDoorProg
import Derived.Below
import Derived.Deep.Draws
import Derived.Deep.AppendLies
import Derived.Maps.AppendAt
import Derived.OwnWalk
import Derived.Laws.BytesArg
import Derived.Laws.MakeOwn
import Derived.Laws.OwnMore
import Derived.Deep.OwnRows
import Derived.Tactics
import Derived.Lib.ConvBytes
import Derived.Laws.Slices
import Derived.WalkKit
import Derived.KernelRfl
import Derived.RowKit3
import Derived.Deep.LoopGhost
import Derived.Deep.QuietTactic
import Derived.BigQuiet
import Derived.WideLaws
import Derived.Deep.DeepCutAuto
import Derived.Deep.CutBlock
import Derived.Deep.RegionHeld3
import Derived.Laws.Rows
import Derived.Lib.AppendStr
import Derived.ArgAppend
import Derived.Laws.IdiomCopy
import Derived.OrdersHeld
import Derived.Laws.BitsLemmas
import Derived.RowKit
import Derived.Test.YtmnckflgmjgkaaaDoorWWords
import Derived.Test.YtmnckflgmjgkaaaDoorWLast
import Derived.Test.YtmnckflgmjgkaaaDoorWTab
import Derived.Test.YtmnckflgmjgkaaaDoorWFour
import Derived.Test.YtmnckflgmjgkaaaDoorWQPut
import Derived.Test.YtmnckflgmjgkaaaDoorWApart
import Derived.Test.YtmnckflgmjgkaaaDoorWArr
import Derived.Test.YtmnckflgmjgkaaaDoorWZeros
import Derived.Test.YtmnckflgmjgkaaaDoorWFoot
import Derived.Test.YtmnckflgmjgkaaaDoorWKept
import Derived.Test.YtmnckflgmjgkaaaDoorWShare
import Derived.Test.YtmnckflgmjgkaaaDoorWN
import Derived.Test.YtmnckflgmjgkaaaDoorWFootNe
import Derived.Test.YtmnckflgmjgkaaaDoorWAt
import Derived.Test.YtmnckflgmjgkaaaDoorWEqStruct
import Derived.Test.YtmnckflgmjgkaaaDoorWRepsOne
import Derived.Test.YtmnckflgmjgkaaaDoorWInv
import Derived.Test.YtmnckflgmjgkaaaDoorWInvWords
import Derived.Test.YtmnckflgmjgkaaaDoorWGuard
import Derived.Test.YtmnckflgmjgkaaaDoorWNEv
import Derived.Test.YtmnckflgmjgkaaaDoorWMore
import Derived.Shelf.Strconv.Itoa4
import Derived.Test.YtmnckflgmjgkaaaDoorFormat
import Derived.Lib.SmallJoins
import Derived.Lib.LaidTab
import Derived.LaidSub
namespace Go.Proofs.YtmnckflgmjgkaaaDoor.QFnExactDecimal
open Go.RowKit Go.Proofs.YtmnckflgmjgkaaaDoorW.PrintWords Go.Proofs.YtmnckflgmjgkaaaDoorW.PrintLast Go.Proofs.YtmnckflgmjgkaaaDoorW.PrintMore
attribute [local go_sem] max2_int min2_int max_two min_two max_three min_three max_four min_four   -- for this text's walks alone
set_option linter.unusedVariables false
set_option linter.unusedSimpArgs false



def errW : Option Int → Value
  | none => .nilIface
  | some c => .iface 0 (.int .i64 c)
theorem errW_none : errW none = .nilIface := rfl
theorem errW_some (c : Int) : errW (some c) = .iface 0 (.int .i64 c) := rfl

theorem info5 : (Tryd.prog.info? 5).map (fun i => (i.zero, i.size, i.bytes)) = some (some (.int .u8 0), 1, 1) := by kernel_rfl
-- the values' own types

end Go.Proofs.YtmnckflgmjgkaaaDoor.QFnExactDecimal
