/-
Each Go function that this text names answers as the Lean function beside it says, wherever that one answers; conditions: the arguments lie in memory as each theorem states it.
-/
import Derived.Test.YtmnckflgmjgkaacDoorProg
import Derived.Below
import Derived.Deep.Draws
import Derived.Deep.AppendLies
import Derived.Maps.AppendAt
import Derived.OwnWalk
import Derived.Laws.BytesArg
import Derived.Laws.MakeOwn
import Derived.Laws.OwnMore
import Derived.Deep.OwnRows
import Derived.Tactics
import Derived.Lib.ConvBytes
import Derived.Laws.Slices
import Derived.WalkKit
import Derived.KernelRfl
import Derived.RowKit3
import Derived.Deep.LoopGhost
import Derived.Deep.QuietTactic
import Derived.BigQuiet
import Derived.WideLaws
import Derived.Deep.DeepCutAuto
import Derived.Deep.CutBlock
import Derived.Deep.RegionHeld3
import Derived.Laws.Rows
import Derived.Lib.AppendStr
import Derived.ArgAppend
import Derived.Laws.IdiomCopy
import Derived.OrdersHeld
import Derived.Laws.BitsLemmas
import Derived.RowKit
import Derived.Test.YtmnckflgmjgkaacDoorWWords
import Derived.Test.YtmnckflgmjgkaacDoorWLast
import Derived.Test.YtmnckflgmjgkaacDoorWTab
import Derived.Test.YtmnckflgmjgkaacDoorWFour
import Derived.Test.YtmnckflgmjgkaacDoorWQPut
import Derived.Test.YtmnckflgmjgkaacDoorWApart
import Derived.Test.YtmnckflgmjgkaacDoorWArr
import Derived.Test.YtmnckflgmjgkaacDoorWZeros
import Derived.Test.YtmnckflgmjgkaacDoorWFoot
import Derived.Test.YtmnckflgmjgkaacDoorWKept
import Derived.Test.YtmnckflgmjgkaacDoorWShare
import Derived.Test.YtmnckflgmjgkaacDoorWN
import Derived.Test.YtmnckflgmjgkaacDoorWFootNe
import Derived.Test.YtmnckflgmjgkaacDoorWAt
import Derived.Test.YtmnckflgmjgkaacDoorWEqStruct
import Derived.Test.YtmnckflgmjgkaacDoorWRepsOne
import Derived.Test.YtmnckflgmjgkaacDoorWInv
import Derived.Test.YtmnckflgmjgkaacDoorWInvWords
import Derived.Test.YtmnckflgmjgkaacDoorWGuard
import Derived.Test.YtmnckflgmjgkaacDoorWNEv
import Derived.Test.YtmnckflgmjgkaacDoorWMore
import Derived.Shelf.Strconv.Itoa4
import Derived.Test.YtmnckflgmjgkaacDoorFormat
import Derived.Lib.SmallJoins
import Derived.Lib.LaidTab
import Derived.LaidSub
import Derived.Shelf.Strconv.ParseIntPublic10
import Derived.Test.YtmnckflgmjgkaacDoorParse
import Derived.Stop.LaidErr
import Derived.LaidLaws
import Derived.Shelf.Strings.SplitShaped
import Derived.Test.YtmnckflgmjgkaacDoorSplit
namespace Go.Proofs.YtmnckflgmjgkaacDoor.QFnExactReadList
open Go.RowKit Go.Proofs.YtmnckflgmjgkaacDoorW.PrintWords Go.Proofs.YtmnckflgmjgkaacDoorW.PrintLast Go.Proofs.YtmnckflgmjgkaacDoorW.PrintMore
attribute [local go_sem] max2_int min2_int max_two min_two max_three min_three max_four min_four   -- for this text's walks alone
set_option linter.unusedVariables false
set_option linter.unusedSimpArgs false



def errW : Option Int → Value
  | none => .nilIface
  | some c => .iface 0 (.int .i64 c)
theorem errW_none : errW none = .nilIface := rfl
theorem errW_some (c : Int) : errW (some c) = .iface 0 (.int .i64 c) := rfl

theorem info2 : (Tryd.prog.info? 2).map (fun i => (i.zero, i.size, i.bytes)) = some (some (.int .i64 0), 1, 8) := by kernel_rfl
theorem info5 : (Tryd.prog.info? 5).map (fun i => (i.zero, i.size, i.bytes)) = some (some (.int .u8 0), 1, 1) := by kernel_rfl
-- the values' own types

end Go.Proofs.YtmnckflgmjgkaacDoor.QFnExactReadList
