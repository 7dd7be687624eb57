/-
Each Go function that this text names answers as the Lean function beside it says, wherever that one answers; conditions: the arguments lie in memory as each theorem states it.
-/
import Derived.Test.YtmnckflgmjgkaabDoorProg
import Derived.Below
import Derived.Deep.Draws
import Derived.Deep.AppendLies
import Derived.Maps.AppendAt
import Derived.OwnWalk
import Derived.Laws.BytesArg
import Derived.Laws.MakeOwn
import Derived.Laws.OwnMore
import Derived.Deep.OwnRows
import Derived.Tactics
import Derived.Lib.ConvBytes
import Derived.Laws.Slices
import Derived.WalkKit
import Derived.KernelRfl
import Derived.RowKit3
import Derived.Deep.LoopGhost
import Derived.Deep.QuietTactic
import Derived.BigQuiet
import Derived.WideLaws
import Derived.Deep.DeepCutAuto
import Derived.Deep.CutBlock
import Derived.Deep.RegionHeld3
import Derived.Laws.Rows
import Derived.Lib.AppendStr
import Derived.ArgAppend
import Derived.Laws.IdiomCopy
import Derived.OrdersHeld
import Derived.Laws.BitsLemmas
import Derived.RowKit
import Derived.Test.YtmnckflgmjgkaabDoorWWords
import Derived.Test.YtmnckflgmjgkaabDoorWLast
import Derived.Test.YtmnckflgmjgkaabDoorWTab
import Derived.Test.YtmnckflgmjgkaabDoorWFour
import Derived.Test.YtmnckflgmjgkaabDoorWQPut
import Derived.Test.YtmnckflgmjgkaabDoorWApart
import Derived.Test.YtmnckflgmjgkaabDoorWArr
import Derived.Test.YtmnckflgmjgkaabDoorWZeros
import Derived.Test.YtmnckflgmjgkaabDoorWFoot
import Derived.Test.YtmnckflgmjgkaabDoorWKept
import Derived.Test.YtmnckflgmjgkaabDoorWShare
import Derived.Test.YtmnckflgmjgkaabDoorWN
import Derived.Test.YtmnckflgmjgkaabDoorWFootNe
import Derived.Test.YtmnckflgmjgkaabDoorWAt
import Derived.Test.YtmnckflgmjgkaabDoorWEqStruct
import Derived.Test.YtmnckflgmjgkaabDoorWRepsOne
import Derived.Test.YtmnckflgmjgkaabDoorWInv
import Derived.Test.YtmnckflgmjgkaabDoorWInvWords
import Derived.Test.YtmnckflgmjgkaabDoorWGuard
import Derived.Test.YtmnckflgmjgkaabDoorWNEv
import Derived.Test.YtmnckflgmjgkaabDoorWMore
import Derived.Shelf.Strconv.Itoa4
import Derived.Test.YtmnckflgmjgkaabDoorFormat
import Derived.Lib.SmallJoins
import Derived.Lib.LaidTab
import Derived.LaidSub
import Derived.Test.YtmnckflgmjgkaabDoorJoin
namespace Go.Proofs.YtmnckflgmjgkaabDoor.QFnExactListText
open Go.RowKit Go.Proofs.YtmnckflgmjgkaabDoorW.PrintWords Go.Proofs.YtmnckflgmjgkaabDoorW.PrintLast Go.Proofs.YtmnckflgmjgkaabDoorW.PrintMore
attribute [local go_sem] max2_int min2_int max_two min_two max_three min_three max_four min_four   -- for this text's walks alone
set_option linter.unusedVariables false
set_option linter.unusedSimpArgs false



def errW : Option Int → Value
  | none => .nilIface
  | some c => .iface 0 (.int .i64 c)
theorem errW_none : errW none = .nilIface := rfl
theorem errW_some (c : Int) : errW (some c) = .iface 0 (.int .i64 c) := rfl

theorem info2 : (Tryd.prog.info? 2).map (fun i => (i.zero, i.size, i.bytes)) = some (some (.int .i64 0), 1, 8) := by kernel_rfl
theorem info5 : (Tryd.prog.info? 5).map (fun i => (i.zero, i.size, i.bytes)) = some (some (.int .u8 0), 1, 1) := by kernel_rfl
theorem info9 : (Tryd.prog.info? 9).map (fun i => (i.zero, i.size, i.bytes)) = some (some (.string ⟨#[]⟩), 1, 16) := by kernel_rfl
-- the values' own types

end Go.Proofs.YtmnckflgmjgkaabDoor.QFnExactListText
