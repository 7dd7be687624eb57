/-
Each Go function that this text names answers as the Lean function beside it says,wherever that one answers; conditions: the arguments lie in memory as each theorem states it.
-/
import Derived.Test.YtegeaoiclepkkaaDoorProg
import Derived.Below
import Derived.Deep.Draws
import Derived.Deep.AppendLies
import Derived.Maps.AppendAt
import Derived.OwnWalk
import Derived.Laws.BytesArg
import Derived.Laws.MakeOwn
import Derived.Laws.OwnMore
import Derived.Deep.OwnRows
import Derived.Tactics
import Derived.Lib.ConvBytes
import Derived.Laws.Slices
import Derived.WalkKit
import Derived.KernelRfl
import Derived.RowKit3
import Derived.Deep.LoopGhost
import Derived.Deep.QuietTactic
import Derived.BigQuiet
import Derived.WideLaws
import Derived.Deep.DeepCutAuto
import Derived.Deep.CutBlock
import Derived.Deep.RegionHeld3
import Derived.Laws.Rows
import Derived.Lib.AppendStr
import Derived.ArgAppend
import Derived.Laws.IdiomCopy
import Derived.OrdersHeld
import Derived.Laws.BitsLemmas
import Derived.RowKit
import Derived.Test.YtegeaoiclepkkaaDoorWWords
import Derived.Test.YtegeaoiclepkkaaDoorWLast
import Derived.Test.YtegeaoiclepkkaaDoorWTab
import Derived.Test.YtegeaoiclepkkaaDoorWFour
import Derived.Test.YtegeaoiclepkkaaDoorWQPut
import Derived.Test.YtegeaoiclepkkaaDoorWApart
import Derived.Test.YtegeaoiclepkkaaDoorWArr
import Derived.Test.YtegeaoiclepkkaaDoorWZeros
import Derived.Test.YtegeaoiclepkkaaDoorWFoot
import Derived.Test.YtegeaoiclepkkaaDoorWKept
import Derived.Test.YtegeaoiclepkkaaDoorWShare
import Derived.Test.YtegeaoiclepkkaaDoorWN
import Derived.Test.YtegeaoiclepkkaaDoorWFootNe
import Derived.Test.YtegeaoiclepkkaaDoorWAt
import Derived.Test.YtegeaoiclepkkaaDoorWEqStruct
import Derived.Test.YtegeaoiclepkkaaDoorWRepsOne
import Derived.Test.YtegeaoiclepkkaaDoorWInv
import Derived.Test.YtegeaoiclepkkaaDoorWInvWords
import Derived.Test.YtegeaoiclepkkaaDoorWGuard
import Derived.Test.YtegeaoiclepkkaaDoorWNEv
import Derived.Test.YtegeaoiclepkkaaDoorWMore
import Derived.Shelf.Strings.Count
import Derived.Test.YtegeaoiclepkkaaDoorCount
import Derived.Shelf.Strings.SlTrimAscii
import Derived.Test.YtegeaoiclepkkaaDoorTrim
import Derived.Carry
import Derived.StringKeys
import Derived.Test.YtegeaoiclepkkaaDoorMSet
import Derived.Test.YtegeaoiclepkkaaDoorBld
import Derived.Lib.UnsafeStr
namespace Go.Proofs.YtegeaoiclepkkaaDoor.QFnExactFlipEffect
open Go.RowKit Go.Proofs.YtegeaoiclepkkaaDoorW.PrintWords Go.Proofs.YtegeaoiclepkkaaDoorW.PrintLast Go.Proofs.YtegeaoiclepkkaaDoorW.PrintMore
attribute [local go_sem] max2_int min2_int max_two min_two max_three min_three max_four min_four   -- for this text's walks alone
set_option linter.unusedVariables false
set_option linter.unusedSimpArgs false



def errW : Option Int → Value
 | none => .nilIface
 | some c => .iface 0 (.int .i64 c)
theorem errW_none : errW none = .nilIface := rfl
theorem errW_some (c : Int) : errW (some c) = .iface 0 (.int .i64 c) := rfl

theorem info2 : (Tryd.prog.info? 2).map (fun i => (i.zero,i.size,i.bytes)) = some (some (.int .i64 0),1,8) := by kernel_rfl
theorem info5 : (Tryd.prog.info? 5).map (fun i => (i.zero,i.size,i.bytes)) = some (some (.int .u8 0),1,1) := by kernel_rfl
theorem info9 : (Tryd.prog.info? 9).map (fun i => (i.zero,i.size,i.bytes)) = some (some (.string ⟨#[]⟩),1,16) := by kernel_rfl
-- the values' own types

end Go.Proofs.YtegeaoiclepkkaaDoor.QFnExactFlipEffect
