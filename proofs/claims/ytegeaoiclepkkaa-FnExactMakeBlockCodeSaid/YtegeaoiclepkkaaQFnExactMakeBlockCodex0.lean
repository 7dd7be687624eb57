/-
Each Go function that this text names answers as the Lean function beside it says, wherever that one answers; conditions: the arguments lie in memory as each theorem states it.
-/
import Derived.Test.YtegeaoiclepkkaaProg
import Derived.Below
import Derived.Deep.Draws
import Derived.Deep.AppendLies
import Derived.Maps.AppendAt
import Derived.OwnWalk
import Derived.Laws.BytesArg
import Derived.Laws.MakeOwn
import Derived.Laws.OwnMore
import Derived.Deep.OwnRows
import Derived.Tactics
import Derived.Lib.ConvBytes
import Derived.Laws.Slices
import Derived.WalkKit
import Derived.KernelRfl
import Derived.RowKit3
import Derived.Deep.LoopGhost
import Derived.Deep.QuietTactic
import Derived.BigQuiet
import Derived.WideLaws
import Derived.Deep.DeepCutAuto
import Derived.Deep.CutBlock
import Derived.Deep.RegionHeld3
import Derived.Laws.Rows
import Derived.Lib.AppendStr
import Derived.ArgAppend
import Derived.Laws.IdiomCopy
import Derived.OrdersHeld
import Derived.Laws.BitsLemmas
import Derived.RowKit
import Derived.Test.YtegeaoiclepkkaaWWords
import Derived.Test.YtegeaoiclepkkaaWLast
import Derived.Test.YtegeaoiclepkkaaWTab
import Derived.Test.YtegeaoiclepkkaaWFour
import Derived.Test.YtegeaoiclepkkaaWQPut
import Derived.Test.YtegeaoiclepkkaaWApart
import Derived.Test.YtegeaoiclepkkaaWArr
import Derived.Test.YtegeaoiclepkkaaWZeros
import Derived.Test.YtegeaoiclepkkaaWFoot
import Derived.Test.YtegeaoiclepkkaaWKept
import Derived.Test.YtegeaoiclepkkaaWShare
import Derived.Test.YtegeaoiclepkkaaWN
import Derived.Test.YtegeaoiclepkkaaWFootNe
import Derived.Test.YtegeaoiclepkkaaWAt
import Derived.Test.YtegeaoiclepkkaaWEqStruct
import Derived.Test.YtegeaoiclepkkaaWRepsOne
import Derived.Test.YtegeaoiclepkkaaWInv
import Derived.Test.YtegeaoiclepkkaaWInvWords
import Derived.Test.YtegeaoiclepkkaaWGuard
import Derived.Test.YtegeaoiclepkkaaWNEv
import Derived.Test.YtegeaoiclepkkaaWMore
import Derived.Shelf.Strings.Count
import Derived.Test.YtegeaoiclepkkaaCount
import Derived.Shelf.Slices.Clone
import Derived.Test.YtegeaoiclepkkaaBuild
import Derived.Test.YtegeaoiclepkkaaBld
import Derived.Lib.UnsafeStr
import Derived.Shelf.Strings.Repeat
namespace Go.Proofs.Ytegeaoiclepkkaa.QFnExactMakeBlockCode
open Go.RowKit Go.Proofs.YtegeaoiclepkkaaW.PrintWords Go.Proofs.YtegeaoiclepkkaaW.PrintLast Go.Proofs.YtegeaoiclepkkaaW.PrintMore
attribute [local go_sem] max2_int min2_int max_two min_two max_three min_three max_four min_four   -- for this text's walks alone
set_option linter.unusedVariables false
set_option linter.unusedSimpArgs false



def errW : Option Int → Value
  | none => .nilIface
  | some c => .iface 0 (.int .i64 c)
theorem errW_none : errW none = .nilIface := rfl
theorem errW_some (c : Int) : errW (some c) = .iface 0 (.int .i64 c) := rfl

theorem info2 : (Try.prog.info? 2).map (fun i => (i.zero, i.size, i.bytes)) = some (some (.int .i64 0), 1, 8) := by kernel_rfl
theorem info5 : (Try.prog.info? 5).map (fun i => (i.zero, i.size, i.bytes)) = some (some (.int .u8 0), 1, 1) := by kernel_rfl
theorem info9 : (Try.prog.info? 9).map (fun i => (i.zero, i.size, i.bytes)) = some (some (.string ⟨#[]⟩), 1, 16) := by kernel_rfl
-- the values' own types

end Go.Proofs.Ytegeaoiclepkkaa.QFnExactMakeBlockCode
