/-
Each Go function that this text names answers as the Lean function beside it says,wherever that one answers; conditions: the arguments lie in memory as each theorem states it.
-/
import Derived.Test.YtegeaoiclepkkaaDoorProg
import Derived.Below
import Derived.Deep.Draws
import Derived.Deep.AppendLies
import Derived.Maps.AppendAt
import Derived.OwnWalk
import Derived.Laws.BytesArg
import Derived.Laws.MakeOwn
import Derived.Laws.OwnMore
import Derived.Deep.OwnRows
import Derived.Tactics
import Derived.Lib.ConvBytes
import Derived.Laws.Slices
import Derived.WalkKit
import Derived.KernelRfl
import Derived.RowKit3
import Derived.Deep.LoopGhost
import Derived.Deep.QuietTactic
import Derived.BigQuiet
import Derived.WideLaws
import Derived.Deep.DeepCutAuto
import Derived.Deep.CutBlock
import Derived.Deep.RegionHeld3
import Derived.Laws.Rows
import Derived.Lib.AppendStr
import Derived.ArgAppend
import Derived.Laws.IdiomCopy
import Derived.OrdersHeld
import Derived.Laws.BitsLemmas
import Derived.RowKit
import Derived.Test.YtegeaoiclepkkaaDoorWWords
import Derived.Test.YtegeaoiclepkkaaDoorWLast
import Derived.Test.YtegeaoiclepkkaaDoorWTab
import Derived.Test.YtegeaoiclepkkaaDoorWFour
import Derived.Test.YtegeaoiclepkkaaDoorWQPut
import Derived.Test.YtegeaoiclepkkaaDoorWApart
import Derived.Test.YtegeaoiclepkkaaDoorWArr
import Derived.Test.YtegeaoiclepkkaaDoorWZeros
import Derived.Test.YtegeaoiclepkkaaDoorWFoot
import Derived.Test.YtegeaoiclepkkaaDoorWKept
import Derived.Test.YtegeaoiclepkkaaDoorWShare
import Derived.Test.YtegeaoiclepkkaaDoorWN
import Derived.Test.YtegeaoiclepkkaaDoorWFootNe
import Derived.Test.YtegeaoiclepkkaaDoorWAt
import Derived.Test.YtegeaoiclepkkaaDoorWEqStruct
import Derived.Test.YtegeaoiclepkkaaDoorWRepsOne
import Derived.Test.YtegeaoiclepkkaaDoorWInv
import Derived.Test.YtegeaoiclepkkaaDoorWInvWords
import Derived.Test.YtegeaoiclepkkaaDoorWGuard
import Derived.Test.YtegeaoiclepkkaaDoorWNEv
import Derived.Test.YtegeaoiclepkkaaDoorWMore
import Derived.Shelf.Strings.Count
import Derived.Test.YtegeaoiclepkkaaDoorCount
import Derived.Shelf.Strings.SlTrimAscii
import Derived.Test.YtegeaoiclepkkaaDoorTrim
import Derived.Carry
import Derived.StringKeys
import Derived.Test.YtegeaoiclepkkaaDoorMSet
namespace Go.Proofs.YtegeaoiclepkkaaDoor.QFnExactRunBound
open Go.RowKit Go.Proofs.YtegeaoiclepkkaaDoorW.PrintWords Go.Proofs.YtegeaoiclepkkaaDoorW.PrintLast Go.Proofs.YtegeaoiclepkkaaDoorW.PrintMore
attribute [local go_sem] max2_int min2_int max_two min_two max_three min_three max_four min_four   -- for this text's walks alone
set_option linter.unusedVariables false
set_option linter.unusedSimpArgs false



def errW : Option Int → Value
 | none => .nilIface
 | some c => .iface 0 (.int .i64 c)
theorem errW_none : errW none = .nilIface := rfl
theorem errW_some (c : Int) : errW (some c) = .iface 0 (.int .i64 c) := rfl

theorem info2 : (Tryd.prog.info? 2).map (fun i => (i.zero,i.size,i.bytes)) = some (some (.int .i64 0),1,8) := by kernel_rfl
theorem info9 : (Tryd.prog.info? 9).map (fun i => (i.zero,i.size,i.bytes)) = some (some (.string ⟨#[]⟩),1,16) := by kernel_rfl
theorem info80 : (Tryd.prog.info? 80).map (fun i => (i.zero,i.size,i.bytes)) = some (some (.agg #[(.int .i64 0),(.string ⟨#[]⟩)]),2,24) := by kernel_rfl
-- the values' own types
/-! #### struct type 80 -/
structure S80 where
 f0 : Int
 f1 : ByteArray
def z80 : S80 := ⟨(0 : Int),(⟨#[]⟩ : ByteArray)⟩
def k80 : Kd S80 := Kd.iso (Kd.pair (Kd.int .i64) Kd.string) (fun x : S80 => (x.f0,x.f1))
theorem k80_open {w : World} {x : S80} {cs : List Value} (h : k80.K w x cs) : cs = [.int .i64 x.f0,.string x.f1] := by
 obtain ⟨_,_,rfl,rfl,rfl⟩ := h
 exact rfl
theorem k80_openM {w : World} {base : Nat} {ok : Nat → Prop} {x : S80} {cs : List Value} (h : k80.M w base ok x cs) : cs = [.int .i64 x.f0,.string x.f1] := by
 obtain ⟨_,_,rfl,rfl,rfl⟩ := h
 exact rfl
theorem k80_mk (w : World) (x : S80)  : k80.K w x [.int .i64 x.f0,.string x.f1] := ⟨[.int .i64 x.f0],[.string x.f1],rfl,rfl,rfl⟩
theorem k80_mkM (w : World) (base : Nat) (ok : Nat → Prop) (x : S80)  : k80.M w base ok x [.int .i64 x.f0,.string x.f1] := ⟨[.int .i64 x.f0],[.string x.f1],rfl,rfl,rfl⟩
def rd_T80 (xs : List S80) (i : Int) : S80 := xs.getD i.toNat z80
theorem at_T80 {w : World} {A : Option Addr} {n : Nat} {xs : List S80} (h : Kd.C k80 w A n xs) (i : Int) (h0 : 0 ≤ i) (h1 : i < n) : ∃ ad ,A = some ad ∧ w.cell? (ad.add (i.toNat * 2)) = some (.int .i64 (rd_T80 xs i).f0) ∧ w.cell? ⟨(ad.add (i.toNat * 2)).block,(ad.add (i.toNat * 2)).off + 1,none⟩ = some (.string (rd_T80 xs i).f1) := by
 obtain ⟨ad,c,e,_,hK,hc0⟩ := Kd.C_get h z80 i h0 h1
 have hc : ∀ j u,c[j]? = some u → w.cell? (ad.add (i.toNat * 2 + j)) = some u := hc0
 obtain rfl := k80_open hK
 exact ⟨ad,e,hc 0 _ rfl,by rw [← add_field _ _ 1 (by omega)]; exact hc 1 _ rfl⟩

end Go.Proofs.YtegeaoiclepkkaaDoor.QFnExactRunBound
