/-
Each Go function that this text names answers as the Lean function beside it says,wherever that one answers; conditions: the arguments lie in memory as each theorem states it.
-/
import Derived.Test.YtegeaoiclepkkaaDoorQFnExactRunBoundx0
import Derived.Test.YtegeaoiclepkkaaDoorQFnExactRunBoundx7
import Derived.Test.YtegeaoiclepkkaaDoorQFnExactRunBoundx8
import Derived.DeepKeys4
import Derived.Maps.Keyed
import Derived.Carry
import Derived.Test.YtegeaoiclepkkaaDoorMSet
namespace Go.Proofs.YtegeaoiclepkkaaDoor.QFnExactRunBound
open Go.RowKit Go.Proofs.YtegeaoiclepkkaaDoorW.PrintWords Go.Proofs.YtegeaoiclepkkaaDoorW.PrintLast Go.Proofs.YtegeaoiclepkkaaDoorW.PrintMore
attribute [local go_sem] max2_int min2_int max_two min_two max_three min_three max_four min_four   -- for this text's walks alone
set_option linter.unusedVariables false
set_option linter.unusedSimpArgs false
theorem b9_0 {P : Prop} (h : P := by repeat (first | (with_reducible first | exact HB.out | apply below_alloc | apply pw_below_drewN | apply below_drew1 | refine below_set ?_ GE236.out | refine below_set ?_ GE242.out) | exact HB.out)) : P := h
theorem b9_1 {P : Prop} (h : P := by repeat (first | exact HS.out | refine MSet.SetIs.alloc ?_ _ | refine MSet.SetIs.drewN ?_ _ | refine MSet.SetIs.drew ?_)) : P := h
theorem b9_2 {P : Prop} (h : P := by (with_reducible repeat (first | refine blk_drewN ?_ _ | refine blk_drew ?_ | refine blk_alloc ?_ _)); exact BK236.out) : P := h
theorem b9_3 {P : Prop} (h : P := by repeat (first | (with_reducible first | exact HB.out | apply below_alloc | apply pw_below_drewN | apply below_drew1 | refine below_set ?_ GE236.out) | exact HB.out)) : P := h
theorem b9_4 {P : Prop} (h : P := by (with_reducible repeat (first | refine blk_drewN ?_ _ | refine blk_drew ?_ | refine blk_alloc ?_ _)); exact BK242.out) : P := h
theorem b9_5 {P : Prop} (h : P := by rw [hw]; exact (by (with_reducible repeat (first | refine blk_drewN ?_ _ | refine blk_drew ?_ | refine blk_alloc ?_ _)); refine blk_put (cs := #[.int .i64 ((rd_T80 x6_1 (ji10)).f0),.string (⟨#[]⟩ : ByteArray)]) ?_ 1 _ rfl; (with_reducible repeat (first | refine blk_drewN ?_ _ | refine blk_drew ?_ | refine blk_alloc ?_ _)); refine blk_put (cs := #[.int .i64 0,.string (⟨#[]⟩ : ByteArray)]) ?_ 0 _ rfl; (with_reducible repeat (first | refine blk_drewN ?_ _ | refine blk_drew ?_ | refine blk_alloc ?_ _)); exact BK242.out)) : P := h
theorem b9_7 {P : Prop} (h : P := by rw [hw]; exact (by (with_reducible repeat (first | refine blk_drewN ?_ _ | refine blk_drew ?_ | refine blk_alloc ?_ _)); refine blk_far ?_ NB236_242.out _; (with_reducible repeat (first | refine blk_drewN ?_ _ | refine blk_drew ?_ | refine blk_alloc ?_ _)); refine blk_far ?_ NB236_242.out _; (with_reducible repeat (first | refine blk_drewN ?_ _ | refine blk_drew ?_ | refine blk_alloc ?_ _)); exact BK236.out)) : P := h
theorem b9_8 {P : Prop} (h : P := by rw [hw]; exact (by (with_reducible repeat (first | apply Kd.R_alloc | apply Kd.R_drewN | apply Kd.R_drew)); exact Kd.R_mono (Kd.R_far (p := ⟨gb242,1,none⟩) (Kd.R_far (p := ⟨gb242,0,none⟩) (Kd.R_mono HO_6.out (fun k_ hk => (⟨hk,hk.2⟩ : _ ∧ k_ ≠ gb242))) (fun _ hk => hk.2) (.int .i64 ((rd_T80 x6_1 (ji10)).f0))) (fun _ hk => hk.2) (.string ((rd_T80 x6_1 (ji10)).f1))) (fun _ hk => ⟨hk.1.2,hk.1.1⟩))) : P := h
theorem b9_10 {P : Prop} (h : P := by (with_reducible repeat (first | apply Kd.R_alloc | apply Kd.R_drewN | apply Kd.R_drew)); exact HO_6.out) : P := h
theorem b9_12 {P : Prop} (h : P := by repeat (first | (with_reducible first | exact HB.out | apply below_alloc | apply pw_below_drewN | apply below_drew1) | exact HB.out)) : P := h
theorem b9_13 {P : Prop} (h : P := by first | (with_reducible assumption) | assumption) : P := h
theorem b9_14 {P : Prop} (h : P := by (try simp only [List.map_toArray,List.map_cons,List.map_nil]); first | done | (simp only [hji10]; rfl) | rfl | (simp only [List.length_drop,List.length_take]; rfl)) : P := h
theorem b9_15 {P : Prop} (h : P := by rw [hw]; exact (by repeat (first | (with_reducible first | exact HB.out | apply below_alloc | apply pw_below_drewN | apply below_drew1 | refine below_set ?_ GE236.out | refine below_set ?_ GE242.out) | exact HB.out))) : P := h
theorem b9_16 {P : Prop} (h : P := by (with_reducible repeat (first | apply Kd.R_alloc | apply Kd.R_drewN | apply Kd.R_drew)); exact HO245.out) : P := h
theorem b9_17 {P : Prop} (h : P := by rw [hw]; exact MSet.SetIs.setCell (MSet.SetIs.setCell (by repeat (first | exact HS.out | refine MSet.SetIs.alloc ?_ _ | refine MSet.SetIs.drewN ?_ _ | refine MSet.SetIs.drew ?_)) NM.out.symm _) NM.out.symm _) : P := h
theorem b9_18 {P : Prop} (h : P := by (try simp only [List.map_toArray,List.map_cons,List.map_nil]); first | done | rfl | (simp only [List.length_drop,List.length_take]; rfl)) : P := h
theorem b9_19 {P : Prop} (h : P := by rw [hg]; exact Nat.ne_of_gt (MSet.SetIs.lt (by repeat (first | exact HS.out | refine MSet.SetIs.alloc ?_ _ | refine MSet.SetIs.drewN ?_ _ | refine MSet.SetIs.drew ?_)))) : P := h
theorem b9_20 {P : Prop} (h : P := by first | rfl | (simp; done) | (simp [*]; done)) : P := h
theorem b9_21 {P : Prop} (h : P := by (with_reducible repeat (first | apply Kd.R_alloc | apply Kd.R_drewN | apply Kd.R_drew)); exact Kd.R_mono HO_6.out (fun _ hk => hk.2)) : P := h
theorem b9_22 {P : Prop} (h : P := by (with_reducible repeat (first | apply Kd.R_alloc | apply Kd.R_drewN | apply Kd.R_drew)); exact HO249.out) : P := h
theorem b9_23 {P : Prop} (h : P := by (with_reducible repeat (first | apply Kd.R_alloc | apply Kd.R_drewN | apply Kd.R_drew)); exact HO259.out) : P := h
theorem b9_24 {P : Prop} (h : P := by first | rfl | (simp [errW_none,errW_some] <;> rfl) | (simp [*,errW_none,errW_some] <;> rfl)) : P := h

/-! ### impl_RunBound: function 33 -/
mutual
def impl_RunBound.l0 : Nat → List (Int × List UInt8) → Int → List (S80) → Int → Int → List ByteArray → List ByteArray → Option (Int × Bool)
 | 0,_,_,_,_,_,_,_ => none
 | k + 1,sn,x4,x6,x237000,x237001,x237002,x237003 => if (x6.length : Int) > 0 then (if 0 ≤ (wrap64 ((x6.length : Int) - 1)) then (if (wrap64 ((x6.length : Int) - 1)) < (x6.length : Int) then (if (wrap64 ((x6.length : Int) - 1)) ≤ (x6.length : Int) then ((some (x6.take ((wrap64 ((x6.length : Int) - 1)) : Int).toNat : List (S80))).bind fun y243 => (if -2 < ((rd_T80 x6 (wrap64 ((x6.length : Int) - 1))).f0) ∧ ((rd_T80 x6 (wrap64 ((x6.length : Int) - 1))).f0) < 2 ∧ ((rd_T80 x6 (wrap64 ((x6.length : Int) - 1))).f1).size ≤ 1048576 ∧ sn.length < 1000000 then (if (((rd_T80 x6 (wrap64 ((x6.length : Int) - 1))).f0),((rd_T80 x6 (wrap64 ((x6.length : Int) - 1))).f1).data.toList) ∈ sn then (impl_RunBound.l0 k sn x4 y243 x237000 x237001 x237002 x237003) else (if ((rd_T80 x6 (wrap64 ((x6.length : Int) - 1))).f0) < 0 then ((impl_BlockCode_words_neg.f x237000 x237001 x237002 x237003 ((rd_T80 x6 (wrap64 ((x6.length : Int) - 1))).f0)).bind fun _ => (impl_RunBound.l1 k ((((rd_T80 x6 (wrap64 ((x6.length : Int) - 1))).f0),((rd_T80 x6 (wrap64 ((x6.length : Int) - 1))).f1).data.toList) :: sn) x4 y243 x237002 (x237002.length : Int) 0 x237000 x237001 x237002 x237003 ((rd_T80 x6 (wrap64 ((x6.length : Int) - 1))).f0) ((rd_T80 x6 (wrap64 ((x6.length : Int) - 1))).f1))) else ((impl_BlockCode_words_pos.f x237000 x237001 x237002 x237003 ((rd_T80 x6 (wrap64 ((x6.length : Int) - 1))).f0)).bind fun _ => (impl_RunBound.l101 k ((((rd_T80 x6 (wrap64 ((x6.length : Int) - 1))).f0),((rd_T80 x6 (wrap64 ((x6.length : Int) - 1))).f1).data.toList) :: sn) x4 y243 x237003 (x237003.length : Int) 0 x237000 x237001 x237002 x237003 ((rd_T80 x6 (wrap64 ((x6.length : Int) - 1))).f0) ((rd_T80 x6 (wrap64 ((x6.length : Int) - 1))).f1))))) else none)) else (none)) else (none)) else (none)) else (some (x4,true))
def impl_RunBound.l1 : Nat → List (Int × List UInt8) → Int → List (S80) → List ByteArray → Int → Int → Int → Int → List ByteArray → List ByteArray → Int → ByteArray → Option (Int × Bool)
 | 0,_,_,_,_,_,_,_,_,_,_,_,_ => none
 | k + 1,sn,x4,x6,x48,x49,x50,x237000,x237001,x237002,x237003,x243000,x243001 => if x50 < x49 then (if 0 ≤ x50 then (if x50 < (x48.length : Int) then (if x243001.size + (rdOf ByteArray.empty x48 x50).size ≤ 9223372036854775807 then ((impl_runLengths.f k (x243001 ++ (rdOf ByteArray.empty x48 x50))).bind fun t247 => ((slices_Max_int64_int64.f k t247).bind fun t250 => (if 0 ≤ (wrap64 ((t247.length : Int) - 1)) then (if (wrap64 ((t247.length : Int) - 1)) < (t247.length : Int) then ((impl_stateBehind.f x243000 (rdOf ByteArray.empty x48 x50)).bind fun t252 => (if 0 ≤ (wrap64 (((x243001 ++ (rdOf ByteArray.empty x48 x50)).size : Int) - (rd t247 (wrap64 ((t247.length : Int) - 1))))) then (if (wrap64 (((x243001 ++ (rdOf ByteArray.empty x48 x50)).size : Int) - (rd t247 (wrap64 ((t247.length : Int) - 1))))) ≤ ((x243001 ++ (rdOf ByteArray.empty x48 x50)).size : Int) then (if x6.length < 5864062014805 then (impl_RunBound.l1 k sn (mx x4 t250) (x6 ++ [(⟨t252,(x243001 ++ (rdOf ByteArray.empty x48 x50)).extract ((wrap64 (((x243001 ++ (rdOf ByteArray.empty x48 x50)).size : Int) - (rd t247 (wrap64 ((t247.length : Int) - 1))))) : Int).toNat (x243001 ++ (rdOf ByteArray.empty x48 x50)).size⟩ : S80)]) x48 x49 (wrap64 (x50 + 1)) x237000 x237001 x237002 x237003 x243000 x243001) else (none)) else (none)) else (none))) else (none)) else (none)))) else (none)) else (none)) else (none)) else (impl_RunBound.l0 k sn x4 x6 x237000 x237001 x237002 x237003)
def impl_RunBound.l101 : Nat → List (Int × List UInt8) → Int → List (S80) → List ByteArray → Int → Int → Int → Int → List ByteArray → List ByteArray → Int → ByteArray → Option (Int × Bool)
 | 0,_,_,_,_,_,_,_,_,_,_,_,_ => none
 | k + 1,sn,x4,x6,x48,x49,x50,x237000,x237001,x237002,x237003,x243000,x243001 => if x50 < x49 then (if 0 ≤ x50 then (if x50 < (x48.length : Int) then (if x243001.size + (rdOf ByteArray.empty x48 x50).size ≤ 9223372036854775807 then ((impl_runLengths.f k (x243001 ++ (rdOf ByteArray.empty x48 x50))).bind fun t257 => ((slices_Max_int64_int64.f k t257).bind fun t260 => (if 0 ≤ (wrap64 ((t257.length : Int) - 1)) then (if (wrap64 ((t257.length : Int) - 1)) < (t257.length : Int) then ((impl_stateBehind.f x243000 (rdOf ByteArray.empty x48 x50)).bind fun t262 => (if 0 ≤ (wrap64 (((x243001 ++ (rdOf ByteArray.empty x48 x50)).size : Int) - (rd t257 (wrap64 ((t257.length : Int) - 1))))) then (if (wrap64 (((x243001 ++ (rdOf ByteArray.empty x48 x50)).size : Int) - (rd t257 (wrap64 ((t257.length : Int) - 1))))) ≤ ((x243001 ++ (rdOf ByteArray.empty x48 x50)).size : Int) then (if x6.length < 5864062014805 then (impl_RunBound.l101 k sn (mx x4 t260) (x6 ++ [(⟨t262,(x243001 ++ (rdOf ByteArray.empty x48 x50)).extract ((wrap64 (((x243001 ++ (rdOf ByteArray.empty x48 x50)).size : Int) - (rd t257 (wrap64 ((t257.length : Int) - 1))))) : Int).toNat (x243001 ++ (rdOf ByteArray.empty x48 x50)).size⟩ : S80)]) x48 x49 (wrap64 (x50 + 1)) x237000 x237001 x237002 x237003 x243000 x243001) else (none)) else (none)) else (none))) else (none)) else (none)))) else (none)) else (none)) else (none)) else (impl_RunBound.l0 k sn x4 x6 x237000 x237001 x237002 x237003)
end
def impl_RunBound.f (k : Nat) (a0_0 : Int) (a0_1 : Int) (l0_2 : List ByteArray) (l0_3 : List ByteArray) : Option (Int × Bool) := (impl_ValidBlockCode.f k a0_0 a0_1 l0_2 l0_3).bind fun t237 => (if t237 = true then (impl_RunBound.l0 k [] 0 (([(⟨(-1),(⟨#[]⟩ : ByteArray)⟩ : S80),(⟨1,(⟨#[]⟩ : ByteArray)⟩ : S80)] : List (S80))) a0_0 a0_1 l0_2 l0_3) else (some (0,false)))
def impl_RunBound.T19 : Bool × List (List Nat × List Nat) := (true,[([],[]),([],[]),([1],[1]),([],[]),([2,3],[2,3]),([],[]),([],[]),([6],[6]),([],[]),([7,8],[7,8]),([5,9],[5,9]),([4,10],[4,10]),([11],[11]),([0,12,4],[0,12]),([13,13,0,1,2,3,4,5,6,7,8,9,10,11,12,13],[0,13])])
def impl_RunBound.B19 : List Nat := [0,0,2,0,14,0,0,64,0,448,992,2046,4094,8191,16383]
def impl_RunBound.inS (seen : List (Int × List UInt8)) : Value → Bool
 | .agg cs => (match cs.toList with | [.int .i64 a,.string s] => decide ((a,s.data.toList) ∈ seen) | _ => false)
 | _ => false
theorem impl_RunBound.inS_nil : impl_RunBound.inS [] = fun _ => false := by
 funext u
 unfold impl_RunBound.inS
 split
 ·split <;> simp
 ·rfl
theorem impl_RunBound.inS_at (seen : List (Int × List UInt8)) (a : Int) (s : ByteArray) : impl_RunBound.inS seen (.agg #[.int .i64 a,.string s]) = decide ((a,s.data.toList) ∈ seen) := rfl
theorem impl_RunBound.see_in {sn sn2 : List (Int × List UInt8)} {a : Int} {s : ByteArray} (h : sn2 = (a,s.data.toList) :: sn) : impl_RunBound.inS sn2 (.agg #[.int .i64 a,.string s]) = true := by
 rw [impl_RunBound.inS_at,h]
 exact decide_eq_true (List.mem_cons_self)
theorem impl_RunBound.see_out {sn sn2 : List (Int × List UInt8)} {a : Int} {s : ByteArray} (h : sn2 = (a,s.data.toList) :: sn) : ∀ u,u ≠ Value.agg #[.int .i64 a,.string s] → impl_RunBound.inS sn2 u = impl_RunBound.inS sn u := by
 intro u hu
 subst h
 cases u with
 | agg cs =>
  unfold impl_RunBound.inS
  dsimp only
  split
  ·rename_i b t ht
   have hne : ¬ (b,t.data.toList) = (a,s.data.toList) := by
    intro e
    injection e with e1 e2
    subst e1
    apply hu
    congr 1
    apply Array.toList_inj.1
    rw [ht,ByteArray.ext (Array.toList_inj.1 e2)]
   simp [hne]
  ·rfl
 | _ => rfl
theorem impl_RunBound.below_step_grown {w W W' : World} {g : Nat} (h : Below w.heap.size w W) (hg : W.grownBy W' (some g)) (hge : w.heap.size ≤ g) : Below w.heap.size w W' :=
 h.grown hg h.size (fun k hk => by injection hk with hk; omega)
theorem gate_update {P : Program} {ops : Array Oper} {Q : Exit → Act → World → Prop} {o : Oper} {rest : List Oper} {a : Act} {W : World} {m : TypeId} {x y z : Operand} (_ho : o.op = .mapUpdate m x y z) (h : wpList P ops Q (o :: rest) a W) : wpList P ops Q (o :: rest) a W := h
theorem impl_RunBound.laidOut : laidOutB Tryd.prog = true := by kernel_rfl
theorem impl_RunBound.keyRow : Nat.blt 80 Tryd.prog.types.size = true := by kernel_rfl
theorem impl_RunBound.keyDeep : Tryd.prog.keyTypeAt 2 80 = true := by kernel_rfl
theorem impl_RunBound.keyed : Maps.Keyed Tryd.prog 80 := Maps.Keyed.of_law (deep_law_laid impl_RunBound.laidOut (m := 2) (Nat.le_of_ble_eq_true rfl) (Nat.blt_eq.mp impl_RunBound.keyRow) impl_RunBound.keyDeep (by kernel_rfl))
theorem impl_RunBound.keyType : Tryd.prog.keyType 80 = true := by kernel_rfl
theorem impl_RunBound.cellsE : Tryd.prog.cellsOf 80 = 2 := by kernel_rfl
theorem impl_RunBound.cellsI : Tryd.prog.cellsOf 2 = 1 := by kernel_rfl
theorem impl_RunBound.cellsS : Tryd.prog.cellsOf 9 = 1 := by kernel_rfl
theorem impl_RunBound.key {a : Int} {s : ByteArray} (h1 : -2 < a) (h2 : a < 2) (h3 : s.size ≤ 1048576) : ∃ kl,keyOf Tryd.prog 80 (.agg #[.int .i64 a,.string s]) = some kl := by
 have hf : (Value.agg #[.int .i64 a,.string s]).formed Tryd.prog 80 = true := by
  unfold Value.formed
  rw [Tryd.underlying80,impl_RunBound.cellsE]
  rfl
 have hw : (Lit.int .i64 a).wf = true := by
  obtain h | h | h : a = -1 ∨ a = 0 ∨ a = 1 := by omega
  all_goals (subst h; rfl)
 have hm : s.size ≤ maxLen := by unfold maxLen; omega
 obtain ⟨D,hD⟩ : ∃ D,Tryd.prog.types.size = D + 1 := ⟨Tryd.prog.types.size - 1,by have := Nat.blt_eq.mp impl_RunBound.keyRow; omega⟩
 have hl : Tryd.prog.keyLits (D + 1 + 1) 80 [.int .i64 a,.string s] = some [.int .i64 a,.string s.data.toList] := by
  have h9 : Tryd.prog.keyLits (D + 1) 9 [.string s] = some [.string s.data.toList] := by
   unfold Program.keyLits
   rw [Tryd.underlying9]
   show (if s.size ≤ maxLen then some [Lit.string s.data.toList] else none) = _
   rw [if_pos hm]
  have h2 : Tryd.prog.keyLits (D + 1) 2 [.int .i64 a] = some [.int .i64 a] := by
   unfold Program.keyLits
   rw [Tryd.underlying2]
   show (if IntKind.i64 = IntKind.i64 ∧ (Lit.int .i64 a).wf = true then some [Lit.int .i64 a] else none) = _
   rw [if_pos ⟨rfl,hw⟩]
  unfold Program.keyLits
  rw [Tryd.underlying80]
  dsimp only
  rw [if_pos ⟨by rw [impl_RunBound.cellsE]; rfl,by first | simp; done | decide⟩]
  simp only [List.mapM_cons,List.mapM_nil,List.drop,List.take,impl_RunBound.cellsI,impl_RunBound.cellsS,h2,h9]
  rfl
 unfold keyOf
 rw [Tryd.underlying80]
 dsimp only
 rw [impl_RunBound.keyType,hf,hD]
 simp only [Value.cells,hl]
 exact ⟨_,rfl⟩
theorem impl_RunBound.tab19 : rtab .any (opsOf Tryd.f33 19) = impl_RunBound.T19 := by kernel_rfl
theorem impl_RunBound.bits19 : waitsOk impl_RunBound.T19.2 impl_RunBound.B19 = true := by kernel_rfl
set_option maxHeartbeats 8000000 in
set_option maxRecDepth 100000 in
theorem impl_RunBound.calls (k : Nat) (a0_0 : Int) (a0_1 : Int) (A0_2 : Option Addr) (c0_2 : Nat) (l0_2 : List ByteArray) (A0_3 : Option Addr) (c0_3 : Nat) (l0_3 : List ByteArray) (r1 : Int) (r2 : Bool) (w : World) (hr0_2 : Kd.C Kd.string w A0_2 l0_2.length l0_2) (hc0_2 : l0_2.length ≤ c0_2) (hr0_3 : Kd.C Kd.string w A0_3 l0_3.length l0_3) (hc0_3 : l0_3.length ≤ c0_3) (h : impl_RunBound.f k a0_0 a0_1 l0_2 l0_3 = some (r1,r2)) :
  Calls Tryd.prog 33 #[.agg #[.int .i64 a0_0,.int .i64 a0_1,.slice A0_2 l0_2.length c0_2,.slice A0_3 l0_3.length c0_3]] w fun e w' => e = .returned (.tuple #[.int .i64 r1,.bool r2]) ∧ Below w.heap.size w w' := by
 have hu30 := Tryd.underlying30
 have hu80 := Tryd.underlying80
 have hu78 := Tryd.underlying78
 have hmm := @run_makeMap Tryd.prog
 have HR0_2 := Aside0.mk hr0_2
 have HC0_2 := Aside0.mk hc0_2
 clear hr0_2 hc0_2
 have HR0_3 := Aside0.mk hr0_3
 have HC0_3 := Aside0.mk hc0_3
 clear hr0_3 hc0_3
 have HB := Aside0.mk (Below.refl w.heap.size w)
 have H : ((impl_ValidBlockCode.f k a0_0 a0_1 l0_2 l0_3).bind fun t237 => (if t237 = true then (impl_RunBound.l0 k [] 0 (([(⟨(-1),(⟨#[]⟩ : ByteArray)⟩ : S80),(⟨1,(⟨#[]⟩ : ByteArray)⟩ : S80)] : List (S80))) a0_0 a0_1 l0_2 l0_3) else (some (0,false)))) = some (r1,r2) := h
 clear h
 replace H := Option.bind_eq_some_iff.mp H
 obtain ⟨t237,A20,H⟩ := H
 replace H : (if t237 = true then (impl_RunBound.l0 k [] 0 (([(⟨(-1),(⟨#[]⟩ : ByteArray)⟩ : S80),(⟨1,(⟨#[]⟩ : ByteArray)⟩ : S80)] : List (S80))) a0_0 a0_1 l0_2 l0_3) else (some (0,false))) = some (r1,r2) := H
 have A2 := Aside0.mk A20
 clear A20
 by_cases c3 : t237 = true
 ·subst c3
  have H1 : (impl_RunBound.l0 k [] 0 (([(⟨(-1),(⟨#[]⟩ : ByteArray)⟩ : S80),(⟨1,(⟨#[]⟩ : ByteArray)⟩ : S80)] : List (S80))) a0_0 a0_1 l0_2 l0_3) = some (r1,r2) := by rw [if_pos rfl] at H; exact H
  clear H
  have H := H1
  clear H1
  obtain ⟨y238,hy238⟩ : ∃ y_ : List (S80),y_ = (([(⟨(-1),(⟨#[]⟩ : ByteArray)⟩ : S80),(⟨1,(⟨#[]⟩ : ByteArray)⟩ : S80)] : List (S80))) := ⟨_,rfl⟩
  replace H : (impl_RunBound.l0 k [] 0 y238 a0_0 a0_1 l0_2 l0_3) = some (r1,r2) := by first | (rw [hy238]; with_reducible exact H) | (have H2_ := (Option.bind_some _ _).symm.trans H; rw [hy238]; with_reducible exact H2_) | (have H2_ := (Option.bind_some _ _).symm.trans H; with_reducible exact H2_) | with_reducible exact H | (rw [hy238]; exact H) | exact H
  have Ny238 := Aside0.mk hy238
  clear hy238
  have H' := Aside0.mk H
  clear H
  go_enter Tryd.func33,Tryd.ntmps33
  go_wp2_with (first | ((with_reducible refine gate_dst (N := 1) rfl ?_); refine box_event ?hg (N := 1) ?hd (cs := #[.int .i64 a0_0,.int .i64 a0_1,.slice A0_2 l0_2.length c0_2,.slice A0_3 l0_3.length c0_3]) (t := 30) ?hr ?_; (case hd => rfl); (case hg => rfl); (case hr => first | (go_simp; done) | (go_simp; rfl)); intro gb236 hg w4 hbox hb; have n0_ := Aside0.mk (below_step b9_12 hb); have n1_ := Aside0.mk (hbox); have n2_ := Aside0.mk ((by rw [hg]; exact (below_size b9_12) : w.heap.size ≤ gb236)); have n3_ := Aside0.mk ((by rw [hg]; exact (below_size b9_12) : w.heap.size ≤ gb236)); clear HB; have HB := n0_; have BK236 := n1_; have GW236 := n2_; have GE236 := n3_; clear n0_ n1_ n2_ n3_; clear hb hbox hg; have hcz5_0 : w4.cell? ⟨gb236,0,none⟩ = some (.int .i64 a0_0) := (blk_cell BK236.out 0).trans rfl; have hcz5_1 : w4.cell? ⟨gb236,1,none⟩ = some (.int .i64 a0_1) := (blk_cell BK236.out 1).trans rfl; have hcz5_2 : w4.cell? ⟨gb236,2,none⟩ = some (.slice A0_2 l0_2.length c0_2) := (blk_cell BK236.out 2).trans rfl; have hcz5_3 : w4.cell? ⟨gb236,3,none⟩ = some (.slice A0_3 l0_3.length c0_3) := (blk_cell BK236.out 3).trans rfl; have hfz5_0 := blk_frozen BK236.out 0; have hfz5_1 := blk_frozen BK236.out 1; have hfz5_2 := blk_frozen BK236.out 2; have hfz5_3 := blk_frozen BK236.out 3) | ((with_reducible refine gate_callee (f := 17) rfl ?_); refine goesL_ (some 16) rfl rfl Tryd.func17 (by kernel_rfl) rfl #[.agg #[.int .i64 a0_0,.int .i64 a0_1,.slice A0_2 l0_2.length c0_2,.slice A0_3 l0_3.length c0_3]] rfl b9_18 ?_; (with_reducible refine (impl_ValidBlockCode.calls k a0_0 a0_1 _ _ l0_2 _ _ l0_3 true _ ?side1 ?side2 ?side3 ?side4 A2.out).mono ?_); (case side1 => repeat (first | exact (Kd.C_below HR0_2.out HB.out) | (with_reducible refine Kd.C_alloc ?_ _) | (with_reducible refine Kd.C_drewN ?_ _) | (with_reducible refine Kd.C_drew ?_))); (case side2 => exact HC0_2.out); (case side3 => repeat (first | exact (Kd.C_below HR0_3.out HB.out) | (with_reducible refine Kd.C_alloc ?_ _) | (with_reducible refine Kd.C_drewN ?_ _) | (with_reducible refine Kd.C_drew ?_))); (case side4 => exact HC0_3.out); rintro e w6 ⟨rfl,hb⟩; refine ⟨_,rfl,?_⟩; have n0_ := Aside0.mk (blk_below (g := gb236) (o := .cells #[.int .i64 a0_0,.int .i64 a0_1,.slice A0_2 l0_2.length c0_2,.slice A0_3 l0_3.length c0_3] 30 (0,0)) b9_2 hb); have n1_ := Aside0.mk (below_step b9_3 hb); clear BK236; clear HB; have BK236 := n0_; have HB := n1_; clear n0_ n1_; (try clear hb); (try clear hb2); (try clear hk); (try clear hi)) | ((with_reducible refine gate_dst (N := 21) rfl ?_); refine Kd.R_lit k80 _ 80 ?hg (N := 21) ?hd (xs := ([(⟨(-1),(⟨#[]⟩ : ByteArray)⟩ : S80),(⟨1,(⟨#[]⟩ : ByteArray)⟩ : S80)] : List (S80))) (inner := [.int .i64 (-1),.string (⟨#[]⟩ : ByteArray),.int .i64 1,.string (⟨#[]⟩ : ByteArray)]) (ok := fun _ => True) (okp := fun _ => True) ?hr ?hp (fun _ hk => hk) trivial (Below.refl _ _) (Nat.le_refl _) (by simp) ?_; (case hd => rfl); (case hg => rfl); (case hr => first | (go_simp; done) | (go_simp; rfl)); (case hp => exact (Reps.c2 (show Kd.M k80 _ _ _ (⟨(-1),(⟨#[]⟩ : ByteArray)⟩ : S80) [.int .i64 (-1),.string (⟨#[]⟩ : ByteArray)] from (k80_mkM _ _ _ (⟨(-1),(⟨#[]⟩ : ByteArray)⟩ : S80) )) (Reps.c2 (show Kd.M k80 _ _ _ (⟨1,(⟨#[]⟩ : ByteArray)⟩ : S80) [.int .i64 1,.string (⟨#[]⟩ : ByteArray)] from (k80_mkM _ _ _ (⟨1,(⟨#[]⟩ : ByteArray)⟩ : S80) )) (Reps.none _ _)))); intro v239 w7 ho8 hb hg_ hnew_; clear hg_ hnew_; (first | rw [← Ny238.out] at ho8 | (simp only [Int.reduceToNat] at ho8; rw [← Ny238.out] at ho8)); have GM := Aside0.mk (show w.heap.size ≤ w6.heap.size from HB.out.size); have GL := Aside0.mk (blk_lt BK236.out); have n0_ := Aside0.mk (Kd.R_lower (Kd.R_mono (Kd.R_bound ho8) (fun k_ hk => (Nat.ne_of_gt (Nat.lt_of_lt_of_le (by show w6.heap.size < (w6.heap.push _).size; rw [Array.size_push]; exact Nat.lt_succ_self _) hk.2.1) : k_ ≠ w6.heap.size))) (below_size b9_3)); have n1_ := Aside0.mk (blk_below (g := gb236) (o := .cells #[.int .i64 a0_0,.int .i64 a0_1,.slice A0_2 l0_2.length c0_2,.slice A0_3 l0_3.length c0_3] 30 (0,0)) b9_2 hb); have n2_ := Aside0.mk (below_step b9_3 hb); have nS_ := Aside0.mk (show MSet.SetIs _ Tryd.prog 80 4 w6.heap.size ([] : List (Int × List UInt8)).length (impl_RunBound.inS ([] : List (Int × List UInt8))) from MSet.SetIs.below (w := w6.alloc (.map #[] 0)) (by rw [impl_RunBound.inS_nil]; exact MSet.SetIs.made w6 Tryd.prog 80 4) hb); have HS := nS_; clear nS_; clear BK236; clear HB; have HO240 := n0_; have BK236 := n1_; have HB := n2_; clear n0_ n1_ n2_; clear hb ho8))
  go_loopg [4,6] k (fun kq v4 v6 w' => ∃ (sn : List (Int × List UInt8)) (x4_1 : Int) (x6_1 : List (S80)),v4 = .int .i64 x4_1 ∧ Aside0 (impl_RunBound.l0 kq sn x4_1 x6_1 a0_0 a0_1 l0_2 l0_3 = some (r1,r2)) ∧ Aside0 (kq ≤ k) ∧ Aside0 (Kd.R k80 80 w' w.heap.size (fun k_ => k_ ≠ w6.heap.size) v6 x6_1) ∧ Aside0 (MSet.SetIs w' Tryd.prog 80 4 w6.heap.size sn.length (impl_RunBound.inS sn)) ∧ Aside0 (w'.heap[gb236]? = some (.cells #[.int .i64 a0_0,.int .i64 a0_1,(.slice A0_2 l0_2.length c0_2),(.slice A0_3 l0_3.length c0_3)] 30 (0,0))) ∧ Aside0 (Below w.heap.size w w'))
  case atStart => exact ⟨([]),(0),(y238),b9_20,H',⟨Nat.le_refl _⟩,⟨by (with_reducible repeat (first | apply Kd.R_alloc | apply Kd.R_drewN | apply Kd.R_drew)); exact HO240.out⟩,⟨b9_1⟩,⟨b9_2⟩,⟨b9_3⟩⟩
  case round =>
   clear H' HS
   (try clear c1);(try clear c2);(try clear p2);(try clear c3);(try clear hcz5_0);(try clear hcz5_1);(try clear hcz5_2);(try clear hcz5_3);(try clear hfz5_0);(try clear hfz5_1);(try clear hfz5_2);(try clear hfz5_3)
   obtain ⟨sn,x4_1,x6_1,rfl,HA,HK1,HO_6,HS,BK236,HB⟩ := hrel
   cases gk with
   | zero => exact absurd HA.out (by simp [impl_RunBound.l0])
   | succ k1 =>
    have H := HA.out
    clear HA
    simp only [impl_RunBound.l0] at H
    by_cases c9 : (x6_1.length : Int) > 0
    ·rw [if_pos c9] at H
     have c9b0 : decide (0 < (x6_1.length : Int)) = true := decide_eq_true c9
     have c9b1 : decide (0 < x6_1.length) = true := decide_eq_true (by omega)
     clear c9
     obtain ⟨ji10,hji10⟩ : ∃ j_ : Int,(wrap64 ((x6_1.length : Int) - 1)) = j_ := ⟨_,rfl⟩
     replace H : (if 0 ≤ (ji10) then (if (ji10) < (x6_1.length : Int) then (if (ji10) ≤ (x6_1.length : Int) then ((some (x6_1.take ((ji10) : Int).toNat : List (S80))).bind fun y243 => (if -2 < ((rd_T80 x6_1 (ji10)).f0) ∧ ((rd_T80 x6_1 (ji10)).f0) < 2 ∧ ((rd_T80 x6_1 (ji10)).f1).size ≤ 1048576 ∧ sn.length < 1000000 then (if (((rd_T80 x6_1 (ji10)).f0),((rd_T80 x6_1 (ji10)).f1).data.toList) ∈ sn then (impl_RunBound.l0 k1 sn x4_1 y243 a0_0 a0_1 l0_2 l0_3) else (if ((rd_T80 x6_1 (ji10)).f0) < 0 then ((impl_BlockCode_words_neg.f a0_0 a0_1 l0_2 l0_3 ((rd_T80 x6_1 (ji10)).f0)).bind fun _ => (impl_RunBound.l1 k1 ((((rd_T80 x6_1 (ji10)).f0),((rd_T80 x6_1 (ji10)).f1).data.toList) :: sn) x4_1 y243 l0_2 (l0_2.length : Int) 0 a0_0 a0_1 l0_2 l0_3 ((rd_T80 x6_1 (ji10)).f0) ((rd_T80 x6_1 (ji10)).f1))) else ((impl_BlockCode_words_pos.f a0_0 a0_1 l0_2 l0_3 ((rd_T80 x6_1 (ji10)).f0)).bind fun _ => (impl_RunBound.l101 k1 ((((rd_T80 x6_1 (ji10)).f0),((rd_T80 x6_1 (ji10)).f1).data.toList) :: sn) x4_1 y243 l0_3 (l0_3.length : Int) 0 a0_0 a0_1 l0_2 l0_3 ((rd_T80 x6_1 (ji10)).f0) ((rd_T80 x6_1 (ji10)).f1))))) else none)) else (none)) else (none)) else (none)) = some (r1,r2) := by first | (rw [hji10] at H; exact H) | (simp only [hji10] at H ⊢; exact H)
     have hji10w : (IntKind.i64.wrap ((x6_1.length : Int) - 1)) = ji10 := (i64_w _).trans hji10
     by_cases c11 : 0 ≤ (ji10)
     ·rw [if_pos c11] at H
      have c11b0 : decide (0 ≤ (ji10)) = true := decide_eq_true c11
      clear c11
      by_cases c12 : (ji10) < (x6_1.length : Int)
      ·rw [if_pos c12] at H
       have c12b0 : decide ((ji10) < (x6_1.length : Int)) = true := decide_eq_true c12
       clear c12
       by_cases c13 : (ji10) ≤ (x6_1.length : Int)
       ·rw [if_pos c13] at H
        have c13b0 := eq_true c13
        have c13b1 : decide ((ji10) ≤ (x6_1.length : Int)) = true := decide_eq_true c13
        clear c13
        obtain ⟨y243,hy243⟩ : ∃ y_ : List (S80),y_ = (x6_1.take ((ji10) : Int).toNat) := ⟨_,rfl⟩
        replace H : (if -2 < ((rd_T80 x6_1 (ji10)).f0) ∧ ((rd_T80 x6_1 (ji10)).f0) < 2 ∧ ((rd_T80 x6_1 (ji10)).f1).size ≤ 1048576 ∧ sn.length < 1000000 then (if (((rd_T80 x6_1 (ji10)).f0),((rd_T80 x6_1 (ji10)).f1).data.toList) ∈ sn then (impl_RunBound.l0 k1 sn x4_1 y243 a0_0 a0_1 l0_2 l0_3) else (if ((rd_T80 x6_1 (ji10)).f0) < 0 then ((impl_BlockCode_words_neg.f a0_0 a0_1 l0_2 l0_3 ((rd_T80 x6_1 (ji10)).f0)).bind fun _ => (impl_RunBound.l1 k1 ((((rd_T80 x6_1 (ji10)).f0),((rd_T80 x6_1 (ji10)).f1).data.toList) :: sn) x4_1 y243 l0_2 (l0_2.length : Int) 0 a0_0 a0_1 l0_2 l0_3 ((rd_T80 x6_1 (ji10)).f0) ((rd_T80 x6_1 (ji10)).f1))) else ((impl_BlockCode_words_pos.f a0_0 a0_1 l0_2 l0_3 ((rd_T80 x6_1 (ji10)).f0)).bind fun _ => (impl_RunBound.l101 k1 ((((rd_T80 x6_1 (ji10)).f0),((rd_T80 x6_1 (ji10)).f1).data.toList) :: sn) x4_1 y243 l0_3 (l0_3.length : Int) 0 a0_0 a0_1 l0_2 l0_3 ((rd_T80 x6_1 (ji10)).f0) ((rd_T80 x6_1 (ji10)).f1))))) else none) = some (r1,r2) := by first | (rw [hy243]; with_reducible exact H) | (have H2_ := (Option.bind_some _ _).symm.trans H; rw [hy243]; with_reducible exact H2_) | (have H2_ := (Option.bind_some _ _).symm.trans H; with_reducible exact H2_) | with_reducible exact H | (rw [hy243]; exact H) | exact H
        have Ny243 := Aside0.mk hy243
        clear hy243
        have cz : -2 < ((rd_T80 x6_1 (ji10)).f0) ∧ ((rd_T80 x6_1 (ji10)).f0) < 2 ∧ ((rd_T80 x6_1 (ji10)).f1).size ≤ 1048576 ∧ sn.length < 1000000 := by
         by_cases cz : -2 < ((rd_T80 x6_1 (ji10)).f0) ∧ ((rd_T80 x6_1 (ji10)).f0) < 2 ∧ ((rd_T80 x6_1 (ji10)).f1).size ≤ 1048576 ∧ sn.length < 1000000
         ·exact cz
         ·rw [if_neg cz] at H; cases H
        rw [if_pos cz] at H
        obtain ⟨kl,hkl⟩ := impl_RunBound.key cz.1 cz.2.1 cz.2.2.1
        have KL := Aside0.mk hkl
        have SZ := Aside0.mk (show sn.length < maxLen by have := cz.2.2.2; unfold maxLen; omega)
        clear cz hkl
        by_cases c14 : (((rd_T80 x6_1 (ji10)).f0),((rd_T80 x6_1 (ji10)).f1).data.toList) ∈ sn
        ·rw [if_pos c14] at H
         have hseen : impl_RunBound.inS sn (.agg #[.int .i64 ((rd_T80 x6_1 (ji10)).f0),.string ((rd_T80 x6_1 (ji10)).f1)]) = true := (impl_RunBound.inS_at sn ((rd_T80 x6_1 (ji10)).f0) ((rd_T80 x6_1 (ji10)).f1)).trans (decide_eq_true c14)
         clear c14
         have H' := Aside0.mk H
         clear H
         obtain ⟨Ao15,co15,eo15⟩ := Kd.R_slice HO_6.out
         subst eo15
         have p241 : 0 ≤ ((ji10) : Int) := of_decide_eq_true b9_13
         have q241 : (ji10) < (x6_1.length : Int) := of_decide_eq_true b9_13
         obtain ⟨ad241,e241,hx241_0,hx241_1⟩ := at_T80 (Kd.R_reads' HO_6.out).2.2 (ji10) p241 q241
         cases e241
         replace p241 := eq_true p241
         replace q241 := eq_true q241
         go_wp2_with (first | ((with_reducible refine gate_dst (N := 38) rfl ?_); refine MSet.wpList_seen _ rfl (.tmp 36) (.tmp 37) 78 rfl 80 4 impl_RunBound.keyed hu78 Tryd.underlying4 (Tryd.zeroValue4 _) w6.heap.size sn.length (impl_RunBound.inS sn) rfl b9_1 (.agg #[.int .i64 ((rd_T80 x6_1 (ji10)).f0),.string ((rd_T80 x6_1 (ji10)).f1)]) kl rfl KL.out ?_; rw [hseen]) | ((with_reducible refine gate_dst (N := 7) rfl ?_); refine box_event ?hg (N := 7) ?hd (cs := #[.int .i64 0,.string (⟨#[]⟩ : ByteArray)]) (t := 80) ?hr ?_; (case hd => rfl); (case hg => rfl); (case hr => first | (go_simp; done) | (go_simp; rfl)); intro gb242 hg w16 hbox hb; have nS_ := Aside0.mk (MSet.SetIs.below b9_1 hb); have NM := Aside0.mk (show gb242 ≠ w6.heap.size from b9_19); clear HS; have HS := nS_; clear nS_; have n0_ := Aside0.mk (Kd.R_below (Kd.R_elderB b9_10 gb242 (Nat.le_of_eq hg.symm)) hb); have n1_ := Aside0.mk (blk_below (g := gb236) (o := .cells #[.int .i64 a0_0,.int .i64 a0_1,.slice A0_2 l0_2.length c0_2,.slice A0_3 l0_3.length c0_3] 30 (0,0)) b9_2 hb); have n2_ := Aside0.mk (below_step b9_3 hb); have n3_ := Aside0.mk (hbox); have n4_ := Aside0.mk ((by rw [hg]; exact (below_size b9_3) : w.heap.size ≤ gb242)); have n5_ := Aside0.mk ((by rw [hg]; exact (below_size b9_3) : w.heap.size ≤ gb242)); have n6_ := Aside0.mk ((by rw [hg]; exact Nat.ne_of_lt (blk_lt (g := gb236) (o := .cells #[.int .i64 a0_0,.int .i64 a0_1,.slice A0_2 l0_2.length c0_2,.slice A0_3 l0_3.length c0_3] 30 (0,0)) b9_2) : gb236 ≠ gb242)); have n7_ := Aside0.mk ((by rw [hg]; exact Nat.ne_of_gt (blk_lt (g := gb236) (o := .cells #[.int .i64 a0_0,.int .i64 a0_1,.slice A0_2 l0_2.length c0_2,.slice A0_3 l0_3.length c0_3] 30 (0,0)) b9_2) : gb242 ≠ gb236)); clear HO_6; clear BK236; clear HB; have HO_6 := n0_; have BK236 := n1_; have HB := n2_; have BK242 := n3_; have GW242 := n4_; have GE242 := n5_; have NB236_242 := n6_; have NB242_236 := n7_; clear n0_ n1_ n2_ n3_ n4_ n5_ n6_ n7_; clear hb hbox hg; have hnb17 := NB242_236.out; have hnc17 := NB236_242.out; have hcz18_0 : w16.cell? ⟨gb242,0,none⟩ = some (.int .i64 0) := (blk_cell BK242.out 0).trans rfl; have hcz18_1 : w16.cell? ⟨gb242,1,none⟩ = some (.string (⟨#[]⟩ : ByteArray)) := (blk_cell BK242.out 1).trans rfl; have hfz18_0 := blk_frozen BK242.out 0; have hfz18_1 := blk_frozen BK242.out 1) | ((with_reducible refine gate_store (t := 80) (p := 7) rfl ?_); refine store_event (t := 80) (p := 7) (v := ?vo_w19) (w1 := ((w16.setCell ⟨gb242,0,none⟩ (.int .i64 ((rd_T80 x6_1 (ji10)).f0))).setCell ⟨gb242,1,none⟩ (.string ((rd_T80 x6_1 (ji10)).f1)))) ?hg ?ho ?hn ?hr ?_; (case ho => rfl); (case hg => rfl); (case hn => rfl); (case hr => first | (go_simp; done) | (go_simp; rfl)); intro w19 hw; have nS_ := Aside0.mk (show MSet.SetIs w19 Tryd.prog 80 4 w6.heap.size sn.length (impl_RunBound.inS sn) from b9_17); clear HS; have HS := nS_; clear nS_; have n0_ : Aside0 (Kd.R k80 80 w19 w.heap.size (fun k_ => k_ ≠ gb242 ∧ k_ ≠ w6.heap.size) (.slice (some ad241) x6_1.length co15) x6_1) := ⟨b9_8⟩; have n1_ : Aside0 (w19.heap[gb236]? = some (.cells #[.int .i64 a0_0,.int .i64 a0_1,.slice A0_2 l0_2.length c0_2,.slice A0_3 l0_3.length c0_3] 30 (0,0))) := ⟨b9_7⟩; have n2_ : Aside0 (w19.heap[gb242]? = some (.cells #[.int .i64 ((rd_T80 x6_1 (ji10)).f0),.string ((rd_T80 x6_1 (ji10)).f1)] 80 (0,0))) := ⟨b9_5⟩; have n3_ : Aside0 (Below w.heap.size w w19) := ⟨b9_15⟩; clear hw; clear HO_6; clear BK236; clear BK242; clear HB; have HO_6 := n0_; have BK236 := n1_; have BK242 := n2_; have HB := n3_; clear n0_ n1_ n2_ n3_; have q20 : ((ji10) : Int) ≤ ((x6_1.length : Int) : Int) := of_decide_eq_true b9_13; obtain ⟨i020,hi020,_,hsz20,_⟩ := info_parts info80; have hcut20 := cut_to (P := Tryd.prog) 81 80 .i64 Tryd.underlying81 hi020 (some ad241) x6_1.length co15 (ji10) (of_decide_eq_true b9_13) q20 (Kd.R_reads' HO_6.out).2.1; have hr20 := Kd.R_take (m := ((ji10) : Int).toNat) HO_6.out (by omega); have hy20 : y243.length = ((ji10) : Int).toNat := (by rw [Ny243.out,List.length_take]; omega); rw [← Ny243.out] at hr20; rw [← hy20] at hr20 hcut20; clear hy20 hi020 hsz20 HO_6; have HO245 := Aside0.mk hr20; clear hr20; replace q20 := eq_true q20; have hcz21_0 : w19.cell? ⟨gb242,0,none⟩ = some (.int .i64 ((rd_T80 x6_1 (ji10)).f0)) := (blk_cell BK242.out 0).trans rfl; have hcz21_1 : w19.cell? ⟨gb242,1,none⟩ = some (.string ((rd_T80 x6_1 (ji10)).f1)) := (blk_cell BK242.out 1).trans rfl; have hfz21_0 := blk_frozen BK242.out 0; have hfz21_1 := blk_frozen BK242.out 1))
         go_roundg k1
         case measure => have := HK1.out; omega
         case rel => exact ⟨(sn),(x4_1),(y243),b9_20,H',⟨by have := HK1.out; omega⟩,⟨by (with_reducible repeat (first | apply Kd.R_alloc | apply Kd.R_drewN | apply Kd.R_drew)); exact Kd.R_mono HO245.out (fun _ hk => hk.2)⟩,⟨b9_1⟩,⟨b9_2⟩,⟨b9_0⟩⟩
        ·rw [if_neg c14] at H
         obtain ⟨sn2,hsn2⟩ : ∃ s_ : List (Int × List UInt8),s_ = ((((rd_T80 x6_1 (ji10)).f0),((rd_T80 x6_1 (ji10)).f1).data.toList) :: sn) := ⟨_,rfl⟩
         rw [← hsn2] at H
         have HSN := Aside0.mk hsn2
         clear hsn2
         have hseen : impl_RunBound.inS sn (.agg #[.int .i64 ((rd_T80 x6_1 (ji10)).f0),.string ((rd_T80 x6_1 (ji10)).f1)]) = false := (impl_RunBound.inS_at sn ((rd_T80 x6_1 (ji10)).f0) ((rd_T80 x6_1 (ji10)).f1)).trans (decide_eq_false c14)
         clear c14
         by_cases c22 : ((rd_T80 x6_1 (ji10)).f0) < 0
         ·rw [if_pos c22] at H
          have c22b0 : decide (((rd_T80 x6_1 (ji10)).f0) < 0) = true := decide_eq_true c22
          clear c22
          replace H := Option.bind_eq_some_iff.mp H
          obtain ⟨_,A230,H⟩ := H
          replace H : (impl_RunBound.l1 k1 sn2 x4_1 y243 l0_2 (l0_2.length : Int) 0 a0_0 a0_1 l0_2 l0_3 ((rd_T80 x6_1 (ji10)).f0) ((rd_T80 x6_1 (ji10)).f1)) = some (r1,r2) := H
          have A23 := Aside0.mk A230
          clear A230
          have H' := Aside0.mk H
          clear H
          obtain ⟨Ao24,co24,eo24⟩ := Kd.R_slice HO_6.out
          subst eo24
          have p241 : 0 ≤ ((ji10) : Int) := of_decide_eq_true b9_13
          have q241 : (ji10) < (x6_1.length : Int) := of_decide_eq_true b9_13
          obtain ⟨ad241,e241,hx241_0,hx241_1⟩ := at_T80 (Kd.R_reads' HO_6.out).2.2 (ji10) p241 q241
          cases e241
          replace p241 := eq_true p241
          replace q241 := eq_true q241
          go_wp2_with (first | ((with_reducible refine gate_dst (N := 38) rfl ?_); refine MSet.wpList_seen _ rfl (.tmp 36) (.tmp 37) 78 rfl 80 4 impl_RunBound.keyed hu78 Tryd.underlying4 (Tryd.zeroValue4 _) w6.heap.size sn.length (impl_RunBound.inS sn) rfl b9_1 (.agg #[.int .i64 ((rd_T80 x6_1 (ji10)).f0),.string ((rd_T80 x6_1 (ji10)).f1)]) kl rfl KL.out ?_; rw [hseen]) | ((with_reducible refine gate_dst (N := 7) rfl ?_); refine box_event ?hg (N := 7) ?hd (cs := #[.int .i64 0,.string (⟨#[]⟩ : ByteArray)]) (t := 80) ?hr ?_; (case hd => rfl); (case hg => rfl); (case hr => first | (go_simp; done) | (go_simp; rfl)); intro gb242 hg w25 hbox hb; have nS_ := Aside0.mk (MSet.SetIs.below b9_1 hb); have NM := Aside0.mk (show gb242 ≠ w6.heap.size from b9_19); clear HS; have HS := nS_; clear nS_; have n0_ := Aside0.mk (Kd.R_below (Kd.R_elderB b9_10 gb242 (Nat.le_of_eq hg.symm)) hb); have n1_ := Aside0.mk (blk_below (g := gb236) (o := .cells #[.int .i64 a0_0,.int .i64 a0_1,.slice A0_2 l0_2.length c0_2,.slice A0_3 l0_3.length c0_3] 30 (0,0)) b9_2 hb); have n2_ := Aside0.mk (below_step b9_3 hb); have n3_ := Aside0.mk (hbox); have n4_ := Aside0.mk ((by rw [hg]; exact (below_size b9_3) : w.heap.size ≤ gb242)); have n5_ := Aside0.mk ((by rw [hg]; exact (below_size b9_3) : w.heap.size ≤ gb242)); have n6_ := Aside0.mk ((by rw [hg]; exact Nat.ne_of_lt (blk_lt (g := gb236) (o := .cells #[.int .i64 a0_0,.int .i64 a0_1,.slice A0_2 l0_2.length c0_2,.slice A0_3 l0_3.length c0_3] 30 (0,0)) b9_2) : gb236 ≠ gb242)); have n7_ := Aside0.mk ((by rw [hg]; exact Nat.ne_of_gt (blk_lt (g := gb236) (o := .cells #[.int .i64 a0_0,.int .i64 a0_1,.slice A0_2 l0_2.length c0_2,.slice A0_3 l0_3.length c0_3] 30 (0,0)) b9_2) : gb242 ≠ gb236)); clear HO_6; clear BK236; clear HB; have HO_6 := n0_; have BK236 := n1_; have HB := n2_; have BK242 := n3_; have GW242 := n4_; have GE242 := n5_; have NB236_242 := n6_; have NB242_236 := n7_; clear n0_ n1_ n2_ n3_ n4_ n5_ n6_ n7_; clear hb hbox hg; have hnb26 := NB242_236.out; have hnc26 := NB236_242.out; have hcz27_0 : w25.cell? ⟨gb242,0,none⟩ = some (.int .i64 0) := (blk_cell BK242.out 0).trans rfl; have hcz27_1 : w25.cell? ⟨gb242,1,none⟩ = some (.string (⟨#[]⟩ : ByteArray)) := (blk_cell BK242.out 1).trans rfl; have hfz27_0 := blk_frozen BK242.out 0; have hfz27_1 := blk_frozen BK242.out 1) | ((with_reducible refine gate_store (t := 80) (p := 7) rfl ?_); refine store_event (t := 80) (p := 7) (v := ?vo_w28) (w1 := ((w25.setCell ⟨gb242,0,none⟩ (.int .i64 ((rd_T80 x6_1 (ji10)).f0))).setCell ⟨gb242,1,none⟩ (.string ((rd_T80 x6_1 (ji10)).f1)))) ?hg ?ho ?hn ?hr ?_; (case ho => rfl); (case hg => rfl); (case hn => rfl); (case hr => first | (go_simp; done) | (go_simp; rfl)); intro w28 hw; have nS_ := Aside0.mk (show MSet.SetIs w28 Tryd.prog 80 4 w6.heap.size sn.length (impl_RunBound.inS sn) from b9_17); clear HS; have HS := nS_; clear nS_; have n0_ : Aside0 (Kd.R k80 80 w28 w.heap.size (fun k_ => k_ ≠ gb242 ∧ k_ ≠ w6.heap.size) (.slice (some ad241) x6_1.length co24) x6_1) := ⟨b9_8⟩; have n1_ : Aside0 (w28.heap[gb236]? = some (.cells #[.int .i64 a0_0,.int .i64 a0_1,.slice A0_2 l0_2.length c0_2,.slice A0_3 l0_3.length c0_3] 30 (0,0))) := ⟨b9_7⟩; have n2_ : Aside0 (w28.heap[gb242]? = some (.cells #[.int .i64 ((rd_T80 x6_1 (ji10)).f0),.string ((rd_T80 x6_1 (ji10)).f1)] 80 (0,0))) := ⟨b9_5⟩; have n3_ : Aside0 (Below w.heap.size w w28) := ⟨b9_15⟩; clear hw; clear HO_6; clear BK236; clear BK242; clear HB; have HO_6 := n0_; have BK236 := n1_; have BK242 := n2_; have HB := n3_; clear n0_ n1_ n2_ n3_; have q29 : ((ji10) : Int) ≤ ((x6_1.length : Int) : Int) := of_decide_eq_true b9_13; obtain ⟨i029,hi029,_,hsz29,_⟩ := info_parts info80; have hcut29 := cut_to (P := Tryd.prog) 81 80 .i64 Tryd.underlying81 hi029 (some ad241) x6_1.length co24 (ji10) (of_decide_eq_true b9_13) q29 (Kd.R_reads' HO_6.out).2.1; have hr29 := Kd.R_take (m := ((ji10) : Int).toNat) HO_6.out (by omega); have hy29 : y243.length = ((ji10) : Int).toNat := (by rw [Ny243.out,List.length_take]; omega); rw [← Ny243.out] at hr29; rw [← hy29] at hr29 hcut29; clear hy29 hi029 hsz29 HO_6; have HO245 := Aside0.mk hr29; clear hr29; replace q29 := eq_true q29; have hcz30_0 : w28.cell? ⟨gb242,0,none⟩ = some (.int .i64 ((rd_T80 x6_1 (ji10)).f0)) := (blk_cell BK242.out 0).trans rfl; have hcz30_1 : w28.cell? ⟨gb242,1,none⟩ = some (.string ((rd_T80 x6_1 (ji10)).f1)) := (blk_cell BK242.out 1).trans rfl; have hfz30_0 := blk_frozen BK242.out 0; have hfz30_1 := blk_frozen BK242.out 1; have hcz31_0 : w28.cell? ⟨gb236,0,none⟩ = some (.int .i64 a0_0) := (blk_cell BK236.out 0).trans rfl; have hcz31_1 : w28.cell? ⟨gb236,1,none⟩ = some (.int .i64 a0_1) := (blk_cell BK236.out 1).trans rfl; have hcz31_2 : w28.cell? ⟨gb236,2,none⟩ = some (.slice A0_2 l0_2.length c0_2) := (blk_cell BK236.out 2).trans rfl; have hcz31_3 : w28.cell? ⟨gb236,3,none⟩ = some (.slice A0_3 l0_3.length c0_3) := (blk_cell BK236.out 3).trans rfl; have hfz31_0 := blk_frozen BK236.out 0; have hfz31_1 := blk_frozen BK236.out 1; have hfz31_2 := blk_frozen BK236.out 2; have hfz31_3 := blk_frozen BK236.out 3) | ((with_reducible refine gate_update rfl ?_); refine MSet.wpList_see _ rfl (.tmp 39) (.tmp 40) (.const (.bool true)) 78 rfl 80 4 impl_RunBound.keyed hu78 Tryd.underlying4 w6.heap.size sn.length (impl_RunBound.inS sn) rfl b9_1 SZ.out (.agg #[.int .i64 ((rd_T80 x6_1 (ji10)).f0),.string ((rd_T80 x6_1 (ji10)).f1)]) kl rfl rfl KL.out (impl_RunBound.inS sn2) (impl_RunBound.see_in HSN.out) (impl_RunBound.see_out HSN.out) ?_; intro wu hs hg; have n0_ := Aside0.mk (impl_RunBound.below_step_grown b9_12 hg GM.out); have n1_ := Aside0.mk (blk_grown (g := gb236) b9_2 hg (fun e => by have := GL.out; injection e with e; omega)); have n2_ := Aside0.mk (blk_grown (g := gb242) b9_4 hg (fun e => by injection e with e; exact NM.out e)); have n3_ := Aside0.mk (show MSet.SetIs wu Tryd.prog 80 4 w6.heap.size sn2.length (impl_RunBound.inS sn2) from (by rw [show sn2.length = sn.length + 1 by rw [HSN.out]; rfl]; exact hs)); have n4_ := Aside0.mk (Kd.R_grown b9_16 hg (fun k_ hk e => by injection e with e; exact hk.2 e)); clear HB BK236 BK242 HS HO245; have HB := n0_; have BK236 := n1_; have BK242 := n2_; have HS := n3_; have HO245 := n4_; clear n0_ n1_ n2_ n3_ n4_ hs hg; have hcz30_0 : wu.cell? ⟨gb242,0,none⟩ = some (.int .i64 ((rd_T80 x6_1 (ji10)).f0)) := (blk_cell BK242.out 0).trans rfl; have hcz30_1 : wu.cell? ⟨gb242,1,none⟩ = some (.string ((rd_T80 x6_1 (ji10)).f1)) := (blk_cell BK242.out 1).trans rfl; have hcz31_0 : wu.cell? ⟨gb236,0,none⟩ = some (.int .i64 a0_0) := (blk_cell BK236.out 0).trans rfl; have hcz31_1 : wu.cell? ⟨gb236,1,none⟩ = some (.int .i64 a0_1) := (blk_cell BK236.out 1).trans rfl; have hcz31_2 : wu.cell? ⟨gb236,2,none⟩ = some (.slice A0_2 l0_2.length c0_2) := (blk_cell BK236.out 2).trans rfl; have hcz31_3 : wu.cell? ⟨gb236,3,none⟩ = some (.slice A0_3 l0_3.length c0_3) := (blk_cell BK236.out 3).trans rfl; have hfz30_0 := blk_frozen BK242.out 0; have hfz30_1 := blk_frozen BK242.out 1; have hfz31_0 := blk_frozen BK236.out 0; have hfz31_1 := blk_frozen BK236.out 1; have hfz31_2 := blk_frozen BK236.out 2; have hfz31_3 := blk_frozen BK236.out 3) | ((with_reducible refine gate_callee (f := 55) rfl ?_); refine goesL_ (some 45) rfl rfl Tryd.func55 (by kernel_rfl) rfl #[.agg #[.int .i64 a0_0,.int .i64 a0_1,.slice A0_2 l0_2.length c0_2,.slice A0_3 l0_3.length c0_3],.int .i64 ((rd_T80 x6_1 (ji10)).f0)] rfl b9_14 ?_; (with_reducible refine (impl_BlockCode_words_neg.calls a0_0 a0_1 _ _ l0_2 _ _ l0_3 ((rd_T80 x6_1 (ji10)).f0)  _ ?side1 ?side2 ?side3 ?side4 A23.out).mono ?_); (case side1 => repeat (first | exact (Kd.C_below HR0_2.out HB.out) | (with_reducible refine Kd.C_alloc ?_ _) | (with_reducible refine Kd.C_drewN ?_ _) | (with_reducible refine Kd.C_drew ?_))); (case side2 => exact HC0_2.out); (case side3 => repeat (first | exact (Kd.C_below HR0_3.out HB.out) | (with_reducible refine Kd.C_alloc ?_ _) | (with_reducible refine Kd.C_drewN ?_ _) | (with_reducible refine Kd.C_drew ?_))); (case side4 => exact HC0_3.out); rintro e w32 ⟨rfl,hb⟩; refine ⟨_,rfl,?_⟩; have nS_ := Aside0.mk (MSet.SetIs.below b9_1 hb); clear HS; have HS := nS_; clear nS_; have n0_ := Aside0.mk (Kd.R_below b9_16 hb); have n1_ := Aside0.mk (blk_below (g := gb236) (o := .cells #[.int .i64 a0_0,.int .i64 a0_1,.slice A0_2 l0_2.length c0_2,.slice A0_3 l0_3.length c0_3] 30 (0,0)) b9_2 hb); have n2_ := Aside0.mk (blk_below (g := gb242) (o := .cells #[.int .i64 ((rd_T80 x6_1 (ji10)).f0),.string ((rd_T80 x6_1 (ji10)).f1)] 80 (0,0)) b9_4 hb); have n3_ := Aside0.mk (below_step b9_0 hb); clear HO245; clear BK236; clear BK242; clear HB; have HO245 := n0_; have BK236 := n1_; have BK242 := n2_; have HB := n3_; clear n0_ n1_ n2_ n3_; (try clear hb); (try clear hb2); (try clear hk); (try clear hi)))
          go_loopg [4,6,50] k1 (fun kq v4 v6 v50 w' => ∃ (x4_2 : Int) (x6_2 : List (S80)) (x50_2 : Int),v4 = .int .i64 x4_2 ∧ v50 = .int .i64 x50_2 ∧ Aside0 (impl_RunBound.l1 kq sn2 x4_2 x6_2 l0_2 (l0_2.length : Int) x50_2 a0_0 a0_1 l0_2 l0_3 ((rd_T80 x6_1 (ji10)).f0) ((rd_T80 x6_1 (ji10)).f1) = some (r1,r2)) ∧ Aside0 (kq ≤ k1) ∧ Aside0 (Kd.R k80 80 w' w.heap.size (fun k_ => k_ ≠ gb242 ∧ k_ ≠ w6.heap.size) v6 x6_2) ∧ Aside0 (MSet.SetIs w' Tryd.prog 80 4 w6.heap.size sn2.length (impl_RunBound.inS sn2)) ∧ Aside0 (w'.heap[gb236]? = some (.cells #[.int .i64 a0_0,.int .i64 a0_1,(.slice A0_2 l0_2.length c0_2),(.slice A0_3 l0_3.length c0_3)] 30 (0,0))) ∧ Aside0 (w'.heap[gb242]? = some (.cells #[.int .i64 ((rd_T80 x6_1 (ji10)).f0),.string ((rd_T80 x6_1 (ji10)).f1)] 80 (0,0))) ∧ Aside0 (Below w.heap.size w w'))
          case atStart => exact ⟨(x4_1),(y243),(0),b9_20,b9_20,H',⟨Nat.le_refl _⟩,⟨b9_16⟩,⟨b9_1⟩,⟨b9_2⟩,⟨b9_4⟩,⟨b9_0⟩⟩
          case round =>
           clear H'
           (try clear c1);(try clear c2);(try clear p2);(try clear q2);(try clear hx2);(try clear c3);(try clear c5);(try clear p6);(try clear c9);(try clear c9b0);(try clear c9b1);(try clear c11);(try clear c11b0);(try clear c12);(try clear c12b0);(try clear c13);(try clear c13b0);(try clear c13b1);(try clear hseen);(try clear c14b0);(try clear c14b1);(try clear c17);(try clear q20);(try clear c22);(try clear c22b0);(try clear p24);(try clear q24);(try clear hx24);(try clear c26);(try clear q29);(try clear hcz18_0);(try clear hcz18_1);(try clear hcz21_0);(try clear hcz21_1);(try clear hcz27_0);(try clear hcz27_1);(try clear hcz30_0);(try clear hcz30_1);(try clear hcz31_0);(try clear hcz31_1);(try clear hcz31_2);(try clear hcz31_3);(try clear hcz5_0);(try clear hcz5_1);(try clear hcz5_2);(try clear hcz5_3);(try clear hfz18_0);(try clear hfz18_1);(try clear hfz21_0);(try clear hfz21_1);(try clear hfz27_0);(try clear hfz27_1);(try clear hfz30_0);(try clear hfz30_1);(try clear hfz31_0);(try clear hfz31_1);(try clear hfz31_2);(try clear hfz31_3);(try clear hfz5_0);(try clear hfz5_1);(try clear hfz5_2);(try clear hfz5_3);(try clear hx241_0);(try clear hx241_1);(try clear p2);(try clear p241);(try clear q20);(try clear q241);(try clear q29)
           obtain ⟨x4_2,x6_2,x50_2,rfl,rfl,HA,HK2,HO_6,HS,BK236,BK242,HB⟩ := hrel
           cases gk with
           | zero => exact absurd HA.out (by simp [impl_RunBound.l1])
           | succ k2 =>
            have H := HA.out
            clear HA
            simp only [impl_RunBound.l1] at H
            by_cases c33 : x50_2 < (l0_2.length : Int)
            ·rw [if_pos c33] at H
             have c33b0 : decide (x50_2 < (l0_2.length : Int)) = true := decide_eq_true c33
             clear c33
             by_cases c34 : 0 ≤ x50_2
             ·rw [if_pos c34] at H
              have c34b0 : decide (0 ≤ x50_2) = true := decide_eq_true c34
              clear c34
              by_cases c35 : x50_2 < (l0_2.length : Int)
              ·rw [if_pos c35] at H
               have c35b0 : decide (x50_2 < (l0_2.length : Int)) = true := decide_eq_true c35
               clear c35
               by_cases c36 : ((rd_T80 x6_1 (ji10)).f1).size + (rdOf ByteArray.empty l0_2 x50_2).size ≤ 9223372036854775807
               ·rw [if_pos c36] at H
                have c36b0 := eq_true c36
                have c36b1 : decide (((rd_T80 x6_1 (ji10)).f1).size + (rdOf ByteArray.empty l0_2 x50_2).size ≤ 9223372036854775807) = true := decide_eq_true c36
                try have c36b2 : (9223372036854775807 < ((rd_T80 x6_1 (ji10)).f1).size + (rdOf ByteArray.empty l0_2 x50_2).size) = False := eq_false (Nat.not_lt.2 c36)
                replace H := Option.bind_eq_some_iff.mp H
                obtain ⟨t247,A370,H⟩ := H
                replace H : ((slices_Max_int64_int64.f k2 t247).bind fun t250 => (if 0 ≤ (wrap64 ((t247.length : Int) - 1)) then (if (wrap64 ((t247.length : Int) - 1)) < (t247.length : Int) then ((impl_stateBehind.f ((rd_T80 x6_1 (ji10)).f0) (rdOf ByteArray.empty l0_2 x50_2)).bind fun t252 => (if 0 ≤ (wrap64 (((((rd_T80 x6_1 (ji10)).f1) ++ (rdOf ByteArray.empty l0_2 x50_2)).size : Int) - (rd t247 (wrap64 ((t247.length : Int) - 1))))) then (if (wrap64 (((((rd_T80 x6_1 (ji10)).f1) ++ (rdOf ByteArray.empty l0_2 x50_2)).size : Int) - (rd t247 (wrap64 ((t247.length : Int) - 1))))) ≤ ((((rd_T80 x6_1 (ji10)).f1) ++ (rdOf ByteArray.empty l0_2 x50_2)).size : Int) then (if x6_2.length < 5864062014805 then (impl_RunBound.l1 k2 sn2 (mx x4_2 t250) (x6_2 ++ [(⟨t252,(((rd_T80 x6_1 (ji10)).f1) ++ (rdOf ByteArray.empty l0_2 x50_2)).extract ((wrap64 (((((rd_T80 x6_1 (ji10)).f1) ++ (rdOf ByteArray.empty l0_2 x50_2)).size : Int) - (rd t247 (wrap64 ((t247.length : Int) - 1))))) : Int).toNat (((rd_T80 x6_1 (ji10)).f1) ++ (rdOf ByteArray.empty l0_2 x50_2)).size⟩ : S80)]) l0_2 (l0_2.length : Int) (wrap64 (x50_2 + 1)) a0_0 a0_1 l0_2 l0_3 ((rd_T80 x6_1 (ji10)).f0) ((rd_T80 x6_1 (ji10)).f1)) else (none)) else (none)) else (none))) else (none)) else (none))) = some (r1,r2) := H
                have A37 := Aside0.mk A370
                clear A370
                replace H := Option.bind_eq_some_iff.mp H
                obtain ⟨t250,A380,H⟩ := H
                replace H : (if 0 ≤ (wrap64 ((t247.length : Int) - 1)) then (if (wrap64 ((t247.length : Int) - 1)) < (t247.length : Int) then ((impl_stateBehind.f ((rd_T80 x6_1 (ji10)).f0) (rdOf ByteArray.empty l0_2 x50_2)).bind fun t252 => (if 0 ≤ (wrap64 (((((rd_T80 x6_1 (ji10)).f1) ++ (rdOf ByteArray.empty l0_2 x50_2)).size : Int) - (rd t247 (wrap64 ((t247.length : Int) - 1))))) then (if (wrap64 (((((rd_T80 x6_1 (ji10)).f1) ++ (rdOf ByteArray.empty l0_2 x50_2)).size : Int) - (rd t247 (wrap64 ((t247.length : Int) - 1))))) ≤ ((((rd_T80 x6_1 (ji10)).f1) ++ (rdOf ByteArray.empty l0_2 x50_2)).size : Int) then (if x6_2.length < 5864062014805 then (impl_RunBound.l1 k2 sn2 (mx x4_2 t250) (x6_2 ++ [(⟨t252,(((rd_T80 x6_1 (ji10)).f1) ++ (rdOf ByteArray.empty l0_2 x50_2)).extract ((wrap64 (((((rd_T80 x6_1 (ji10)).f1) ++ (rdOf ByteArray.empty l0_2 x50_2)).size : Int) - (rd t247 (wrap64 ((t247.length : Int) - 1))))) : Int).toNat (((rd_T80 x6_1 (ji10)).f1) ++ (rdOf ByteArray.empty l0_2 x50_2)).size⟩ : S80)]) l0_2 (l0_2.length : Int) (wrap64 (x50_2 + 1)) a0_0 a0_1 l0_2 l0_3 ((rd_T80 x6_1 (ji10)).f0) ((rd_T80 x6_1 (ji10)).f1)) else (none)) else (none)) else (none))) else (none)) else (none)) = some (r1,r2) := H
                have A38 := Aside0.mk A380
                clear A380
                obtain ⟨ji39,hji39⟩ : ∃ j_ : Int,(mx x4_2 t250) = j_ := ⟨_,rfl⟩
                replace H : (if 0 ≤ (wrap64 ((t247.length : Int) - 1)) then (if (wrap64 ((t247.length : Int) - 1)) < (t247.length : Int) then ((impl_stateBehind.f ((rd_T80 x6_1 (ji10)).f0) (rdOf ByteArray.empty l0_2 x50_2)).bind fun t252 => (if 0 ≤ (wrap64 (((((rd_T80 x6_1 (ji10)).f1) ++ (rdOf ByteArray.empty l0_2 x50_2)).size : Int) - (rd t247 (wrap64 ((t247.length : Int) - 1))))) then (if (wrap64 (((((rd_T80 x6_1 (ji10)).f1) ++ (rdOf ByteArray.empty l0_2 x50_2)).size : Int) - (rd t247 (wrap64 ((t247.length : Int) - 1))))) ≤ ((((rd_T80 x6_1 (ji10)).f1) ++ (rdOf ByteArray.empty l0_2 x50_2)).size : Int) then (if x6_2.length < 5864062014805 then (impl_RunBound.l1 k2 sn2 ji39 (x6_2 ++ [(⟨t252,(((rd_T80 x6_1 (ji10)).f1) ++ (rdOf ByteArray.empty l0_2 x50_2)).extract ((wrap64 (((((rd_T80 x6_1 (ji10)).f1) ++ (rdOf ByteArray.empty l0_2 x50_2)).size : Int) - (rd t247 (wrap64 ((t247.length : Int) - 1))))) : Int).toNat (((rd_T80 x6_1 (ji10)).f1) ++ (rdOf ByteArray.empty l0_2 x50_2)).size⟩ : S80)]) l0_2 (l0_2.length : Int) (wrap64 (x50_2 + 1)) a0_0 a0_1 l0_2 l0_3 ((rd_T80 x6_1 (ji10)).f0) ((rd_T80 x6_1 (ji10)).f1)) else (none)) else (none)) else (none))) else (none)) else (none)) = some (r1,r2) := by first | (rw [hji39] at H; exact H) | (simp only [hji39] at H ⊢; exact H)
                (try rw [hji39] at A37)
                (try rw [hji39] at A38)
                have hji39_ : (if x4_2 < t250 then t250 else x4_2) = ji39 := hji39
                obtain ⟨ji40,hji40⟩ : ∃ j_ : Int,(wrap64 ((t247.length : Int) - 1)) = j_ := ⟨_,rfl⟩
                replace H : (if 0 ≤ (ji40) then (if (ji40) < (t247.length : Int) then ((impl_stateBehind.f ((rd_T80 x6_1 (ji10)).f0) (rdOf ByteArray.empty l0_2 x50_2)).bind fun t252 => (if 0 ≤ (wrap64 (((((rd_T80 x6_1 (ji10)).f1) ++ (rdOf ByteArray.empty l0_2 x50_2)).size : Int) - (rd t247 (ji40)))) then (if (wrap64 (((((rd_T80 x6_1 (ji10)).f1) ++ (rdOf ByteArray.empty l0_2 x50_2)).size : Int) - (rd t247 (ji40)))) ≤ ((((rd_T80 x6_1 (ji10)).f1) ++ (rdOf ByteArray.empty l0_2 x50_2)).size : Int) then (if x6_2.length < 5864062014805 then (impl_RunBound.l1 k2 sn2 ji39 (x6_2 ++ [(⟨t252,(((rd_T80 x6_1 (ji10)).f1) ++ (rdOf ByteArray.empty l0_2 x50_2)).extract ((wrap64 (((((rd_T80 x6_1 (ji10)).f1) ++ (rdOf ByteArray.empty l0_2 x50_2)).size : Int) - (rd t247 (ji40)))) : Int).toNat (((rd_T80 x6_1 (ji10)).f1) ++ (rdOf ByteArray.empty l0_2 x50_2)).size⟩ : S80)]) l0_2 (l0_2.length : Int) (wrap64 (x50_2 + 1)) a0_0 a0_1 l0_2 l0_3 ((rd_T80 x6_1 (ji10)).f0) ((rd_T80 x6_1 (ji10)).f1)) else (none)) else (none)) else (none))) else (none)) else (none)) = some (r1,r2) := by first | (rw [hji40] at H; exact H) | (simp only [hji40] at H ⊢; exact H)
                (try rw [hji40] at A37)
                (try rw [hji40] at A38)
                have hji40w : (IntKind.i64.wrap ((t247.length : Int) - 1)) = ji40 := (i64_w _).trans hji40
                by_cases c41 : 0 ≤ (ji40)
                ·rw [if_pos c41] at H
                 have c41b0 : decide (0 ≤ (ji40)) = true := decide_eq_true c41
                 clear c41
                 by_cases c42 : (ji40) < (t247.length : Int)
                 ·rw [if_pos c42] at H
                  have c42b0 : decide ((ji40) < (t247.length : Int)) = true := decide_eq_true c42
                  clear c42
                  replace H := Option.bind_eq_some_iff.mp H
                  obtain ⟨t252,A430,H⟩ := H
                  replace H : (if 0 ≤ (wrap64 (((((rd_T80 x6_1 (ji10)).f1) ++ (rdOf ByteArray.empty l0_2 x50_2)).size : Int) - (rd t247 (ji40)))) then (if (wrap64 (((((rd_T80 x6_1 (ji10)).f1) ++ (rdOf ByteArray.empty l0_2 x50_2)).size : Int) - (rd t247 (ji40)))) ≤ ((((rd_T80 x6_1 (ji10)).f1) ++ (rdOf ByteArray.empty l0_2 x50_2)).size : Int) then (if x6_2.length < 5864062014805 then (impl_RunBound.l1 k2 sn2 ji39 (x6_2 ++ [(⟨t252,(((rd_T80 x6_1 (ji10)).f1) ++ (rdOf ByteArray.empty l0_2 x50_2)).extract ((wrap64 (((((rd_T80 x6_1 (ji10)).f1) ++ (rdOf ByteArray.empty l0_2 x50_2)).size : Int) - (rd t247 (ji40)))) : Int).toNat (((rd_T80 x6_1 (ji10)).f1) ++ (rdOf ByteArray.empty l0_2 x50_2)).size⟩ : S80)]) l0_2 (l0_2.length : Int) (wrap64 (x50_2 + 1)) a0_0 a0_1 l0_2 l0_3 ((rd_T80 x6_1 (ji10)).f0) ((rd_T80 x6_1 (ji10)).f1)) else (none)) else (none)) else (none)) = some (r1,r2) := H
                  have A43 := Aside0.mk A430
                  clear A430
                  obtain ⟨ji44,hji44⟩ : ∃ j_ : Int,(wrap64 (((((rd_T80 x6_1 (ji10)).f1) ++ (rdOf ByteArray.empty l0_2 x50_2)).size : Int) - (rd t247 (ji40)))) = j_ := ⟨_,rfl⟩
                  replace H : (if 0 ≤ (ji44) then (if (ji44) ≤ ((((rd_T80 x6_1 (ji10)).f1) ++ (rdOf ByteArray.empty l0_2 x50_2)).size : Int) then (if x6_2.length < 5864062014805 then (impl_RunBound.l1 k2 sn2 ji39 (x6_2 ++ [(⟨t252,(((rd_T80 x6_1 (ji10)).f1) ++ (rdOf ByteArray.empty l0_2 x50_2)).extract ((ji44) : Int).toNat (((rd_T80 x6_1 (ji10)).f1) ++ (rdOf ByteArray.empty l0_2 x50_2)).size⟩ : S80)]) l0_2 (l0_2.length : Int) (wrap64 (x50_2 + 1)) a0_0 a0_1 l0_2 l0_3 ((rd_T80 x6_1 (ji10)).f0) ((rd_T80 x6_1 (ji10)).f1)) else (none)) else (none)) else (none)) = some (r1,r2) := by first | (rw [hji44] at H; exact H) | (simp only [hji44] at H ⊢; exact H)
                  (try rw [hji44] at A37)
                  (try rw [hji44] at A38)
                  (try rw [hji44] at A43)
                  have hji44w : (IntKind.i64.wrap (((((rd_T80 x6_1 (ji10)).f1) ++ (rdOf ByteArray.empty l0_2 x50_2)).size : Int) - (rd t247 (ji40)))) = ji44 := (i64_w _).trans hji44
                  by_cases c45 : 0 ≤ (ji44)
                  ·rw [if_pos c45] at H
                   have c45b0 := eq_true c45
                   have c45b1 : decide (0 ≤ (ji44)) = true := decide_eq_true c45
                   clear c45
                   by_cases c46 : (ji44) ≤ ((((rd_T80 x6_1 (ji10)).f1) ++ (rdOf ByteArray.empty l0_2 x50_2)).size : Int)
                   ·rw [if_pos c46] at H
                    have c46b0 := eq_true c46
                    have c46b1 : decide ((ji44) ≤ ((((rd_T80 x6_1 (ji10)).f1) ++ (rdOf ByteArray.empty l0_2 x50_2)).size : Int)) = true := decide_eq_true c46
                    by_cases c47 : x6_2.length < 5864062014805
                    ·rw [if_pos c47] at H
                     have LMc47 := Aside0.mk c47
                     clear c47
                     obtain ⟨y253,hy253⟩ : ∃ y_ : List (S80),y_ = (x6_2 ++ [(⟨t252,(((rd_T80 x6_1 (ji10)).f1) ++ (rdOf ByteArray.empty l0_2 x50_2)).extract ((ji44) : Int).toNat (((rd_T80 x6_1 (ji10)).f1) ++ (rdOf ByteArray.empty l0_2 x50_2)).size⟩ : S80)]) := ⟨_,rfl⟩
                     replace H : (impl_RunBound.l1 k2 sn2 ji39 y253 l0_2 (l0_2.length : Int) (wrap64 (x50_2 + 1)) a0_0 a0_1 l0_2 l0_3 ((rd_T80 x6_1 (ji10)).f0) ((rd_T80 x6_1 (ji10)).f1)) = some (r1,r2) := by first | (rw [hy253]; with_reducible exact H) | (have H2_ := (Option.bind_some _ _).symm.trans H; rw [hy253]; with_reducible exact H2_) | (have H2_ := (Option.bind_some _ _).symm.trans H; with_reducible exact H2_) | with_reducible exact H | (rw [hy253]; exact H) | exact H
                     have Ny253 := Aside0.mk hy253
                     clear hy253
                     have H' := Aside0.mk H
                     clear H
                     have p246 : 0 ≤ (x50_2 : Int) := of_decide_eq_true b9_13
                     have q246 : x50_2 < (l0_2.length : Int) := of_decide_eq_true b9_13
                     obtain ⟨ad246,e246,hx246_0⟩ := Kd.at_string HR0_2.out x50_2 p246 q246
                     cases e246
                     replace hx246_0 := (HB.out.cell (World.block_lt_of_cell? w _ hx246_0)).trans hx246_0
                     replace p246 := eq_true p246
                     replace q246 := eq_true q246
                     have hnb48 := NB242_236.out
                     have hnc48 := NB236_242.out
                     have hcz49_0 : wr.cell? ⟨gb242,0,none⟩ = some (.int .i64 ((rd_T80 x6_1 (ji10)).f0)) := (blk_cell BK242.out 0).trans rfl
                     have hcz49_1 : wr.cell? ⟨gb242,1,none⟩ = some (.string ((rd_T80 x6_1 (ji10)).f1)) := (blk_cell BK242.out 1).trans rfl
                     have hfz49_0 := blk_frozen BK242.out 0
                     have hfz49_1 := blk_frozen BK242.out 1
                     try go_wp2_with (first | ((with_reducible refine gate_callee (f := 68) rfl ?_); refine goesL_ (some 59) rfl rfl Tryd.func68 (by kernel_rfl) rfl #[.string (((rd_T80 x6_1 (ji10)).f1) ++ (rdOf ByteArray.empty l0_2 x50_2))] rfl b9_14 ?_; (with_reducible refine (impl_runLengths.calls k2 (((rd_T80 x6_1 (ji10)).f1) ++ (rdOf ByteArray.empty l0_2 x50_2)) t247 _ A37.out).mono ?_); rintro e w50 ⟨v248,rfl,ho0,hb⟩; refine ⟨_,rfl,?_⟩; have nS_ := Aside0.mk (MSet.SetIs.below b9_1 hb); clear HS; have HS := nS_; clear nS_; have n0_ := Aside0.mk (Kd.R_below b9_10 hb); have n1_ := Aside0.mk (Kd.R_lower ho0 (below_size b9_0)); have n2_ := Aside0.mk (blk_below (g := gb236) (o := .cells #[.int .i64 a0_0,.int .i64 a0_1,.slice (some ad246) l0_2.length c0_2,.slice A0_3 l0_3.length c0_3] 30 (0,0)) b9_2 hb); have n3_ := Aside0.mk (blk_below (g := gb242) (o := .cells #[.int .i64 ((rd_T80 x6_1 (ji10)).f0),.string ((rd_T80 x6_1 (ji10)).f1)] 80 (0,0)) b9_4 hb); have n4_ := Aside0.mk (below_step b9_0 hb); clear HO_6; clear BK236; clear BK242; clear HB; have HO_6 := n0_; have HO249 := n1_; have BK236 := n2_; have BK242 := n3_; have HB := n4_; clear n0_ n1_ n2_ n3_ n4_; (try clear hb); (try clear hb2); (try clear hk); (try clear hi); (try clear ho0); obtain ⟨Ao51,co51,eo51⟩ := Kd.R_slice HO249.out; subst eo51) | ((with_reducible refine gate_callee (f := 69) rfl ?_); refine goesL_ (some 62) rfl rfl Tryd.func69 (by kernel_rfl) rfl #[.slice Ao51 t247.length co51] rfl b9_18 ?_; (with_reducible refine (slices_Max_int64_int64.calls k2 _ _ t247 t250 _ ?side1 ?side2 A38.out).mono ?_); (case side1 => repeat (first | exact (Kd.R_reads' HO249.out).2.2 | (with_reducible refine Kd.C_alloc ?_ _) | (with_reducible refine Kd.C_drewN ?_ _) | (with_reducible refine Kd.C_drew ?_))); (case side2 => exact (Kd.R_reads' HO249.out).2.1); rintro e w52 ⟨rfl,hb⟩; refine ⟨_,rfl,?_⟩; have nS_ := Aside0.mk (MSet.SetIs.below b9_1 hb); clear HS; have HS := nS_; clear nS_; have n0_ := Aside0.mk (Kd.R_below b9_10 hb); have n1_ := Aside0.mk (Kd.R_below b9_22 hb); have n2_ := Aside0.mk (blk_below (g := gb236) (o := .cells #[.int .i64 a0_0,.int .i64 a0_1,.slice (some ad246) l0_2.length c0_2,.slice A0_3 l0_3.length c0_3] 30 (0,0)) b9_2 hb); have n3_ := Aside0.mk (blk_below (g := gb242) (o := .cells #[.int .i64 ((rd_T80 x6_1 (ji10)).f0),.string ((rd_T80 x6_1 (ji10)).f1)] 80 (0,0)) b9_4 hb); have n4_ := Aside0.mk (below_step b9_0 hb); clear HO_6; clear HO249; clear BK236; clear BK242; clear HB; have HO_6 := n0_; have HO249 := n1_; have BK236 := n2_; have BK242 := n3_; have HB := n4_; clear n0_ n1_ n2_ n3_ n4_; (try clear hb); (try clear hb2); (try clear hk); (try clear hi); have p251 : 0 ≤ ((ji40) : Int) := of_decide_eq_true b9_13; have q251 : (ji40) < (t247.length : Int) := of_decide_eq_true b9_13; obtain ⟨ad251,e251,hx251_0⟩ := Kd.at_int (Kd.R_reads' HO249.out).2.2 (ji40) p251 q251; cases e251; replace p251 := eq_true p251; replace q251 := eq_true q251))
                     have n0_ := Aside0.mk (Kd.R_drew HO_6.out)
                     have n1_ := Aside0.mk (Kd.R_drew HO249.out)
                     have n2_ := Aside0.mk (blk_drew BK236.out)
                     have n3_ := Aside0.mk (blk_drew BK242.out)
                     have nS_ := Aside0.mk (MSet.SetIs.drew HS.out)
                     clear HS
                     have HS := nS_
                     clear nS_
                     have n4_ := Aside0.mk (below_drew1 HB.out)
                     clear HO_6
                     clear HO249
                     clear BK236
                     clear BK242
                     clear HB
                     have HO_6 := n0_
                     have HO249 := n1_
                     have BK236 := n2_
                     have BK242 := n3_
                     have HB := n4_
                     clear n0_ n1_ n2_ n3_ n4_
                     generalize (((rd_T80 x6_1 (ji10)).f1) ++ (rdOf ByteArray.empty l0_2 x50_2)) = tc at Ny253 hji44 hji44w c46b0 c46b1 ⊢
                     refine start_ (n := 15) (S := fun w' => w'.cell? ⟨gb242,0,none⟩ = some (.int .i64 ((rd_T80 x6_1 (ji10)).f0)) ∧ w'.cell? ⟨gb242,1,none⟩ = some (.string ((rd_T80 x6_1 (ji10)).f1))) (ds := []) #[false,false,false,false,false,false,false,false,false,false,false,false,false,false,false] (by kernel_rfl) rfl rfl ⟨(blk_cell BK242.out 0).trans rfl,(blk_cell BK242.out 1).trans rfl⟩ (fun hHeld => ?_); refine with_tabW impl_RunBound.tab19 impl_RunBound.bits19 (fun HT_ HW_ => ?_)
                     generalize w52.drew = w53 at HO_6 HS HO249 BK236 BK242 HB hHeld ⊢
                     refine pure_ (i := 0) (N := some 70) (v := ?_) (a' := ?_) #[true,false,false,false,false,false,false,false,false,false,false,false,false,false,false] rfl rfl (any_of HT_.out (by kernel_rfl)) (fun _ _ _ h => h) (Or.inl ⟨by rfl,?_⟩) ?_ ?_
                     rotate_left
                     ·intro w'
                      go_simp
                      with_reducible rfl
                     rotate_left
                     ·simp only [Act.put,List.setIfInBounds_toArray,List.set_cons_zero,List.set_cons_succ,i64_w,i32_w]
                      rfl
                     refine pure_ (i := 1) (N := some 71) (v := ?_) (a' := ?_) #[true,true,false,false,false,false,false,false,false,false,false,false,false,false,false] rfl rfl (any_of HT_.out (by kernel_rfl)) (fun _ _ _ h => h) (Or.inl ⟨by rfl,?_⟩) ?_ ?_
                     rotate_left
                     ·intro w'
                      go_simp
                      with_reducible rfl
                     rotate_left
                     ·simp only [Act.put,List.setIfInBounds_toArray,List.set_cons_zero,List.set_cons_succ,i64_w,i32_w]
                      rfl
                     refine pure_ (i := 3) (N := some 73) (v := ?_) (a' := ?_) #[true,true,false,true,false,false,false,false,false,false,false,false,false,false,false] rfl rfl (any_of HT_.out (by kernel_rfl)) (fun _ _ _ h => h) (Or.inl ⟨by rfl,?_⟩) ?_ ?_
                     rotate_left
                     ·intro w'
                      go_simp
                      with_reducible rfl
                     rotate_left
                     ·simp only [Act.put,List.setIfInBounds_toArray,List.set_cons_zero,List.set_cons_succ,i64_w,i32_w]
                      rfl
                     refine pure_ (i := 5) (N := some 75) (v := ?_) (a' := ?_) #[true,true,false,true,false,true,false,false,false,false,false,false,false,false,false] rfl rfl (any_of HT_.out (by kernel_rfl)) (fun _ _ _ h => h) (Or.inl ⟨by rfl,?_⟩) ?_ ?_
                     rotate_left
                     ·intro w'
                      go_simp
                      with_reducible rfl
                     rotate_left
                     ·simp only [Act.put,List.setIfInBounds_toArray,List.set_cons_zero,List.set_cons_succ,i64_w,i32_w]
                      rfl
                     refine pure_ (i := 6) (N := some 76) (v := ?_) (a' := ?_) #[true,true,false,true,false,true,true,false,false,false,false,false,false,false,false] rfl rfl (any_of HT_.out (by kernel_rfl)) (fun _ _ _ h => h) (Or.inl ⟨by rfl,?_⟩) ?_ ?_
                     rotate_left
                     ·intro w'
                      go_simp
                      with_reducible rfl
                     rotate_left
                     ·simp only [Act.put,List.setIfInBounds_toArray,List.set_cons_zero,List.set_cons_succ,i64_w,i32_w]
                      rfl
                     refine pure_ (i := 7) (N := some 77) (v := ?_) (a' := ?_) #[true,true,false,true,false,true,true,true,false,false,false,false,false,false,false] rfl rfl (any_of HT_.out (by kernel_rfl)) (fun _ _ _ h => h) (Or.inl ⟨by rfl,?_⟩) ?_ ?_
                     rotate_left
                     ·intro w'
                      go_simp
                      with_reducible rfl
                     rotate_left
                     ·simp only [Act.put,List.setIfInBounds_toArray,List.set_cons_zero,List.set_cons_succ,i64_w,i32_w]
                      rfl
                     refine pure_ (i := 8) (N := some 78) (v := ?_) (a' := ?_) #[true,true,false,true,false,true,true,true,true,false,false,false,false,false,false] rfl rfl (any_of HT_.out (by kernel_rfl)) (fun _ _ _ h => h) (Or.inl ⟨by rfl,?_⟩) ?_ ?_
                     rotate_left
                     ·intro w'
                      go_simp
                      with_reducible rfl
                     rotate_left
                     ·simp only [Act.put,List.setIfInBounds_toArray,List.set_cons_zero,List.set_cons_succ,i64_w,i32_w]
                      rfl
                     refine pure_ (i := 9) (N := some 79) (v := ?_) (a' := ?_) #[true,true,false,true,false,true,true,true,true,true,false,false,false,false,false] rfl rfl (any_of HT_.out (by kernel_rfl)) (fun _ _ _ h => h) (Or.inl ⟨by rfl,?_⟩) ?_ ?_
                     rotate_left
                     ·intro w'
                      go_simp
                      with_reducible rfl
                     rotate_left
                     ·simp only [Act.put,List.setIfInBounds_toArray,List.set_cons_zero,List.set_cons_succ,i64_w,i32_w]
                      rfl
                     refine pure_ (i := 10) (N := some 80) (v := ?_) (a' := ?_) #[true,true,false,true,false,true,true,true,true,true,true,false,false,false,false] rfl rfl (any_of HT_.out (by kernel_rfl)) (fun _ _ _ h => h) (Or.inl ⟨by rfl,?_⟩) ?_ ?_
                     rotate_left
                     ·intro w'
                      go_simp
                      with_reducible rfl
                     rotate_left
                     ·simp only [Act.put,List.setIfInBounds_toArray,List.set_cons_zero,List.set_cons_succ,i64_w,i32_w]
                      rfl
                     refine take_ (i := 2) (N := some 72) (v := ?_) (a' := ?_) #[true,true,true,true,false,true,true,true,true,true,true,false,false,false,false] rfl rfl (take_ofW HT_.out HW_.out (by kernel_rfl)) (fun _ _ _ h => h) (Or.inl ⟨by rfl,?_⟩) hHeld ?_ ?_
                     rotate_left
                     ·rintro w' ⟨s0,s1⟩
                      go_simp
                      with_reducible rfl
                     rotate_left
                     ·simp only [Act.put,List.setIfInBounds_toArray,List.set_cons_zero,List.set_cons_succ,i64_w,i32_w]
                      rfl
                     refine one_ (i := 4) (N := some 74) #[true,true,true,true,true,true,true,true,true,true,true,false,false,false,false] rfl rfl (one_of HT_.out (by kernel_rfl)) (by decide) (fun K hK => ?_)
                     refine goes_ Tryd.func63 (by kernel_rfl) rfl #[.int .i64 ((rd_T80 x6_1 (ji10)).f0),.string (rdOf ByteArray.empty l0_2 x50_2)] (by rfl) rfl rfl b9_14 ?_
                     with_reducible refine (impl_stateBehind.calls ((rd_T80 x6_1 (ji10)).f0) (rdOf ByteArray.empty l0_2 x50_2) t252 _ A43.out).mono ?_
                     rintro e w' ⟨rfl,⟨nd,rfl⟩⟩
                     refine ⟨_,rfl,?_⟩
                     refine hK.out _ _ ⟨(blk_cell BK242.out 0).trans rfl,(blk_cell BK242.out 1).trans rfl⟩ (fun hHeld => ?_)
                     clear hK K
                     refine norm_ (a' := ?_) ?_ ?_
                     rotate_left
                     ·show Act.put _ (some 74) _ = _
                      simp only [Act.put,List.setIfInBounds_toArray,List.set_cons_zero,List.set_cons_succ,i64_w,i32_w]
                      rfl
                     refine pure_ (i := 11) (N := some 81) (v := ?_) (a' := ?_) #[true,true,true,true,true,true,true,true,true,true,true,true,false,false,false] rfl rfl (any_of HT_.out (by kernel_rfl)) (fun _ _ _ h => h) (Or.inl ⟨by rfl,?_⟩) ?_ ?_
                     rotate_left
                     ·intro w'
                      go_simp
                      with_reducible rfl
                     rotate_left
                     ·simp only [Act.put,List.setIfInBounds_toArray,List.set_cons_zero,List.set_cons_succ,i64_w,i32_w]
                      rfl
                     refine one_ (i := 12) (N := some 82) #[true,true,true,true,true,true,true,true,true,true,true,true,true,false,false] rfl rfl (one_of HT_.out (by kernel_rfl)) (by decide) (fun K hK => ?_)
                     refine value_ (w1 := ?_) (v := ?_) (by rfl) rfl ?_ ?_
                     rotate_left 2
                     ·go_simp
                      constructor
                      ·rfl
                      ·rfl
                     refine hK.out _ _ ⟨(blk_cell (blk_alloc BK242.out _) 0).trans rfl,(blk_cell (blk_alloc BK242.out _) 1).trans rfl⟩ (fun hHeld => ?_)
                     clear hK K
                     refine norm_ (a' := ?_) ?_ ?_
                     rotate_left
                     ·show Act.put _ (some 82) _ = _
                      simp only [Act.put,List.setIfInBounds_toArray,List.set_cons_zero,List.set_cons_succ,i64_w,i32_w]
                      rfl
                     refine one_ (i := 13) (N := some 83) #[true,true,true,true,true,true,true,true,true,true,true,true,true,true,false] rfl rfl (one_of HT_.out (by kernel_rfl)) (by decide) (fun K hK => ?_)
                     refine Kd.R_append_step k80 (w0 := w) w.heap.size (by rfl) (.tmp 70) (.tmp 82) 81 80 (.agg #[(.int .i64 0),(.string ⟨#[]⟩)]) 24 rfl Tryd.underlying81 info80 rfl (by decide) (by omega) u6 x6_2 (⟨t252,tc.extract ((ji44) : Int).toNat tc.size⟩ : S80) [.int .i64 t252,.string (tc.extract ((ji44) : Int).toNat tc.size)] (fun k_ => k_ ≠ gb242 ∧ k_ ≠ w6.heap.size) (fun _ => False) rfl rfl ?aP (fun _ hk => hk.elim) ?aF ?aO ?aB ?aS ?aL ?_
                     (case aP => exact k80_mkM _ _ _ (⟨t252,tc.extract ((ji44) : Int).toNat tc.size⟩ : S80))
                     (case aB => exact b9_0)
                     (case aF => exact (fun k_ hk => ⟨Kd.freshB (g := gb242) (o := .cells #[.int .i64 ((rd_T80 x6_1 (ji10)).f0),.string ((rd_T80 x6_1 (ji10)).f1)] 80 (0,0)) b9_4 k_ hk,fun e => by have h_ := MSet.SetIs.lt b9_1; rw [← e] at h_; exact absurd hk (Nat.not_le.2 h_)⟩))
                     (case aO => exact b9_10)
                     (case aS => exact (below_size b9_0))
                     (case aL => have := LMc47.out; omega)
                     intro v254 w54 ho hb hg hat
                     have nS_ := Aside0.mk (MSet.SetIs.kept b9_1 hg (Kd.R_away HO_6.out (fun _ hk => hk.2)))
                     clear HS
                     have HS := nS_
                     clear nS_
                     rw [← Ny253.out] at ho
                     have n0_ := Aside0.mk (blk_grown (g := gb236) (o := .cells #[.int .i64 a0_0,.int .i64 a0_1,.slice (some ad246) l0_2.length c0_2,.slice A0_3 l0_3.length c0_3] 30 (0,0)) b9_2 hg (Kd.R_ne HO_6.out BK236.out (by decide)))
                     have n1_ := Aside0.mk (blk_grown (g := gb242) (o := .cells #[.int .i64 ((rd_T80 x6_1 (ji10)).f0),.string ((rd_T80 x6_1 (ji10)).f1)] 80 (0,0)) b9_4 hg (Kd.R_away HO_6.out (fun _ hk => hk.1)))
                     have n2_ := Aside0.mk (Kd.R_over' b9_22 (Kd.R_typed b9_10) (by decide) hg)
                     have n3_ := Aside0.mk (hb)
                     have n4_ := Aside0.mk (ho)
                     clear BK236
                     clear BK242
                     clear HO249
                     clear HB
                     clear HO_6
                     have BK236 := n0_
                     have BK242 := n1_
                     have HO249 := n2_
                     have HB := n3_
                     have HO255 := n4_
                     clear n0_ n1_ n2_ n3_ n4_
                     clear ho hb hg hat
                     refine hK.out _ _ ⟨(blk_cell BK242.out 0).trans rfl,(blk_cell BK242.out 1).trans rfl⟩ (fun hHeld => ?_)
                     clear hK K
                     refine norm_ (a' := ?_) ?_ ?_
                     rotate_left
                     ·show Act.put _ (some 83) _ = _
                      simp only [Act.put,List.setIfInBounds_toArray,List.set_cons_zero,List.set_cons_succ,i64_w,i32_w]
                      rfl
                     refine pure_ (i := 14) (N := some 6) (v := ?_) (a' := ?_) #[true,true,true,true,true,true,true,true,true,true,true,true,true,true,true] rfl rfl (any_of HT_.out (by kernel_rfl)) (fun _ _ _ h => h) (Or.inl ⟨by rfl,?_⟩) ?_ ?_
                     rotate_left
                     ·intro w'
                      go_simp
                      with_reducible rfl
                     rotate_left
                     ·simp only [Act.put,List.setIfInBounds_toArray,List.set_cons_zero,List.set_cons_succ,i64_w,i32_w]
                      rfl
                     refine done_ (done_of HT_.out (by kernel_rfl)) ?_
                     try go_wp2
                     go_roundg k2
                     case measure => have := HK1.out; have := HK2.out; omega
                     case rel => exact ⟨(ji39),(y253),(wrap64 (x50_2 + 1)),(by first | rfl | (simp; done) | (simp only [← hji39] <;> (first | rfl | simp)) | (simp [*]; done)),b9_20,H',⟨by have := HK1.out; have := HK2.out; omega⟩,⟨by (with_reducible repeat (first | apply Kd.R_alloc | apply Kd.R_drewN | apply Kd.R_drew)); exact HO255.out⟩,⟨b9_1⟩,⟨b9_2⟩,⟨b9_4⟩,⟨b9_0⟩⟩
                    ·rw [if_neg c47] at H
                     exact absurd H (by simp)
                   ·rw [if_neg c46] at H
                    exact absurd H (by simp)
                  ·rw [if_neg c45] at H
                   exact absurd H (by simp)
                 ·rw [if_neg c42] at H
                  exact absurd H (by simp)
                ·rw [if_neg c41] at H
                 exact absurd H (by simp)
               ·rw [if_neg c36] at H
                exact absurd H (by simp)
              ·rw [if_neg c35] at H
               exact absurd H (by simp)
             ·rw [if_neg c34] at H
              exact absurd H (by simp)
            ·rw [if_neg c33] at H
             have c33b0 : decide (x50_2 < (l0_2.length : Int)) = false := decide_eq_false c33
             clear c33
             have H' := Aside0.mk H
             clear H
             go_wp2
             go_roundg k2
             case measure => have := HK1.out; have := HK2.out; omega
             case rel => exact ⟨(sn2),(x4_2),(x6_2),b9_20,H',⟨by have := HK1.out; have := HK2.out; omega⟩,⟨b9_21⟩,⟨b9_1⟩,⟨b9_2⟩,⟨b9_0⟩⟩
         ·rw [if_neg c22] at H
          have c22b0 : decide (((rd_T80 x6_1 (ji10)).f0) < 0) = false := decide_eq_false c22
          clear c22
          replace H := Option.bind_eq_some_iff.mp H
          obtain ⟨_,A550,H⟩ := H
          replace H : (impl_RunBound.l101 k1 sn2 x4_1 y243 l0_3 (l0_3.length : Int) 0 a0_0 a0_1 l0_2 l0_3 ((rd_T80 x6_1 (ji10)).f0) ((rd_T80 x6_1 (ji10)).f1)) = some (r1,r2) := H
          have A55 := Aside0.mk A550
          clear A550
          have H' := Aside0.mk H
          clear H
          obtain ⟨Ao56,co56,eo56⟩ := Kd.R_slice HO_6.out
          subst eo56
          have p241 : 0 ≤ ((ji10) : Int) := of_decide_eq_true b9_13
          have q241 : (ji10) < (x6_1.length : Int) := of_decide_eq_true b9_13
          obtain ⟨ad241,e241,hx241_0,hx241_1⟩ := at_T80 (Kd.R_reads' HO_6.out).2.2 (ji10) p241 q241
          cases e241
          replace p241 := eq_true p241
          replace q241 := eq_true q241
          go_wp2_with (first | ((with_reducible refine gate_dst (N := 38) rfl ?_); refine MSet.wpList_seen _ rfl (.tmp 36) (.tmp 37) 78 rfl 80 4 impl_RunBound.keyed hu78 Tryd.underlying4 (Tryd.zeroValue4 _) w6.heap.size sn.length (impl_RunBound.inS sn) rfl b9_1 (.agg #[.int .i64 ((rd_T80 x6_1 (ji10)).f0),.string ((rd_T80 x6_1 (ji10)).f1)]) kl rfl KL.out ?_; rw [hseen]) | ((with_reducible refine gate_dst (N := 7) rfl ?_); refine box_event ?hg (N := 7) ?hd (cs := #[.int .i64 0,.string (⟨#[]⟩ : ByteArray)]) (t := 80) ?hr ?_; (case hd => rfl); (case hg => rfl); (case hr => first | (go_simp; done) | (go_simp; rfl)); intro gb242 hg w57 hbox hb; have nS_ := Aside0.mk (MSet.SetIs.below b9_1 hb); have NM := Aside0.mk (show gb242 ≠ w6.heap.size from b9_19); clear HS; have HS := nS_; clear nS_; have n0_ := Aside0.mk (Kd.R_below (Kd.R_elderB b9_10 gb242 (Nat.le_of_eq hg.symm)) hb); have n1_ := Aside0.mk (blk_below (g := gb236) (o := .cells #[.int .i64 a0_0,.int .i64 a0_1,.slice A0_2 l0_2.length c0_2,.slice A0_3 l0_3.length c0_3] 30 (0,0)) b9_2 hb); have n2_ := Aside0.mk (below_step b9_3 hb); have n3_ := Aside0.mk (hbox); have n4_ := Aside0.mk ((by rw [hg]; exact (below_size b9_3) : w.heap.size ≤ gb242)); have n5_ := Aside0.mk ((by rw [hg]; exact (below_size b9_3) : w.heap.size ≤ gb242)); have n6_ := Aside0.mk ((by rw [hg]; exact Nat.ne_of_lt (blk_lt (g := gb236) (o := .cells #[.int .i64 a0_0,.int .i64 a0_1,.slice A0_2 l0_2.length c0_2,.slice A0_3 l0_3.length c0_3] 30 (0,0)) b9_2) : gb236 ≠ gb242)); have n7_ := Aside0.mk ((by rw [hg]; exact Nat.ne_of_gt (blk_lt (g := gb236) (o := .cells #[.int .i64 a0_0,.int .i64 a0_1,.slice A0_2 l0_2.length c0_2,.slice A0_3 l0_3.length c0_3] 30 (0,0)) b9_2) : gb242 ≠ gb236)); clear HO_6; clear BK236; clear HB; have HO_6 := n0_; have BK236 := n1_; have HB := n2_; have BK242 := n3_; have GW242 := n4_; have GE242 := n5_; have NB236_242 := n6_; have NB242_236 := n7_; clear n0_ n1_ n2_ n3_ n4_ n5_ n6_ n7_; clear hb hbox hg; have hnb58 := NB242_236.out; have hnc58 := NB236_242.out; have hcz59_0 : w57.cell? ⟨gb242,0,none⟩ = some (.int .i64 0) := (blk_cell BK242.out 0).trans rfl; have hcz59_1 : w57.cell? ⟨gb242,1,none⟩ = some (.string (⟨#[]⟩ : ByteArray)) := (blk_cell BK242.out 1).trans rfl; have hfz59_0 := blk_frozen BK242.out 0; have hfz59_1 := blk_frozen BK242.out 1) | ((with_reducible refine gate_store (t := 80) (p := 7) rfl ?_); refine store_event (t := 80) (p := 7) (v := ?vo_w60) (w1 := ((w57.setCell ⟨gb242,0,none⟩ (.int .i64 ((rd_T80 x6_1 (ji10)).f0))).setCell ⟨gb242,1,none⟩ (.string ((rd_T80 x6_1 (ji10)).f1)))) ?hg ?ho ?hn ?hr ?_; (case ho => rfl); (case hg => rfl); (case hn => rfl); (case hr => first | (go_simp; done) | (go_simp; rfl)); intro w60 hw; have nS_ := Aside0.mk (show MSet.SetIs w60 Tryd.prog 80 4 w6.heap.size sn.length (impl_RunBound.inS sn) from b9_17); clear HS; have HS := nS_; clear nS_; have n0_ : Aside0 (Kd.R k80 80 w60 w.heap.size (fun k_ => k_ ≠ gb242 ∧ k_ ≠ w6.heap.size) (.slice (some ad241) x6_1.length co56) x6_1) := ⟨b9_8⟩; have n1_ : Aside0 (w60.heap[gb236]? = some (.cells #[.int .i64 a0_0,.int .i64 a0_1,.slice A0_2 l0_2.length c0_2,.slice A0_3 l0_3.length c0_3] 30 (0,0))) := ⟨b9_7⟩; have n2_ : Aside0 (w60.heap[gb242]? = some (.cells #[.int .i64 ((rd_T80 x6_1 (ji10)).f0),.string ((rd_T80 x6_1 (ji10)).f1)] 80 (0,0))) := ⟨b9_5⟩; have n3_ : Aside0 (Below w.heap.size w w60) := ⟨b9_15⟩; clear hw; clear HO_6; clear BK236; clear BK242; clear HB; have HO_6 := n0_; have BK236 := n1_; have BK242 := n2_; have HB := n3_; clear n0_ n1_ n2_ n3_; have q61 : ((ji10) : Int) ≤ ((x6_1.length : Int) : Int) := of_decide_eq_true b9_13; obtain ⟨i061,hi061,_,hsz61,_⟩ := info_parts info80; have hcut61 := cut_to (P := Tryd.prog) 81 80 .i64 Tryd.underlying81 hi061 (some ad241) x6_1.length co56 (ji10) (of_decide_eq_true b9_13) q61 (Kd.R_reads' HO_6.out).2.1; have hr61 := Kd.R_take (m := ((ji10) : Int).toNat) HO_6.out (by omega); have hy61 : y243.length = ((ji10) : Int).toNat := (by rw [Ny243.out,List.length_take]; omega); rw [← Ny243.out] at hr61; rw [← hy61] at hr61 hcut61; clear hy61 hi061 hsz61 HO_6; have HO245 := Aside0.mk hr61; clear hr61; replace q61 := eq_true q61; have hcz62_0 : w60.cell? ⟨gb242,0,none⟩ = some (.int .i64 ((rd_T80 x6_1 (ji10)).f0)) := (blk_cell BK242.out 0).trans rfl; have hcz62_1 : w60.cell? ⟨gb242,1,none⟩ = some (.string ((rd_T80 x6_1 (ji10)).f1)) := (blk_cell BK242.out 1).trans rfl; have hfz62_0 := blk_frozen BK242.out 0; have hfz62_1 := blk_frozen BK242.out 1; have hcz63_0 : w60.cell? ⟨gb236,0,none⟩ = some (.int .i64 a0_0) := (blk_cell BK236.out 0).trans rfl; have hcz63_1 : w60.cell? ⟨gb236,1,none⟩ = some (.int .i64 a0_1) := (blk_cell BK236.out 1).trans rfl; have hcz63_2 : w60.cell? ⟨gb236,2,none⟩ = some (.slice A0_2 l0_2.length c0_2) := (blk_cell BK236.out 2).trans rfl; have hcz63_3 : w60.cell? ⟨gb236,3,none⟩ = some (.slice A0_3 l0_3.length c0_3) := (blk_cell BK236.out 3).trans rfl; have hfz63_0 := blk_frozen BK236.out 0; have hfz63_1 := blk_frozen BK236.out 1; have hfz63_2 := blk_frozen BK236.out 2; have hfz63_3 := blk_frozen BK236.out 3) | ((with_reducible refine gate_update rfl ?_); refine MSet.wpList_see _ rfl (.tmp 39) (.tmp 40) (.const (.bool true)) 78 rfl 80 4 impl_RunBound.keyed hu78 Tryd.underlying4 w6.heap.size sn.length (impl_RunBound.inS sn) rfl b9_1 SZ.out (.agg #[.int .i64 ((rd_T80 x6_1 (ji10)).f0),.string ((rd_T80 x6_1 (ji10)).f1)]) kl rfl rfl KL.out (impl_RunBound.inS sn2) (impl_RunBound.see_in HSN.out) (impl_RunBound.see_out HSN.out) ?_; intro wu hs hg; have n0_ := Aside0.mk (impl_RunBound.below_step_grown b9_12 hg GM.out); have n1_ := Aside0.mk (blk_grown (g := gb236) b9_2 hg (fun e => by have := GL.out; injection e with e; omega)); have n2_ := Aside0.mk (blk_grown (g := gb242) b9_4 hg (fun e => by injection e with e; exact NM.out e)); have n3_ := Aside0.mk (show MSet.SetIs wu Tryd.prog 80 4 w6.heap.size sn2.length (impl_RunBound.inS sn2) from (by rw [show sn2.length = sn.length + 1 by rw [HSN.out]; rfl]; exact hs)); have n4_ := Aside0.mk (Kd.R_grown b9_16 hg (fun k_ hk e => by injection e with e; exact hk.2 e)); clear HB BK236 BK242 HS HO245; have HB := n0_; have BK236 := n1_; have BK242 := n2_; have HS := n3_; have HO245 := n4_; clear n0_ n1_ n2_ n3_ n4_ hs hg; have hcz62_0 : wu.cell? ⟨gb242,0,none⟩ = some (.int .i64 ((rd_T80 x6_1 (ji10)).f0)) := (blk_cell BK242.out 0).trans rfl; have hcz62_1 : wu.cell? ⟨gb242,1,none⟩ = some (.string ((rd_T80 x6_1 (ji10)).f1)) := (blk_cell BK242.out 1).trans rfl; have hcz63_0 : wu.cell? ⟨gb236,0,none⟩ = some (.int .i64 a0_0) := (blk_cell BK236.out 0).trans rfl; have hcz63_1 : wu.cell? ⟨gb236,1,none⟩ = some (.int .i64 a0_1) := (blk_cell BK236.out 1).trans rfl; have hcz63_2 : wu.cell? ⟨gb236,2,none⟩ = some (.slice A0_2 l0_2.length c0_2) := (blk_cell BK236.out 2).trans rfl; have hcz63_3 : wu.cell? ⟨gb236,3,none⟩ = some (.slice A0_3 l0_3.length c0_3) := (blk_cell BK236.out 3).trans rfl; have hfz62_0 := blk_frozen BK242.out 0; have hfz62_1 := blk_frozen BK242.out 1; have hfz63_0 := blk_frozen BK236.out 0; have hfz63_1 := blk_frozen BK236.out 1; have hfz63_2 := blk_frozen BK236.out 2; have hfz63_3 := blk_frozen BK236.out 3) | ((with_reducible refine gate_callee (f := 55) rfl ?_); refine goesL_ (some 45) rfl rfl Tryd.func55 (by kernel_rfl) rfl #[.agg #[.int .i64 a0_0,.int .i64 a0_1,.slice A0_2 l0_2.length c0_2,.slice A0_3 l0_3.length c0_3],.int .i64 ((rd_T80 x6_1 (ji10)).f0)] rfl b9_14 ?_; (with_reducible refine (impl_BlockCode_words_pos.calls a0_0 a0_1 _ _ l0_2 _ _ l0_3 ((rd_T80 x6_1 (ji10)).f0)  _ ?side1 ?side2 ?side3 ?side4 A55.out).mono ?_); (case side1 => repeat (first | exact (Kd.C_below HR0_2.out HB.out) | (with_reducible refine Kd.C_alloc ?_ _) | (with_reducible refine Kd.C_drewN ?_ _) | (with_reducible refine Kd.C_drew ?_))); (case side2 => exact HC0_2.out); (case side3 => repeat (first | exact (Kd.C_below HR0_3.out HB.out) | (with_reducible refine Kd.C_alloc ?_ _) | (with_reducible refine Kd.C_drewN ?_ _) | (with_reducible refine Kd.C_drew ?_))); (case side4 => exact HC0_3.out); rintro e w64 ⟨rfl,hb⟩; refine ⟨_,rfl,?_⟩; have nS_ := Aside0.mk (MSet.SetIs.below b9_1 hb); clear HS; have HS := nS_; clear nS_; have n0_ := Aside0.mk (Kd.R_below b9_16 hb); have n1_ := Aside0.mk (blk_below (g := gb236) (o := .cells #[.int .i64 a0_0,.int .i64 a0_1,.slice A0_2 l0_2.length c0_2,.slice A0_3 l0_3.length c0_3] 30 (0,0)) b9_2 hb); have n2_ := Aside0.mk (blk_below (g := gb242) (o := .cells #[.int .i64 ((rd_T80 x6_1 (ji10)).f0),.string ((rd_T80 x6_1 (ji10)).f1)] 80 (0,0)) b9_4 hb); have n3_ := Aside0.mk (below_step b9_0 hb); clear HO245; clear BK236; clear BK242; clear HB; have HO245 := n0_; have BK236 := n1_; have BK242 := n2_; have HB := n3_; clear n0_ n1_ n2_ n3_; (try clear hb); (try clear hb2); (try clear hk); (try clear hi)))
          go_loopg [4,6,50] k1 (fun kq v4 v6 v50 w' => ∃ (x4_2 : Int) (x6_2 : List (S80)) (x50_2 : Int),v4 = .int .i64 x4_2 ∧ v50 = .int .i64 x50_2 ∧ Aside0 (impl_RunBound.l101 kq sn2 x4_2 x6_2 l0_3 (l0_3.length : Int) x50_2 a0_0 a0_1 l0_2 l0_3 ((rd_T80 x6_1 (ji10)).f0) ((rd_T80 x6_1 (ji10)).f1) = some (r1,r2)) ∧ Aside0 (kq ≤ k1) ∧ Aside0 (Kd.R k80 80 w' w.heap.size (fun k_ => k_ ≠ gb242 ∧ k_ ≠ w6.heap.size) v6 x6_2) ∧ Aside0 (MSet.SetIs w' Tryd.prog 80 4 w6.heap.size sn2.length (impl_RunBound.inS sn2)) ∧ Aside0 (w'.heap[gb236]? = some (.cells #[.int .i64 a0_0,.int .i64 a0_1,(.slice A0_2 l0_2.length c0_2),(.slice A0_3 l0_3.length c0_3)] 30 (0,0))) ∧ Aside0 (w'.heap[gb242]? = some (.cells #[.int .i64 ((rd_T80 x6_1 (ji10)).f0),.string ((rd_T80 x6_1 (ji10)).f1)] 80 (0,0))) ∧ Aside0 (Below w.heap.size w w'))
          case atStart => exact ⟨(x4_1),(y243),(0),b9_20,b9_20,H',⟨Nat.le_refl _⟩,⟨b9_16⟩,⟨b9_1⟩,⟨b9_2⟩,⟨b9_4⟩,⟨b9_0⟩⟩
          case round =>
           clear H'
           (try clear c1);(try clear c2);(try clear p2);(try clear q2);(try clear hx2);(try clear c3);(try clear c4);(try clear c5);(try clear c6);(try clear p6);(try clear q6);(try clear c9);(try clear c9b0);(try clear c9b1);(try clear c11);(try clear c11b0);(try clear c12);(try clear c12b0);(try clear c13);(try clear c13b0);(try clear c13b1);(try clear hseen);(try clear c14b0);(try clear c14b1);(try clear c17);(try clear q20);(try clear c22);(try clear c22b0);(try clear p24);(try clear q24);(try clear hx24);(try clear p25);(try clear q25);(try clear hx25);(try clear c26);(try clear q29);(try clear c33);(try clear c33b0);(try clear c34);(try clear c34b0);(try clear c35);(try clear c35b0);(try clear c36);(try clear c36b0);(try clear c36b1);(try clear c36b2);(try clear c41);(try clear c41b0);(try clear c42);(try clear c42b0);(try clear c45);(try clear c45b0);(try clear c45b1);(try clear c46);(try clear c46b0);(try clear c46b1);(try clear c47);(try clear c48);(try clear c55);(try clear c58);(try clear q61);(try clear c63);(try clear p64);(try clear hcz18_0);(try clear hcz18_1);(try clear hcz21_0);(try clear hcz21_1);(try clear hcz27_0);(try clear hcz27_1);(try clear hcz30_0);(try clear hcz30_1);(try clear hcz31_0);(try clear hcz31_1);(try clear hcz31_2);(try clear hcz31_3);(try clear hcz49_0);(try clear hcz49_1);(try clear hcz59_0);(try clear hcz59_1);(try clear hcz5_0);(try clear hcz5_1);(try clear hcz5_2);(try clear hcz5_3);(try clear hcz62_0);(try clear hcz62_1);(try clear hcz63_0);(try clear hcz63_1);(try clear hcz63_2);(try clear hcz63_3);(try clear hfz18_0);(try clear hfz18_1);(try clear hfz21_0);(try clear hfz21_1);(try clear hfz27_0);(try clear hfz27_1);(try clear hfz30_0);(try clear hfz30_1);(try clear hfz31_0);(try clear hfz31_1);(try clear hfz31_2);(try clear hfz31_3);(try clear hfz49_0);(try clear hfz49_1);(try clear hfz59_0);(try clear hfz59_1);(try clear hfz5_0);(try clear hfz5_1);(try clear hfz5_2);(try clear hfz5_3);(try clear hfz62_0);(try clear hfz62_1);(try clear hfz63_0);(try clear hfz63_1);(try clear hfz63_2);(try clear hfz63_3);(try clear hx241_0);(try clear hx241_1);(try clear hx246_0);(try clear hx251_0);(try clear p2);(try clear p24);(try clear p241);(try clear p246);(try clear p251);(try clear p6);(try clear q2);(try clear q20);(try clear q24);(try clear q241);(try clear q246);(try clear q251);(try clear q29);(try clear q61)
           obtain ⟨x4_2,x6_2,x50_2,rfl,rfl,HA,HK2,HO_6,HS,BK236,BK242,HB⟩ := hrel
           cases gk with
           | zero => exact absurd HA.out (by simp [impl_RunBound.l101])
           | succ k2 =>
            have H := HA.out
            clear HA
            simp only [impl_RunBound.l101] at H
            by_cases c65 : x50_2 < (l0_3.length : Int)
            ·rw [if_pos c65] at H
             have c65b0 : decide (x50_2 < (l0_3.length : Int)) = true := decide_eq_true c65
             clear c65
             by_cases c66 : 0 ≤ x50_2
             ·rw [if_pos c66] at H
              have c66b0 : decide (0 ≤ x50_2) = true := decide_eq_true c66
              clear c66
              by_cases c67 : x50_2 < (l0_3.length : Int)
              ·rw [if_pos c67] at H
               have c67b0 : decide (x50_2 < (l0_3.length : Int)) = true := decide_eq_true c67
               clear c67
               by_cases c68 : ((rd_T80 x6_1 (ji10)).f1).size + (rdOf ByteArray.empty l0_3 x50_2).size ≤ 9223372036854775807
               ·rw [if_pos c68] at H
                have c68b0 := eq_true c68
                have c68b1 : decide (((rd_T80 x6_1 (ji10)).f1).size + (rdOf ByteArray.empty l0_3 x50_2).size ≤ 9223372036854775807) = true := decide_eq_true c68
                try have c68b2 : (9223372036854775807 < ((rd_T80 x6_1 (ji10)).f1).size + (rdOf ByteArray.empty l0_3 x50_2).size) = False := eq_false (Nat.not_lt.2 c68)
                replace H := Option.bind_eq_some_iff.mp H
                obtain ⟨t257,A690,H⟩ := H
                replace H : ((slices_Max_int64_int64.f k2 t257).bind fun t260 => (if 0 ≤ (wrap64 ((t257.length : Int) - 1)) then (if (wrap64 ((t257.length : Int) - 1)) < (t257.length : Int) then ((impl_stateBehind.f ((rd_T80 x6_1 (ji10)).f0) (rdOf ByteArray.empty l0_3 x50_2)).bind fun t262 => (if 0 ≤ (wrap64 (((((rd_T80 x6_1 (ji10)).f1) ++ (rdOf ByteArray.empty l0_3 x50_2)).size : Int) - (rd t257 (wrap64 ((t257.length : Int) - 1))))) then (if (wrap64 (((((rd_T80 x6_1 (ji10)).f1) ++ (rdOf ByteArray.empty l0_3 x50_2)).size : Int) - (rd t257 (wrap64 ((t257.length : Int) - 1))))) ≤ ((((rd_T80 x6_1 (ji10)).f1) ++ (rdOf ByteArray.empty l0_3 x50_2)).size : Int) then (if x6_2.length < 5864062014805 then (impl_RunBound.l101 k2 sn2 (mx x4_2 t260) (x6_2 ++ [(⟨t262,(((rd_T80 x6_1 (ji10)).f1) ++ (rdOf ByteArray.empty l0_3 x50_2)).extract ((wrap64 (((((rd_T80 x6_1 (ji10)).f1) ++ (rdOf ByteArray.empty l0_3 x50_2)).size : Int) - (rd t257 (wrap64 ((t257.length : Int) - 1))))) : Int).toNat (((rd_T80 x6_1 (ji10)).f1) ++ (rdOf ByteArray.empty l0_3 x50_2)).size⟩ : S80)]) l0_3 (l0_3.length : Int) (wrap64 (x50_2 + 1)) a0_0 a0_1 l0_2 l0_3 ((rd_T80 x6_1 (ji10)).f0) ((rd_T80 x6_1 (ji10)).f1)) else (none)) else (none)) else (none))) else (none)) else (none))) = some (r1,r2) := H
                have A69 := Aside0.mk A690
                clear A690
                replace H := Option.bind_eq_some_iff.mp H
                obtain ⟨t260,A700,H⟩ := H
                replace H : (if 0 ≤ (wrap64 ((t257.length : Int) - 1)) then (if (wrap64 ((t257.length : Int) - 1)) < (t257.length : Int) then ((impl_stateBehind.f ((rd_T80 x6_1 (ji10)).f0) (rdOf ByteArray.empty l0_3 x50_2)).bind fun t262 => (if 0 ≤ (wrap64 (((((rd_T80 x6_1 (ji10)).f1) ++ (rdOf ByteArray.empty l0_3 x50_2)).size : Int) - (rd t257 (wrap64 ((t257.length : Int) - 1))))) then (if (wrap64 (((((rd_T80 x6_1 (ji10)).f1) ++ (rdOf ByteArray.empty l0_3 x50_2)).size : Int) - (rd t257 (wrap64 ((t257.length : Int) - 1))))) ≤ ((((rd_T80 x6_1 (ji10)).f1) ++ (rdOf ByteArray.empty l0_3 x50_2)).size : Int) then (if x6_2.length < 5864062014805 then (impl_RunBound.l101 k2 sn2 (mx x4_2 t260) (x6_2 ++ [(⟨t262,(((rd_T80 x6_1 (ji10)).f1) ++ (rdOf ByteArray.empty l0_3 x50_2)).extract ((wrap64 (((((rd_T80 x6_1 (ji10)).f1) ++ (rdOf ByteArray.empty l0_3 x50_2)).size : Int) - (rd t257 (wrap64 ((t257.length : Int) - 1))))) : Int).toNat (((rd_T80 x6_1 (ji10)).f1) ++ (rdOf ByteArray.empty l0_3 x50_2)).size⟩ : S80)]) l0_3 (l0_3.length : Int) (wrap64 (x50_2 + 1)) a0_0 a0_1 l0_2 l0_3 ((rd_T80 x6_1 (ji10)).f0) ((rd_T80 x6_1 (ji10)).f1)) else (none)) else (none)) else (none))) else (none)) else (none)) = some (r1,r2) := H
                have A70 := Aside0.mk A700
                clear A700
                obtain ⟨ji71,hji71⟩ : ∃ j_ : Int,(mx x4_2 t260) = j_ := ⟨_,rfl⟩
                replace H : (if 0 ≤ (wrap64 ((t257.length : Int) - 1)) then (if (wrap64 ((t257.length : Int) - 1)) < (t257.length : Int) then ((impl_stateBehind.f ((rd_T80 x6_1 (ji10)).f0) (rdOf ByteArray.empty l0_3 x50_2)).bind fun t262 => (if 0 ≤ (wrap64 (((((rd_T80 x6_1 (ji10)).f1) ++ (rdOf ByteArray.empty l0_3 x50_2)).size : Int) - (rd t257 (wrap64 ((t257.length : Int) - 1))))) then (if (wrap64 (((((rd_T80 x6_1 (ji10)).f1) ++ (rdOf ByteArray.empty l0_3 x50_2)).size : Int) - (rd t257 (wrap64 ((t257.length : Int) - 1))))) ≤ ((((rd_T80 x6_1 (ji10)).f1) ++ (rdOf ByteArray.empty l0_3 x50_2)).size : Int) then (if x6_2.length < 5864062014805 then (impl_RunBound.l101 k2 sn2 ji71 (x6_2 ++ [(⟨t262,(((rd_T80 x6_1 (ji10)).f1) ++ (rdOf ByteArray.empty l0_3 x50_2)).extract ((wrap64 (((((rd_T80 x6_1 (ji10)).f1) ++ (rdOf ByteArray.empty l0_3 x50_2)).size : Int) - (rd t257 (wrap64 ((t257.length : Int) - 1))))) : Int).toNat (((rd_T80 x6_1 (ji10)).f1) ++ (rdOf ByteArray.empty l0_3 x50_2)).size⟩ : S80)]) l0_3 (l0_3.length : Int) (wrap64 (x50_2 + 1)) a0_0 a0_1 l0_2 l0_3 ((rd_T80 x6_1 (ji10)).f0) ((rd_T80 x6_1 (ji10)).f1)) else (none)) else (none)) else (none))) else (none)) else (none)) = some (r1,r2) := by first | (rw [hji71] at H; exact H) | (simp only [hji71] at H ⊢; exact H)
                (try rw [hji71] at A69)
                (try rw [hji71] at A70)
                have hji71_ : (if x4_2 < t260 then t260 else x4_2) = ji71 := hji71
                obtain ⟨ji72,hji72⟩ : ∃ j_ : Int,(wrap64 ((t257.length : Int) - 1)) = j_ := ⟨_,rfl⟩
                replace H : (if 0 ≤ (ji72) then (if (ji72) < (t257.length : Int) then ((impl_stateBehind.f ((rd_T80 x6_1 (ji10)).f0) (rdOf ByteArray.empty l0_3 x50_2)).bind fun t262 => (if 0 ≤ (wrap64 (((((rd_T80 x6_1 (ji10)).f1) ++ (rdOf ByteArray.empty l0_3 x50_2)).size : Int) - (rd t257 (ji72)))) then (if (wrap64 (((((rd_T80 x6_1 (ji10)).f1) ++ (rdOf ByteArray.empty l0_3 x50_2)).size : Int) - (rd t257 (ji72)))) ≤ ((((rd_T80 x6_1 (ji10)).f1) ++ (rdOf ByteArray.empty l0_3 x50_2)).size : Int) then (if x6_2.length < 5864062014805 then (impl_RunBound.l101 k2 sn2 ji71 (x6_2 ++ [(⟨t262,(((rd_T80 x6_1 (ji10)).f1) ++ (rdOf ByteArray.empty l0_3 x50_2)).extract ((wrap64 (((((rd_T80 x6_1 (ji10)).f1) ++ (rdOf ByteArray.empty l0_3 x50_2)).size : Int) - (rd t257 (ji72)))) : Int).toNat (((rd_T80 x6_1 (ji10)).f1) ++ (rdOf ByteArray.empty l0_3 x50_2)).size⟩ : S80)]) l0_3 (l0_3.length : Int) (wrap64 (x50_2 + 1)) a0_0 a0_1 l0_2 l0_3 ((rd_T80 x6_1 (ji10)).f0) ((rd_T80 x6_1 (ji10)).f1)) else (none)) else (none)) else (none))) else (none)) else (none)) = some (r1,r2) := by first | (rw [hji72] at H; exact H) | (simp only [hji72] at H ⊢; exact H)
                (try rw [hji72] at A69)
                (try rw [hji72] at A70)
                have hji72w : (IntKind.i64.wrap ((t257.length : Int) - 1)) = ji72 := (i64_w _).trans hji72
                by_cases c73 : 0 ≤ (ji72)
                ·rw [if_pos c73] at H
                 have c73b0 : decide (0 ≤ (ji72)) = true := decide_eq_true c73
                 clear c73
                 by_cases c74 : (ji72) < (t257.length : Int)
                 ·rw [if_pos c74] at H
                  have c74b0 : decide ((ji72) < (t257.length : Int)) = true := decide_eq_true c74
                  clear c74
                  replace H := Option.bind_eq_some_iff.mp H
                  obtain ⟨t262,A750,H⟩ := H
                  replace H : (if 0 ≤ (wrap64 (((((rd_T80 x6_1 (ji10)).f1) ++ (rdOf ByteArray.empty l0_3 x50_2)).size : Int) - (rd t257 (ji72)))) then (if (wrap64 (((((rd_T80 x6_1 (ji10)).f1) ++ (rdOf ByteArray.empty l0_3 x50_2)).size : Int) - (rd t257 (ji72)))) ≤ ((((rd_T80 x6_1 (ji10)).f1) ++ (rdOf ByteArray.empty l0_3 x50_2)).size : Int) then (if x6_2.length < 5864062014805 then (impl_RunBound.l101 k2 sn2 ji71 (x6_2 ++ [(⟨t262,(((rd_T80 x6_1 (ji10)).f1) ++ (rdOf ByteArray.empty l0_3 x50_2)).extract ((wrap64 (((((rd_T80 x6_1 (ji10)).f1) ++ (rdOf ByteArray.empty l0_3 x50_2)).size : Int) - (rd t257 (ji72)))) : Int).toNat (((rd_T80 x6_1 (ji10)).f1) ++ (rdOf ByteArray.empty l0_3 x50_2)).size⟩ : S80)]) l0_3 (l0_3.length : Int) (wrap64 (x50_2 + 1)) a0_0 a0_1 l0_2 l0_3 ((rd_T80 x6_1 (ji10)).f0) ((rd_T80 x6_1 (ji10)).f1)) else (none)) else (none)) else (none)) = some (r1,r2) := H
                  have A75 := Aside0.mk A750
                  clear A750
                  obtain ⟨ji76,hji76⟩ : ∃ j_ : Int,(wrap64 (((((rd_T80 x6_1 (ji10)).f1) ++ (rdOf ByteArray.empty l0_3 x50_2)).size : Int) - (rd t257 (ji72)))) = j_ := ⟨_,rfl⟩
                  replace H : (if 0 ≤ (ji76) then (if (ji76) ≤ ((((rd_T80 x6_1 (ji10)).f1) ++ (rdOf ByteArray.empty l0_3 x50_2)).size : Int) then (if x6_2.length < 5864062014805 then (impl_RunBound.l101 k2 sn2 ji71 (x6_2 ++ [(⟨t262,(((rd_T80 x6_1 (ji10)).f1) ++ (rdOf ByteArray.empty l0_3 x50_2)).extract ((ji76) : Int).toNat (((rd_T80 x6_1 (ji10)).f1) ++ (rdOf ByteArray.empty l0_3 x50_2)).size⟩ : S80)]) l0_3 (l0_3.length : Int) (wrap64 (x50_2 + 1)) a0_0 a0_1 l0_2 l0_3 ((rd_T80 x6_1 (ji10)).f0) ((rd_T80 x6_1 (ji10)).f1)) else (none)) else (none)) else (none)) = some (r1,r2) := by first | (rw [hji76] at H; exact H) | (simp only [hji76] at H ⊢; exact H)
                  (try rw [hji76] at A69)
                  (try rw [hji76] at A70)
                  (try rw [hji76] at A75)
                  have hji76w : (IntKind.i64.wrap (((((rd_T80 x6_1 (ji10)).f1) ++ (rdOf ByteArray.empty l0_3 x50_2)).size : Int) - (rd t257 (ji72)))) = ji76 := (i64_w _).trans hji76
                  by_cases c77 : 0 ≤ (ji76)
                  ·rw [if_pos c77] at H
                   have c77b0 := eq_true c77
                   have c77b1 : decide (0 ≤ (ji76)) = true := decide_eq_true c77
                   clear c77
                   by_cases c78 : (ji76) ≤ ((((rd_T80 x6_1 (ji10)).f1) ++ (rdOf ByteArray.empty l0_3 x50_2)).size : Int)
                   ·rw [if_pos c78] at H
                    have c78b0 := eq_true c78
                    have c78b1 : decide ((ji76) ≤ ((((rd_T80 x6_1 (ji10)).f1) ++ (rdOf ByteArray.empty l0_3 x50_2)).size : Int)) = true := decide_eq_true c78
                    by_cases c79 : x6_2.length < 5864062014805
                    ·rw [if_pos c79] at H
                     have LMc79 := Aside0.mk c79
                     clear c79
                     obtain ⟨y263,hy263⟩ : ∃ y_ : List (S80),y_ = (x6_2 ++ [(⟨t262,(((rd_T80 x6_1 (ji10)).f1) ++ (rdOf ByteArray.empty l0_3 x50_2)).extract ((ji76) : Int).toNat (((rd_T80 x6_1 (ji10)).f1) ++ (rdOf ByteArray.empty l0_3 x50_2)).size⟩ : S80)]) := ⟨_,rfl⟩
                     replace H : (impl_RunBound.l101 k2 sn2 ji71 y263 l0_3 (l0_3.length : Int) (wrap64 (x50_2 + 1)) a0_0 a0_1 l0_2 l0_3 ((rd_T80 x6_1 (ji10)).f0) ((rd_T80 x6_1 (ji10)).f1)) = some (r1,r2) := by first | (rw [hy263]; with_reducible exact H) | (have H2_ := (Option.bind_some _ _).symm.trans H; rw [hy263]; with_reducible exact H2_) | (have H2_ := (Option.bind_some _ _).symm.trans H; with_reducible exact H2_) | with_reducible exact H | (rw [hy263]; exact H) | exact H
                     have Ny263 := Aside0.mk hy263
                     clear hy263
                     have H' := Aside0.mk H
                     clear H
                     have p256 : 0 ≤ (x50_2 : Int) := of_decide_eq_true b9_13
                     have q256 : x50_2 < (l0_3.length : Int) := of_decide_eq_true b9_13
                     obtain ⟨ad256,e256,hx256_0⟩ := Kd.at_string HR0_3.out x50_2 p256 q256
                     cases e256
                     replace hx256_0 := (HB.out.cell (World.block_lt_of_cell? w _ hx256_0)).trans hx256_0
                     replace p256 := eq_true p256
                     replace q256 := eq_true q256
                     have hnb80 := NB242_236.out
                     have hnc80 := NB236_242.out
                     have hcz81_0 : wr.cell? ⟨gb242,0,none⟩ = some (.int .i64 ((rd_T80 x6_1 (ji10)).f0)) := (blk_cell BK242.out 0).trans rfl
                     have hcz81_1 : wr.cell? ⟨gb242,1,none⟩ = some (.string ((rd_T80 x6_1 (ji10)).f1)) := (blk_cell BK242.out 1).trans rfl
                     have hfz81_0 := blk_frozen BK242.out 0
                     have hfz81_1 := blk_frozen BK242.out 1
                     try go_wp2_with (first | ((with_reducible refine gate_callee (f := 68) rfl ?_); refine goesL_ (some 59) rfl rfl Tryd.func68 (by kernel_rfl) rfl #[.string (((rd_T80 x6_1 (ji10)).f1) ++ (rdOf ByteArray.empty l0_3 x50_2))] rfl b9_14 ?_; (with_reducible refine (impl_runLengths.calls k2 (((rd_T80 x6_1 (ji10)).f1) ++ (rdOf ByteArray.empty l0_3 x50_2)) t257 _ A69.out).mono ?_); rintro e w82 ⟨v258,rfl,ho0,hb⟩; refine ⟨_,rfl,?_⟩; have nS_ := Aside0.mk (MSet.SetIs.below b9_1 hb); clear HS; have HS := nS_; clear nS_; have n0_ := Aside0.mk (Kd.R_below b9_10 hb); have n1_ := Aside0.mk (Kd.R_lower ho0 (below_size b9_0)); have n2_ := Aside0.mk (blk_below (g := gb236) (o := .cells #[.int .i64 a0_0,.int .i64 a0_1,.slice A0_2 l0_2.length c0_2,.slice (some ad256) l0_3.length c0_3] 30 (0,0)) b9_2 hb); have n3_ := Aside0.mk (blk_below (g := gb242) (o := .cells #[.int .i64 ((rd_T80 x6_1 (ji10)).f0),.string ((rd_T80 x6_1 (ji10)).f1)] 80 (0,0)) b9_4 hb); have n4_ := Aside0.mk (below_step b9_0 hb); clear HO_6; clear BK236; clear BK242; clear HB; have HO_6 := n0_; have HO259 := n1_; have BK236 := n2_; have BK242 := n3_; have HB := n4_; clear n0_ n1_ n2_ n3_ n4_; (try clear hb); (try clear hb2); (try clear hk); (try clear hi); (try clear ho0); obtain ⟨Ao83,co83,eo83⟩ := Kd.R_slice HO259.out; subst eo83) | ((with_reducible refine gate_callee (f := 69) rfl ?_); refine goesL_ (some 62) rfl rfl Tryd.func69 (by kernel_rfl) rfl #[.slice Ao83 t257.length co83] rfl b9_18 ?_; (with_reducible refine (slices_Max_int64_int64.calls k2 _ _ t257 t260 _ ?side1 ?side2 A70.out).mono ?_); (case side1 => repeat (first | exact (Kd.R_reads' HO259.out).2.2 | (with_reducible refine Kd.C_alloc ?_ _) | (with_reducible refine Kd.C_drewN ?_ _) | (with_reducible refine Kd.C_drew ?_))); (case side2 => exact (Kd.R_reads' HO259.out).2.1); rintro e w84 ⟨rfl,hb⟩; refine ⟨_,rfl,?_⟩; have nS_ := Aside0.mk (MSet.SetIs.below b9_1 hb); clear HS; have HS := nS_; clear nS_; have n0_ := Aside0.mk (Kd.R_below b9_10 hb); have n1_ := Aside0.mk (Kd.R_below b9_23 hb); have n2_ := Aside0.mk (blk_below (g := gb236) (o := .cells #[.int .i64 a0_0,.int .i64 a0_1,.slice A0_2 l0_2.length c0_2,.slice (some ad256) l0_3.length c0_3] 30 (0,0)) b9_2 hb); have n3_ := Aside0.mk (blk_below (g := gb242) (o := .cells #[.int .i64 ((rd_T80 x6_1 (ji10)).f0),.string ((rd_T80 x6_1 (ji10)).f1)] 80 (0,0)) b9_4 hb); have n4_ := Aside0.mk (below_step b9_0 hb); clear HO_6; clear HO259; clear BK236; clear BK242; clear HB; have HO_6 := n0_; have HO259 := n1_; have BK236 := n2_; have BK242 := n3_; have HB := n4_; clear n0_ n1_ n2_ n3_ n4_; (try clear hb); (try clear hb2); (try clear hk); (try clear hi); have p261 : 0 ≤ ((ji72) : Int) := of_decide_eq_true b9_13; have q261 : (ji72) < (t257.length : Int) := of_decide_eq_true b9_13; obtain ⟨ad261,e261,hx261_0⟩ := Kd.at_int (Kd.R_reads' HO259.out).2.2 (ji72) p261 q261; cases e261; replace p261 := eq_true p261; replace q261 := eq_true q261))
                     have n0_ := Aside0.mk (Kd.R_drew HO_6.out)
                     have n1_ := Aside0.mk (Kd.R_drew HO259.out)
                     have n2_ := Aside0.mk (blk_drew BK236.out)
                     have n3_ := Aside0.mk (blk_drew BK242.out)
                     have nS_ := Aside0.mk (MSet.SetIs.drew HS.out)
                     clear HS
                     have HS := nS_
                     clear nS_
                     have n4_ := Aside0.mk (below_drew1 HB.out)
                     clear HO_6
                     clear HO259
                     clear BK236
                     clear BK242
                     clear HB
                     have HO_6 := n0_
                     have HO259 := n1_
                     have BK236 := n2_
                     have BK242 := n3_
                     have HB := n4_
                     clear n0_ n1_ n2_ n3_ n4_
                     generalize (((rd_T80 x6_1 (ji10)).f1) ++ (rdOf ByteArray.empty l0_3 x50_2)) = tc at Ny263 hji76 hji76w c78b0 c78b1 ⊢
                     refine start_ (n := 15) (S := fun w' => w'.cell? ⟨gb242,0,none⟩ = some (.int .i64 ((rd_T80 x6_1 (ji10)).f0)) ∧ w'.cell? ⟨gb242,1,none⟩ = some (.string ((rd_T80 x6_1 (ji10)).f1))) (ds := []) #[false,false,false,false,false,false,false,false,false,false,false,false,false,false,false] (by kernel_rfl) rfl rfl ⟨(blk_cell BK242.out 0).trans rfl,(blk_cell BK242.out 1).trans rfl⟩ (fun hHeld => ?_); refine with_tabW impl_RunBound.tab19 impl_RunBound.bits19 (fun HT_ HW_ => ?_)
                     generalize w84.drew = w85 at HO_6 HS HO259 BK236 BK242 HB hHeld ⊢
                     refine pure_ (i := 0) (N := some 70) (v := ?_) (a' := ?_) #[true,false,false,false,false,false,false,false,false,false,false,false,false,false,false] rfl rfl (any_of HT_.out (by kernel_rfl)) (fun _ _ _ h => h) (Or.inl ⟨by rfl,?_⟩) ?_ ?_
                     rotate_left
                     ·intro w'
                      go_simp
                      with_reducible rfl
                     rotate_left
                     ·simp only [Act.put,List.setIfInBounds_toArray,List.set_cons_zero,List.set_cons_succ,i64_w,i32_w]
                      rfl
                     refine pure_ (i := 1) (N := some 71) (v := ?_) (a' := ?_) #[true,true,false,false,false,false,false,false,false,false,false,false,false,false,false] rfl rfl (any_of HT_.out (by kernel_rfl)) (fun _ _ _ h => h) (Or.inl ⟨by rfl,?_⟩) ?_ ?_
                     rotate_left
                     ·intro w'
                      go_simp
                      with_reducible rfl
                     rotate_left
                     ·simp only [Act.put,List.setIfInBounds_toArray,List.set_cons_zero,List.set_cons_succ,i64_w,i32_w]
                      rfl
                     refine pure_ (i := 3) (N := some 73) (v := ?_) (a' := ?_) #[true,true,false,true,false,false,false,false,false,false,false,false,false,false,false] rfl rfl (any_of HT_.out (by kernel_rfl)) (fun _ _ _ h => h) (Or.inl ⟨by rfl,?_⟩) ?_ ?_
                     rotate_left
                     ·intro w'
                      go_simp
                      with_reducible rfl
                     rotate_left
                     ·simp only [Act.put,List.setIfInBounds_toArray,List.set_cons_zero,List.set_cons_succ,i64_w,i32_w]
                      rfl
                     refine pure_ (i := 5) (N := some 75) (v := ?_) (a' := ?_) #[true,true,false,true,false,true,false,false,false,false,false,false,false,false,false] rfl rfl (any_of HT_.out (by kernel_rfl)) (fun _ _ _ h => h) (Or.inl ⟨by rfl,?_⟩) ?_ ?_
                     rotate_left
                     ·intro w'
                      go_simp
                      with_reducible rfl
                     rotate_left
                     ·simp only [Act.put,List.setIfInBounds_toArray,List.set_cons_zero,List.set_cons_succ,i64_w,i32_w]
                      rfl
                     refine pure_ (i := 6) (N := some 76) (v := ?_) (a' := ?_) #[true,true,false,true,false,true,true,false,false,false,false,false,false,false,false] rfl rfl (any_of HT_.out (by kernel_rfl)) (fun _ _ _ h => h) (Or.inl ⟨by rfl,?_⟩) ?_ ?_
                     rotate_left
                     ·intro w'
                      go_simp
                      with_reducible rfl
                     rotate_left
                     ·simp only [Act.put,List.setIfInBounds_toArray,List.set_cons_zero,List.set_cons_succ,i64_w,i32_w]
                      rfl
                     refine pure_ (i := 7) (N := some 77) (v := ?_) (a' := ?_) #[true,true,false,true,false,true,true,true,false,false,false,false,false,false,false] rfl rfl (any_of HT_.out (by kernel_rfl)) (fun _ _ _ h => h) (Or.inl ⟨by rfl,?_⟩) ?_ ?_
                     rotate_left
                     ·intro w'
                      go_simp
                      with_reducible rfl
                     rotate_left
                     ·simp only [Act.put,List.setIfInBounds_toArray,List.set_cons_zero,List.set_cons_succ,i64_w,i32_w]
                      rfl
                     refine pure_ (i := 8) (N := some 78) (v := ?_) (a' := ?_) #[true,true,false,true,false,true,true,true,true,false,false,false,false,false,false] rfl rfl (any_of HT_.out (by kernel_rfl)) (fun _ _ _ h => h) (Or.inl ⟨by rfl,?_⟩) ?_ ?_
                     rotate_left
                     ·intro w'
                      go_simp
                      with_reducible rfl
                     rotate_left
                     ·simp only [Act.put,List.setIfInBounds_toArray,List.set_cons_zero,List.set_cons_succ,i64_w,i32_w]
                      rfl
                     refine pure_ (i := 9) (N := some 79) (v := ?_) (a' := ?_) #[true,true,false,true,false,true,true,true,true,true,false,false,false,false,false] rfl rfl (any_of HT_.out (by kernel_rfl)) (fun _ _ _ h => h) (Or.inl ⟨by rfl,?_⟩) ?_ ?_
                     rotate_left
                     ·intro w'
                      go_simp
                      with_reducible rfl
                     rotate_left
                     ·simp only [Act.put,List.setIfInBounds_toArray,List.set_cons_zero,List.set_cons_succ,i64_w,i32_w]
                      rfl
                     refine pure_ (i := 10) (N := some 80) (v := ?_) (a' := ?_) #[true,true,false,true,false,true,true,true,true,true,true,false,false,false,false] rfl rfl (any_of HT_.out (by kernel_rfl)) (fun _ _ _ h => h) (Or.inl ⟨by rfl,?_⟩) ?_ ?_
                     rotate_left
                     ·intro w'
                      go_simp
                      with_reducible rfl
                     rotate_left
                     ·simp only [Act.put,List.setIfInBounds_toArray,List.set_cons_zero,List.set_cons_succ,i64_w,i32_w]
                      rfl
                     refine take_ (i := 2) (N := some 72) (v := ?_) (a' := ?_) #[true,true,true,true,false,true,true,true,true,true,true,false,false,false,false] rfl rfl (take_ofW HT_.out HW_.out (by kernel_rfl)) (fun _ _ _ h => h) (Or.inl ⟨by rfl,?_⟩) hHeld ?_ ?_
                     rotate_left
                     ·rintro w' ⟨s0,s1⟩
                      go_simp
                      with_reducible rfl
                     rotate_left
                     ·simp only [Act.put,List.setIfInBounds_toArray,List.set_cons_zero,List.set_cons_succ,i64_w,i32_w]
                      rfl
                     refine one_ (i := 4) (N := some 74) #[true,true,true,true,true,true,true,true,true,true,true,false,false,false,false] rfl rfl (one_of HT_.out (by kernel_rfl)) (by decide) (fun K hK => ?_)
                     refine goes_ Tryd.func63 (by kernel_rfl) rfl #[.int .i64 ((rd_T80 x6_1 (ji10)).f0),.string (rdOf ByteArray.empty l0_3 x50_2)] (by rfl) rfl rfl b9_14 ?_
                     with_reducible refine (impl_stateBehind.calls ((rd_T80 x6_1 (ji10)).f0) (rdOf ByteArray.empty l0_3 x50_2) t262 _ A75.out).mono ?_
                     rintro e w' ⟨rfl,⟨nd,rfl⟩⟩
                     refine ⟨_,rfl,?_⟩
                     refine hK.out _ _ ⟨(blk_cell BK242.out 0).trans rfl,(blk_cell BK242.out 1).trans rfl⟩ (fun hHeld => ?_)
                     clear hK K
                     refine norm_ (a' := ?_) ?_ ?_
                     rotate_left
                     ·show Act.put _ (some 74) _ = _
                      simp only [Act.put,List.setIfInBounds_toArray,List.set_cons_zero,List.set_cons_succ,i64_w,i32_w]
                      rfl
                     refine pure_ (i := 11) (N := some 81) (v := ?_) (a' := ?_) #[true,true,true,true,true,true,true,true,true,true,true,true,false,false,false] rfl rfl (any_of HT_.out (by kernel_rfl)) (fun _ _ _ h => h) (Or.inl ⟨by rfl,?_⟩) ?_ ?_
                     rotate_left
                     ·intro w'
                      go_simp
                      with_reducible rfl
                     rotate_left
                     ·simp only [Act.put,List.setIfInBounds_toArray,List.set_cons_zero,List.set_cons_succ,i64_w,i32_w]
                      rfl
                     refine one_ (i := 12) (N := some 82) #[true,true,true,true,true,true,true,true,true,true,true,true,true,false,false] rfl rfl (one_of HT_.out (by kernel_rfl)) (by decide) (fun K hK => ?_)
                     refine value_ (w1 := ?_) (v := ?_) (by rfl) rfl ?_ ?_
                     rotate_left 2
                     ·go_simp
                      constructor
                      ·rfl
                      ·rfl
                     refine hK.out _ _ ⟨(blk_cell (blk_alloc BK242.out _) 0).trans rfl,(blk_cell (blk_alloc BK242.out _) 1).trans rfl⟩ (fun hHeld => ?_)
                     clear hK K
                     refine norm_ (a' := ?_) ?_ ?_
                     rotate_left
                     ·show Act.put _ (some 82) _ = _
                      simp only [Act.put,List.setIfInBounds_toArray,List.set_cons_zero,List.set_cons_succ,i64_w,i32_w]
                      rfl
                     refine one_ (i := 13) (N := some 83) #[true,true,true,true,true,true,true,true,true,true,true,true,true,true,false] rfl rfl (one_of HT_.out (by kernel_rfl)) (by decide) (fun K hK => ?_)
                     refine Kd.R_append_step k80 (w0 := w) w.heap.size (by rfl) (.tmp 70) (.tmp 82) 81 80 (.agg #[(.int .i64 0),(.string ⟨#[]⟩)]) 24 rfl Tryd.underlying81 info80 rfl (by decide) (by omega) u6 x6_2 (⟨t262,tc.extract ((ji76) : Int).toNat tc.size⟩ : S80) [.int .i64 t262,.string (tc.extract ((ji76) : Int).toNat tc.size)] (fun k_ => k_ ≠ gb242 ∧ k_ ≠ w6.heap.size) (fun _ => False) rfl rfl ?aP (fun _ hk => hk.elim) ?aF ?aO ?aB ?aS ?aL ?_
                     (case aP => exact k80_mkM _ _ _ (⟨t262,tc.extract ((ji76) : Int).toNat tc.size⟩ : S80))
                     (case aB => exact b9_0)
                     (case aF => exact (fun k_ hk => ⟨Kd.freshB (g := gb242) (o := .cells #[.int .i64 ((rd_T80 x6_1 (ji10)).f0),.string ((rd_T80 x6_1 (ji10)).f1)] 80 (0,0)) b9_4 k_ hk,fun e => by have h_ := MSet.SetIs.lt b9_1; rw [← e] at h_; exact absurd hk (Nat.not_le.2 h_)⟩))
                     (case aO => exact b9_10)
                     (case aS => exact (below_size b9_0))
                     (case aL => have := LMc79.out; omega)
                     intro v264 w86 ho hb hg hat
                     have nS_ := Aside0.mk (MSet.SetIs.kept b9_1 hg (Kd.R_away HO_6.out (fun _ hk => hk.2)))
                     clear HS
                     have HS := nS_
                     clear nS_
                     rw [← Ny263.out] at ho
                     have n0_ := Aside0.mk (blk_grown (g := gb236) (o := .cells #[.int .i64 a0_0,.int .i64 a0_1,.slice A0_2 l0_2.length c0_2,.slice (some ad256) l0_3.length c0_3] 30 (0,0)) b9_2 hg (Kd.R_ne HO_6.out BK236.out (by decide)))
                     have n1_ := Aside0.mk (blk_grown (g := gb242) (o := .cells #[.int .i64 ((rd_T80 x6_1 (ji10)).f0),.string ((rd_T80 x6_1 (ji10)).f1)] 80 (0,0)) b9_4 hg (Kd.R_away HO_6.out (fun _ hk => hk.1)))
                     have n2_ := Aside0.mk (Kd.R_over' b9_23 (Kd.R_typed b9_10) (by decide) hg)
                     have n3_ := Aside0.mk (hb)
                     have n4_ := Aside0.mk (ho)
                     clear BK236
                     clear BK242
                     clear HO259
                     clear HB
                     clear HO_6
                     have BK236 := n0_
                     have BK242 := n1_
                     have HO259 := n2_
                     have HB := n3_
                     have HO265 := n4_
                     clear n0_ n1_ n2_ n3_ n4_
                     clear ho hb hg hat
                     refine hK.out _ _ ⟨(blk_cell BK242.out 0).trans rfl,(blk_cell BK242.out 1).trans rfl⟩ (fun hHeld => ?_)
                     clear hK K
                     refine norm_ (a' := ?_) ?_ ?_
                     rotate_left
                     ·show Act.put _ (some 83) _ = _
                      simp only [Act.put,List.setIfInBounds_toArray,List.set_cons_zero,List.set_cons_succ,i64_w,i32_w]
                      rfl
                     refine pure_ (i := 14) (N := some 6) (v := ?_) (a' := ?_) #[true,true,true,true,true,true,true,true,true,true,true,true,true,true,true] rfl rfl (any_of HT_.out (by kernel_rfl)) (fun _ _ _ h => h) (Or.inl ⟨by rfl,?_⟩) ?_ ?_
                     rotate_left
                     ·intro w'
                      go_simp
                      with_reducible rfl
                     rotate_left
                     ·simp only [Act.put,List.setIfInBounds_toArray,List.set_cons_zero,List.set_cons_succ,i64_w,i32_w]
                      rfl
                     refine done_ (done_of HT_.out (by kernel_rfl)) ?_
                     try go_wp2
                     go_roundg k2
                     case measure => have := HK1.out; have := HK2.out; omega
                     case rel => exact ⟨(ji71),(y263),(wrap64 (x50_2 + 1)),(by first | rfl | (simp; done) | (simp only [← hji71] <;> (first | rfl | simp)) | (simp [*]; done)),b9_20,H',⟨by have := HK1.out; have := HK2.out; omega⟩,⟨by (with_reducible repeat (first | apply Kd.R_alloc | apply Kd.R_drewN | apply Kd.R_drew)); exact HO265.out⟩,⟨b9_1⟩,⟨b9_2⟩,⟨b9_4⟩,⟨b9_0⟩⟩
                    ·rw [if_neg c79] at H
                     exact absurd H (by simp)
                   ·rw [if_neg c78] at H
                    exact absurd H (by simp)
                  ·rw [if_neg c77] at H
                   exact absurd H (by simp)
                 ·rw [if_neg c74] at H
                  exact absurd H (by simp)
                ·rw [if_neg c73] at H
                 exact absurd H (by simp)
               ·rw [if_neg c68] at H
                exact absurd H (by simp)
              ·rw [if_neg c67] at H
               exact absurd H (by simp)
             ·rw [if_neg c66] at H
              exact absurd H (by simp)
            ·rw [if_neg c65] at H
             have c65b0 : decide (x50_2 < (l0_3.length : Int)) = false := decide_eq_false c65
             clear c65
             have H' := Aside0.mk H
             clear H
             go_wp2
             go_roundg k2
             case measure => have := HK1.out; have := HK2.out; omega
             case rel => exact ⟨(sn2),(x4_2),(x6_2),b9_20,H',⟨by have := HK1.out; have := HK2.out; omega⟩,⟨b9_21⟩,⟨b9_1⟩,⟨b9_2⟩,⟨b9_0⟩⟩
       ·rw [if_neg c13] at H
        exact absurd H (by simp)
      ·rw [if_neg c12] at H
       exact absurd H (by simp)
     ·rw [if_neg c11] at H
      exact absurd H (by simp)
    ·rw [if_neg c9] at H
     have c9b0 : decide (0 < (x6_1.length : Int)) = false := decide_eq_false c9
     have c9b1 : decide (0 < x6_1.length) = false := decide_eq_false (by omega)
     clear c9
     simp only [Option.some.injEq,Prod.mk.injEq] at H
     obtain ⟨rfl,rfl⟩ := H
     obtain ⟨Ao87,co87,eo87⟩ := Kd.R_slice HO_6.out
     subst eo87
     go_wp2
     go_ret2
     exact ⟨b9_24,b9_3⟩
 ·replace c3 := Bool.eq_false_iff.mpr c3
  subst c3
  have H1 : (some (0,false)) = some (r1,r2) := by rw [if_neg (show ¬ (false = true) by decide)] at H; exact H
  clear H
  have H := H1
  clear H1
  simp only [Option.some.injEq,Prod.mk.injEq] at H
  obtain ⟨rfl,rfl⟩ := H
  go_enter Tryd.func33,Tryd.ntmps33
  go_wp2_with (first | ((with_reducible refine gate_dst (N := 1) rfl ?_); refine box_event ?hg (N := 1) ?hd (cs := #[.int .i64 a0_0,.int .i64 a0_1,.slice A0_2 l0_2.length c0_2,.slice A0_3 l0_3.length c0_3]) (t := 30) ?hr ?_; (case hd => rfl); (case hg => rfl); (case hr => first | (go_simp; done) | (go_simp; rfl)); intro gb236 hg w88 hbox hb; have n0_ := Aside0.mk (below_step b9_12 hb); have n1_ := Aside0.mk (hbox); have n2_ := Aside0.mk ((by rw [hg]; exact (below_size b9_12) : w.heap.size ≤ gb236)); have n3_ := Aside0.mk ((by rw [hg]; exact (below_size b9_12) : w.heap.size ≤ gb236)); clear HB; have HB := n0_; have BK236 := n1_; have GW236 := n2_; have GE236 := n3_; clear n0_ n1_ n2_ n3_; clear hb hbox hg; have hcz89_0 : w88.cell? ⟨gb236,0,none⟩ = some (.int .i64 a0_0) := (blk_cell BK236.out 0).trans rfl; have hcz89_1 : w88.cell? ⟨gb236,1,none⟩ = some (.int .i64 a0_1) := (blk_cell BK236.out 1).trans rfl; have hcz89_2 : w88.cell? ⟨gb236,2,none⟩ = some (.slice A0_2 l0_2.length c0_2) := (blk_cell BK236.out 2).trans rfl; have hcz89_3 : w88.cell? ⟨gb236,3,none⟩ = some (.slice A0_3 l0_3.length c0_3) := (blk_cell BK236.out 3).trans rfl; have hfz89_0 := blk_frozen BK236.out 0; have hfz89_1 := blk_frozen BK236.out 1; have hfz89_2 := blk_frozen BK236.out 2; have hfz89_3 := blk_frozen BK236.out 3) | ((with_reducible refine gate_callee (f := 17) rfl ?_); refine goesL_ (some 16) rfl rfl Tryd.func17 (by kernel_rfl) rfl #[.agg #[.int .i64 a0_0,.int .i64 a0_1,.slice A0_2 l0_2.length c0_2,.slice A0_3 l0_3.length c0_3]] rfl b9_18 ?_; (with_reducible refine (impl_ValidBlockCode.calls k a0_0 a0_1 _ _ l0_2 _ _ l0_3 false _ ?side1 ?side2 ?side3 ?side4 A2.out).mono ?_); (case side1 => repeat (first | exact (Kd.C_below HR0_2.out HB.out) | (with_reducible refine Kd.C_alloc ?_ _) | (with_reducible refine Kd.C_drewN ?_ _) | (with_reducible refine Kd.C_drew ?_))); (case side2 => exact HC0_2.out); (case side3 => repeat (first | exact (Kd.C_below HR0_3.out HB.out) | (with_reducible refine Kd.C_alloc ?_ _) | (with_reducible refine Kd.C_drewN ?_ _) | (with_reducible refine Kd.C_drew ?_))); (case side4 => exact HC0_3.out); rintro e w90 ⟨rfl,hb⟩; refine ⟨_,rfl,?_⟩; have n0_ := Aside0.mk (blk_below (g := gb236) (o := .cells #[.int .i64 a0_0,.int .i64 a0_1,.slice A0_2 l0_2.length c0_2,.slice A0_3 l0_3.length c0_3] 30 (0,0)) b9_2 hb); have n1_ := Aside0.mk (below_step b9_3 hb); clear BK236; clear HB; have BK236 := n0_; have HB := n1_; clear n0_ n1_; (try clear hb); (try clear hb2); (try clear hk); (try clear hi)))
  go_ret2
  exact ⟨b9_24,b9_3⟩

end Go.Proofs.YtegeaoiclepkkaaDoor.QFnExactRunBound
