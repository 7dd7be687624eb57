/-
Each Go function that this text names answers as the Lean function beside it says,wherever that one answers; conditions: the arguments lie in memory as each theorem states it.
-/
import Derived.Test.YtegeaoiclepkkaaDoorQFnExactDecodeBlocksx0
import Derived.Test.YtegeaoiclepkkaaDoorQFnExactDecodeBlocksx2
import Derived.Test.YtegeaoiclepkkaaDoorQFnExactDecodeBlocksx4
namespace Go.Proofs.YtegeaoiclepkkaaDoor.QFnExactDecodeBlocks
open Go.RowKit Go.Proofs.YtegeaoiclepkkaaDoorW.PrintWords Go.Proofs.YtegeaoiclepkkaaDoorW.PrintLast Go.Proofs.YtegeaoiclepkkaaDoorW.PrintMore
attribute [local go_sem] max2_int min2_int max_two min_two max_three min_three max_four min_four   -- for this text's walks alone
set_option linter.unusedVariables false
set_option linter.unusedSimpArgs false

/-! ### spec_l03State: function 59 -/
def spec_l03State.f (a0 : Int) : Option (Bool) := if a0 = (-1) then (some true) else (some (a0 == 1))
set_option maxHeartbeats 8000000 in
set_option maxRecDepth 100000 in
theorem spec_l03State.calls (a0 : Int) (r : Bool) (w : World) (h : spec_l03State.f a0 = some r) :
  Calls Tryd.prog 59 #[.int .i64 a0] w fun e w' => e = .returned (.bool r) ∧ Drawn0 w w' := by
 have H : (if a0 = (-1) then (some true) else (some (a0 == 1))) = some r := h
 clear h
 by_cases c2 : a0 = (-1)
 ·rw [if_pos c2] at H
  have c2b0 : (a0 == (-1)) = true := beq_iff_eq.mpr c2
  have c2b1 : (a0 != (-1)) = false := bne_eq_false_iff_eq.mpr c2
  clear c2
  obtain rfl := Option.some.inj H
  go_enter Tryd.func59,Tryd.ntmps59
  go_wp2
  go_ret
  exact ⟨by first | rfl | (simp; done) | (simp [*]; done),by repeat (first | exact Drawn0.refl _ | apply Drawn0.step)⟩
 ·rw [if_neg c2] at H
  have c2b0 : (a0 == (-1)) = false := beq_eq_false_iff_ne.mpr c2
  have c2b1 : (a0 != (-1)) = true := bne_iff_ne.mpr c2
  obtain rfl := Option.some.inj H
  go_enter Tryd.func59,Tryd.ntmps59
  go_wp2
  go_ret
  exact ⟨by first | rfl | (simp; done) | (simp [*]; done),by repeat (first | exact Drawn0.refl _ | apply Drawn0.step)⟩

/-! ### spec_l03List: function 52 -/
/-!  One of the lists that came in,by the sign of a number. -/
def spec_l03List.f (a1 : Int) : Option Unit := some ()
def spec_l03List_neg.f (a0_0 : Int) (a0_1 : Int) (l0_2 : List ByteArray) (l0_3 : List ByteArray) (a1 : Int) : Option Unit := if a1 < 0 then some () else none
set_option maxHeartbeats 8000000 in
set_option maxRecDepth 100000 in
theorem spec_l03List_neg.calls (g0 : Nat) (a0_0 : Int) (a0_1 : Int) (A0_2 : Option Addr) (c0_2 : Nat) (l0_2 : List ByteArray) (A0_3 : Option Addr) (c0_3 : Nat) (l0_3 : List ByteArray) (a1 : Int) (w : World) (hb0_ : w.heap[g0]? = some (.cells #[.int .i64 a0_0,.int .i64 a0_1,.slice A0_2 l0_2.length c0_2,.slice A0_3 l0_3.length c0_3] 30 (0,0))) (hr0_2 : Kd.C Kd.string w A0_2 l0_2.length l0_2) (hc0_2 : l0_2.length ≤ c0_2) (hr0_3 : Kd.C Kd.string w A0_3 l0_3.length l0_3) (hc0_3 : l0_3.length ≤ c0_3) (h : spec_l03List_neg.f a0_0 a0_1 l0_2 l0_3 a1 = some ()) :
  Calls Tryd.prog 52 #[.pointer (some ⟨g0,0,none⟩),.int .i64 a1] w fun e w' => e = .returned (.slice A0_2 l0_2.length c0_2) ∧ Below w.heap.size w w' := by
 unfold spec_l03List_neg.f at h
 by_cases c : a1 < 0
 ·have cb : decide (a1 < 0) = true := decide_eq_true c
  clear h hr0_2 hc0_2 hr0_3 hc0_3
  have hu30 := Tryd.underlying30
  have hcz2 : w.cell? ⟨g0,2,none⟩ = some (.slice A0_2 l0_2.length c0_2) := (blk_cell hb0_ 2).trans rfl
  have hcz3 : w.cell? ⟨g0,3,none⟩ = some (.slice A0_3 l0_3.length c0_3) := (blk_cell hb0_ 3).trans rfl
  clear hb0_
  have HB := Aside0.mk (Below.refl w.heap.size w)
  go_enter Tryd.func52,Tryd.ntmps52
  go_wp2
  go_ret
  exact ⟨by first | rfl | (simp; done) | (simp [*]; done),(by repeat (first | (with_reducible first | exact HB.out | apply below_alloc | apply pw_below_drewN | apply below_drew1) | exact HB.out))⟩
 ·rw [if_neg c] at h; cases h
def spec_l03List_pos.f (a0_0 : Int) (a0_1 : Int) (l0_2 : List ByteArray) (l0_3 : List ByteArray) (a1 : Int) : Option Unit := if ¬ a1 < 0 then some () else none
set_option maxHeartbeats 8000000 in
set_option maxRecDepth 100000 in
theorem spec_l03List_pos.calls (g0 : Nat) (a0_0 : Int) (a0_1 : Int) (A0_2 : Option Addr) (c0_2 : Nat) (l0_2 : List ByteArray) (A0_3 : Option Addr) (c0_3 : Nat) (l0_3 : List ByteArray) (a1 : Int) (w : World) (hb0_ : w.heap[g0]? = some (.cells #[.int .i64 a0_0,.int .i64 a0_1,.slice A0_2 l0_2.length c0_2,.slice A0_3 l0_3.length c0_3] 30 (0,0))) (hr0_2 : Kd.C Kd.string w A0_2 l0_2.length l0_2) (hc0_2 : l0_2.length ≤ c0_2) (hr0_3 : Kd.C Kd.string w A0_3 l0_3.length l0_3) (hc0_3 : l0_3.length ≤ c0_3) (h : spec_l03List_pos.f a0_0 a0_1 l0_2 l0_3 a1 = some ()) :
  Calls Tryd.prog 52 #[.pointer (some ⟨g0,0,none⟩),.int .i64 a1] w fun e w' => e = .returned (.slice A0_3 l0_3.length c0_3) ∧ Below w.heap.size w w' := by
 unfold spec_l03List_pos.f at h
 by_cases c : a1 < 0
 ·rw [if_neg (fun q => q c)] at h; cases h
 ·have cb : decide (a1 < 0) = false := decide_eq_false c
  clear h hr0_2 hc0_2 hr0_3 hc0_3
  have hu30 := Tryd.underlying30
  have hcz2 : w.cell? ⟨g0,2,none⟩ = some (.slice A0_2 l0_2.length c0_2) := (blk_cell hb0_ 2).trans rfl
  have hcz3 : w.cell? ⟨g0,3,none⟩ = some (.slice A0_3 l0_3.length c0_3) := (blk_cell hb0_ 3).trans rfl
  clear hb0_
  have HB := Aside0.mk (Below.refl w.heap.size w)
  go_enter Tryd.func52,Tryd.ntmps52
  go_wp2
  go_ret
  exact ⟨by first | rfl | (simp; done) | (simp [*]; done),(by repeat (first | (with_reducible first | exact HB.out | apply below_alloc | apply pw_below_drewN | apply below_drew1) | exact HB.out))⟩

/-! ### spec_l03Next: function 67 -/
def spec_l03Next.f (k : Nat) (a0 : Int) (a1 : ByteArray) : Option (Int) := (spec_l03Disparity.f k a1).bind fun t146 => (if t146 > 0 then (some 1) else (if t146 < 0 then (some (-1)) else (some a0)))
set_option maxHeartbeats 8000000 in
set_option maxRecDepth 100000 in
theorem spec_l03Next.calls (k : Nat) (a0 : Int) (a1 : ByteArray) (r : Int) (w : World) (h : spec_l03Next.f k a0 a1 = some r) :
  Calls Tryd.prog 67 #[.int .i64 a0,.string a1] w fun e w' => e = .returned (.int .i64 r) ∧ Drawn0 w w' := by
 have H : ((spec_l03Disparity.f k a1).bind fun t146 => (if t146 > 0 then (some 1) else (if t146 < 0 then (some (-1)) else (some a0)))) = some r := h
 clear h
 replace H := Option.bind_eq_some_iff.mp H
 obtain ⟨t146,A30,H⟩ := H
 replace H : (if t146 > 0 then (some 1) else (if t146 < 0 then (some (-1)) else (some a0))) = some r := H
 have A3 := Aside0.mk A30
 clear A30
 by_cases c4 : t146 > 0
 ·rw [if_pos c4] at H
  have c4b0 : decide (0 < t146) = true := decide_eq_true c4
  clear c4
  obtain rfl := Option.some.inj H
  go_enter Tryd.func67,Tryd.ntmps67
  go_wp2_with (first | ((with_reducible refine gate_callee (f := 42) rfl ?_); refine goesL_ (some 7) rfl rfl Tryd.func42 (by kernel_rfl) rfl #[.string a1] rfl (by (try simp only [List.map_toArray,List.map_cons,List.map_nil]); first | done | rfl | (simp only [List.length_drop,List.length_take]; rfl)) ?_; (with_reducible refine (spec_l03Disparity.calls k a1 t146 _ A3.out).mono ?_); rintro e w' ⟨rfl,⟨nd,rfl⟩⟩; refine ⟨_,rfl,?_⟩))
  go_ret
  exact ⟨by first | rfl | (simp; done) | (simp [*]; done),by repeat (first | exact Drawn0.refl _ | apply Drawn0.step)⟩
 ·rw [if_neg c4] at H
  have c4b0 : decide (0 < t146) = false := decide_eq_false c4
  clear c4
  by_cases c5 : t146 < 0
  ·rw [if_pos c5] at H
   have c5b0 : decide (t146 < 0) = true := decide_eq_true c5
   clear c5
   obtain rfl := Option.some.inj H
   go_enter Tryd.func67,Tryd.ntmps67
   go_wp2_with (first | ((with_reducible refine gate_callee (f := 42) rfl ?_); refine goesL_ (some 7) rfl rfl Tryd.func42 (by kernel_rfl) rfl #[.string a1] rfl (by (try simp only [List.map_toArray,List.map_cons,List.map_nil]); first | done | rfl | (simp only [List.length_drop,List.length_take]; rfl)) ?_; (with_reducible refine (spec_l03Disparity.calls k a1 t146 _ A3.out).mono ?_); rintro e w' ⟨rfl,⟨nd,rfl⟩⟩; refine ⟨_,rfl,?_⟩))
   go_ret
   exact ⟨by first | rfl | (simp; done) | (simp [*]; done),by repeat (first | exact Drawn0.refl _ | apply Drawn0.step)⟩
  ·rw [if_neg c5] at H
   have c5b0 : decide (t146 < 0) = false := decide_eq_false c5
   clear c5
   obtain rfl := Option.some.inj H
   go_enter Tryd.func67,Tryd.ntmps67
   go_wp2_with (first | ((with_reducible refine gate_callee (f := 42) rfl ?_); refine goesL_ (some 7) rfl rfl Tryd.func42 (by kernel_rfl) rfl #[.string a1] rfl (by (try simp only [List.map_toArray,List.map_cons,List.map_nil]); first | done | rfl | (simp only [List.length_drop,List.length_take]; rfl)) ?_; (with_reducible refine (spec_l03Disparity.calls k a1 t146 _ A3.out).mono ?_); rintro e w' ⟨rfl,⟨nd,rfl⟩⟩; refine ⟨_,rfl,?_⟩))
   go_ret
   exact ⟨by first | rfl | (simp; done) | (simp [*]; done),by repeat (first | exact Drawn0.refl _ | apply Drawn0.step)⟩

/-! ### spec_l03Decode: function 64 -/
def spec_l03Decode.l0 : Nat → Int → ByteArray → List Int → List Int → Int → Int → Int → Int → List ByteArray → List ByteArray → Option (List Int × List Int × Int)
 | 0,_,_,_,_,_,_,_,_,_,_ => none
 | k + 1,x1,x2,x9,x10,x11,x12,x1000,x1001,x1002,x1003 => if x12 < (x2.size : Int) then (if 0 ≤ x12 then (if x12 ≤ (wrap64 (x12 + x11)) then (if (wrap64 (x12 + x11)) ≤ (x2.size : Int) then (if x1 < 0 then ((spec_l03List_neg.f x1000 x1001 x1002 x1003 x1).bind fun _ => ((spec_l03Index.f k x1002 (x2.extract (x12 : Int).toNat ((wrap64 (x12 + x11)) : Int).toNat)).bind fun t153 => (if t153 < 0 then (if x11 = 0 then (none) else (if x10.length < 17592186044416 then ((some (x10 ++ [wrap64 (Int.tdiv x12 x11)] : List Int)).bind fun y154 => (if (wrap64 (-x1)) < 0 then ((spec_l03List_neg.f x1000 x1001 x1002 x1003 (wrap64 (-x1))).bind fun _ => ((spec_l03Index.f k x1002 (x2.extract (x12 : Int).toNat ((wrap64 (x12 + x11)) : Int).toNat)).bind fun t157 => (if x9.length < 17592186044416 then ((spec_l03Next.f k x1 (x2.extract (x12 : Int).toNat ((wrap64 (x12 + x11)) : Int).toNat)).bind fun t161 => (spec_l03Decode.l0 k t161 x2 (x9 ++ [t157]) y154 x11 (wrap64 (x12 + x11)) x1000 x1001 x1002 x1003)) else (none)))) else ((spec_l03List_pos.f x1000 x1001 x1002 x1003 (wrap64 (-x1))).bind fun _ => ((spec_l03Index.f k x1003 (x2.extract (x12 : Int).toNat ((wrap64 (x12 + x11)) : Int).toNat)).bind fun t162 => (if x9.length < 17592186044416 then ((spec_l03Next.f k x1 (x2.extract (x12 : Int).toNat ((wrap64 (x12 + x11)) : Int).toNat)).bind fun t166 => (spec_l03Decode.l0 k t166 x2 (x9 ++ [t162]) y154 x11 (wrap64 (x12 + x11)) x1000 x1001 x1002 x1003)) else (none)))))) else (none))) else (if x9.length < 17592186044416 then ((spec_l03Next.f k x1 (x2.extract (x12 : Int).toNat ((wrap64 (x12 + x11)) : Int).toNat)).bind fun t170 => (spec_l03Decode.l0 k t170 x2 (x9 ++ [t153]) x10 x11 (wrap64 (x12 + x11)) x1000 x1001 x1002 x1003)) else (none))))) else ((spec_l03List_pos.f x1000 x1001 x1002 x1003 x1).bind fun _ => ((spec_l03Index.f k x1003 (x2.extract (x12 : Int).toNat ((wrap64 (x12 + x11)) : Int).toNat)).bind fun t171 => (if t171 < 0 then (if x11 = 0 then (none) else (if x10.length < 17592186044416 then ((some (x10 ++ [wrap64 (Int.tdiv x12 x11)] : List Int)).bind fun y172 => (if (wrap64 (-x1)) < 0 then ((spec_l03List_neg.f x1000 x1001 x1002 x1003 (wrap64 (-x1))).bind fun _ => ((spec_l03Index.f k x1002 (x2.extract (x12 : Int).toNat ((wrap64 (x12 + x11)) : Int).toNat)).bind fun t175 => (if x9.length < 17592186044416 then ((spec_l03Next.f k x1 (x2.extract (x12 : Int).toNat ((wrap64 (x12 + x11)) : Int).toNat)).bind fun t179 => (spec_l03Decode.l0 k t179 x2 (x9 ++ [t175]) y172 x11 (wrap64 (x12 + x11)) x1000 x1001 x1002 x1003)) else (none)))) else ((spec_l03List_pos.f x1000 x1001 x1002 x1003 (wrap64 (-x1))).bind fun _ => ((spec_l03Index.f k x1003 (x2.extract (x12 : Int).toNat ((wrap64 (x12 + x11)) : Int).toNat)).bind fun t180 => (if x9.length < 17592186044416 then ((spec_l03Next.f k x1 (x2.extract (x12 : Int).toNat ((wrap64 (x12 + x11)) : Int).toNat)).bind fun t184 => (spec_l03Decode.l0 k t184 x2 (x9 ++ [t180]) y172 x11 (wrap64 (x12 + x11)) x1000 x1001 x1002 x1003)) else (none)))))) else (none))) else (if x9.length < 17592186044416 then ((spec_l03Next.f k x1 (x2.extract (x12 : Int).toNat ((wrap64 (x12 + x11)) : Int).toNat)).bind fun t188 => (spec_l03Decode.l0 k t188 x2 (x9 ++ [t171]) x10 x11 (wrap64 (x12 + x11)) x1000 x1001 x1002 x1003)) else (none)))))) else (none)) else (none)) else (none)) else (some (x9,x10,x1))
def spec_l03Decode.f (k : Nat) (a0_0 : Int) (a0_1 : Int) (l0_2 : List ByteArray) (l0_3 : List ByteArray) (a1 : Int) (a2 : ByteArray) : Option (List Int × List Int × Int) := spec_l03Decode.l0 k a1 a2 (([] : List Int)) (([] : List Int)) a0_1 0 a0_0 a0_1 l0_2 l0_3
set_option maxHeartbeats 8000000 in
set_option maxRecDepth 100000 in
theorem spec_l03Decode.calls (k : Nat) (g0 : Nat) (a0_0 : Int) (a0_1 : Int) (A0_2 : Option Addr) (c0_2 : Nat) (l0_2 : List ByteArray) (A0_3 : Option Addr) (c0_3 : Nat) (l0_3 : List ByteArray) (a1 : Int) (a2 : ByteArray) (r1 : List Int) (r2 : List Int) (r3 : Int) (w : World) (hb0_ : w.heap[g0]? = some (.cells #[.int .i64 a0_0,.int .i64 a0_1,.slice A0_2 l0_2.length c0_2,.slice A0_3 l0_3.length c0_3] 30 (0,0))) (hr0_2 : Kd.C Kd.string w A0_2 l0_2.length l0_2) (hc0_2 : l0_2.length ≤ c0_2) (hr0_3 : Kd.C Kd.string w A0_3 l0_3.length l0_3) (hc0_3 : l0_3.length ≤ c0_3) (h : spec_l03Decode.f k a0_0 a0_1 l0_2 l0_3 a1 a2 = some (r1,r2,r3)) :
  Calls Tryd.prog 64 #[.pointer (some ⟨g0,0,none⟩),.int .i64 a1,.string a2] w fun e w' => ∃ v0_ v1_ : Value,e = .returned (.tuple #[v0_,v1_,.int .i64 r3]) ∧ Kd.R (Kd.int .i64) 2 w' w.heap.size (fun k_ => some k_ ≠ (v1_ : Value).ownBlock) v0_ r1 ∧ Kd.R (Kd.int .i64) 2 w' w.heap.size (fun k_ => some k_ ≠ (v0_ : Value).ownBlock) v1_ r2 ∧ Below w.heap.size w w' := by
 have HR0_2 := Aside0.mk hr0_2
 have HC0_2 := Aside0.mk hc0_2
 clear hr0_2 hc0_2
 have HR0_3 := Aside0.mk hr0_3
 have HC0_3 := Aside0.mk hc0_3
 clear hr0_3 hc0_3
 have BK0 := Aside0.mk hb0_
 clear hb0_
 have HB := Aside0.mk (Below.refl w.heap.size w)
 have H : (spec_l03Decode.l0 k a1 a2 (([] : List Int)) (([] : List Int)) a0_1 0 a0_0 a0_1 l0_2 l0_3) = some (r1,r2,r3) := h
 clear h
 obtain ⟨y147,hy147⟩ : ∃ y_ : List Int,y_ = (([] : List Int)) := ⟨_,rfl⟩
 replace H : (spec_l03Decode.l0 k a1 a2 y147 (([] : List Int)) a0_1 0 a0_0 a0_1 l0_2 l0_3) = some (r1,r2,r3) := by first | (rw [hy147]; with_reducible exact H) | (have H2_ := (Option.bind_some _ _).symm.trans H; rw [hy147]; with_reducible exact H2_) | (have H2_ := (Option.bind_some _ _).symm.trans H; with_reducible exact H2_) | with_reducible exact H | (rw [hy147]; exact H) | exact H
 have Ny147 := Aside0.mk hy147
 clear hy147
 obtain ⟨y150,hy150⟩ : ∃ y_ : List Int,y_ = (([] : List Int)) := ⟨_,rfl⟩
 replace H : (spec_l03Decode.l0 k a1 a2 y147 y150 a0_1 0 a0_0 a0_1 l0_2 l0_3) = some (r1,r2,r3) := by first | (rw [hy150]; with_reducible exact H) | (have H2_ := (Option.bind_some _ _).symm.trans H; rw [hy150]; with_reducible exact H2_) | (have H2_ := (Option.bind_some _ _).symm.trans H; with_reducible exact H2_) | with_reducible exact H | (rw [hy150]; exact H) | exact H
 have Ny150 := Aside0.mk hy150
 clear hy150
 have H' := Aside0.mk H
 clear H
 go_enter Tryd.func64,Tryd.ntmps64
 go_wp2_with (first | ((with_reducible refine gate_dst (N := 15) rfl ?_); refine Kd.R_lit (Kd.int .i64) _ 2 ?hg (N := 15) ?hd (xs := ([] : List Int)) (inner := []) (ok := fun _ => True) (okp := fun _ => True) ?hr ?hp (fun _ hk => hk) trivial (Below.refl _ _) (Nat.le_refl _) (by simp) ?_; (case hd => rfl); (case hg => rfl); (case hr => first | (go_simp; done) | (go_simp; rfl)); (case hp => exact (Reps.none _ _)); intro v148 w4 ho5 hb hg_ hnew_; clear hg_ hnew_; (first | rw [← Ny147.out] at ho5 | (simp only [Int.reduceToNat] at ho5; rw [← Ny147.out] at ho5)); have n0_ := Aside0.mk (Kd.R_lower ho5 (below_size (by repeat (first | (with_reducible first | exact HB.out | apply below_alloc | apply pw_below_drewN | apply below_drew1 | refine below_set ?_ GE0.out) | exact HB.out)))); have n1_ := Aside0.mk (blk_below (g := g0) (o := .cells #[.int .i64 a0_0,.int .i64 a0_1,.slice A0_2 l0_2.length c0_2,.slice A0_3 l0_3.length c0_3] 30 (0,0)) (by (with_reducible repeat (first | refine blk_drewN ?_ _ | refine blk_drew ?_ | refine blk_alloc ?_ _)); exact BK0.out) hb); have n2_ := Aside0.mk (below_step (by repeat (first | (with_reducible first | exact HB.out | apply below_alloc | apply pw_below_drewN | apply below_drew1 | refine below_set ?_ GE0.out) | exact HB.out)) hb); clear BK0; clear HB; have HO149 := n0_; have BK0 := n1_; have HB := n2_; clear n0_ n1_ n2_; clear hb ho5) | ((with_reducible refine gate_dst (N := 16) rfl ?_); refine Kd.R_lit (Kd.int .i64) _ 2 ?hg (N := 16) ?hd (xs := ([] : List Int)) (inner := []) (ok := fun _ => True) (okp := fun _ => True) ?hr ?hp (fun _ hk => hk) trivial (Below.refl _ _) (Nat.le_refl _) (by simp) ?_; (case hd => rfl); (case hg => rfl); (case hr => first | (go_simp; done) | (go_simp; rfl)); (case hp => exact (Reps.none _ _)); intro v151 w6 ho7 hb hg_ hnew_; clear hg_ hnew_; (first | rw [← Ny150.out] at ho7 | (simp only [Int.reduceToNat] at ho7; rw [← Ny150.out] at ho7)); have n0_ := Aside0.mk (Kd.R_elder' (by (with_reducible repeat (first | apply Kd.R_alloc | apply Kd.R_drewN | apply Kd.R_drew)); exact HO149.out) (Kd.R_base ho7) hb); have n1_ := Aside0.mk (Kd.R_lower (Kd.R_new' ho7 (Kd.R_lt (by (with_reducible repeat (first | apply Kd.R_alloc | apply Kd.R_drewN | apply Kd.R_drew)); exact HO149.out))) (below_size (by repeat (first | (with_reducible first | exact HB.out | apply below_alloc | apply pw_below_drewN | apply below_drew1 | refine below_set ?_ GE0.out) | exact HB.out)))); have n2_ := Aside0.mk (blk_below (g := g0) (o := .cells #[.int .i64 a0_0,.int .i64 a0_1,.slice A0_2 l0_2.length c0_2,.slice A0_3 l0_3.length c0_3] 30 (0,0)) (by (with_reducible repeat (first | refine blk_drewN ?_ _ | refine blk_drew ?_ | refine blk_alloc ?_ _)); exact BK0.out) hb); have n3_ := Aside0.mk (below_step (by repeat (first | (with_reducible first | exact HB.out | apply below_alloc | apply pw_below_drewN | apply below_drew1 | refine below_set ?_ GE0.out) | exact HB.out)) hb); clear HO149; clear BK0; clear HB; have HO149 := n0_; have HO152 := n1_; have BK0 := n2_; have HB := n3_; clear n0_ n1_ n2_ n3_; clear hb ho7; have hcz8_0 : w6.cell? ⟨g0,0,none⟩ = some (.int .i64 a0_0) := (blk_cell BK0.out 0).trans rfl; have hcz8_1 : w6.cell? ⟨g0,1,none⟩ = some (.int .i64 a0_1) := (blk_cell BK0.out 1).trans rfl; have hcz8_2 : w6.cell? ⟨g0,2,none⟩ = some (.slice A0_2 l0_2.length c0_2) := (blk_cell BK0.out 2).trans rfl; have hcz8_3 : w6.cell? ⟨g0,3,none⟩ = some (.slice A0_3 l0_3.length c0_3) := (blk_cell BK0.out 3).trans rfl; have hfz8_0 := blk_frozen BK0.out 0; have hfz8_1 := blk_frozen BK0.out 1; have hfz8_2 := blk_frozen BK0.out 2; have hfz8_3 := blk_frozen BK0.out 3))
 go_loopg [1,9,10,12] k (fun kq v1 v9 v10 v12 w' => ∃ (x1_1 : Int) (x9_1 : List Int) (x10_1 : List Int) (x12_1 : Int),v1 = .int .i64 x1_1 ∧ v12 = .int .i64 x12_1 ∧ Aside0 (spec_l03Decode.l0 kq x1_1 a2 x9_1 x10_1 a0_1 x12_1 a0_0 a0_1 l0_2 l0_3 = some (r1,r2,r3)) ∧ Aside0 (kq ≤ k) ∧ Aside0 (Kd.R (Kd.int .i64) 2 w' w.heap.size (fun k_ => some k_ ≠ (v10 : Value).ownBlock) v9 x9_1) ∧ Aside0 (Kd.R (Kd.int .i64) 2 w' w.heap.size (fun k_ => some k_ ≠ (v9 : Value).ownBlock) v10 x10_1) ∧ Aside0 (w'.heap[g0]? = some (.cells #[.int .i64 a0_0,.int .i64 a0_1,(.slice A0_2 l0_2.length c0_2),(.slice A0_3 l0_3.length c0_3)] 30 (0,0))) ∧ Aside0 (Below w.heap.size w w'))
 case atStart => exact ⟨(a1),(y147),(y150),(0),(by first | rfl | (simp; done) | (simp [*]; done)),(by first | rfl | (simp; done) | (simp [*]; done)),H',⟨Nat.le_refl _⟩,⟨by (with_reducible repeat (first | apply Kd.R_alloc | apply Kd.R_drewN | apply Kd.R_drew)); exact Kd.R_mono HO149.out (fun _ hk => hk.2)⟩,⟨by (with_reducible repeat (first | apply Kd.R_alloc | apply Kd.R_drewN | apply Kd.R_drew)); exact Kd.R_mono HO152.out (fun _ hk => hk.2)⟩,⟨by (with_reducible repeat (first | refine blk_drewN ?_ _ | refine blk_drew ?_ | refine blk_alloc ?_ _)); exact BK0.out⟩,⟨by repeat (first | (with_reducible first | exact HB.out | apply below_alloc | apply pw_below_drewN | apply below_drew1 | refine below_set ?_ GE0.out) | exact HB.out)⟩⟩
 case round =>
  clear H'
  try clear p2
  try clear c6
  try clear hcz8_0
  try clear hcz8_1
  try clear hcz8_2
  try clear hcz8_3
  try clear hfz8_0
  try clear hfz8_1
  try clear hfz8_2
  try clear hfz8_3
  obtain ⟨x1_1,x9_1,x10_1,x12_1,rfl,rfl,HA,HK1,HO_9,HO_10,BK0,HB⟩ := hrel
  cases gk with
  | zero => exact absurd HA.out (by simp [spec_l03Decode.l0])
  | succ k1 =>
   have H := HA.out
   clear HA
   simp only [spec_l03Decode.l0] at H
   by_cases c9 : x12_1 < (a2.size : Int)
   ·rw [if_pos c9] at H
    have c9b0 : decide (x12_1 < (a2.size : Int)) = true := decide_eq_true c9
    clear c9
    by_cases c10 : 0 ≤ x12_1
    ·rw [if_pos c10] at H
     have c10b0 := eq_true c10
     have c10b1 : decide (0 ≤ x12_1) = true := decide_eq_true c10
     clear c10
     by_cases c11 : x12_1 ≤ (wrap64 (x12_1 + a0_1))
     ·rw [if_pos c11] at H
      have c11b0 := eq_true c11
      have c11b1 : decide (x12_1 ≤ (wrap64 (x12_1 + a0_1))) = true := decide_eq_true c11
      by_cases c12 : (wrap64 (x12_1 + a0_1)) ≤ (a2.size : Int)
      ·rw [if_pos c12] at H
       have c12b0 := eq_true c12
       have c12b1 : decide ((wrap64 (x12_1 + a0_1)) ≤ (a2.size : Int)) = true := decide_eq_true c12
       by_cases c13 : x1_1 < 0
       ·rw [if_pos c13] at H
        have c13b0 : decide (x1_1 < 0) = true := decide_eq_true c13
        clear c13
        replace H := Option.bind_eq_some_iff.mp H
        obtain ⟨_,A140,H⟩ := H
        replace H : ((spec_l03Index.f k1 l0_2 (a2.extract (x12_1 : Int).toNat ((wrap64 (x12_1 + a0_1)) : Int).toNat)).bind fun t153 => (if t153 < 0 then (if a0_1 = 0 then (none) else (if x10_1.length < 17592186044416 then ((some (x10_1 ++ [wrap64 (Int.tdiv x12_1 a0_1)] : List Int)).bind fun y154 => (if (wrap64 (-x1_1)) < 0 then ((spec_l03List_neg.f a0_0 a0_1 l0_2 l0_3 (wrap64 (-x1_1))).bind fun _ => ((spec_l03Index.f k1 l0_2 (a2.extract (x12_1 : Int).toNat ((wrap64 (x12_1 + a0_1)) : Int).toNat)).bind fun t157 => (if x9_1.length < 17592186044416 then ((spec_l03Next.f k1 x1_1 (a2.extract (x12_1 : Int).toNat ((wrap64 (x12_1 + a0_1)) : Int).toNat)).bind fun t161 => (spec_l03Decode.l0 k1 t161 a2 (x9_1 ++ [t157]) y154 a0_1 (wrap64 (x12_1 + a0_1)) a0_0 a0_1 l0_2 l0_3)) else (none)))) else ((spec_l03List_pos.f a0_0 a0_1 l0_2 l0_3 (wrap64 (-x1_1))).bind fun _ => ((spec_l03Index.f k1 l0_3 (a2.extract (x12_1 : Int).toNat ((wrap64 (x12_1 + a0_1)) : Int).toNat)).bind fun t162 => (if x9_1.length < 17592186044416 then ((spec_l03Next.f k1 x1_1 (a2.extract (x12_1 : Int).toNat ((wrap64 (x12_1 + a0_1)) : Int).toNat)).bind fun t166 => (spec_l03Decode.l0 k1 t166 a2 (x9_1 ++ [t162]) y154 a0_1 (wrap64 (x12_1 + a0_1)) a0_0 a0_1 l0_2 l0_3)) else (none)))))) else (none))) else (if x9_1.length < 17592186044416 then ((spec_l03Next.f k1 x1_1 (a2.extract (x12_1 : Int).toNat ((wrap64 (x12_1 + a0_1)) : Int).toNat)).bind fun t170 => (spec_l03Decode.l0 k1 t170 a2 (x9_1 ++ [t153]) x10_1 a0_1 (wrap64 (x12_1 + a0_1)) a0_0 a0_1 l0_2 l0_3)) else (none)))) = some (r1,r2,r3) := H
        have A14 := Aside0.mk A140
        clear A140
        replace H := Option.bind_eq_some_iff.mp H
        obtain ⟨t153,A150,H⟩ := H
        replace H : (if t153 < 0 then (if a0_1 = 0 then (none) else (if x10_1.length < 17592186044416 then ((some (x10_1 ++ [wrap64 (Int.tdiv x12_1 a0_1)] : List Int)).bind fun y154 => (if (wrap64 (-x1_1)) < 0 then ((spec_l03List_neg.f a0_0 a0_1 l0_2 l0_3 (wrap64 (-x1_1))).bind fun _ => ((spec_l03Index.f k1 l0_2 (a2.extract (x12_1 : Int).toNat ((wrap64 (x12_1 + a0_1)) : Int).toNat)).bind fun t157 => (if x9_1.length < 17592186044416 then ((spec_l03Next.f k1 x1_1 (a2.extract (x12_1 : Int).toNat ((wrap64 (x12_1 + a0_1)) : Int).toNat)).bind fun t161 => (spec_l03Decode.l0 k1 t161 a2 (x9_1 ++ [t157]) y154 a0_1 (wrap64 (x12_1 + a0_1)) a0_0 a0_1 l0_2 l0_3)) else (none)))) else ((spec_l03List_pos.f a0_0 a0_1 l0_2 l0_3 (wrap64 (-x1_1))).bind fun _ => ((spec_l03Index.f k1 l0_3 (a2.extract (x12_1 : Int).toNat ((wrap64 (x12_1 + a0_1)) : Int).toNat)).bind fun t162 => (if x9_1.length < 17592186044416 then ((spec_l03Next.f k1 x1_1 (a2.extract (x12_1 : Int).toNat ((wrap64 (x12_1 + a0_1)) : Int).toNat)).bind fun t166 => (spec_l03Decode.l0 k1 t166 a2 (x9_1 ++ [t162]) y154 a0_1 (wrap64 (x12_1 + a0_1)) a0_0 a0_1 l0_2 l0_3)) else (none)))))) else (none))) else (if x9_1.length < 17592186044416 then ((spec_l03Next.f k1 x1_1 (a2.extract (x12_1 : Int).toNat ((wrap64 (x12_1 + a0_1)) : Int).toNat)).bind fun t170 => (spec_l03Decode.l0 k1 t170 a2 (x9_1 ++ [t153]) x10_1 a0_1 (wrap64 (x12_1 + a0_1)) a0_0 a0_1 l0_2 l0_3)) else (none))) = some (r1,r2,r3) := H
        have A15 := Aside0.mk A150
        clear A150
        by_cases c16 : t153 < 0
        ·rw [if_pos c16] at H
         have c16b0 : decide (t153 < 0) = true := decide_eq_true c16
         clear c16
         by_cases c17 : a0_1 = 0
         ·rw [if_pos c17] at H
          exact absurd H (by simp)
         ·rw [if_neg c17] at H
          have c17b0 : (a0_1 == 0) = false := beq_eq_false_iff_ne.mpr c17
          have c17b1 : (a0_1 != 0) = true := bne_iff_ne.mpr c17
          by_cases c18 : x10_1.length < 17592186044416
          ·rw [if_pos c18] at H
           have LMc18 := Aside0.mk c18
           clear c18
           obtain ⟨y154,hy154⟩ : ∃ y_ : List Int,y_ = (x10_1 ++ [wrap64 (Int.tdiv x12_1 a0_1)]) := ⟨_,rfl⟩
           replace H : (if (wrap64 (-x1_1)) < 0 then ((spec_l03List_neg.f a0_0 a0_1 l0_2 l0_3 (wrap64 (-x1_1))).bind fun _ => ((spec_l03Index.f k1 l0_2 (a2.extract (x12_1 : Int).toNat ((wrap64 (x12_1 + a0_1)) : Int).toNat)).bind fun t157 => (if x9_1.length < 17592186044416 then ((spec_l03Next.f k1 x1_1 (a2.extract (x12_1 : Int).toNat ((wrap64 (x12_1 + a0_1)) : Int).toNat)).bind fun t161 => (spec_l03Decode.l0 k1 t161 a2 (x9_1 ++ [t157]) y154 a0_1 (wrap64 (x12_1 + a0_1)) a0_0 a0_1 l0_2 l0_3)) else (none)))) else ((spec_l03List_pos.f a0_0 a0_1 l0_2 l0_3 (wrap64 (-x1_1))).bind fun _ => ((spec_l03Index.f k1 l0_3 (a2.extract (x12_1 : Int).toNat ((wrap64 (x12_1 + a0_1)) : Int).toNat)).bind fun t162 => (if x9_1.length < 17592186044416 then ((spec_l03Next.f k1 x1_1 (a2.extract (x12_1 : Int).toNat ((wrap64 (x12_1 + a0_1)) : Int).toNat)).bind fun t166 => (spec_l03Decode.l0 k1 t166 a2 (x9_1 ++ [t162]) y154 a0_1 (wrap64 (x12_1 + a0_1)) a0_0 a0_1 l0_2 l0_3)) else (none))))) = some (r1,r2,r3) := by first | (rw [hy154]; with_reducible exact H) | (have H2_ := (Option.bind_some _ _).symm.trans H; rw [hy154]; with_reducible exact H2_) | (have H2_ := (Option.bind_some _ _).symm.trans H; with_reducible exact H2_) | with_reducible exact H | (rw [hy154]; exact H) | exact H
           have Ny154 := Aside0.mk hy154
           clear hy154
           by_cases c19 : (wrap64 (-x1_1)) < 0
           ·rw [if_pos c19] at H
            have c19b0 : decide ((wrap64 (-x1_1)) < 0) = true := decide_eq_true c19
            clear c19
            replace H := Option.bind_eq_some_iff.mp H
            obtain ⟨_,A200,H⟩ := H
            replace H : ((spec_l03Index.f k1 l0_2 (a2.extract (x12_1 : Int).toNat ((wrap64 (x12_1 + a0_1)) : Int).toNat)).bind fun t157 => (if x9_1.length < 17592186044416 then ((spec_l03Next.f k1 x1_1 (a2.extract (x12_1 : Int).toNat ((wrap64 (x12_1 + a0_1)) : Int).toNat)).bind fun t161 => (spec_l03Decode.l0 k1 t161 a2 (x9_1 ++ [t157]) y154 a0_1 (wrap64 (x12_1 + a0_1)) a0_0 a0_1 l0_2 l0_3)) else (none))) = some (r1,r2,r3) := H
            have A20 := Aside0.mk A200
            clear A200
            replace H := Option.bind_eq_some_iff.mp H
            obtain ⟨t157,A210,H⟩ := H
            replace H : (if x9_1.length < 17592186044416 then ((spec_l03Next.f k1 x1_1 (a2.extract (x12_1 : Int).toNat ((wrap64 (x12_1 + a0_1)) : Int).toNat)).bind fun t161 => (spec_l03Decode.l0 k1 t161 a2 (x9_1 ++ [t157]) y154 a0_1 (wrap64 (x12_1 + a0_1)) a0_0 a0_1 l0_2 l0_3)) else (none)) = some (r1,r2,r3) := H
            have A21 := Aside0.mk A210
            clear A210
            by_cases c22 : x9_1.length < 17592186044416
            ·rw [if_pos c22] at H
             have LMc22 := Aside0.mk c22
             clear c22
             obtain ⟨y158,hy158⟩ : ∃ y_ : List Int,y_ = (x9_1 ++ [t157]) := ⟨_,rfl⟩
             replace H : ((spec_l03Next.f k1 x1_1 (a2.extract (x12_1 : Int).toNat ((wrap64 (x12_1 + a0_1)) : Int).toNat)).bind fun t161 => (spec_l03Decode.l0 k1 t161 a2 y158 y154 a0_1 (wrap64 (x12_1 + a0_1)) a0_0 a0_1 l0_2 l0_3)) = some (r1,r2,r3) := by first | (rw [hy158]; with_reducible exact H) | (have H2_ := (Option.bind_some _ _).symm.trans H; rw [hy158]; with_reducible exact H2_) | (have H2_ := (Option.bind_some _ _).symm.trans H; with_reducible exact H2_) | with_reducible exact H | (rw [hy158]; exact H) | exact H
             have Ny158 := Aside0.mk hy158
             clear hy158
             replace H := Option.bind_eq_some_iff.mp H
             obtain ⟨t161,A230,H⟩ := H
             replace H : (spec_l03Decode.l0 k1 t161 a2 y158 y154 a0_1 (wrap64 (x12_1 + a0_1)) a0_0 a0_1 l0_2 l0_3) = some (r1,r2,r3) := H
             have A23 := Aside0.mk A230
             clear A230
             have H' := Aside0.mk H
             clear H
             go_wp2_with (first | ((with_reducible refine gate_callee (f := 52) rfl ?_); refine goesL_ (some 36) rfl rfl Tryd.func52 (by kernel_rfl) rfl #[.pointer (some ⟨g0,0,none⟩),.int .i64 x1_1] rfl (by (try simp only [List.map_toArray,List.map_cons,List.map_nil]); first | done | rfl | (simp only [List.length_drop,List.length_take]; rfl)) ?_; (with_reducible refine (spec_l03List_neg.calls g0 a0_0 a0_1 A0_2 c0_2 l0_2 A0_3 c0_3 l0_3 x1_1  _ ?side1 ?side2 ?side3 ?side4 ?side5 A14.out).mono ?_); (case side1 => exact by (with_reducible repeat (first | refine blk_drewN ?_ _ | refine blk_drew ?_ | refine blk_alloc ?_ _)); exact BK0.out); (case side2 => repeat (first | exact (Kd.C_below HR0_2.out HB.out) | (with_reducible refine Kd.C_alloc ?_ _) | (with_reducible refine Kd.C_drewN ?_ _) | (with_reducible refine Kd.C_drew ?_))); (case side3 => exact HC0_2.out); (case side4 => repeat (first | exact (Kd.C_below HR0_3.out HB.out) | (with_reducible refine Kd.C_alloc ?_ _) | (with_reducible refine Kd.C_drewN ?_ _) | (with_reducible refine Kd.C_drew ?_))); (case side5 => exact HC0_3.out); rintro e w24 ⟨rfl,hb⟩; refine ⟨_,rfl,?_⟩; have n0_ := Aside0.mk (Kd.R_below (by (with_reducible repeat (first | apply Kd.R_alloc | apply Kd.R_drewN | apply Kd.R_drew)); exact HO_9.out) hb); have n1_ := Aside0.mk (Kd.R_below (by (with_reducible repeat (first | apply Kd.R_alloc | apply Kd.R_drewN | apply Kd.R_drew)); exact HO_10.out) hb); have n2_ := Aside0.mk (blk_below (g := g0) (o := .cells #[.int .i64 a0_0,.int .i64 a0_1,.slice A0_2 l0_2.length c0_2,.slice A0_3 l0_3.length c0_3] 30 (0,0)) (by (with_reducible repeat (first | refine blk_drewN ?_ _ | refine blk_drew ?_ | refine blk_alloc ?_ _)); exact BK0.out) hb); have n3_ := Aside0.mk (below_step (by repeat (first | (with_reducible first | exact HB.out | apply below_alloc | apply pw_below_drewN | apply below_drew1 | refine below_set ?_ GE0.out) | exact HB.out)) hb); clear HO_9; clear HO_10; clear BK0; clear HB; have HO_9 := n0_; have HO_10 := n1_; have BK0 := n2_; have HB := n3_; clear n0_ n1_ n2_ n3_; (try clear hb); (try clear hb2); (try clear hk); (try clear hi)) | ((with_reducible refine gate_callee (f := 81) rfl ?_); refine goesL_ (some 38) rfl rfl Tryd.func81 (by kernel_rfl) rfl #[.slice A0_2 l0_2.length c0_2,.string (a2.extract (x12_1 : Int).toNat ((wrap64 (x12_1 + a0_1)) : Int).toNat)] rfl (by (try simp only [List.map_toArray,List.map_cons,List.map_nil]); first | done | rfl | (simp only [List.length_drop,List.length_take]; rfl)) ?_; (with_reducible refine (spec_l03Index.calls k1 _ _ l0_2 (a2.extract (x12_1 : Int).toNat ((wrap64 (x12_1 + a0_1)) : Int).toNat) t153 _ ?side1 ?side2 A15.out).mono ?_); (case side1 => repeat (first | exact (Kd.C_below HR0_2.out HB.out) | (with_reducible refine Kd.C_alloc ?_ _) | (with_reducible refine Kd.C_drewN ?_ _) | (with_reducible refine Kd.C_drew ?_))); (case side2 => exact HC0_2.out); rintro e w' ⟨rfl,⟨nd,rfl⟩⟩; refine ⟨_,rfl,?_⟩) | ((with_reducible refine gate_builtin (b := .append) (xs := #[.tmp 41,.tmp 45]) rfl ?_); at_builtin; refine Kd.R_append (Kd.int .i64) (w0 := w) w.heap.size rfl (.tmp 41) (.tmp 45) 38 2 (.int .i64 0) 8 rfl Tryd.underlying38 info2 rfl (by decide) (by omega) u10 x10_1 (wrap64 (Int.tdiv x12_1 a0_1)) [.int .i64 (wrap64 (Int.tdiv x12_1 a0_1))] (fun k_ => some k_ ≠ (u9 : Value).ownBlock) (fun _ => False) rfl rfl ?aP (fun _ hk => hk.elim) ?aF ?aO ?aB ?aS ?aL ?_; (case aP => exact rfl); (case aB => exact (by repeat (first | (with_reducible first | exact HB.out | apply below_alloc | apply pw_below_drewN | apply below_drew1 | refine below_set ?_ GE0.out) | exact HB.out))); (case aF => exact (fun k_ hk => Kd.fresh' (Kd.R_lt (by (with_reducible repeat (first | apply Kd.R_alloc | apply Kd.R_drewN | apply Kd.R_drew)); exact HO_9.out)) k_ hk)); (case aO => exact (by (with_reducible repeat (first | apply Kd.R_alloc | apply Kd.R_drewN | apply Kd.R_drew)); exact HO_10.out)); (case aS => exact (below_size (by repeat (first | (with_reducible first | exact HB.out | apply below_alloc | apply pw_below_drewN | apply below_drew1 | refine below_set ?_ GE0.out) | exact HB.out)))); (case aL => have := LMc18.out; omega); intro v155 w25 ho hb hg hat; rw [← Ny154.out] at ho; have n0_ := Aside0.mk (Kd.R_after (ok := (fun _ => True)) (by (with_reducible repeat (first | apply Kd.R_alloc | apply Kd.R_drewN | apply Kd.R_drew)); exact Kd.R_mono HO_9.out (fun _ hk => ⟨trivial,hk⟩)) hg hat); have n1_ := Aside0.mk (blk_grown (g := g0) (o := .cells #[.int .i64 a0_0,.int .i64 a0_1,.slice A0_2 l0_2.length c0_2,.slice A0_3 l0_3.length c0_3] 30 (0,0)) (by (with_reducible repeat (first | refine blk_drewN ?_ _ | refine blk_drew ?_ | refine blk_alloc ?_ _)); exact BK0.out) hg (Kd.R_ne HO_10.out BK0.out (by decide))); have n2_ := Aside0.mk (hb); have n3_ := Aside0.mk (ho); clear HO_9; clear BK0; clear HB; clear HO_10; have HO_9 := n0_; have BK0 := n1_; have HB := n2_; have HO156 := n3_; clear n0_ n1_ n2_ n3_; clear ho hb hg hat) | ((with_reducible refine gate_callee (f := 52) rfl ?_); refine goesL_ (some 50) rfl rfl Tryd.func52 (by kernel_rfl) rfl #[.pointer (some ⟨g0,0,none⟩),.int .i64 (wrap64 (-x1_1))] rfl (by (try simp only [List.map_toArray,List.map_cons,List.map_nil]); first | done | rfl | (simp only [List.length_drop,List.length_take]; rfl)) ?_; (with_reducible refine (spec_l03List_neg.calls g0 a0_0 a0_1 A0_2 c0_2 l0_2 A0_3 c0_3 l0_3 (wrap64 (-x1_1))  _ ?side1 ?side2 ?side3 ?side4 ?side5 A20.out).mono ?_); (case side1 => exact by (with_reducible repeat (first | refine blk_drewN ?_ _ | refine blk_drew ?_ | refine blk_alloc ?_ _)); exact BK0.out); (case side2 => repeat (first | exact (Kd.C_below HR0_2.out HB.out) | (with_reducible refine Kd.C_alloc ?_ _) | (with_reducible refine Kd.C_drewN ?_ _) | (with_reducible refine Kd.C_drew ?_))); (case side3 => exact HC0_2.out); (case side4 => repeat (first | exact (Kd.C_below HR0_3.out HB.out) | (with_reducible refine Kd.C_alloc ?_ _) | (with_reducible refine Kd.C_drewN ?_ _) | (with_reducible refine Kd.C_drew ?_))); (case side5 => exact HC0_3.out); rintro e w26 ⟨rfl,hb⟩; refine ⟨_,rfl,?_⟩; have n0_ := Aside0.mk (Kd.R_below (by (with_reducible repeat (first | apply Kd.R_alloc | apply Kd.R_drewN | apply Kd.R_drew)); exact HO_9.out) hb); have n1_ := Aside0.mk (Kd.R_below (by (with_reducible repeat (first | apply Kd.R_alloc | apply Kd.R_drewN | apply Kd.R_drew)); exact HO156.out) hb); have n2_ := Aside0.mk (blk_below (g := g0) (o := .cells #[.int .i64 a0_0,.int .i64 a0_1,.slice A0_2 l0_2.length c0_2,.slice A0_3 l0_3.length c0_3] 30 (0,0)) (by (with_reducible repeat (first | refine blk_drewN ?_ _ | refine blk_drew ?_ | refine blk_alloc ?_ _)); exact BK0.out) hb); have n3_ := Aside0.mk (below_step (by repeat (first | (with_reducible first | exact HB.out | apply below_alloc | apply pw_below_drewN | apply below_drew1 | refine below_set ?_ GE0.out) | exact HB.out)) hb); clear HO_9; clear HO156; clear BK0; clear HB; have HO_9 := n0_; have HO156 := n1_; have BK0 := n2_; have HB := n3_; clear n0_ n1_ n2_ n3_; (try clear hb); (try clear hb2); (try clear hk); (try clear hi)) | ((with_reducible refine gate_callee (f := 81) rfl ?_); refine goesL_ (some 52) rfl rfl Tryd.func81 (by kernel_rfl) rfl #[.slice A0_2 l0_2.length c0_2,.string (a2.extract (x12_1 : Int).toNat ((wrap64 (x12_1 + a0_1)) : Int).toNat)] rfl (by (try simp only [List.map_toArray,List.map_cons,List.map_nil]); first | done | rfl | (simp only [List.length_drop,List.length_take]; rfl)) ?_; (with_reducible refine (spec_l03Index.calls k1 _ _ l0_2 (a2.extract (x12_1 : Int).toNat ((wrap64 (x12_1 + a0_1)) : Int).toNat) t157 _ ?side1 ?side2 A21.out).mono ?_); (case side1 => repeat (first | exact (Kd.C_below HR0_2.out HB.out) | (with_reducible refine Kd.C_alloc ?_ _) | (with_reducible refine Kd.C_drewN ?_ _) | (with_reducible refine Kd.C_drew ?_))); (case side2 => exact HC0_2.out); rintro e w' ⟨rfl,⟨nd,rfl⟩⟩; refine ⟨_,rfl,?_⟩) | ((with_reducible refine gate_builtin (b := .append) (xs := #[.tmp 53,.tmp 55]) rfl ?_); at_builtin; refine Kd.R_append (Kd.int .i64) (w0 := w) w.heap.size rfl (.tmp 53) (.tmp 55) 38 2 (.int .i64 0) 8 rfl Tryd.underlying38 info2 rfl (by decide) (by omega) u9 x9_1 t157 [.int .i64 t157] (fun k_ => some k_ ≠ (v155 : Value).ownBlock) (fun _ => False) rfl rfl ?aP (fun _ hk => hk.elim) ?aF ?aO ?aB ?aS ?aL ?_; (case aP => exact rfl); (case aB => exact (by repeat (first | (with_reducible first | exact HB.out | apply below_alloc | apply pw_below_drewN | apply below_drew1 | refine below_set ?_ GE0.out) | exact HB.out))); (case aF => exact (fun k_ hk => Kd.fresh' (Kd.R_lt (by (with_reducible repeat (first | apply Kd.R_alloc | apply Kd.R_drewN | apply Kd.R_drew)); exact HO156.out)) k_ hk)); (case aO => exact (by (with_reducible repeat (first | apply Kd.R_alloc | apply Kd.R_drewN | apply Kd.R_drew)); exact Kd.R_mono HO_9.out (fun _ hk => hk.2))); (case aS => exact (below_size (by repeat (first | (with_reducible first | exact HB.out | apply below_alloc | apply pw_below_drewN | apply below_drew1 | refine below_set ?_ GE0.out) | exact HB.out)))); (case aL => have := LMc22.out; omega); intro v159 w27 ho hb hg hat; rw [← Ny158.out] at ho; have n0_ := Aside0.mk (blk_grown (g := g0) (o := .cells #[.int .i64 a0_0,.int .i64 a0_1,.slice A0_2 l0_2.length c0_2,.slice A0_3 l0_3.length c0_3] 30 (0,0)) (by (with_reducible repeat (first | refine blk_drewN ?_ _ | refine blk_drew ?_ | refine blk_alloc ?_ _)); exact BK0.out) hg (Kd.R_ne HO_9.out BK0.out (by decide))); have n1_ := Aside0.mk (Kd.R_after (ok := (fun _ => True)) (by (with_reducible repeat (first | apply Kd.R_alloc | apply Kd.R_drewN | apply Kd.R_drew)); exact Kd.R_mono HO156.out (fun _ hk => ⟨trivial,hk⟩)) hg hat); have n2_ := Aside0.mk (hb); have n3_ := Aside0.mk (ho); clear BK0; clear HO156; clear HB; clear HO_9; have BK0 := n0_; have HO156 := n1_; have HB := n2_; have HO160 := n3_; clear n0_ n1_ n2_ n3_; clear ho hb hg hat) | ((with_reducible refine gate_callee (f := 67) rfl ?_); refine goesL_ (some 59) rfl rfl Tryd.func67 (by kernel_rfl) rfl #[.int .i64 x1_1,.string (a2.extract (x12_1 : Int).toNat ((wrap64 (x12_1 + a0_1)) : Int).toNat)] rfl (by (try simp only [List.map_toArray,List.map_cons,List.map_nil]); first | done | rfl | (simp only [List.length_drop,List.length_take]; rfl)) ?_; (with_reducible refine (spec_l03Next.calls k1 x1_1 (a2.extract (x12_1 : Int).toNat ((wrap64 (x12_1 + a0_1)) : Int).toNat) t161 _ A23.out).mono ?_); rintro e w' ⟨rfl,⟨nd,rfl⟩⟩; refine ⟨_,rfl,?_⟩))
             go_roundg k1
             case measure => have := HK1.out; omega
             case rel => exact ⟨(t161),(y158),(y154),(wrap64 (x12_1 + a0_1)),(by first | rfl | (simp; done) | (simp [*]; done)),(by first | rfl | (simp; done) | (simp [*]; done)),H',⟨by have := HK1.out; omega⟩,⟨by (with_reducible repeat (first | apply Kd.R_alloc | apply Kd.R_drewN | apply Kd.R_drew)); exact HO160.out⟩,⟨by (with_reducible repeat (first | apply Kd.R_alloc | apply Kd.R_drewN | apply Kd.R_drew)); exact Kd.R_mono HO156.out (fun _ hk => hk.2)⟩,⟨by (with_reducible repeat (first | refine blk_drewN ?_ _ | refine blk_drew ?_ | refine blk_alloc ?_ _)); exact BK0.out⟩,⟨by repeat (first | (with_reducible first | exact HB.out | apply below_alloc | apply pw_below_drewN | apply below_drew1 | refine below_set ?_ GE0.out) | exact HB.out)⟩⟩
            ·rw [if_neg c22] at H
             exact absurd H (by simp)
           ·rw [if_neg c19] at H
            have c19b0 : decide ((wrap64 (-x1_1)) < 0) = false := decide_eq_false c19
            clear c19
            replace H := Option.bind_eq_some_iff.mp H
            obtain ⟨_,A280,H⟩ := H
            replace H : ((spec_l03Index.f k1 l0_3 (a2.extract (x12_1 : Int).toNat ((wrap64 (x12_1 + a0_1)) : Int).toNat)).bind fun t162 => (if x9_1.length < 17592186044416 then ((spec_l03Next.f k1 x1_1 (a2.extract (x12_1 : Int).toNat ((wrap64 (x12_1 + a0_1)) : Int).toNat)).bind fun t166 => (spec_l03Decode.l0 k1 t166 a2 (x9_1 ++ [t162]) y154 a0_1 (wrap64 (x12_1 + a0_1)) a0_0 a0_1 l0_2 l0_3)) else (none))) = some (r1,r2,r3) := H
            have A28 := Aside0.mk A280
            clear A280
            replace H := Option.bind_eq_some_iff.mp H
            obtain ⟨t162,A290,H⟩ := H
            replace H : (if x9_1.length < 17592186044416 then ((spec_l03Next.f k1 x1_1 (a2.extract (x12_1 : Int).toNat ((wrap64 (x12_1 + a0_1)) : Int).toNat)).bind fun t166 => (spec_l03Decode.l0 k1 t166 a2 (x9_1 ++ [t162]) y154 a0_1 (wrap64 (x12_1 + a0_1)) a0_0 a0_1 l0_2 l0_3)) else (none)) = some (r1,r2,r3) := H
            have A29 := Aside0.mk A290
            clear A290
            by_cases c30 : x9_1.length < 17592186044416
            ·rw [if_pos c30] at H
             have LMc30 := Aside0.mk c30
             clear c30
             obtain ⟨y163,hy163⟩ : ∃ y_ : List Int,y_ = (x9_1 ++ [t162]) := ⟨_,rfl⟩
             replace H : ((spec_l03Next.f k1 x1_1 (a2.extract (x12_1 : Int).toNat ((wrap64 (x12_1 + a0_1)) : Int).toNat)).bind fun t166 => (spec_l03Decode.l0 k1 t166 a2 y163 y154 a0_1 (wrap64 (x12_1 + a0_1)) a0_0 a0_1 l0_2 l0_3)) = some (r1,r2,r3) := by first | (rw [hy163]; with_reducible exact H) | (have H2_ := (Option.bind_some _ _).symm.trans H; rw [hy163]; with_reducible exact H2_) | (have H2_ := (Option.bind_some _ _).symm.trans H; with_reducible exact H2_) | with_reducible exact H | (rw [hy163]; exact H) | exact H
             have Ny163 := Aside0.mk hy163
             clear hy163
             replace H := Option.bind_eq_some_iff.mp H
             obtain ⟨t166,A310,H⟩ := H
             replace H : (spec_l03Decode.l0 k1 t166 a2 y163 y154 a0_1 (wrap64 (x12_1 + a0_1)) a0_0 a0_1 l0_2 l0_3) = some (r1,r2,r3) := H
             have A31 := Aside0.mk A310
             clear A310
             have H' := Aside0.mk H
             clear H
             go_wp2_with (first | ((with_reducible refine gate_callee (f := 52) rfl ?_); refine goesL_ (some 36) rfl rfl Tryd.func52 (by kernel_rfl) rfl #[.pointer (some ⟨g0,0,none⟩),.int .i64 x1_1] rfl (by (try simp only [List.map_toArray,List.map_cons,List.map_nil]); first | done | rfl | (simp only [List.length_drop,List.length_take]; rfl)) ?_; (with_reducible refine (spec_l03List_neg.calls g0 a0_0 a0_1 A0_2 c0_2 l0_2 A0_3 c0_3 l0_3 x1_1  _ ?side1 ?side2 ?side3 ?side4 ?side5 A14.out).mono ?_); (case side1 => exact by (with_reducible repeat (first | refine blk_drewN ?_ _ | refine blk_drew ?_ | refine blk_alloc ?_ _)); exact BK0.out); (case side2 => repeat (first | exact (Kd.C_below HR0_2.out HB.out) | (with_reducible refine Kd.C_alloc ?_ _) | (with_reducible refine Kd.C_drewN ?_ _) | (with_reducible refine Kd.C_drew ?_))); (case side3 => exact HC0_2.out); (case side4 => repeat (first | exact (Kd.C_below HR0_3.out HB.out) | (with_reducible refine Kd.C_alloc ?_ _) | (with_reducible refine Kd.C_drewN ?_ _) | (with_reducible refine Kd.C_drew ?_))); (case side5 => exact HC0_3.out); rintro e w32 ⟨rfl,hb⟩; refine ⟨_,rfl,?_⟩; have n0_ := Aside0.mk (Kd.R_below (by (with_reducible repeat (first | apply Kd.R_alloc | apply Kd.R_drewN | apply Kd.R_drew)); exact HO_9.out) hb); have n1_ := Aside0.mk (Kd.R_below (by (with_reducible repeat (first | apply Kd.R_alloc | apply Kd.R_drewN | apply Kd.R_drew)); exact HO_10.out) hb); have n2_ := Aside0.mk (blk_below (g := g0) (o := .cells #[.int .i64 a0_0,.int .i64 a0_1,.slice A0_2 l0_2.length c0_2,.slice A0_3 l0_3.length c0_3] 30 (0,0)) (by (with_reducible repeat (first | refine blk_drewN ?_ _ | refine blk_drew ?_ | refine blk_alloc ?_ _)); exact BK0.out) hb); have n3_ := Aside0.mk (below_step (by repeat (first | (with_reducible first | exact HB.out | apply below_alloc | apply pw_below_drewN | apply below_drew1 | refine below_set ?_ GE0.out) | exact HB.out)) hb); clear HO_9; clear HO_10; clear BK0; clear HB; have HO_9 := n0_; have HO_10 := n1_; have BK0 := n2_; have HB := n3_; clear n0_ n1_ n2_ n3_; (try clear hb); (try clear hb2); (try clear hk); (try clear hi)) | ((with_reducible refine gate_callee (f := 81) rfl ?_); refine goesL_ (some 38) rfl rfl Tryd.func81 (by kernel_rfl) rfl #[.slice A0_2 l0_2.length c0_2,.string (a2.extract (x12_1 : Int).toNat ((wrap64 (x12_1 + a0_1)) : Int).toNat)] rfl (by (try simp only [List.map_toArray,List.map_cons,List.map_nil]); first | done | rfl | (simp only [List.length_drop,List.length_take]; rfl)) ?_; (with_reducible refine (spec_l03Index.calls k1 _ _ l0_2 (a2.extract (x12_1 : Int).toNat ((wrap64 (x12_1 + a0_1)) : Int).toNat) t153 _ ?side1 ?side2 A15.out).mono ?_); (case side1 => repeat (first | exact (Kd.C_below HR0_2.out HB.out) | (with_reducible refine Kd.C_alloc ?_ _) | (with_reducible refine Kd.C_drewN ?_ _) | (with_reducible refine Kd.C_drew ?_))); (case side2 => exact HC0_2.out); rintro e w' ⟨rfl,⟨nd,rfl⟩⟩; refine ⟨_,rfl,?_⟩) | ((with_reducible refine gate_builtin (b := .append) (xs := #[.tmp 41,.tmp 45]) rfl ?_); at_builtin; refine Kd.R_append (Kd.int .i64) (w0 := w) w.heap.size rfl (.tmp 41) (.tmp 45) 38 2 (.int .i64 0) 8 rfl Tryd.underlying38 info2 rfl (by decide) (by omega) u10 x10_1 (wrap64 (Int.tdiv x12_1 a0_1)) [.int .i64 (wrap64 (Int.tdiv x12_1 a0_1))] (fun k_ => some k_ ≠ (u9 : Value).ownBlock) (fun _ => False) rfl rfl ?aP (fun _ hk => hk.elim) ?aF ?aO ?aB ?aS ?aL ?_; (case aP => exact rfl); (case aB => exact (by repeat (first | (with_reducible first | exact HB.out | apply below_alloc | apply pw_below_drewN | apply below_drew1 | refine below_set ?_ GE0.out) | exact HB.out))); (case aF => exact (fun k_ hk => Kd.fresh' (Kd.R_lt (by (with_reducible repeat (first | apply Kd.R_alloc | apply Kd.R_drewN | apply Kd.R_drew)); exact HO_9.out)) k_ hk)); (case aO => exact (by (with_reducible repeat (first | apply Kd.R_alloc | apply Kd.R_drewN | apply Kd.R_drew)); exact HO_10.out)); (case aS => exact (below_size (by repeat (first | (with_reducible first | exact HB.out | apply below_alloc | apply pw_below_drewN | apply below_drew1 | refine below_set ?_ GE0.out) | exact HB.out)))); (case aL => have := LMc18.out; omega); intro v155 w33 ho hb hg hat; rw [← Ny154.out] at ho; have n0_ := Aside0.mk (Kd.R_after (ok := (fun _ => True)) (by (with_reducible repeat (first | apply Kd.R_alloc | apply Kd.R_drewN | apply Kd.R_drew)); exact Kd.R_mono HO_9.out (fun _ hk => ⟨trivial,hk⟩)) hg hat); have n1_ := Aside0.mk (blk_grown (g := g0) (o := .cells #[.int .i64 a0_0,.int .i64 a0_1,.slice A0_2 l0_2.length c0_2,.slice A0_3 l0_3.length c0_3] 30 (0,0)) (by (with_reducible repeat (first | refine blk_drewN ?_ _ | refine blk_drew ?_ | refine blk_alloc ?_ _)); exact BK0.out) hg (Kd.R_ne HO_10.out BK0.out (by decide))); have n2_ := Aside0.mk (hb); have n3_ := Aside0.mk (ho); clear HO_9; clear BK0; clear HB; clear HO_10; have HO_9 := n0_; have BK0 := n1_; have HB := n2_; have HO156 := n3_; clear n0_ n1_ n2_ n3_; clear ho hb hg hat) | ((with_reducible refine gate_callee (f := 52) rfl ?_); refine goesL_ (some 50) rfl rfl Tryd.func52 (by kernel_rfl) rfl #[.pointer (some ⟨g0,0,none⟩),.int .i64 (wrap64 (-x1_1))] rfl (by (try simp only [List.map_toArray,List.map_cons,List.map_nil]); first | done | rfl | (simp only [List.length_drop,List.length_take]; rfl)) ?_; (with_reducible refine (spec_l03List_pos.calls g0 a0_0 a0_1 A0_2 c0_2 l0_2 A0_3 c0_3 l0_3 (wrap64 (-x1_1))  _ ?side1 ?side2 ?side3 ?side4 ?side5 A28.out).mono ?_); (case side1 => exact by (with_reducible repeat (first | refine blk_drewN ?_ _ | refine blk_drew ?_ | refine blk_alloc ?_ _)); exact BK0.out); (case side2 => repeat (first | exact (Kd.C_below HR0_2.out HB.out) | (with_reducible refine Kd.C_alloc ?_ _) | (with_reducible refine Kd.C_drewN ?_ _) | (with_reducible refine Kd.C_drew ?_))); (case side3 => exact HC0_2.out); (case side4 => repeat (first | exact (Kd.C_below HR0_3.out HB.out) | (with_reducible refine Kd.C_alloc ?_ _) | (with_reducible refine Kd.C_drewN ?_ _) | (with_reducible refine Kd.C_drew ?_))); (case side5 => exact HC0_3.out); rintro e w34 ⟨rfl,hb⟩; refine ⟨_,rfl,?_⟩; have n0_ := Aside0.mk (Kd.R_below (by (with_reducible repeat (first | apply Kd.R_alloc | apply Kd.R_drewN | apply Kd.R_drew)); exact HO_9.out) hb); have n1_ := Aside0.mk (Kd.R_below (by (with_reducible repeat (first | apply Kd.R_alloc | apply Kd.R_drewN | apply Kd.R_drew)); exact HO156.out) hb); have n2_ := Aside0.mk (blk_below (g := g0) (o := .cells #[.int .i64 a0_0,.int .i64 a0_1,.slice A0_2 l0_2.length c0_2,.slice A0_3 l0_3.length c0_3] 30 (0,0)) (by (with_reducible repeat (first | refine blk_drewN ?_ _ | refine blk_drew ?_ | refine blk_alloc ?_ _)); exact BK0.out) hb); have n3_ := Aside0.mk (below_step (by repeat (first | (with_reducible first | exact HB.out | apply below_alloc | apply pw_below_drewN | apply below_drew1 | refine below_set ?_ GE0.out) | exact HB.out)) hb); clear HO_9; clear HO156; clear BK0; clear HB; have HO_9 := n0_; have HO156 := n1_; have BK0 := n2_; have HB := n3_; clear n0_ n1_ n2_ n3_; (try clear hb); (try clear hb2); (try clear hk); (try clear hi)) | ((with_reducible refine gate_callee (f := 81) rfl ?_); refine goesL_ (some 52) rfl rfl Tryd.func81 (by kernel_rfl) rfl #[.slice A0_3 l0_3.length c0_3,.string (a2.extract (x12_1 : Int).toNat ((wrap64 (x12_1 + a0_1)) : Int).toNat)] rfl (by (try simp only [List.map_toArray,List.map_cons,List.map_nil]); first | done | rfl | (simp only [List.length_drop,List.length_take]; rfl)) ?_; (with_reducible refine (spec_l03Index.calls k1 _ _ l0_3 (a2.extract (x12_1 : Int).toNat ((wrap64 (x12_1 + a0_1)) : Int).toNat) t162 _ ?side1 ?side2 A29.out).mono ?_); (case side1 => repeat (first | exact (Kd.C_below HR0_3.out HB.out) | (with_reducible refine Kd.C_alloc ?_ _) | (with_reducible refine Kd.C_drewN ?_ _) | (with_reducible refine Kd.C_drew ?_))); (case side2 => exact HC0_3.out); rintro e w' ⟨rfl,⟨nd,rfl⟩⟩; refine ⟨_,rfl,?_⟩) | ((with_reducible refine gate_builtin (b := .append) (xs := #[.tmp 53,.tmp 55]) rfl ?_); at_builtin; refine Kd.R_append (Kd.int .i64) (w0 := w) w.heap.size rfl (.tmp 53) (.tmp 55) 38 2 (.int .i64 0) 8 rfl Tryd.underlying38 info2 rfl (by decide) (by omega) u9 x9_1 t162 [.int .i64 t162] (fun k_ => some k_ ≠ (v155 : Value).ownBlock) (fun _ => False) rfl rfl ?aP (fun _ hk => hk.elim) ?aF ?aO ?aB ?aS ?aL ?_; (case aP => exact rfl); (case aB => exact (by repeat (first | (with_reducible first | exact HB.out | apply below_alloc | apply pw_below_drewN | apply below_drew1 | refine below_set ?_ GE0.out) | exact HB.out))); (case aF => exact (fun k_ hk => Kd.fresh' (Kd.R_lt (by (with_reducible repeat (first | apply Kd.R_alloc | apply Kd.R_drewN | apply Kd.R_drew)); exact HO156.out)) k_ hk)); (case aO => exact (by (with_reducible repeat (first | apply Kd.R_alloc | apply Kd.R_drewN | apply Kd.R_drew)); exact Kd.R_mono HO_9.out (fun _ hk => hk.2))); (case aS => exact (below_size (by repeat (first | (with_reducible first | exact HB.out | apply below_alloc | apply pw_below_drewN | apply below_drew1 | refine below_set ?_ GE0.out) | exact HB.out)))); (case aL => have := LMc30.out; omega); intro v164 w35 ho hb hg hat; rw [← Ny163.out] at ho; have n0_ := Aside0.mk (blk_grown (g := g0) (o := .cells #[.int .i64 a0_0,.int .i64 a0_1,.slice A0_2 l0_2.length c0_2,.slice A0_3 l0_3.length c0_3] 30 (0,0)) (by (with_reducible repeat (first | refine blk_drewN ?_ _ | refine blk_drew ?_ | refine blk_alloc ?_ _)); exact BK0.out) hg (Kd.R_ne HO_9.out BK0.out (by decide))); have n1_ := Aside0.mk (Kd.R_after (ok := (fun _ => True)) (by (with_reducible repeat (first | apply Kd.R_alloc | apply Kd.R_drewN | apply Kd.R_drew)); exact Kd.R_mono HO156.out (fun _ hk => ⟨trivial,hk⟩)) hg hat); have n2_ := Aside0.mk (hb); have n3_ := Aside0.mk (ho); clear BK0; clear HO156; clear HB; clear HO_9; have BK0 := n0_; have HO156 := n1_; have HB := n2_; have HO165 := n3_; clear n0_ n1_ n2_ n3_; clear ho hb hg hat) | ((with_reducible refine gate_callee (f := 67) rfl ?_); refine goesL_ (some 59) rfl rfl Tryd.func67 (by kernel_rfl) rfl #[.int .i64 x1_1,.string (a2.extract (x12_1 : Int).toNat ((wrap64 (x12_1 + a0_1)) : Int).toNat)] rfl (by (try simp only [List.map_toArray,List.map_cons,List.map_nil]); first | done | rfl | (simp only [List.length_drop,List.length_take]; rfl)) ?_; (with_reducible refine (spec_l03Next.calls k1 x1_1 (a2.extract (x12_1 : Int).toNat ((wrap64 (x12_1 + a0_1)) : Int).toNat) t166 _ A31.out).mono ?_); rintro e w' ⟨rfl,⟨nd,rfl⟩⟩; refine ⟨_,rfl,?_⟩))
             go_roundg k1
             case measure => have := HK1.out; omega
             case rel => exact ⟨(t166),(y163),(y154),(wrap64 (x12_1 + a0_1)),(by first | rfl | (simp; done) | (simp [*]; done)),(by first | rfl | (simp; done) | (simp [*]; done)),H',⟨by have := HK1.out; omega⟩,⟨by (with_reducible repeat (first | apply Kd.R_alloc | apply Kd.R_drewN | apply Kd.R_drew)); exact HO165.out⟩,⟨by (with_reducible repeat (first | apply Kd.R_alloc | apply Kd.R_drewN | apply Kd.R_drew)); exact Kd.R_mono HO156.out (fun _ hk => hk.2)⟩,⟨by (with_reducible repeat (first | refine blk_drewN ?_ _ | refine blk_drew ?_ | refine blk_alloc ?_ _)); exact BK0.out⟩,⟨by repeat (first | (with_reducible first | exact HB.out | apply below_alloc | apply pw_below_drewN | apply below_drew1 | refine below_set ?_ GE0.out) | exact HB.out)⟩⟩
            ·rw [if_neg c30] at H
             exact absurd H (by simp)
          ·rw [if_neg c18] at H
           exact absurd H (by simp)
        ·rw [if_neg c16] at H
         have c16b0 : decide (t153 < 0) = false := decide_eq_false c16
         clear c16
         by_cases c36 : x9_1.length < 17592186044416
         ·rw [if_pos c36] at H
          have LMc36 := Aside0.mk c36
          clear c36
          obtain ⟨y167,hy167⟩ : ∃ y_ : List Int,y_ = (x9_1 ++ [t153]) := ⟨_,rfl⟩
          replace H : ((spec_l03Next.f k1 x1_1 (a2.extract (x12_1 : Int).toNat ((wrap64 (x12_1 + a0_1)) : Int).toNat)).bind fun t170 => (spec_l03Decode.l0 k1 t170 a2 y167 x10_1 a0_1 (wrap64 (x12_1 + a0_1)) a0_0 a0_1 l0_2 l0_3)) = some (r1,r2,r3) := by first | (rw [hy167]; with_reducible exact H) | (have H2_ := (Option.bind_some _ _).symm.trans H; rw [hy167]; with_reducible exact H2_) | (have H2_ := (Option.bind_some _ _).symm.trans H; with_reducible exact H2_) | with_reducible exact H | (rw [hy167]; exact H) | exact H
          have Ny167 := Aside0.mk hy167
          clear hy167
          replace H := Option.bind_eq_some_iff.mp H
          obtain ⟨t170,A370,H⟩ := H
          replace H : (spec_l03Decode.l0 k1 t170 a2 y167 x10_1 a0_1 (wrap64 (x12_1 + a0_1)) a0_0 a0_1 l0_2 l0_3) = some (r1,r2,r3) := H
          have A37 := Aside0.mk A370
          clear A370
          have H' := Aside0.mk H
          clear H
          go_wp2_with (first | ((with_reducible refine gate_callee (f := 52) rfl ?_); refine goesL_ (some 36) rfl rfl Tryd.func52 (by kernel_rfl) rfl #[.pointer (some ⟨g0,0,none⟩),.int .i64 x1_1] rfl (by (try simp only [List.map_toArray,List.map_cons,List.map_nil]); first | done | rfl | (simp only [List.length_drop,List.length_take]; rfl)) ?_; (with_reducible refine (spec_l03List_neg.calls g0 a0_0 a0_1 A0_2 c0_2 l0_2 A0_3 c0_3 l0_3 x1_1  _ ?side1 ?side2 ?side3 ?side4 ?side5 A14.out).mono ?_); (case side1 => exact by (with_reducible repeat (first | refine blk_drewN ?_ _ | refine blk_drew ?_ | refine blk_alloc ?_ _)); exact BK0.out); (case side2 => repeat (first | exact (Kd.C_below HR0_2.out HB.out) | (with_reducible refine Kd.C_alloc ?_ _) | (with_reducible refine Kd.C_drewN ?_ _) | (with_reducible refine Kd.C_drew ?_))); (case side3 => exact HC0_2.out); (case side4 => repeat (first | exact (Kd.C_below HR0_3.out HB.out) | (with_reducible refine Kd.C_alloc ?_ _) | (with_reducible refine Kd.C_drewN ?_ _) | (with_reducible refine Kd.C_drew ?_))); (case side5 => exact HC0_3.out); rintro e w38 ⟨rfl,hb⟩; refine ⟨_,rfl,?_⟩; have n0_ := Aside0.mk (Kd.R_below (by (with_reducible repeat (first | apply Kd.R_alloc | apply Kd.R_drewN | apply Kd.R_drew)); exact HO_9.out) hb); have n1_ := Aside0.mk (Kd.R_below (by (with_reducible repeat (first | apply Kd.R_alloc | apply Kd.R_drewN | apply Kd.R_drew)); exact HO_10.out) hb); have n2_ := Aside0.mk (blk_below (g := g0) (o := .cells #[.int .i64 a0_0,.int .i64 a0_1,.slice A0_2 l0_2.length c0_2,.slice A0_3 l0_3.length c0_3] 30 (0,0)) (by (with_reducible repeat (first | refine blk_drewN ?_ _ | refine blk_drew ?_ | refine blk_alloc ?_ _)); exact BK0.out) hb); have n3_ := Aside0.mk (below_step (by repeat (first | (with_reducible first | exact HB.out | apply below_alloc | apply pw_below_drewN | apply below_drew1 | refine below_set ?_ GE0.out) | exact HB.out)) hb); clear HO_9; clear HO_10; clear BK0; clear HB; have HO_9 := n0_; have HO_10 := n1_; have BK0 := n2_; have HB := n3_; clear n0_ n1_ n2_ n3_; (try clear hb); (try clear hb2); (try clear hk); (try clear hi)) | ((with_reducible refine gate_callee (f := 81) rfl ?_); refine goesL_ (some 38) rfl rfl Tryd.func81 (by kernel_rfl) rfl #[.slice A0_2 l0_2.length c0_2,.string (a2.extract (x12_1 : Int).toNat ((wrap64 (x12_1 + a0_1)) : Int).toNat)] rfl (by (try simp only [List.map_toArray,List.map_cons,List.map_nil]); first | done | rfl | (simp only [List.length_drop,List.length_take]; rfl)) ?_; (with_reducible refine (spec_l03Index.calls k1 _ _ l0_2 (a2.extract (x12_1 : Int).toNat ((wrap64 (x12_1 + a0_1)) : Int).toNat) t153 _ ?side1 ?side2 A15.out).mono ?_); (case side1 => repeat (first | exact (Kd.C_below HR0_2.out HB.out) | (with_reducible refine Kd.C_alloc ?_ _) | (with_reducible refine Kd.C_drewN ?_ _) | (with_reducible refine Kd.C_drew ?_))); (case side2 => exact HC0_2.out); rintro e w' ⟨rfl,⟨nd,rfl⟩⟩; refine ⟨_,rfl,?_⟩) | ((with_reducible refine gate_builtin (b := .append) (xs := #[.tmp 53,.tmp 55]) rfl ?_); at_builtin; refine Kd.R_append (Kd.int .i64) (w0 := w) w.heap.size rfl (.tmp 53) (.tmp 55) 38 2 (.int .i64 0) 8 rfl Tryd.underlying38 info2 rfl (by decide) (by omega) u9 x9_1 t153 [.int .i64 t153] (fun k_ => some k_ ≠ (u10 : Value).ownBlock) (fun _ => False) rfl rfl ?aP (fun _ hk => hk.elim) ?aF ?aO ?aB ?aS ?aL ?_; (case aP => exact rfl); (case aB => exact (by repeat (first | (with_reducible first | exact HB.out | apply below_alloc | apply pw_below_drewN | apply below_drew1 | refine below_set ?_ GE0.out) | exact HB.out))); (case aF => exact (fun k_ hk => Kd.fresh' (Kd.R_lt (by (with_reducible repeat (first | apply Kd.R_alloc | apply Kd.R_drewN | apply Kd.R_drew)); exact HO_10.out)) k_ hk)); (case aO => exact (by (with_reducible repeat (first | apply Kd.R_alloc | apply Kd.R_drewN | apply Kd.R_drew)); exact HO_9.out)); (case aS => exact (below_size (by repeat (first | (with_reducible first | exact HB.out | apply below_alloc | apply pw_below_drewN | apply below_drew1 | refine below_set ?_ GE0.out) | exact HB.out)))); (case aL => have := LMc36.out; omega); intro v168 w39 ho hb hg hat; rw [← Ny167.out] at ho; have n0_ := Aside0.mk (Kd.R_after (ok := (fun _ => True)) (by (with_reducible repeat (first | apply Kd.R_alloc | apply Kd.R_drewN | apply Kd.R_drew)); exact Kd.R_mono HO_10.out (fun _ hk => ⟨trivial,hk⟩)) hg hat); have n1_ := Aside0.mk (blk_grown (g := g0) (o := .cells #[.int .i64 a0_0,.int .i64 a0_1,.slice A0_2 l0_2.length c0_2,.slice A0_3 l0_3.length c0_3] 30 (0,0)) (by (with_reducible repeat (first | refine blk_drewN ?_ _ | refine blk_drew ?_ | refine blk_alloc ?_ _)); exact BK0.out) hg (Kd.R_ne HO_9.out BK0.out (by decide))); have n2_ := Aside0.mk (hb); have n3_ := Aside0.mk (ho); clear HO_10; clear BK0; clear HB; clear HO_9; have HO_10 := n0_; have BK0 := n1_; have HB := n2_; have HO169 := n3_; clear n0_ n1_ n2_ n3_; clear ho hb hg hat) | ((with_reducible refine gate_callee (f := 67) rfl ?_); refine goesL_ (some 59) rfl rfl Tryd.func67 (by kernel_rfl) rfl #[.int .i64 x1_1,.string (a2.extract (x12_1 : Int).toNat ((wrap64 (x12_1 + a0_1)) : Int).toNat)] rfl (by (try simp only [List.map_toArray,List.map_cons,List.map_nil]); first | done | rfl | (simp only [List.length_drop,List.length_take]; rfl)) ?_; (with_reducible refine (spec_l03Next.calls k1 x1_1 (a2.extract (x12_1 : Int).toNat ((wrap64 (x12_1 + a0_1)) : Int).toNat) t170 _ A37.out).mono ?_); rintro e w' ⟨rfl,⟨nd,rfl⟩⟩; refine ⟨_,rfl,?_⟩))
          go_roundg k1
          case measure => have := HK1.out; omega
          case rel => exact ⟨(t170),(y167),(x10_1),(wrap64 (x12_1 + a0_1)),(by first | rfl | (simp; done) | (simp [*]; done)),(by first | rfl | (simp; done) | (simp [*]; done)),H',⟨by have := HK1.out; omega⟩,⟨by (with_reducible repeat (first | apply Kd.R_alloc | apply Kd.R_drewN | apply Kd.R_drew)); exact HO169.out⟩,⟨by (with_reducible repeat (first | apply Kd.R_alloc | apply Kd.R_drewN | apply Kd.R_drew)); exact Kd.R_mono HO_10.out (fun _ hk => hk.2)⟩,⟨by (with_reducible repeat (first | refine blk_drewN ?_ _ | refine blk_drew ?_ | refine blk_alloc ?_ _)); exact BK0.out⟩,⟨by repeat (first | (with_reducible first | exact HB.out | apply below_alloc | apply pw_below_drewN | apply below_drew1 | refine below_set ?_ GE0.out) | exact HB.out)⟩⟩
         ·rw [if_neg c36] at H
          exact absurd H (by simp)
       ·rw [if_neg c13] at H
        have c13b0 : decide (x1_1 < 0) = false := decide_eq_false c13
        clear c13
        replace H := Option.bind_eq_some_iff.mp H
        obtain ⟨_,A400,H⟩ := H
        replace H : ((spec_l03Index.f k1 l0_3 (a2.extract (x12_1 : Int).toNat ((wrap64 (x12_1 + a0_1)) : Int).toNat)).bind fun t171 => (if t171 < 0 then (if a0_1 = 0 then (none) else (if x10_1.length < 17592186044416 then ((some (x10_1 ++ [wrap64 (Int.tdiv x12_1 a0_1)] : List Int)).bind fun y172 => (if (wrap64 (-x1_1)) < 0 then ((spec_l03List_neg.f a0_0 a0_1 l0_2 l0_3 (wrap64 (-x1_1))).bind fun _ => ((spec_l03Index.f k1 l0_2 (a2.extract (x12_1 : Int).toNat ((wrap64 (x12_1 + a0_1)) : Int).toNat)).bind fun t175 => (if x9_1.length < 17592186044416 then ((spec_l03Next.f k1 x1_1 (a2.extract (x12_1 : Int).toNat ((wrap64 (x12_1 + a0_1)) : Int).toNat)).bind fun t179 => (spec_l03Decode.l0 k1 t179 a2 (x9_1 ++ [t175]) y172 a0_1 (wrap64 (x12_1 + a0_1)) a0_0 a0_1 l0_2 l0_3)) else (none)))) else ((spec_l03List_pos.f a0_0 a0_1 l0_2 l0_3 (wrap64 (-x1_1))).bind fun _ => ((spec_l03Index.f k1 l0_3 (a2.extract (x12_1 : Int).toNat ((wrap64 (x12_1 + a0_1)) : Int).toNat)).bind fun t180 => (if x9_1.length < 17592186044416 then ((spec_l03Next.f k1 x1_1 (a2.extract (x12_1 : Int).toNat ((wrap64 (x12_1 + a0_1)) : Int).toNat)).bind fun t184 => (spec_l03Decode.l0 k1 t184 a2 (x9_1 ++ [t180]) y172 a0_1 (wrap64 (x12_1 + a0_1)) a0_0 a0_1 l0_2 l0_3)) else (none)))))) else (none))) else (if x9_1.length < 17592186044416 then ((spec_l03Next.f k1 x1_1 (a2.extract (x12_1 : Int).toNat ((wrap64 (x12_1 + a0_1)) : Int).toNat)).bind fun t188 => (spec_l03Decode.l0 k1 t188 a2 (x9_1 ++ [t171]) x10_1 a0_1 (wrap64 (x12_1 + a0_1)) a0_0 a0_1 l0_2 l0_3)) else (none)))) = some (r1,r2,r3) := H
        have A40 := Aside0.mk A400
        clear A400
        replace H := Option.bind_eq_some_iff.mp H
        obtain ⟨t171,A410,H⟩ := H
        replace H : (if t171 < 0 then (if a0_1 = 0 then (none) else (if x10_1.length < 17592186044416 then ((some (x10_1 ++ [wrap64 (Int.tdiv x12_1 a0_1)] : List Int)).bind fun y172 => (if (wrap64 (-x1_1)) < 0 then ((spec_l03List_neg.f a0_0 a0_1 l0_2 l0_3 (wrap64 (-x1_1))).bind fun _ => ((spec_l03Index.f k1 l0_2 (a2.extract (x12_1 : Int).toNat ((wrap64 (x12_1 + a0_1)) : Int).toNat)).bind fun t175 => (if x9_1.length < 17592186044416 then ((spec_l03Next.f k1 x1_1 (a2.extract (x12_1 : Int).toNat ((wrap64 (x12_1 + a0_1)) : Int).toNat)).bind fun t179 => (spec_l03Decode.l0 k1 t179 a2 (x9_1 ++ [t175]) y172 a0_1 (wrap64 (x12_1 + a0_1)) a0_0 a0_1 l0_2 l0_3)) else (none)))) else ((spec_l03List_pos.f a0_0 a0_1 l0_2 l0_3 (wrap64 (-x1_1))).bind fun _ => ((spec_l03Index.f k1 l0_3 (a2.extract (x12_1 : Int).toNat ((wrap64 (x12_1 + a0_1)) : Int).toNat)).bind fun t180 => (if x9_1.length < 17592186044416 then ((spec_l03Next.f k1 x1_1 (a2.extract (x12_1 : Int).toNat ((wrap64 (x12_1 + a0_1)) : Int).toNat)).bind fun t184 => (spec_l03Decode.l0 k1 t184 a2 (x9_1 ++ [t180]) y172 a0_1 (wrap64 (x12_1 + a0_1)) a0_0 a0_1 l0_2 l0_3)) else (none)))))) else (none))) else (if x9_1.length < 17592186044416 then ((spec_l03Next.f k1 x1_1 (a2.extract (x12_1 : Int).toNat ((wrap64 (x12_1 + a0_1)) : Int).toNat)).bind fun t188 => (spec_l03Decode.l0 k1 t188 a2 (x9_1 ++ [t171]) x10_1 a0_1 (wrap64 (x12_1 + a0_1)) a0_0 a0_1 l0_2 l0_3)) else (none))) = some (r1,r2,r3) := H
        have A41 := Aside0.mk A410
        clear A410
        by_cases c42 : t171 < 0
        ·rw [if_pos c42] at H
         have c42b0 : decide (t171 < 0) = true := decide_eq_true c42
         clear c42
         by_cases c43 : a0_1 = 0
         ·rw [if_pos c43] at H
          exact absurd H (by simp)
         ·rw [if_neg c43] at H
          have c43b0 : (a0_1 == 0) = false := beq_eq_false_iff_ne.mpr c43
          have c43b1 : (a0_1 != 0) = true := bne_iff_ne.mpr c43
          by_cases c44 : x10_1.length < 17592186044416
          ·rw [if_pos c44] at H
           have LMc44 := Aside0.mk c44
           clear c44
           obtain ⟨y172,hy172⟩ : ∃ y_ : List Int,y_ = (x10_1 ++ [wrap64 (Int.tdiv x12_1 a0_1)]) := ⟨_,rfl⟩
           replace H : (if (wrap64 (-x1_1)) < 0 then ((spec_l03List_neg.f a0_0 a0_1 l0_2 l0_3 (wrap64 (-x1_1))).bind fun _ => ((spec_l03Index.f k1 l0_2 (a2.extract (x12_1 : Int).toNat ((wrap64 (x12_1 + a0_1)) : Int).toNat)).bind fun t175 => (if x9_1.length < 17592186044416 then ((spec_l03Next.f k1 x1_1 (a2.extract (x12_1 : Int).toNat ((wrap64 (x12_1 + a0_1)) : Int).toNat)).bind fun t179 => (spec_l03Decode.l0 k1 t179 a2 (x9_1 ++ [t175]) y172 a0_1 (wrap64 (x12_1 + a0_1)) a0_0 a0_1 l0_2 l0_3)) else (none)))) else ((spec_l03List_pos.f a0_0 a0_1 l0_2 l0_3 (wrap64 (-x1_1))).bind fun _ => ((spec_l03Index.f k1 l0_3 (a2.extract (x12_1 : Int).toNat ((wrap64 (x12_1 + a0_1)) : Int).toNat)).bind fun t180 => (if x9_1.length < 17592186044416 then ((spec_l03Next.f k1 x1_1 (a2.extract (x12_1 : Int).toNat ((wrap64 (x12_1 + a0_1)) : Int).toNat)).bind fun t184 => (spec_l03Decode.l0 k1 t184 a2 (x9_1 ++ [t180]) y172 a0_1 (wrap64 (x12_1 + a0_1)) a0_0 a0_1 l0_2 l0_3)) else (none))))) = some (r1,r2,r3) := by first | (rw [hy172]; with_reducible exact H) | (have H2_ := (Option.bind_some _ _).symm.trans H; rw [hy172]; with_reducible exact H2_) | (have H2_ := (Option.bind_some _ _).symm.trans H; with_reducible exact H2_) | with_reducible exact H | (rw [hy172]; exact H) | exact H
           have Ny172 := Aside0.mk hy172
           clear hy172
           by_cases c45 : (wrap64 (-x1_1)) < 0
           ·rw [if_pos c45] at H
            have c45b0 : decide ((wrap64 (-x1_1)) < 0) = true := decide_eq_true c45
            clear c45
            replace H := Option.bind_eq_some_iff.mp H
            obtain ⟨_,A460,H⟩ := H
            replace H : ((spec_l03Index.f k1 l0_2 (a2.extract (x12_1 : Int).toNat ((wrap64 (x12_1 + a0_1)) : Int).toNat)).bind fun t175 => (if x9_1.length < 17592186044416 then ((spec_l03Next.f k1 x1_1 (a2.extract (x12_1 : Int).toNat ((wrap64 (x12_1 + a0_1)) : Int).toNat)).bind fun t179 => (spec_l03Decode.l0 k1 t179 a2 (x9_1 ++ [t175]) y172 a0_1 (wrap64 (x12_1 + a0_1)) a0_0 a0_1 l0_2 l0_3)) else (none))) = some (r1,r2,r3) := H
            have A46 := Aside0.mk A460
            clear A460
            replace H := Option.bind_eq_some_iff.mp H
            obtain ⟨t175,A470,H⟩ := H
            replace H : (if x9_1.length < 17592186044416 then ((spec_l03Next.f k1 x1_1 (a2.extract (x12_1 : Int).toNat ((wrap64 (x12_1 + a0_1)) : Int).toNat)).bind fun t179 => (spec_l03Decode.l0 k1 t179 a2 (x9_1 ++ [t175]) y172 a0_1 (wrap64 (x12_1 + a0_1)) a0_0 a0_1 l0_2 l0_3)) else (none)) = some (r1,r2,r3) := H
            have A47 := Aside0.mk A470
            clear A470
            by_cases c48 : x9_1.length < 17592186044416
            ·rw [if_pos c48] at H
             have LMc48 := Aside0.mk c48
             clear c48
             obtain ⟨y176,hy176⟩ : ∃ y_ : List Int,y_ = (x9_1 ++ [t175]) := ⟨_,rfl⟩
             replace H : ((spec_l03Next.f k1 x1_1 (a2.extract (x12_1 : Int).toNat ((wrap64 (x12_1 + a0_1)) : Int).toNat)).bind fun t179 => (spec_l03Decode.l0 k1 t179 a2 y176 y172 a0_1 (wrap64 (x12_1 + a0_1)) a0_0 a0_1 l0_2 l0_3)) = some (r1,r2,r3) := by first | (rw [hy176]; with_reducible exact H) | (have H2_ := (Option.bind_some _ _).symm.trans H; rw [hy176]; with_reducible exact H2_) | (have H2_ := (Option.bind_some _ _).symm.trans H; with_reducible exact H2_) | with_reducible exact H | (rw [hy176]; exact H) | exact H
             have Ny176 := Aside0.mk hy176
             clear hy176
             replace H := Option.bind_eq_some_iff.mp H
             obtain ⟨t179,A490,H⟩ := H
             replace H : (spec_l03Decode.l0 k1 t179 a2 y176 y172 a0_1 (wrap64 (x12_1 + a0_1)) a0_0 a0_1 l0_2 l0_3) = some (r1,r2,r3) := H
             have A49 := Aside0.mk A490
             clear A490
             have H' := Aside0.mk H
             clear H
             go_wp2_with (first | ((with_reducible refine gate_callee (f := 52) rfl ?_); refine goesL_ (some 36) rfl rfl Tryd.func52 (by kernel_rfl) rfl #[.pointer (some ⟨g0,0,none⟩),.int .i64 x1_1] rfl (by (try simp only [List.map_toArray,List.map_cons,List.map_nil]); first | done | rfl | (simp only [List.length_drop,List.length_take]; rfl)) ?_; (with_reducible refine (spec_l03List_pos.calls g0 a0_0 a0_1 A0_2 c0_2 l0_2 A0_3 c0_3 l0_3 x1_1  _ ?side1 ?side2 ?side3 ?side4 ?side5 A40.out).mono ?_); (case side1 => exact by (with_reducible repeat (first | refine blk_drewN ?_ _ | refine blk_drew ?_ | refine blk_alloc ?_ _)); exact BK0.out); (case side2 => repeat (first | exact (Kd.C_below HR0_2.out HB.out) | (with_reducible refine Kd.C_alloc ?_ _) | (with_reducible refine Kd.C_drewN ?_ _) | (with_reducible refine Kd.C_drew ?_))); (case side3 => exact HC0_2.out); (case side4 => repeat (first | exact (Kd.C_below HR0_3.out HB.out) | (with_reducible refine Kd.C_alloc ?_ _) | (with_reducible refine Kd.C_drewN ?_ _) | (with_reducible refine Kd.C_drew ?_))); (case side5 => exact HC0_3.out); rintro e w50 ⟨rfl,hb⟩; refine ⟨_,rfl,?_⟩; have n0_ := Aside0.mk (Kd.R_below (by (with_reducible repeat (first | apply Kd.R_alloc | apply Kd.R_drewN | apply Kd.R_drew)); exact HO_9.out) hb); have n1_ := Aside0.mk (Kd.R_below (by (with_reducible repeat (first | apply Kd.R_alloc | apply Kd.R_drewN | apply Kd.R_drew)); exact HO_10.out) hb); have n2_ := Aside0.mk (blk_below (g := g0) (o := .cells #[.int .i64 a0_0,.int .i64 a0_1,.slice A0_2 l0_2.length c0_2,.slice A0_3 l0_3.length c0_3] 30 (0,0)) (by (with_reducible repeat (first | refine blk_drewN ?_ _ | refine blk_drew ?_ | refine blk_alloc ?_ _)); exact BK0.out) hb); have n3_ := Aside0.mk (below_step (by repeat (first | (with_reducible first | exact HB.out | apply below_alloc | apply pw_below_drewN | apply below_drew1 | refine below_set ?_ GE0.out) | exact HB.out)) hb); clear HO_9; clear HO_10; clear BK0; clear HB; have HO_9 := n0_; have HO_10 := n1_; have BK0 := n2_; have HB := n3_; clear n0_ n1_ n2_ n3_; (try clear hb); (try clear hb2); (try clear hk); (try clear hi)) | ((with_reducible refine gate_callee (f := 81) rfl ?_); refine goesL_ (some 38) rfl rfl Tryd.func81 (by kernel_rfl) rfl #[.slice A0_3 l0_3.length c0_3,.string (a2.extract (x12_1 : Int).toNat ((wrap64 (x12_1 + a0_1)) : Int).toNat)] rfl (by (try simp only [List.map_toArray,List.map_cons,List.map_nil]); first | done | rfl | (simp only [List.length_drop,List.length_take]; rfl)) ?_; (with_reducible refine (spec_l03Index.calls k1 _ _ l0_3 (a2.extract (x12_1 : Int).toNat ((wrap64 (x12_1 + a0_1)) : Int).toNat) t171 _ ?side1 ?side2 A41.out).mono ?_); (case side1 => repeat (first | exact (Kd.C_below HR0_3.out HB.out) | (with_reducible refine Kd.C_alloc ?_ _) | (with_reducible refine Kd.C_drewN ?_ _) | (with_reducible refine Kd.C_drew ?_))); (case side2 => exact HC0_3.out); rintro e w' ⟨rfl,⟨nd,rfl⟩⟩; refine ⟨_,rfl,?_⟩) | ((with_reducible refine gate_builtin (b := .append) (xs := #[.tmp 41,.tmp 45]) rfl ?_); at_builtin; refine Kd.R_append (Kd.int .i64) (w0 := w) w.heap.size rfl (.tmp 41) (.tmp 45) 38 2 (.int .i64 0) 8 rfl Tryd.underlying38 info2 rfl (by decide) (by omega) u10 x10_1 (wrap64 (Int.tdiv x12_1 a0_1)) [.int .i64 (wrap64 (Int.tdiv x12_1 a0_1))] (fun k_ => some k_ ≠ (u9 : Value).ownBlock) (fun _ => False) rfl rfl ?aP (fun _ hk => hk.elim) ?aF ?aO ?aB ?aS ?aL ?_; (case aP => exact rfl); (case aB => exact (by repeat (first | (with_reducible first | exact HB.out | apply below_alloc | apply pw_below_drewN | apply below_drew1 | refine below_set ?_ GE0.out) | exact HB.out))); (case aF => exact (fun k_ hk => Kd.fresh' (Kd.R_lt (by (with_reducible repeat (first | apply Kd.R_alloc | apply Kd.R_drewN | apply Kd.R_drew)); exact HO_9.out)) k_ hk)); (case aO => exact (by (with_reducible repeat (first | apply Kd.R_alloc | apply Kd.R_drewN | apply Kd.R_drew)); exact HO_10.out)); (case aS => exact (below_size (by repeat (first | (with_reducible first | exact HB.out | apply below_alloc | apply pw_below_drewN | apply below_drew1 | refine below_set ?_ GE0.out) | exact HB.out)))); (case aL => have := LMc44.out; omega); intro v173 w51 ho hb hg hat; rw [← Ny172.out] at ho; have n0_ := Aside0.mk (Kd.R_after (ok := (fun _ => True)) (by (with_reducible repeat (first | apply Kd.R_alloc | apply Kd.R_drewN | apply Kd.R_drew)); exact Kd.R_mono HO_9.out (fun _ hk => ⟨trivial,hk⟩)) hg hat); have n1_ := Aside0.mk (blk_grown (g := g0) (o := .cells #[.int .i64 a0_0,.int .i64 a0_1,.slice A0_2 l0_2.length c0_2,.slice A0_3 l0_3.length c0_3] 30 (0,0)) (by (with_reducible repeat (first | refine blk_drewN ?_ _ | refine blk_drew ?_ | refine blk_alloc ?_ _)); exact BK0.out) hg (Kd.R_ne HO_10.out BK0.out (by decide))); have n2_ := Aside0.mk (hb); have n3_ := Aside0.mk (ho); clear HO_9; clear BK0; clear HB; clear HO_10; have HO_9 := n0_; have BK0 := n1_; have HB := n2_; have HO174 := n3_; clear n0_ n1_ n2_ n3_; clear ho hb hg hat) | ((with_reducible refine gate_callee (f := 52) rfl ?_); refine goesL_ (some 50) rfl rfl Tryd.func52 (by kernel_rfl) rfl #[.pointer (some ⟨g0,0,none⟩),.int .i64 (wrap64 (-x1_1))] rfl (by (try simp only [List.map_toArray,List.map_cons,List.map_nil]); first | done | rfl | (simp only [List.length_drop,List.length_take]; rfl)) ?_; (with_reducible refine (spec_l03List_neg.calls g0 a0_0 a0_1 A0_2 c0_2 l0_2 A0_3 c0_3 l0_3 (wrap64 (-x1_1))  _ ?side1 ?side2 ?side3 ?side4 ?side5 A46.out).mono ?_); (case side1 => exact by (with_reducible repeat (first | refine blk_drewN ?_ _ | refine blk_drew ?_ | refine blk_alloc ?_ _)); exact BK0.out); (case side2 => repeat (first | exact (Kd.C_below HR0_2.out HB.out) | (with_reducible refine Kd.C_alloc ?_ _) | (with_reducible refine Kd.C_drewN ?_ _) | (with_reducible refine Kd.C_drew ?_))); (case side3 => exact HC0_2.out); (case side4 => repeat (first | exact (Kd.C_below HR0_3.out HB.out) | (with_reducible refine Kd.C_alloc ?_ _) | (with_reducible refine Kd.C_drewN ?_ _) | (with_reducible refine Kd.C_drew ?_))); (case side5 => exact HC0_3.out); rintro e w52 ⟨rfl,hb⟩; refine ⟨_,rfl,?_⟩; have n0_ := Aside0.mk (Kd.R_below (by (with_reducible repeat (first | apply Kd.R_alloc | apply Kd.R_drewN | apply Kd.R_drew)); exact HO_9.out) hb); have n1_ := Aside0.mk (Kd.R_below (by (with_reducible repeat (first | apply Kd.R_alloc | apply Kd.R_drewN | apply Kd.R_drew)); exact HO174.out) hb); have n2_ := Aside0.mk (blk_below (g := g0) (o := .cells #[.int .i64 a0_0,.int .i64 a0_1,.slice A0_2 l0_2.length c0_2,.slice A0_3 l0_3.length c0_3] 30 (0,0)) (by (with_reducible repeat (first | refine blk_drewN ?_ _ | refine blk_drew ?_ | refine blk_alloc ?_ _)); exact BK0.out) hb); have n3_ := Aside0.mk (below_step (by repeat (first | (with_reducible first | exact HB.out | apply below_alloc | apply pw_below_drewN | apply below_drew1 | refine below_set ?_ GE0.out) | exact HB.out)) hb); clear HO_9; clear HO174; clear BK0; clear HB; have HO_9 := n0_; have HO174 := n1_; have BK0 := n2_; have HB := n3_; clear n0_ n1_ n2_ n3_; (try clear hb); (try clear hb2); (try clear hk); (try clear hi)) | ((with_reducible refine gate_callee (f := 81) rfl ?_); refine goesL_ (some 52) rfl rfl Tryd.func81 (by kernel_rfl) rfl #[.slice A0_2 l0_2.length c0_2,.string (a2.extract (x12_1 : Int).toNat ((wrap64 (x12_1 + a0_1)) : Int).toNat)] rfl (by (try simp only [List.map_toArray,List.map_cons,List.map_nil]); first | done | rfl | (simp only [List.length_drop,List.length_take]; rfl)) ?_; (with_reducible refine (spec_l03Index.calls k1 _ _ l0_2 (a2.extract (x12_1 : Int).toNat ((wrap64 (x12_1 + a0_1)) : Int).toNat) t175 _ ?side1 ?side2 A47.out).mono ?_); (case side1 => repeat (first | exact (Kd.C_below HR0_2.out HB.out) | (with_reducible refine Kd.C_alloc ?_ _) | (with_reducible refine Kd.C_drewN ?_ _) | (with_reducible refine Kd.C_drew ?_))); (case side2 => exact HC0_2.out); rintro e w' ⟨rfl,⟨nd,rfl⟩⟩; refine ⟨_,rfl,?_⟩) | ((with_reducible refine gate_builtin (b := .append) (xs := #[.tmp 53,.tmp 55]) rfl ?_); at_builtin; refine Kd.R_append (Kd.int .i64) (w0 := w) w.heap.size rfl (.tmp 53) (.tmp 55) 38 2 (.int .i64 0) 8 rfl Tryd.underlying38 info2 rfl (by decide) (by omega) u9 x9_1 t175 [.int .i64 t175] (fun k_ => some k_ ≠ (v173 : Value).ownBlock) (fun _ => False) rfl rfl ?aP (fun _ hk => hk.elim) ?aF ?aO ?aB ?aS ?aL ?_; (case aP => exact rfl); (case aB => exact (by repeat (first | (with_reducible first | exact HB.out | apply below_alloc | apply pw_below_drewN | apply below_drew1 | refine below_set ?_ GE0.out) | exact HB.out))); (case aF => exact (fun k_ hk => Kd.fresh' (Kd.R_lt (by (with_reducible repeat (first | apply Kd.R_alloc | apply Kd.R_drewN | apply Kd.R_drew)); exact HO174.out)) k_ hk)); (case aO => exact (by (with_reducible repeat (first | apply Kd.R_alloc | apply Kd.R_drewN | apply Kd.R_drew)); exact Kd.R_mono HO_9.out (fun _ hk => hk.2))); (case aS => exact (below_size (by repeat (first | (with_reducible first | exact HB.out | apply below_alloc | apply pw_below_drewN | apply below_drew1 | refine below_set ?_ GE0.out) | exact HB.out)))); (case aL => have := LMc48.out; omega); intro v177 w53 ho hb hg hat; rw [← Ny176.out] at ho; have n0_ := Aside0.mk (blk_grown (g := g0) (o := .cells #[.int .i64 a0_0,.int .i64 a0_1,.slice A0_2 l0_2.length c0_2,.slice A0_3 l0_3.length c0_3] 30 (0,0)) (by (with_reducible repeat (first | refine blk_drewN ?_ _ | refine blk_drew ?_ | refine blk_alloc ?_ _)); exact BK0.out) hg (Kd.R_ne HO_9.out BK0.out (by decide))); have n1_ := Aside0.mk (Kd.R_after (ok := (fun _ => True)) (by (with_reducible repeat (first | apply Kd.R_alloc | apply Kd.R_drewN | apply Kd.R_drew)); exact Kd.R_mono HO174.out (fun _ hk => ⟨trivial,hk⟩)) hg hat); have n2_ := Aside0.mk (hb); have n3_ := Aside0.mk (ho); clear BK0; clear HO174; clear HB; clear HO_9; have BK0 := n0_; have HO174 := n1_; have HB := n2_; have HO178 := n3_; clear n0_ n1_ n2_ n3_; clear ho hb hg hat) | ((with_reducible refine gate_callee (f := 67) rfl ?_); refine goesL_ (some 59) rfl rfl Tryd.func67 (by kernel_rfl) rfl #[.int .i64 x1_1,.string (a2.extract (x12_1 : Int).toNat ((wrap64 (x12_1 + a0_1)) : Int).toNat)] rfl (by (try simp only [List.map_toArray,List.map_cons,List.map_nil]); first | done | rfl | (simp only [List.length_drop,List.length_take]; rfl)) ?_; (with_reducible refine (spec_l03Next.calls k1 x1_1 (a2.extract (x12_1 : Int).toNat ((wrap64 (x12_1 + a0_1)) : Int).toNat) t179 _ A49.out).mono ?_); rintro e w' ⟨rfl,⟨nd,rfl⟩⟩; refine ⟨_,rfl,?_⟩))
             go_roundg k1
             case measure => have := HK1.out; omega
             case rel => exact ⟨(t179),(y176),(y172),(wrap64 (x12_1 + a0_1)),(by first | rfl | (simp; done) | (simp [*]; done)),(by first | rfl | (simp; done) | (simp [*]; done)),H',⟨by have := HK1.out; omega⟩,⟨by (with_reducible repeat (first | apply Kd.R_alloc | apply Kd.R_drewN | apply Kd.R_drew)); exact HO178.out⟩,⟨by (with_reducible repeat (first | apply Kd.R_alloc | apply Kd.R_drewN | apply Kd.R_drew)); exact Kd.R_mono HO174.out (fun _ hk => hk.2)⟩,⟨by (with_reducible repeat (first | refine blk_drewN ?_ _ | refine blk_drew ?_ | refine blk_alloc ?_ _)); exact BK0.out⟩,⟨by repeat (first | (with_reducible first | exact HB.out | apply below_alloc | apply pw_below_drewN | apply below_drew1 | refine below_set ?_ GE0.out) | exact HB.out)⟩⟩
            ·rw [if_neg c48] at H
             exact absurd H (by simp)
           ·rw [if_neg c45] at H
            have c45b0 : decide ((wrap64 (-x1_1)) < 0) = false := decide_eq_false c45
            clear c45
            replace H := Option.bind_eq_some_iff.mp H
            obtain ⟨_,A540,H⟩ := H
            replace H : ((spec_l03Index.f k1 l0_3 (a2.extract (x12_1 : Int).toNat ((wrap64 (x12_1 + a0_1)) : Int).toNat)).bind fun t180 => (if x9_1.length < 17592186044416 then ((spec_l03Next.f k1 x1_1 (a2.extract (x12_1 : Int).toNat ((wrap64 (x12_1 + a0_1)) : Int).toNat)).bind fun t184 => (spec_l03Decode.l0 k1 t184 a2 (x9_1 ++ [t180]) y172 a0_1 (wrap64 (x12_1 + a0_1)) a0_0 a0_1 l0_2 l0_3)) else (none))) = some (r1,r2,r3) := H
            have A54 := Aside0.mk A540
            clear A540
            replace H := Option.bind_eq_some_iff.mp H
            obtain ⟨t180,A550,H⟩ := H
            replace H : (if x9_1.length < 17592186044416 then ((spec_l03Next.f k1 x1_1 (a2.extract (x12_1 : Int).toNat ((wrap64 (x12_1 + a0_1)) : Int).toNat)).bind fun t184 => (spec_l03Decode.l0 k1 t184 a2 (x9_1 ++ [t180]) y172 a0_1 (wrap64 (x12_1 + a0_1)) a0_0 a0_1 l0_2 l0_3)) else (none)) = some (r1,r2,r3) := H
            have A55 := Aside0.mk A550
            clear A550
            by_cases c56 : x9_1.length < 17592186044416
            ·rw [if_pos c56] at H
             have LMc56 := Aside0.mk c56
             clear c56
             obtain ⟨y181,hy181⟩ : ∃ y_ : List Int,y_ = (x9_1 ++ [t180]) := ⟨_,rfl⟩
             replace H : ((spec_l03Next.f k1 x1_1 (a2.extract (x12_1 : Int).toNat ((wrap64 (x12_1 + a0_1)) : Int).toNat)).bind fun t184 => (spec_l03Decode.l0 k1 t184 a2 y181 y172 a0_1 (wrap64 (x12_1 + a0_1)) a0_0 a0_1 l0_2 l0_3)) = some (r1,r2,r3) := by first | (rw [hy181]; with_reducible exact H) | (have H2_ := (Option.bind_some _ _).symm.trans H; rw [hy181]; with_reducible exact H2_) | (have H2_ := (Option.bind_some _ _).symm.trans H; with_reducible exact H2_) | with_reducible exact H | (rw [hy181]; exact H) | exact H
             have Ny181 := Aside0.mk hy181
             clear hy181
             replace H := Option.bind_eq_some_iff.mp H
             obtain ⟨t184,A570,H⟩ := H
             replace H : (spec_l03Decode.l0 k1 t184 a2 y181 y172 a0_1 (wrap64 (x12_1 + a0_1)) a0_0 a0_1 l0_2 l0_3) = some (r1,r2,r3) := H
             have A57 := Aside0.mk A570
             clear A570
             have H' := Aside0.mk H
             clear H
             go_wp2_with (first | ((with_reducible refine gate_callee (f := 52) rfl ?_); refine goesL_ (some 36) rfl rfl Tryd.func52 (by kernel_rfl) rfl #[.pointer (some ⟨g0,0,none⟩),.int .i64 x1_1] rfl (by (try simp only [List.map_toArray,List.map_cons,List.map_nil]); first | done | rfl | (simp only [List.length_drop,List.length_take]; rfl)) ?_; (with_reducible refine (spec_l03List_pos.calls g0 a0_0 a0_1 A0_2 c0_2 l0_2 A0_3 c0_3 l0_3 x1_1  _ ?side1 ?side2 ?side3 ?side4 ?side5 A40.out).mono ?_); (case side1 => exact by (with_reducible repeat (first | refine blk_drewN ?_ _ | refine blk_drew ?_ | refine blk_alloc ?_ _)); exact BK0.out); (case side2 => repeat (first | exact (Kd.C_below HR0_2.out HB.out) | (with_reducible refine Kd.C_alloc ?_ _) | (with_reducible refine Kd.C_drewN ?_ _) | (with_reducible refine Kd.C_drew ?_))); (case side3 => exact HC0_2.out); (case side4 => repeat (first | exact (Kd.C_below HR0_3.out HB.out) | (with_reducible refine Kd.C_alloc ?_ _) | (with_reducible refine Kd.C_drewN ?_ _) | (with_reducible refine Kd.C_drew ?_))); (case side5 => exact HC0_3.out); rintro e w58 ⟨rfl,hb⟩; refine ⟨_,rfl,?_⟩; have n0_ := Aside0.mk (Kd.R_below (by (with_reducible repeat (first | apply Kd.R_alloc | apply Kd.R_drewN | apply Kd.R_drew)); exact HO_9.out) hb); have n1_ := Aside0.mk (Kd.R_below (by (with_reducible repeat (first | apply Kd.R_alloc | apply Kd.R_drewN | apply Kd.R_drew)); exact HO_10.out) hb); have n2_ := Aside0.mk (blk_below (g := g0) (o := .cells #[.int .i64 a0_0,.int .i64 a0_1,.slice A0_2 l0_2.length c0_2,.slice A0_3 l0_3.length c0_3] 30 (0,0)) (by (with_reducible repeat (first | refine blk_drewN ?_ _ | refine blk_drew ?_ | refine blk_alloc ?_ _)); exact BK0.out) hb); have n3_ := Aside0.mk (below_step (by repeat (first | (with_reducible first | exact HB.out | apply below_alloc | apply pw_below_drewN | apply below_drew1 | refine below_set ?_ GE0.out) | exact HB.out)) hb); clear HO_9; clear HO_10; clear BK0; clear HB; have HO_9 := n0_; have HO_10 := n1_; have BK0 := n2_; have HB := n3_; clear n0_ n1_ n2_ n3_; (try clear hb); (try clear hb2); (try clear hk); (try clear hi)) | ((with_reducible refine gate_callee (f := 81) rfl ?_); refine goesL_ (some 38) rfl rfl Tryd.func81 (by kernel_rfl) rfl #[.slice A0_3 l0_3.length c0_3,.string (a2.extract (x12_1 : Int).toNat ((wrap64 (x12_1 + a0_1)) : Int).toNat)] rfl (by (try simp only [List.map_toArray,List.map_cons,List.map_nil]); first | done | rfl | (simp only [List.length_drop,List.length_take]; rfl)) ?_; (with_reducible refine (spec_l03Index.calls k1 _ _ l0_3 (a2.extract (x12_1 : Int).toNat ((wrap64 (x12_1 + a0_1)) : Int).toNat) t171 _ ?side1 ?side2 A41.out).mono ?_); (case side1 => repeat (first | exact (Kd.C_below HR0_3.out HB.out) | (with_reducible refine Kd.C_alloc ?_ _) | (with_reducible refine Kd.C_drewN ?_ _) | (with_reducible refine Kd.C_drew ?_))); (case side2 => exact HC0_3.out); rintro e w' ⟨rfl,⟨nd,rfl⟩⟩; refine ⟨_,rfl,?_⟩) | ((with_reducible refine gate_builtin (b := .append) (xs := #[.tmp 41,.tmp 45]) rfl ?_); at_builtin; refine Kd.R_append (Kd.int .i64) (w0 := w) w.heap.size rfl (.tmp 41) (.tmp 45) 38 2 (.int .i64 0) 8 rfl Tryd.underlying38 info2 rfl (by decide) (by omega) u10 x10_1 (wrap64 (Int.tdiv x12_1 a0_1)) [.int .i64 (wrap64 (Int.tdiv x12_1 a0_1))] (fun k_ => some k_ ≠ (u9 : Value).ownBlock) (fun _ => False) rfl rfl ?aP (fun _ hk => hk.elim) ?aF ?aO ?aB ?aS ?aL ?_; (case aP => exact rfl); (case aB => exact (by repeat (first | (with_reducible first | exact HB.out | apply below_alloc | apply pw_below_drewN | apply below_drew1 | refine below_set ?_ GE0.out) | exact HB.out))); (case aF => exact (fun k_ hk => Kd.fresh' (Kd.R_lt (by (with_reducible repeat (first | apply Kd.R_alloc | apply Kd.R_drewN | apply Kd.R_drew)); exact HO_9.out)) k_ hk)); (case aO => exact (by (with_reducible repeat (first | apply Kd.R_alloc | apply Kd.R_drewN | apply Kd.R_drew)); exact HO_10.out)); (case aS => exact (below_size (by repeat (first | (with_reducible first | exact HB.out | apply below_alloc | apply pw_below_drewN | apply below_drew1 | refine below_set ?_ GE0.out) | exact HB.out)))); (case aL => have := LMc44.out; omega); intro v173 w59 ho hb hg hat; rw [← Ny172.out] at ho; have n0_ := Aside0.mk (Kd.R_after (ok := (fun _ => True)) (by (with_reducible repeat (first | apply Kd.R_alloc | apply Kd.R_drewN | apply Kd.R_drew)); exact Kd.R_mono HO_9.out (fun _ hk => ⟨trivial,hk⟩)) hg hat); have n1_ := Aside0.mk (blk_grown (g := g0) (o := .cells #[.int .i64 a0_0,.int .i64 a0_1,.slice A0_2 l0_2.length c0_2,.slice A0_3 l0_3.length c0_3] 30 (0,0)) (by (with_reducible repeat (first | refine blk_drewN ?_ _ | refine blk_drew ?_ | refine blk_alloc ?_ _)); exact BK0.out) hg (Kd.R_ne HO_10.out BK0.out (by decide))); have n2_ := Aside0.mk (hb); have n3_ := Aside0.mk (ho); clear HO_9; clear BK0; clear HB; clear HO_10; have HO_9 := n0_; have BK0 := n1_; have HB := n2_; have HO174 := n3_; clear n0_ n1_ n2_ n3_; clear ho hb hg hat) | ((with_reducible refine gate_callee (f := 52) rfl ?_); refine goesL_ (some 50) rfl rfl Tryd.func52 (by kernel_rfl) rfl #[.pointer (some ⟨g0,0,none⟩),.int .i64 (wrap64 (-x1_1))] rfl (by (try simp only [List.map_toArray,List.map_cons,List.map_nil]); first | done | rfl | (simp only [List.length_drop,List.length_take]; rfl)) ?_; (with_reducible refine (spec_l03List_pos.calls g0 a0_0 a0_1 A0_2 c0_2 l0_2 A0_3 c0_3 l0_3 (wrap64 (-x1_1))  _ ?side1 ?side2 ?side3 ?side4 ?side5 A54.out).mono ?_); (case side1 => exact by (with_reducible repeat (first | refine blk_drewN ?_ _ | refine blk_drew ?_ | refine blk_alloc ?_ _)); exact BK0.out); (case side2 => repeat (first | exact (Kd.C_below HR0_2.out HB.out) | (with_reducible refine Kd.C_alloc ?_ _) | (with_reducible refine Kd.C_drewN ?_ _) | (with_reducible refine Kd.C_drew ?_))); (case side3 => exact HC0_2.out); (case side4 => repeat (first | exact (Kd.C_below HR0_3.out HB.out) | (with_reducible refine Kd.C_alloc ?_ _) | (with_reducible refine Kd.C_drewN ?_ _) | (with_reducible refine Kd.C_drew ?_))); (case side5 => exact HC0_3.out); rintro e w60 ⟨rfl,hb⟩; refine ⟨_,rfl,?_⟩; have n0_ := Aside0.mk (Kd.R_below (by (with_reducible repeat (first | apply Kd.R_alloc | apply Kd.R_drewN | apply Kd.R_drew)); exact HO_9.out) hb); have n1_ := Aside0.mk (Kd.R_below (by (with_reducible repeat (first | apply Kd.R_alloc | apply Kd.R_drewN | apply Kd.R_drew)); exact HO174.out) hb); have n2_ := Aside0.mk (blk_below (g := g0) (o := .cells #[.int .i64 a0_0,.int .i64 a0_1,.slice A0_2 l0_2.length c0_2,.slice A0_3 l0_3.length c0_3] 30 (0,0)) (by (with_reducible repeat (first | refine blk_drewN ?_ _ | refine blk_drew ?_ | refine blk_alloc ?_ _)); exact BK0.out) hb); have n3_ := Aside0.mk (below_step (by repeat (first | (with_reducible first | exact HB.out | apply below_alloc | apply pw_below_drewN | apply below_drew1 | refine below_set ?_ GE0.out) | exact HB.out)) hb); clear HO_9; clear HO174; clear BK0; clear HB; have HO_9 := n0_; have HO174 := n1_; have BK0 := n2_; have HB := n3_; clear n0_ n1_ n2_ n3_; (try clear hb); (try clear hb2); (try clear hk); (try clear hi)) | ((with_reducible refine gate_callee (f := 81) rfl ?_); refine goesL_ (some 52) rfl rfl Tryd.func81 (by kernel_rfl) rfl #[.slice A0_3 l0_3.length c0_3,.string (a2.extract (x12_1 : Int).toNat ((wrap64 (x12_1 + a0_1)) : Int).toNat)] rfl (by (try simp only [List.map_toArray,List.map_cons,List.map_nil]); first | done | rfl | (simp only [List.length_drop,List.length_take]; rfl)) ?_; (with_reducible refine (spec_l03Index.calls k1 _ _ l0_3 (a2.extract (x12_1 : Int).toNat ((wrap64 (x12_1 + a0_1)) : Int).toNat) t180 _ ?side1 ?side2 A55.out).mono ?_); (case side1 => repeat (first | exact (Kd.C_below HR0_3.out HB.out) | (with_reducible refine Kd.C_alloc ?_ _) | (with_reducible refine Kd.C_drewN ?_ _) | (with_reducible refine Kd.C_drew ?_))); (case side2 => exact HC0_3.out); rintro e w' ⟨rfl,⟨nd,rfl⟩⟩; refine ⟨_,rfl,?_⟩) | ((with_reducible refine gate_builtin (b := .append) (xs := #[.tmp 53,.tmp 55]) rfl ?_); at_builtin; refine Kd.R_append (Kd.int .i64) (w0 := w) w.heap.size rfl (.tmp 53) (.tmp 55) 38 2 (.int .i64 0) 8 rfl Tryd.underlying38 info2 rfl (by decide) (by omega) u9 x9_1 t180 [.int .i64 t180] (fun k_ => some k_ ≠ (v173 : Value).ownBlock) (fun _ => False) rfl rfl ?aP (fun _ hk => hk.elim) ?aF ?aO ?aB ?aS ?aL ?_; (case aP => exact rfl); (case aB => exact (by repeat (first | (with_reducible first | exact HB.out | apply below_alloc | apply pw_below_drewN | apply below_drew1 | refine below_set ?_ GE0.out) | exact HB.out))); (case aF => exact (fun k_ hk => Kd.fresh' (Kd.R_lt (by (with_reducible repeat (first | apply Kd.R_alloc | apply Kd.R_drewN | apply Kd.R_drew)); exact HO174.out)) k_ hk)); (case aO => exact (by (with_reducible repeat (first | apply Kd.R_alloc | apply Kd.R_drewN | apply Kd.R_drew)); exact Kd.R_mono HO_9.out (fun _ hk => hk.2))); (case aS => exact (below_size (by repeat (first | (with_reducible first | exact HB.out | apply below_alloc | apply pw_below_drewN | apply below_drew1 | refine below_set ?_ GE0.out) | exact HB.out)))); (case aL => have := LMc56.out; omega); intro v182 w61 ho hb hg hat; rw [← Ny181.out] at ho; have n0_ := Aside0.mk (blk_grown (g := g0) (o := .cells #[.int .i64 a0_0,.int .i64 a0_1,.slice A0_2 l0_2.length c0_2,.slice A0_3 l0_3.length c0_3] 30 (0,0)) (by (with_reducible repeat (first | refine blk_drewN ?_ _ | refine blk_drew ?_ | refine blk_alloc ?_ _)); exact BK0.out) hg (Kd.R_ne HO_9.out BK0.out (by decide))); have n1_ := Aside0.mk (Kd.R_after (ok := (fun _ => True)) (by (with_reducible repeat (first | apply Kd.R_alloc | apply Kd.R_drewN | apply Kd.R_drew)); exact Kd.R_mono HO174.out (fun _ hk => ⟨trivial,hk⟩)) hg hat); have n2_ := Aside0.mk (hb); have n3_ := Aside0.mk (ho); clear BK0; clear HO174; clear HB; clear HO_9; have BK0 := n0_; have HO174 := n1_; have HB := n2_; have HO183 := n3_; clear n0_ n1_ n2_ n3_; clear ho hb hg hat) | ((with_reducible refine gate_callee (f := 67) rfl ?_); refine goesL_ (some 59) rfl rfl Tryd.func67 (by kernel_rfl) rfl #[.int .i64 x1_1,.string (a2.extract (x12_1 : Int).toNat ((wrap64 (x12_1 + a0_1)) : Int).toNat)] rfl (by (try simp only [List.map_toArray,List.map_cons,List.map_nil]); first | done | rfl | (simp only [List.length_drop,List.length_take]; rfl)) ?_; (with_reducible refine (spec_l03Next.calls k1 x1_1 (a2.extract (x12_1 : Int).toNat ((wrap64 (x12_1 + a0_1)) : Int).toNat) t184 _ A57.out).mono ?_); rintro e w' ⟨rfl,⟨nd,rfl⟩⟩; refine ⟨_,rfl,?_⟩))
             go_roundg k1
             case measure => have := HK1.out; omega
             case rel => exact ⟨(t184),(y181),(y172),(wrap64 (x12_1 + a0_1)),(by first | rfl | (simp; done) | (simp [*]; done)),(by first | rfl | (simp; done) | (simp [*]; done)),H',⟨by have := HK1.out; omega⟩,⟨by (with_reducible repeat (first | apply Kd.R_alloc | apply Kd.R_drewN | apply Kd.R_drew)); exact HO183.out⟩,⟨by (with_reducible repeat (first | apply Kd.R_alloc | apply Kd.R_drewN | apply Kd.R_drew)); exact Kd.R_mono HO174.out (fun _ hk => hk.2)⟩,⟨by (with_reducible repeat (first | refine blk_drewN ?_ _ | refine blk_drew ?_ | refine blk_alloc ?_ _)); exact BK0.out⟩,⟨by repeat (first | (with_reducible first | exact HB.out | apply below_alloc | apply pw_below_drewN | apply below_drew1 | refine below_set ?_ GE0.out) | exact HB.out)⟩⟩
            ·rw [if_neg c56] at H
             exact absurd H (by simp)
          ·rw [if_neg c44] at H
           exact absurd H (by simp)
        ·rw [if_neg c42] at H
         have c42b0 : decide (t171 < 0) = false := decide_eq_false c42
         clear c42
         by_cases c62 : x9_1.length < 17592186044416
         ·rw [if_pos c62] at H
          have LMc62 := Aside0.mk c62
          clear c62
          obtain ⟨y185,hy185⟩ : ∃ y_ : List Int,y_ = (x9_1 ++ [t171]) := ⟨_,rfl⟩
          replace H : ((spec_l03Next.f k1 x1_1 (a2.extract (x12_1 : Int).toNat ((wrap64 (x12_1 + a0_1)) : Int).toNat)).bind fun t188 => (spec_l03Decode.l0 k1 t188 a2 y185 x10_1 a0_1 (wrap64 (x12_1 + a0_1)) a0_0 a0_1 l0_2 l0_3)) = some (r1,r2,r3) := by first | (rw [hy185]; with_reducible exact H) | (have H2_ := (Option.bind_some _ _).symm.trans H; rw [hy185]; with_reducible exact H2_) | (have H2_ := (Option.bind_some _ _).symm.trans H; with_reducible exact H2_) | with_reducible exact H | (rw [hy185]; exact H) | exact H
          have Ny185 := Aside0.mk hy185
          clear hy185
          replace H := Option.bind_eq_some_iff.mp H
          obtain ⟨t188,A630,H⟩ := H
          replace H : (spec_l03Decode.l0 k1 t188 a2 y185 x10_1 a0_1 (wrap64 (x12_1 + a0_1)) a0_0 a0_1 l0_2 l0_3) = some (r1,r2,r3) := H
          have A63 := Aside0.mk A630
          clear A630
          have H' := Aside0.mk H
          clear H
          go_wp2_with (first | ((with_reducible refine gate_callee (f := 52) rfl ?_); refine goesL_ (some 36) rfl rfl Tryd.func52 (by kernel_rfl) rfl #[.pointer (some ⟨g0,0,none⟩),.int .i64 x1_1] rfl (by (try simp only [List.map_toArray,List.map_cons,List.map_nil]); first | done | rfl | (simp only [List.length_drop,List.length_take]; rfl)) ?_; (with_reducible refine (spec_l03List_pos.calls g0 a0_0 a0_1 A0_2 c0_2 l0_2 A0_3 c0_3 l0_3 x1_1  _ ?side1 ?side2 ?side3 ?side4 ?side5 A40.out).mono ?_); (case side1 => exact by (with_reducible repeat (first | refine blk_drewN ?_ _ | refine blk_drew ?_ | refine blk_alloc ?_ _)); exact BK0.out); (case side2 => repeat (first | exact (Kd.C_below HR0_2.out HB.out) | (with_reducible refine Kd.C_alloc ?_ _) | (with_reducible refine Kd.C_drewN ?_ _) | (with_reducible refine Kd.C_drew ?_))); (case side3 => exact HC0_2.out); (case side4 => repeat (first | exact (Kd.C_below HR0_3.out HB.out) | (with_reducible refine Kd.C_alloc ?_ _) | (with_reducible refine Kd.C_drewN ?_ _) | (with_reducible refine Kd.C_drew ?_))); (case side5 => exact HC0_3.out); rintro e w64 ⟨rfl,hb⟩; refine ⟨_,rfl,?_⟩; have n0_ := Aside0.mk (Kd.R_below (by (with_reducible repeat (first | apply Kd.R_alloc | apply Kd.R_drewN | apply Kd.R_drew)); exact HO_9.out) hb); have n1_ := Aside0.mk (Kd.R_below (by (with_reducible repeat (first | apply Kd.R_alloc | apply Kd.R_drewN | apply Kd.R_drew)); exact HO_10.out) hb); have n2_ := Aside0.mk (blk_below (g := g0) (o := .cells #[.int .i64 a0_0,.int .i64 a0_1,.slice A0_2 l0_2.length c0_2,.slice A0_3 l0_3.length c0_3] 30 (0,0)) (by (with_reducible repeat (first | refine blk_drewN ?_ _ | refine blk_drew ?_ | refine blk_alloc ?_ _)); exact BK0.out) hb); have n3_ := Aside0.mk (below_step (by repeat (first | (with_reducible first | exact HB.out | apply below_alloc | apply pw_below_drewN | apply below_drew1 | refine below_set ?_ GE0.out) | exact HB.out)) hb); clear HO_9; clear HO_10; clear BK0; clear HB; have HO_9 := n0_; have HO_10 := n1_; have BK0 := n2_; have HB := n3_; clear n0_ n1_ n2_ n3_; (try clear hb); (try clear hb2); (try clear hk); (try clear hi)) | ((with_reducible refine gate_callee (f := 81) rfl ?_); refine goesL_ (some 38) rfl rfl Tryd.func81 (by kernel_rfl) rfl #[.slice A0_3 l0_3.length c0_3,.string (a2.extract (x12_1 : Int).toNat ((wrap64 (x12_1 + a0_1)) : Int).toNat)] rfl (by (try simp only [List.map_toArray,List.map_cons,List.map_nil]); first | done | rfl | (simp only [List.length_drop,List.length_take]; rfl)) ?_; (with_reducible refine (spec_l03Index.calls k1 _ _ l0_3 (a2.extract (x12_1 : Int).toNat ((wrap64 (x12_1 + a0_1)) : Int).toNat) t171 _ ?side1 ?side2 A41.out).mono ?_); (case side1 => repeat (first | exact (Kd.C_below HR0_3.out HB.out) | (with_reducible refine Kd.C_alloc ?_ _) | (with_reducible refine Kd.C_drewN ?_ _) | (with_reducible refine Kd.C_drew ?_))); (case side2 => exact HC0_3.out); rintro e w' ⟨rfl,⟨nd,rfl⟩⟩; refine ⟨_,rfl,?_⟩) | ((with_reducible refine gate_builtin (b := .append) (xs := #[.tmp 53,.tmp 55]) rfl ?_); at_builtin; refine Kd.R_append (Kd.int .i64) (w0 := w) w.heap.size rfl (.tmp 53) (.tmp 55) 38 2 (.int .i64 0) 8 rfl Tryd.underlying38 info2 rfl (by decide) (by omega) u9 x9_1 t171 [.int .i64 t171] (fun k_ => some k_ ≠ (u10 : Value).ownBlock) (fun _ => False) rfl rfl ?aP (fun _ hk => hk.elim) ?aF ?aO ?aB ?aS ?aL ?_; (case aP => exact rfl); (case aB => exact (by repeat (first | (with_reducible first | exact HB.out | apply below_alloc | apply pw_below_drewN | apply below_drew1 | refine below_set ?_ GE0.out) | exact HB.out))); (case aF => exact (fun k_ hk => Kd.fresh' (Kd.R_lt (by (with_reducible repeat (first | apply Kd.R_alloc | apply Kd.R_drewN | apply Kd.R_drew)); exact HO_10.out)) k_ hk)); (case aO => exact (by (with_reducible repeat (first | apply Kd.R_alloc | apply Kd.R_drewN | apply Kd.R_drew)); exact HO_9.out)); (case aS => exact (below_size (by repeat (first | (with_reducible first | exact HB.out | apply below_alloc | apply pw_below_drewN | apply below_drew1 | refine below_set ?_ GE0.out) | exact HB.out)))); (case aL => have := LMc62.out; omega); intro v186 w65 ho hb hg hat; rw [← Ny185.out] at ho; have n0_ := Aside0.mk (Kd.R_after (ok := (fun _ => True)) (by (with_reducible repeat (first | apply Kd.R_alloc | apply Kd.R_drewN | apply Kd.R_drew)); exact Kd.R_mono HO_10.out (fun _ hk => ⟨trivial,hk⟩)) hg hat); have n1_ := Aside0.mk (blk_grown (g := g0) (o := .cells #[.int .i64 a0_0,.int .i64 a0_1,.slice A0_2 l0_2.length c0_2,.slice A0_3 l0_3.length c0_3] 30 (0,0)) (by (with_reducible repeat (first | refine blk_drewN ?_ _ | refine blk_drew ?_ | refine blk_alloc ?_ _)); exact BK0.out) hg (Kd.R_ne HO_9.out BK0.out (by decide))); have n2_ := Aside0.mk (hb); have n3_ := Aside0.mk (ho); clear HO_10; clear BK0; clear HB; clear HO_9; have HO_10 := n0_; have BK0 := n1_; have HB := n2_; have HO187 := n3_; clear n0_ n1_ n2_ n3_; clear ho hb hg hat) | ((with_reducible refine gate_callee (f := 67) rfl ?_); refine goesL_ (some 59) rfl rfl Tryd.func67 (by kernel_rfl) rfl #[.int .i64 x1_1,.string (a2.extract (x12_1 : Int).toNat ((wrap64 (x12_1 + a0_1)) : Int).toNat)] rfl (by (try simp only [List.map_toArray,List.map_cons,List.map_nil]); first | done | rfl | (simp only [List.length_drop,List.length_take]; rfl)) ?_; (with_reducible refine (spec_l03Next.calls k1 x1_1 (a2.extract (x12_1 : Int).toNat ((wrap64 (x12_1 + a0_1)) : Int).toNat) t188 _ A63.out).mono ?_); rintro e w' ⟨rfl,⟨nd,rfl⟩⟩; refine ⟨_,rfl,?_⟩))
          go_roundg k1
          case measure => have := HK1.out; omega
          case rel => exact ⟨(t188),(y185),(x10_1),(wrap64 (x12_1 + a0_1)),(by first | rfl | (simp; done) | (simp [*]; done)),(by first | rfl | (simp; done) | (simp [*]; done)),H',⟨by have := HK1.out; omega⟩,⟨by (with_reducible repeat (first | apply Kd.R_alloc | apply Kd.R_drewN | apply Kd.R_drew)); exact HO187.out⟩,⟨by (with_reducible repeat (first | apply Kd.R_alloc | apply Kd.R_drewN | apply Kd.R_drew)); exact Kd.R_mono HO_10.out (fun _ hk => hk.2)⟩,⟨by (with_reducible repeat (first | refine blk_drewN ?_ _ | refine blk_drew ?_ | refine blk_alloc ?_ _)); exact BK0.out⟩,⟨by repeat (first | (with_reducible first | exact HB.out | apply below_alloc | apply pw_below_drewN | apply below_drew1 | refine below_set ?_ GE0.out) | exact HB.out)⟩⟩
         ·rw [if_neg c62] at H
          exact absurd H (by simp)
      ·rw [if_neg c12] at H
       exact absurd H (by simp)
     ·rw [if_neg c11] at H
      exact absurd H (by simp)
    ·rw [if_neg c10] at H
     exact absurd H (by simp)
   ·rw [if_neg c9] at H
    have c9b0 : decide (x12_1 < (a2.size : Int)) = false := decide_eq_false c9
    clear c9
    simp only [Option.some.injEq,Prod.mk.injEq] at H
    obtain ⟨rfl,rfl,rfl⟩ := H
    go_wp2
    go_ret3
    exact ⟨_,_,by first | rfl | (simp [errW_none,errW_some] <;> rfl) | (simp [*,errW_none,errW_some] <;> rfl),by (with_reducible repeat (first | apply Kd.R_alloc | apply Kd.R_drewN | apply Kd.R_drew)); exact HO_9.out,by (with_reducible repeat (first | apply Kd.R_alloc | apply Kd.R_drewN | apply Kd.R_drew)); exact HO_10.out,by repeat (first | (with_reducible first | exact HB.out | apply below_alloc | apply pw_below_drewN | apply below_drew1 | refine below_set ?_ GE0.out) | exact HB.out)⟩

/-! ### spec_DecodeBlocks: function 27 -/
def spec_DecodeBlocks.f (k : Nat) (a0_0 : Int) (a0_1 : Int) (l0_2 : List ByteArray) (l0_3 : List ByteArray) (a1 : Int) (a2 : ByteArray) : Option (List Int × List Int × Int × Bool) := (spec_l03Is.f k a0_0 a0_1 l0_2 l0_3).bind fun t190 => (if t190 = true then ((spec_l03State.f a1).bind fun t191 => (if t191 = true then ((spec_l01Bits.f k a2).bind fun t192 => (if t192 = true then (if a0_1 = 0 then (none) else (if ((a2.size : Int) % a0_1) = 0 then ((spec_l03Decode.f k a0_0 a0_1 l0_2 l0_3 a1 a2).bind fun bt193 => (some (bt193.1,bt193.2.1,bt193.2.2,true))) else (some (([] : List Int),([] : List Int),0,false)))) else (some (([] : List Int),([] : List Int),0,false)))) else (some (([] : List Int),([] : List Int),0,false)))) else (some (([] : List Int),([] : List Int),0,false)))
set_option maxHeartbeats 8000000 in
set_option maxRecDepth 100000 in
theorem spec_DecodeBlocks.calls (k : Nat) (a0_0 : Int) (a0_1 : Int) (A0_2 : Option Addr) (c0_2 : Nat) (l0_2 : List ByteArray) (A0_3 : Option Addr) (c0_3 : Nat) (l0_3 : List ByteArray) (a1 : Int) (a2 : ByteArray) (r1 : List Int) (r2 : List Int) (r3 : Int) (r4 : Bool) (w : World) (hr0_2 : Kd.C Kd.string w A0_2 l0_2.length l0_2) (hc0_2 : l0_2.length ≤ c0_2) (hr0_3 : Kd.C Kd.string w A0_3 l0_3.length l0_3) (hc0_3 : l0_3.length ≤ c0_3) (h : spec_DecodeBlocks.f k a0_0 a0_1 l0_2 l0_3 a1 a2 = some (r1,r2,r3,r4)) :
  Calls Tryd.prog 27 #[.agg #[.int .i64 a0_0,.int .i64 a0_1,.slice A0_2 l0_2.length c0_2,.slice A0_3 l0_3.length c0_3],.int .i64 a1,.string a2] w fun e w' => ∃ v0_ v1_ : Value,e = .returned (.tuple #[v0_,v1_,.int .i64 r3,.bool r4]) ∧ Kd.R (Kd.int .i64) 2 w' w.heap.size (fun k_ => some k_ ≠ (v1_ : Value).ownBlock) v0_ r1 ∧ Kd.R (Kd.int .i64) 2 w' w.heap.size (fun k_ => some k_ ≠ (v0_ : Value).ownBlock) v1_ r2 ∧ Below w.heap.size w w' := by
 have hu30 := Tryd.underlying30
 have HR0_2 := Aside0.mk hr0_2
 have HC0_2 := Aside0.mk hc0_2
 clear hr0_2 hc0_2
 have HR0_3 := Aside0.mk hr0_3
 have HC0_3 := Aside0.mk hc0_3
 clear hr0_3 hc0_3
 have HB := Aside0.mk (Below.refl w.heap.size w)
 have H : ((spec_l03Is.f k a0_0 a0_1 l0_2 l0_3).bind fun t190 => (if t190 = true then ((spec_l03State.f a1).bind fun t191 => (if t191 = true then ((spec_l01Bits.f k a2).bind fun t192 => (if t192 = true then (if a0_1 = 0 then (none) else (if ((a2.size : Int) % a0_1) = 0 then ((spec_l03Decode.f k a0_0 a0_1 l0_2 l0_3 a1 a2).bind fun bt193 => (some (bt193.1,bt193.2.1,bt193.2.2,true))) else (some (([] : List Int),([] : List Int),0,false)))) else (some (([] : List Int),([] : List Int),0,false)))) else (some (([] : List Int),([] : List Int),0,false)))) else (some (([] : List Int),([] : List Int),0,false)))) = some (r1,r2,r3,r4) := h
 clear h
 replace H := Option.bind_eq_some_iff.mp H
 obtain ⟨t190,A40,H⟩ := H
 replace H : (if t190 = true then ((spec_l03State.f a1).bind fun t191 => (if t191 = true then ((spec_l01Bits.f k a2).bind fun t192 => (if t192 = true then (if a0_1 = 0 then (none) else (if ((a2.size : Int) % a0_1) = 0 then ((spec_l03Decode.f k a0_0 a0_1 l0_2 l0_3 a1 a2).bind fun bt193 => (some (bt193.1,bt193.2.1,bt193.2.2,true))) else (some (([] : List Int),([] : List Int),0,false)))) else (some (([] : List Int),([] : List Int),0,false)))) else (some (([] : List Int),([] : List Int),0,false)))) else (some (([] : List Int),([] : List Int),0,false))) = some (r1,r2,r3,r4) := H
 have A4 := Aside0.mk A40
 clear A40
 by_cases c5 : t190 = true
 ·subst c5
  have H1 : ((spec_l03State.f a1).bind fun t191 => (if t191 = true then ((spec_l01Bits.f k a2).bind fun t192 => (if t192 = true then (if a0_1 = 0 then (none) else (if ((a2.size : Int) % a0_1) = 0 then ((spec_l03Decode.f k a0_0 a0_1 l0_2 l0_3 a1 a2).bind fun bt193 => (some (bt193.1,bt193.2.1,bt193.2.2,true))) else (some (([] : List Int),([] : List Int),0,false)))) else (some (([] : List Int),([] : List Int),0,false)))) else (some (([] : List Int),([] : List Int),0,false)))) = some (r1,r2,r3,r4) := by rw [if_pos rfl] at H; exact H
  clear H
  have H := H1
  clear H1
  replace H := Option.bind_eq_some_iff.mp H
  obtain ⟨t191,A60,H⟩ := H
  replace H : (if t191 = true then ((spec_l01Bits.f k a2).bind fun t192 => (if t192 = true then (if a0_1 = 0 then (none) else (if ((a2.size : Int) % a0_1) = 0 then ((spec_l03Decode.f k a0_0 a0_1 l0_2 l0_3 a1 a2).bind fun bt193 => (some (bt193.1,bt193.2.1,bt193.2.2,true))) else (some (([] : List Int),([] : List Int),0,false)))) else (some (([] : List Int),([] : List Int),0,false)))) else (some (([] : List Int),([] : List Int),0,false))) = some (r1,r2,r3,r4) := H
  have A6 := Aside0.mk A60
  clear A60
  by_cases c7 : t191 = true
  ·subst c7
   have H1 : ((spec_l01Bits.f k a2).bind fun t192 => (if t192 = true then (if a0_1 = 0 then (none) else (if ((a2.size : Int) % a0_1) = 0 then ((spec_l03Decode.f k a0_0 a0_1 l0_2 l0_3 a1 a2).bind fun bt193 => (some (bt193.1,bt193.2.1,bt193.2.2,true))) else (some (([] : List Int),([] : List Int),0,false)))) else (some (([] : List Int),([] : List Int),0,false)))) = some (r1,r2,r3,r4) := by rw [if_pos rfl] at H; exact H
   clear H
   have H := H1
   clear H1
   replace H := Option.bind_eq_some_iff.mp H
   obtain ⟨t192,A80,H⟩ := H
   replace H : (if t192 = true then (if a0_1 = 0 then (none) else (if ((a2.size : Int) % a0_1) = 0 then ((spec_l03Decode.f k a0_0 a0_1 l0_2 l0_3 a1 a2).bind fun bt193 => (some (bt193.1,bt193.2.1,bt193.2.2,true))) else (some (([] : List Int),([] : List Int),0,false)))) else (some (([] : List Int),([] : List Int),0,false))) = some (r1,r2,r3,r4) := H
   have A8 := Aside0.mk A80
   clear A80
   by_cases c9 : t192 = true
   ·subst c9
    have H1 : (if a0_1 = 0 then (none) else (if ((a2.size : Int) % a0_1) = 0 then ((spec_l03Decode.f k a0_0 a0_1 l0_2 l0_3 a1 a2).bind fun bt193 => (some (bt193.1,bt193.2.1,bt193.2.2,true))) else (some (([] : List Int),([] : List Int),0,false)))) = some (r1,r2,r3,r4) := by rw [if_pos rfl] at H; exact H
    clear H
    have H := H1
    clear H1
    by_cases c10 : a0_1 = 0
    ·rw [if_pos c10] at H
     exact absurd H (by simp)
    ·rw [if_neg c10] at H
     have c10b0 : (a0_1 == 0) = false := beq_eq_false_iff_ne.mpr c10
     have c10b1 : (a0_1 != 0) = true := bne_iff_ne.mpr c10
     by_cases c11 : ((a2.size : Int) % a0_1) = 0
     ·rw [if_pos c11] at H
      have c11b0 : (((a2.size : Int) % a0_1) == 0) = true := beq_iff_eq.mpr c11
      have c11b1 : (((a2.size : Int) % a0_1) != 0) = false := bne_eq_false_iff_eq.mpr c11
      clear c11
      replace H := Option.bind_eq_some_iff.mp H
      obtain ⟨⟨t193,t196,t199⟩,A120,H⟩ := H
      replace H : (some (t193,t196,t199,true)) = some (r1,r2,r3,r4) := H
      have A12 := Aside0.mk A120
      clear A120
      simp only [Option.some.injEq,Prod.mk.injEq] at H
      obtain ⟨rfl,rfl,rfl,rfl⟩ := H
      go_enter Tryd.func27,Tryd.ntmps27
      go_wp2_with (first | ((with_reducible refine gate_dst (N := 3) rfl ?_); (try (refine gate_guard (by rfl) ?_; dsimp only)); refine box_event ?hg (N := 3) ?hd (cs := #[.int .i64 a0_0,.int .i64 a0_1,.slice A0_2 l0_2.length c0_2,.slice A0_3 l0_3.length c0_3]) (t := 30) ?hr ?_; (case hd => rfl); (case hg => rfl); (case hr => first | (go_simp; done) | (go_simp; rfl)); intro gb189 hg w13 hbox hb; have n0_ := Aside0.mk (below_step (by repeat (first | (with_reducible first | exact HB.out | apply below_alloc | apply pw_below_drewN | apply below_drew1) | exact HB.out)) hb); have n1_ := Aside0.mk (hbox); have n2_ := Aside0.mk ((by rw [hg]; exact (below_size (by repeat (first | (with_reducible first | exact HB.out | apply below_alloc | apply pw_below_drewN | apply below_drew1) | exact HB.out))) : w.heap.size ≤ gb189)); have n3_ := Aside0.mk ((by rw [hg]; exact (below_size (by repeat (first | (with_reducible first | exact HB.out | apply below_alloc | apply pw_below_drewN | apply below_drew1) | exact HB.out))) : w.heap.size ≤ gb189)); clear HB; have HB := n0_; have BK189 := n1_; have GW189 := n2_; have GE189 := n3_; clear n0_ n1_ n2_ n3_; clear hb hbox hg) | ((with_reducible refine gate_callee (f := 46) rfl ?_); refine goesL_ (some 13) rfl rfl Tryd.func46 (by kernel_rfl) rfl #[.pointer (some ⟨gb189,0,none⟩)] rfl (by (try simp only [List.map_toArray,List.map_cons,List.map_nil]); first | done | rfl | (simp only [List.length_drop,List.length_take]; rfl)) ?_; (with_reducible refine (spec_l03Is.calls k gb189 a0_0 a0_1 A0_2 c0_2 l0_2 A0_3 c0_3 l0_3 true _ ?side1 ?side2 ?side3 ?side4 ?side5 A4.out).mono ?_); (case side1 => exact by (with_reducible repeat (first | refine blk_drewN ?_ _ | refine blk_drew ?_ | refine blk_alloc ?_ _)); exact BK189.out); (case side2 => repeat (first | exact (Kd.C_below HR0_2.out HB.out) | (with_reducible refine Kd.C_alloc ?_ _) | (with_reducible refine Kd.C_drewN ?_ _) | (with_reducible refine Kd.C_drew ?_))); (case side3 => exact HC0_2.out); (case side4 => repeat (first | exact (Kd.C_below HR0_3.out HB.out) | (with_reducible refine Kd.C_alloc ?_ _) | (with_reducible refine Kd.C_drewN ?_ _) | (with_reducible refine Kd.C_drew ?_))); (case side5 => exact HC0_3.out); rintro e w14 ⟨rfl,hb⟩; refine ⟨_,rfl,?_⟩; have n0_ := Aside0.mk (blk_below (g := gb189) (o := .cells #[.int .i64 a0_0,.int .i64 a0_1,.slice A0_2 l0_2.length c0_2,.slice A0_3 l0_3.length c0_3] 30 (0,0)) (by (with_reducible repeat (first | refine blk_drewN ?_ _ | refine blk_drew ?_ | refine blk_alloc ?_ _)); exact BK189.out) hb); have n1_ := Aside0.mk (below_step (by repeat (first | (with_reducible first | exact HB.out | apply below_alloc | apply pw_below_drewN | apply below_drew1 | refine below_set ?_ GE189.out) | exact HB.out)) hb); clear BK189; clear HB; have BK189 := n0_; have HB := n1_; clear n0_ n1_; (try clear hb); (try clear hb2); (try clear hk); (try clear hi)) | (go_at_call 59; (with_reducible refine (spec_l03State.calls a1 true _ A6.out).mono ?_); rintro e w' ⟨rfl,⟨nd,rfl⟩⟩) | (go_at_call 41; (with_reducible refine (spec_l01Bits.calls k a2 true _ A8.out).mono ?_); rintro e w' ⟨rfl,⟨nd,rfl⟩⟩; have hcz15_0 : w14.cell? ⟨gb189,0,none⟩ = some (.int .i64 a0_0) := (blk_cell BK189.out 0).trans rfl; have hcz15_1 : w14.cell? ⟨gb189,1,none⟩ = some (.int .i64 a0_1) := (blk_cell BK189.out 1).trans rfl; have hcz15_2 : w14.cell? ⟨gb189,2,none⟩ = some (.slice A0_2 l0_2.length c0_2) := (blk_cell BK189.out 2).trans rfl; have hcz15_3 : w14.cell? ⟨gb189,3,none⟩ = some (.slice A0_3 l0_3.length c0_3) := (blk_cell BK189.out 3).trans rfl; have hfz15_0 := blk_frozen BK189.out 0; have hfz15_1 := blk_frozen BK189.out 1; have hfz15_2 := blk_frozen BK189.out 2; have hfz15_3 := blk_frozen BK189.out 3) | ((with_reducible refine gate_callee (f := 64) rfl ?_); refine goesL_ (some 36) rfl rfl Tryd.func64 (by kernel_rfl) rfl #[.pointer (some ⟨gb189,0,none⟩),.int .i64 a1,.string a2] rfl (by (try simp only [List.map_toArray,List.map_cons,List.map_nil]); first | done | rfl | (simp only [List.length_drop,List.length_take]; rfl)) ?_; (with_reducible refine (spec_l03Decode.calls k gb189 a0_0 a0_1 A0_2 c0_2 l0_2 A0_3 c0_3 l0_3 a1 a2 t193 t196 t199 _ ?side1 ?side2 ?side3 ?side4 ?side5 A12.out).mono ?_); (case side1 => exact by (with_reducible repeat (first | refine blk_drewN ?_ _ | refine blk_drew ?_ | refine blk_alloc ?_ _)); exact BK189.out); (case side2 => repeat (first | exact (Kd.C_below HR0_2.out (by repeat (first | (with_reducible first | exact HB.out | apply below_alloc | apply pw_below_drewN | apply below_drew1 | refine below_set ?_ GE189.out) | exact HB.out))) | (with_reducible refine Kd.C_alloc ?_ _) | (with_reducible refine Kd.C_drewN ?_ _) | (with_reducible refine Kd.C_drew ?_))); (case side3 => exact HC0_2.out); (case side4 => repeat (first | exact (Kd.C_below HR0_3.out (by repeat (first | (with_reducible first | exact HB.out | apply below_alloc | apply pw_below_drewN | apply below_drew1 | refine below_set ?_ GE189.out) | exact HB.out))) | (with_reducible refine Kd.C_alloc ?_ _) | (with_reducible refine Kd.C_drewN ?_ _) | (with_reducible refine Kd.C_drew ?_))); (case side5 => exact HC0_3.out); rintro e w16 ⟨v194,v197,rfl,ho0,ho1,hb⟩; refine ⟨_,rfl,?_⟩; have n0_ := Aside0.mk (Kd.R_lower ho0 (below_size (by repeat (first | (with_reducible first | exact HB.out | apply below_alloc | apply pw_below_drewN | apply below_drew1 | refine below_set ?_ GE189.out) | exact HB.out)))); have n1_ := Aside0.mk (Kd.R_lower ho1 (below_size (by repeat (first | (with_reducible first | exact HB.out | apply below_alloc | apply pw_below_drewN | apply below_drew1 | refine below_set ?_ GE189.out) | exact HB.out)))); have n2_ := Aside0.mk (blk_below (g := gb189) (o := .cells #[.int .i64 a0_0,.int .i64 a0_1,.slice A0_2 l0_2.length c0_2,.slice A0_3 l0_3.length c0_3] 30 (0,0)) (by (with_reducible repeat (first | refine blk_drewN ?_ _ | refine blk_drew ?_ | refine blk_alloc ?_ _)); exact BK189.out) hb); have n3_ := Aside0.mk (below_step (by repeat (first | (with_reducible first | exact HB.out | apply below_alloc | apply pw_below_drewN | apply below_drew1 | refine below_set ?_ GE189.out) | exact HB.out)) hb); clear BK189; clear HB; have HO195 := n0_; have HO198 := n1_; have BK189 := n2_; have HB := n3_; clear n0_ n1_ n2_ n3_; (try clear hb); (try clear hb2); (try clear hk); (try clear hi); (try clear ho0); (try clear ho1)))
      refine bodyPost_ret (results_list (rs := [.tmp 6,.tmp 7,.tmp 8,.tmp 9]) rfl (by simp) (.tmp (.tmp (.tmp (.tmp .nil))))) rfl ?_
      exact ⟨_,_,by first | rfl | (simp [errW_none,errW_some] <;> rfl) | (simp [*,errW_none,errW_some] <;> rfl),by (with_reducible repeat (first | apply Kd.R_alloc | apply Kd.R_drewN | apply Kd.R_drew)); exact HO195.out,by (with_reducible repeat (first | apply Kd.R_alloc | apply Kd.R_drewN | apply Kd.R_drew)); exact HO198.out,by repeat (first | (with_reducible first | exact HB.out | apply below_alloc | apply pw_below_drewN | apply below_drew1 | refine below_set ?_ GE189.out) | exact HB.out)⟩
     ·rw [if_neg c11] at H
      have c11b0 : (((a2.size : Int) % a0_1) == 0) = false := beq_eq_false_iff_ne.mpr c11
      have c11b1 : (((a2.size : Int) % a0_1) != 0) = true := bne_iff_ne.mpr c11
      simp only [Option.some.injEq,Prod.mk.injEq] at H
      obtain ⟨rfl,rfl,rfl,rfl⟩ := H
      go_enter Tryd.func27,Tryd.ntmps27
      go_wp2_with (first | ((with_reducible refine gate_dst (N := 3) rfl ?_); (try (refine gate_guard (by rfl) ?_; dsimp only)); refine box_event ?hg (N := 3) ?hd (cs := #[.int .i64 a0_0,.int .i64 a0_1,.slice A0_2 l0_2.length c0_2,.slice A0_3 l0_3.length c0_3]) (t := 30) ?hr ?_; (case hd => rfl); (case hg => rfl); (case hr => first | (go_simp; done) | (go_simp; rfl)); intro gb189 hg w17 hbox hb; have n0_ := Aside0.mk (below_step (by repeat (first | (with_reducible first | exact HB.out | apply below_alloc | apply pw_below_drewN | apply below_drew1) | exact HB.out)) hb); have n1_ := Aside0.mk (hbox); have n2_ := Aside0.mk ((by rw [hg]; exact (below_size (by repeat (first | (with_reducible first | exact HB.out | apply below_alloc | apply pw_below_drewN | apply below_drew1) | exact HB.out))) : w.heap.size ≤ gb189)); have n3_ := Aside0.mk ((by rw [hg]; exact (below_size (by repeat (first | (with_reducible first | exact HB.out | apply below_alloc | apply pw_below_drewN | apply below_drew1) | exact HB.out))) : w.heap.size ≤ gb189)); clear HB; have HB := n0_; have BK189 := n1_; have GW189 := n2_; have GE189 := n3_; clear n0_ n1_ n2_ n3_; clear hb hbox hg) | ((with_reducible refine gate_callee (f := 46) rfl ?_); refine goesL_ (some 13) rfl rfl Tryd.func46 (by kernel_rfl) rfl #[.pointer (some ⟨gb189,0,none⟩)] rfl (by (try simp only [List.map_toArray,List.map_cons,List.map_nil]); first | done | rfl | (simp only [List.length_drop,List.length_take]; rfl)) ?_; (with_reducible refine (spec_l03Is.calls k gb189 a0_0 a0_1 A0_2 c0_2 l0_2 A0_3 c0_3 l0_3 true _ ?side1 ?side2 ?side3 ?side4 ?side5 A4.out).mono ?_); (case side1 => exact by (with_reducible repeat (first | refine blk_drewN ?_ _ | refine blk_drew ?_ | refine blk_alloc ?_ _)); exact BK189.out); (case side2 => repeat (first | exact (Kd.C_below HR0_2.out HB.out) | (with_reducible refine Kd.C_alloc ?_ _) | (with_reducible refine Kd.C_drewN ?_ _) | (with_reducible refine Kd.C_drew ?_))); (case side3 => exact HC0_2.out); (case side4 => repeat (first | exact (Kd.C_below HR0_3.out HB.out) | (with_reducible refine Kd.C_alloc ?_ _) | (with_reducible refine Kd.C_drewN ?_ _) | (with_reducible refine Kd.C_drew ?_))); (case side5 => exact HC0_3.out); rintro e w18 ⟨rfl,hb⟩; refine ⟨_,rfl,?_⟩; have n0_ := Aside0.mk (blk_below (g := gb189) (o := .cells #[.int .i64 a0_0,.int .i64 a0_1,.slice A0_2 l0_2.length c0_2,.slice A0_3 l0_3.length c0_3] 30 (0,0)) (by (with_reducible repeat (first | refine blk_drewN ?_ _ | refine blk_drew ?_ | refine blk_alloc ?_ _)); exact BK189.out) hb); have n1_ := Aside0.mk (below_step (by repeat (first | (with_reducible first | exact HB.out | apply below_alloc | apply pw_below_drewN | apply below_drew1 | refine below_set ?_ GE189.out) | exact HB.out)) hb); clear BK189; clear HB; have BK189 := n0_; have HB := n1_; clear n0_ n1_; (try clear hb); (try clear hb2); (try clear hk); (try clear hi)) | (go_at_call 59; (with_reducible refine (spec_l03State.calls a1 true _ A6.out).mono ?_); rintro e w' ⟨rfl,⟨nd,rfl⟩⟩) | (go_at_call 41; (with_reducible refine (spec_l01Bits.calls k a2 true _ A8.out).mono ?_); rintro e w' ⟨rfl,⟨nd,rfl⟩⟩; have hcz19_0 : w18.cell? ⟨gb189,0,none⟩ = some (.int .i64 a0_0) := (blk_cell BK189.out 0).trans rfl; have hcz19_1 : w18.cell? ⟨gb189,1,none⟩ = some (.int .i64 a0_1) := (blk_cell BK189.out 1).trans rfl; have hcz19_2 : w18.cell? ⟨gb189,2,none⟩ = some (.slice A0_2 l0_2.length c0_2) := (blk_cell BK189.out 2).trans rfl; have hcz19_3 : w18.cell? ⟨gb189,3,none⟩ = some (.slice A0_3 l0_3.length c0_3) := (blk_cell BK189.out 3).trans rfl; have hfz19_0 := blk_frozen BK189.out 0; have hfz19_1 := blk_frozen BK189.out 1; have hfz19_2 := blk_frozen BK189.out 2; have hfz19_3 := blk_frozen BK189.out 3))
      refine bodyPost_ret (results_list (rs := [.tmp 6,.tmp 7,.tmp 8,.tmp 9]) rfl (by simp) (.tmp (.tmp (.tmp (.tmp .nil))))) rfl ?_
      exact ⟨_,_,by first | rfl | (simp [errW_none,errW_some] <;> rfl) | (simp [*,errW_none,errW_some] <;> rfl),by first | exact Kd.R_nil _ _ _ _ _ | exact Kd.N_nil _ _ _ _ _ | exact Kd.V_nil _ _ _ _ _ | exact Kd.Q_nil _ _ _ _ _ | exact Kd.S_nil _ _ _ _ _,by first | exact Kd.R_nil _ _ _ _ _ | exact Kd.N_nil _ _ _ _ _ | exact Kd.V_nil _ _ _ _ _ | exact Kd.Q_nil _ _ _ _ _ | exact Kd.S_nil _ _ _ _ _,by repeat (first | (with_reducible first | exact HB.out | apply below_alloc | apply pw_below_drewN | apply below_drew1 | refine below_set ?_ GE189.out) | exact HB.out)⟩
   ·replace c9 := Bool.eq_false_iff.mpr c9
    subst c9
    have H1 : (some (([] : List Int),([] : List Int),0,false)) = some (r1,r2,r3,r4) := by rw [if_neg (show ¬ (false = true) by decide)] at H; exact H
    clear H
    have H := H1
    clear H1
    simp only [Option.some.injEq,Prod.mk.injEq] at H
    obtain ⟨rfl,rfl,rfl,rfl⟩ := H
    go_enter Tryd.func27,Tryd.ntmps27
    go_wp2_with (first | ((with_reducible refine gate_dst (N := 3) rfl ?_); (try (refine gate_guard (by rfl) ?_; dsimp only)); refine box_event ?hg (N := 3) ?hd (cs := #[.int .i64 a0_0,.int .i64 a0_1,.slice A0_2 l0_2.length c0_2,.slice A0_3 l0_3.length c0_3]) (t := 30) ?hr ?_; (case hd => rfl); (case hg => rfl); (case hr => first | (go_simp; done) | (go_simp; rfl)); intro gb189 hg w20 hbox hb; have n0_ := Aside0.mk (below_step (by repeat (first | (with_reducible first | exact HB.out | apply below_alloc | apply pw_below_drewN | apply below_drew1) | exact HB.out)) hb); have n1_ := Aside0.mk (hbox); have n2_ := Aside0.mk ((by rw [hg]; exact (below_size (by repeat (first | (with_reducible first | exact HB.out | apply below_alloc | apply pw_below_drewN | apply below_drew1) | exact HB.out))) : w.heap.size ≤ gb189)); have n3_ := Aside0.mk ((by rw [hg]; exact (below_size (by repeat (first | (with_reducible first | exact HB.out | apply below_alloc | apply pw_below_drewN | apply below_drew1) | exact HB.out))) : w.heap.size ≤ gb189)); clear HB; have HB := n0_; have BK189 := n1_; have GW189 := n2_; have GE189 := n3_; clear n0_ n1_ n2_ n3_; clear hb hbox hg) | ((with_reducible refine gate_callee (f := 46) rfl ?_); refine goesL_ (some 13) rfl rfl Tryd.func46 (by kernel_rfl) rfl #[.pointer (some ⟨gb189,0,none⟩)] rfl (by (try simp only [List.map_toArray,List.map_cons,List.map_nil]); first | done | rfl | (simp only [List.length_drop,List.length_take]; rfl)) ?_; (with_reducible refine (spec_l03Is.calls k gb189 a0_0 a0_1 A0_2 c0_2 l0_2 A0_3 c0_3 l0_3 true _ ?side1 ?side2 ?side3 ?side4 ?side5 A4.out).mono ?_); (case side1 => exact by (with_reducible repeat (first | refine blk_drewN ?_ _ | refine blk_drew ?_ | refine blk_alloc ?_ _)); exact BK189.out); (case side2 => repeat (first | exact (Kd.C_below HR0_2.out HB.out) | (with_reducible refine Kd.C_alloc ?_ _) | (with_reducible refine Kd.C_drewN ?_ _) | (with_reducible refine Kd.C_drew ?_))); (case side3 => exact HC0_2.out); (case side4 => repeat (first | exact (Kd.C_below HR0_3.out HB.out) | (with_reducible refine Kd.C_alloc ?_ _) | (with_reducible refine Kd.C_drewN ?_ _) | (with_reducible refine Kd.C_drew ?_))); (case side5 => exact HC0_3.out); rintro e w21 ⟨rfl,hb⟩; refine ⟨_,rfl,?_⟩; have n0_ := Aside0.mk (blk_below (g := gb189) (o := .cells #[.int .i64 a0_0,.int .i64 a0_1,.slice A0_2 l0_2.length c0_2,.slice A0_3 l0_3.length c0_3] 30 (0,0)) (by (with_reducible repeat (first | refine blk_drewN ?_ _ | refine blk_drew ?_ | refine blk_alloc ?_ _)); exact BK189.out) hb); have n1_ := Aside0.mk (below_step (by repeat (first | (with_reducible first | exact HB.out | apply below_alloc | apply pw_below_drewN | apply below_drew1 | refine below_set ?_ GE189.out) | exact HB.out)) hb); clear BK189; clear HB; have BK189 := n0_; have HB := n1_; clear n0_ n1_; (try clear hb); (try clear hb2); (try clear hk); (try clear hi)) | (go_at_call 59; (with_reducible refine (spec_l03State.calls a1 true _ A6.out).mono ?_); rintro e w' ⟨rfl,⟨nd,rfl⟩⟩) | (go_at_call 41; (with_reducible refine (spec_l01Bits.calls k a2 false _ A8.out).mono ?_); rintro e w' ⟨rfl,⟨nd,rfl⟩⟩))
    refine bodyPost_ret (results_list (rs := [.tmp 6,.tmp 7,.tmp 8,.tmp 9]) rfl (by simp) (.tmp (.tmp (.tmp (.tmp .nil))))) rfl ?_
    exact ⟨_,_,by first | rfl | (simp [errW_none,errW_some] <;> rfl) | (simp [*,errW_none,errW_some] <;> rfl),by first | exact Kd.R_nil _ _ _ _ _ | exact Kd.N_nil _ _ _ _ _ | exact Kd.V_nil _ _ _ _ _ | exact Kd.Q_nil _ _ _ _ _ | exact Kd.S_nil _ _ _ _ _,by first | exact Kd.R_nil _ _ _ _ _ | exact Kd.N_nil _ _ _ _ _ | exact Kd.V_nil _ _ _ _ _ | exact Kd.Q_nil _ _ _ _ _ | exact Kd.S_nil _ _ _ _ _,by repeat (first | (with_reducible first | exact HB.out | apply below_alloc | apply pw_below_drewN | apply below_drew1 | refine below_set ?_ GE189.out) | exact HB.out)⟩
  ·replace c7 := Bool.eq_false_iff.mpr c7
   subst c7
   have H1 : (some (([] : List Int),([] : List Int),0,false)) = some (r1,r2,r3,r4) := by rw [if_neg (show ¬ (false = true) by decide)] at H; exact H
   clear H
   have H := H1
   clear H1
   simp only [Option.some.injEq,Prod.mk.injEq] at H
   obtain ⟨rfl,rfl,rfl,rfl⟩ := H
   go_enter Tryd.func27,Tryd.ntmps27
   go_wp2_with (first | ((with_reducible refine gate_dst (N := 3) rfl ?_); (try (refine gate_guard (by rfl) ?_; dsimp only)); refine box_event ?hg (N := 3) ?hd (cs := #[.int .i64 a0_0,.int .i64 a0_1,.slice A0_2 l0_2.length c0_2,.slice A0_3 l0_3.length c0_3]) (t := 30) ?hr ?_; (case hd => rfl); (case hg => rfl); (case hr => first | (go_simp; done) | (go_simp; rfl)); intro gb189 hg w22 hbox hb; have n0_ := Aside0.mk (below_step (by repeat (first | (with_reducible first | exact HB.out | apply below_alloc | apply pw_below_drewN | apply below_drew1) | exact HB.out)) hb); have n1_ := Aside0.mk (hbox); have n2_ := Aside0.mk ((by rw [hg]; exact (below_size (by repeat (first | (with_reducible first | exact HB.out | apply below_alloc | apply pw_below_drewN | apply below_drew1) | exact HB.out))) : w.heap.size ≤ gb189)); have n3_ := Aside0.mk ((by rw [hg]; exact (below_size (by repeat (first | (with_reducible first | exact HB.out | apply below_alloc | apply pw_below_drewN | apply below_drew1) | exact HB.out))) : w.heap.size ≤ gb189)); clear HB; have HB := n0_; have BK189 := n1_; have GW189 := n2_; have GE189 := n3_; clear n0_ n1_ n2_ n3_; clear hb hbox hg) | ((with_reducible refine gate_callee (f := 46) rfl ?_); refine goesL_ (some 13) rfl rfl Tryd.func46 (by kernel_rfl) rfl #[.pointer (some ⟨gb189,0,none⟩)] rfl (by (try simp only [List.map_toArray,List.map_cons,List.map_nil]); first | done | rfl | (simp only [List.length_drop,List.length_take]; rfl)) ?_; (with_reducible refine (spec_l03Is.calls k gb189 a0_0 a0_1 A0_2 c0_2 l0_2 A0_3 c0_3 l0_3 true _ ?side1 ?side2 ?side3 ?side4 ?side5 A4.out).mono ?_); (case side1 => exact by (with_reducible repeat (first | refine blk_drewN ?_ _ | refine blk_drew ?_ | refine blk_alloc ?_ _)); exact BK189.out); (case side2 => repeat (first | exact (Kd.C_below HR0_2.out HB.out) | (with_reducible refine Kd.C_alloc ?_ _) | (with_reducible refine Kd.C_drewN ?_ _) | (with_reducible refine Kd.C_drew ?_))); (case side3 => exact HC0_2.out); (case side4 => repeat (first | exact (Kd.C_below HR0_3.out HB.out) | (with_reducible refine Kd.C_alloc ?_ _) | (with_reducible refine Kd.C_drewN ?_ _) | (with_reducible refine Kd.C_drew ?_))); (case side5 => exact HC0_3.out); rintro e w23 ⟨rfl,hb⟩; refine ⟨_,rfl,?_⟩; have n0_ := Aside0.mk (blk_below (g := gb189) (o := .cells #[.int .i64 a0_0,.int .i64 a0_1,.slice A0_2 l0_2.length c0_2,.slice A0_3 l0_3.length c0_3] 30 (0,0)) (by (with_reducible repeat (first | refine blk_drewN ?_ _ | refine blk_drew ?_ | refine blk_alloc ?_ _)); exact BK189.out) hb); have n1_ := Aside0.mk (below_step (by repeat (first | (with_reducible first | exact HB.out | apply below_alloc | apply pw_below_drewN | apply below_drew1 | refine below_set ?_ GE189.out) | exact HB.out)) hb); clear BK189; clear HB; have BK189 := n0_; have HB := n1_; clear n0_ n1_; (try clear hb); (try clear hb2); (try clear hk); (try clear hi)) | (go_at_call 59; (with_reducible refine (spec_l03State.calls a1 false _ A6.out).mono ?_); rintro e w' ⟨rfl,⟨nd,rfl⟩⟩))
   refine bodyPost_ret (results_list (rs := [.tmp 6,.tmp 7,.tmp 8,.tmp 9]) rfl (by simp) (.tmp (.tmp (.tmp (.tmp .nil))))) rfl ?_
   exact ⟨_,_,by first | rfl | (simp [errW_none,errW_some] <;> rfl) | (simp [*,errW_none,errW_some] <;> rfl),by first | exact Kd.R_nil _ _ _ _ _ | exact Kd.N_nil _ _ _ _ _ | exact Kd.V_nil _ _ _ _ _ | exact Kd.Q_nil _ _ _ _ _ | exact Kd.S_nil _ _ _ _ _,by first | exact Kd.R_nil _ _ _ _ _ | exact Kd.N_nil _ _ _ _ _ | exact Kd.V_nil _ _ _ _ _ | exact Kd.Q_nil _ _ _ _ _ | exact Kd.S_nil _ _ _ _ _,by repeat (first | (with_reducible first | exact HB.out | apply below_alloc | apply pw_below_drewN | apply below_drew1 | refine below_set ?_ GE189.out) | exact HB.out)⟩
 ·replace c5 := Bool.eq_false_iff.mpr c5
  subst c5
  have H1 : (some (([] : List Int),([] : List Int),0,false)) = some (r1,r2,r3,r4) := by rw [if_neg (show ¬ (false = true) by decide)] at H; exact H
  clear H
  have H := H1
  clear H1
  simp only [Option.some.injEq,Prod.mk.injEq] at H
  obtain ⟨rfl,rfl,rfl,rfl⟩ := H
  go_enter Tryd.func27,Tryd.ntmps27
  go_wp2_with (first | ((with_reducible refine gate_dst (N := 3) rfl ?_); (try (refine gate_guard (by rfl) ?_; dsimp only)); refine box_event ?hg (N := 3) ?hd (cs := #[.int .i64 a0_0,.int .i64 a0_1,.slice A0_2 l0_2.length c0_2,.slice A0_3 l0_3.length c0_3]) (t := 30) ?hr ?_; (case hd => rfl); (case hg => rfl); (case hr => first | (go_simp; done) | (go_simp; rfl)); intro gb189 hg w24 hbox hb; have n0_ := Aside0.mk (below_step (by repeat (first | (with_reducible first | exact HB.out | apply below_alloc | apply pw_below_drewN | apply below_drew1) | exact HB.out)) hb); have n1_ := Aside0.mk (hbox); have n2_ := Aside0.mk ((by rw [hg]; exact (below_size (by repeat (first | (with_reducible first | exact HB.out | apply below_alloc | apply pw_below_drewN | apply below_drew1) | exact HB.out))) : w.heap.size ≤ gb189)); have n3_ := Aside0.mk ((by rw [hg]; exact (below_size (by repeat (first | (with_reducible first | exact HB.out | apply below_alloc | apply pw_below_drewN | apply below_drew1) | exact HB.out))) : w.heap.size ≤ gb189)); clear HB; have HB := n0_; have BK189 := n1_; have GW189 := n2_; have GE189 := n3_; clear n0_ n1_ n2_ n3_; clear hb hbox hg) | ((with_reducible refine gate_callee (f := 46) rfl ?_); refine goesL_ (some 13) rfl rfl Tryd.func46 (by kernel_rfl) rfl #[.pointer (some ⟨gb189,0,none⟩)] rfl (by (try simp only [List.map_toArray,List.map_cons,List.map_nil]); first | done | rfl | (simp only [List.length_drop,List.length_take]; rfl)) ?_; (with_reducible refine (spec_l03Is.calls k gb189 a0_0 a0_1 A0_2 c0_2 l0_2 A0_3 c0_3 l0_3 false _ ?side1 ?side2 ?side3 ?side4 ?side5 A4.out).mono ?_); (case side1 => exact by (with_reducible repeat (first | refine blk_drewN ?_ _ | refine blk_drew ?_ | refine blk_alloc ?_ _)); exact BK189.out); (case side2 => repeat (first | exact (Kd.C_below HR0_2.out HB.out) | (with_reducible refine Kd.C_alloc ?_ _) | (with_reducible refine Kd.C_drewN ?_ _) | (with_reducible refine Kd.C_drew ?_))); (case side3 => exact HC0_2.out); (case side4 => repeat (first | exact (Kd.C_below HR0_3.out HB.out) | (with_reducible refine Kd.C_alloc ?_ _) | (with_reducible refine Kd.C_drewN ?_ _) | (with_reducible refine Kd.C_drew ?_))); (case side5 => exact HC0_3.out); rintro e w25 ⟨rfl,hb⟩; refine ⟨_,rfl,?_⟩; have n0_ := Aside0.mk (blk_below (g := gb189) (o := .cells #[.int .i64 a0_0,.int .i64 a0_1,.slice A0_2 l0_2.length c0_2,.slice A0_3 l0_3.length c0_3] 30 (0,0)) (by (with_reducible repeat (first | refine blk_drewN ?_ _ | refine blk_drew ?_ | refine blk_alloc ?_ _)); exact BK189.out) hb); have n1_ := Aside0.mk (below_step (by repeat (first | (with_reducible first | exact HB.out | apply below_alloc | apply pw_below_drewN | apply below_drew1 | refine below_set ?_ GE189.out) | exact HB.out)) hb); clear BK189; clear HB; have BK189 := n0_; have HB := n1_; clear n0_ n1_; (try clear hb); (try clear hb2); (try clear hk); (try clear hi)))
  refine bodyPost_ret (results_list (rs := [.tmp 6,.tmp 7,.tmp 8,.tmp 9]) rfl (by simp) (.tmp (.tmp (.tmp (.tmp .nil))))) rfl ?_
  exact ⟨_,_,by first | rfl | (simp [errW_none,errW_some] <;> rfl) | (simp [*,errW_none,errW_some] <;> rfl),by first | exact Kd.R_nil _ _ _ _ _ | exact Kd.N_nil _ _ _ _ _ | exact Kd.V_nil _ _ _ _ _ | exact Kd.Q_nil _ _ _ _ _ | exact Kd.S_nil _ _ _ _ _,by first | exact Kd.R_nil _ _ _ _ _ | exact Kd.N_nil _ _ _ _ _ | exact Kd.V_nil _ _ _ _ _ | exact Kd.Q_nil _ _ _ _ _ | exact Kd.S_nil _ _ _ _ _,by repeat (first | (with_reducible first | exact HB.out | apply below_alloc | apply pw_below_drewN | apply below_drew1 | refine below_set ?_ GE189.out) | exact HB.out)⟩

/-! ### impl_within: function 73 -/
def impl_within.f (a0 : Int) (a1 : Int) (a2 : Int) : Option (Bool) := if a0 ≥ a1 then (some (decide (a0 ≤ a2))) else (some false)
set_option maxHeartbeats 8000000 in
set_option maxRecDepth 100000 in
theorem impl_within.calls (a0 : Int) (a1 : Int) (a2 : Int) (r : Bool) (w : World) (h : impl_within.f a0 a1 a2 = some r) :
  Calls Tryd.prog 73 #[.int .i64 a0,.int .i64 a1,.int .i64 a2] w fun e w' => e = .returned (.bool r) ∧ Drawn0 w w' := by
 have H : (if a0 ≥ a1 then (some (decide (a0 ≤ a2))) else (some false)) = some r := h
 clear h
 by_cases c4 : a0 ≥ a1
 ·rw [if_pos c4] at H
  have c4b0 : decide (a1 ≤ a0) = true := decide_eq_true c4
  clear c4
  obtain rfl := Option.some.inj H
  go_enter Tryd.func73,Tryd.ntmps73
  go_wp2
  go_ret
  exact ⟨by first | rfl | (simp; done) | (simp [*]; done),by repeat (first | exact Drawn0.refl _ | apply Drawn0.step)⟩
 ·rw [if_neg c4] at H
  have c4b0 : decide (a1 ≤ a0) = false := decide_eq_false c4
  clear c4
  obtain rfl := Option.some.inj H
  go_enter Tryd.func73,Tryd.ntmps73
  go_wp2
  go_ret
  exact ⟨by first | rfl | (simp; done) | (simp [*]; done),by repeat (first | exact Drawn0.refl _ | apply Drawn0.step)⟩

/-! ### impl_isData: function 48 -/
def impl_isData.f (a0 : Int) : Option (Bool) := (impl_within.f a0 1 6).bind fun t200 => (some t200)
set_option maxHeartbeats 8000000 in
set_option maxRecDepth 100000 in
theorem impl_isData.calls (a0 : Int) (r : Bool) (w : World) (h : impl_isData.f a0 = some r) :
  Calls Tryd.prog 48 #[.int .i64 a0] w fun e w' => e = .returned (.bool r) ∧ Drawn0 w w' := by
 have H : ((impl_within.f a0 1 6).bind fun t200 => (some t200)) = some r := h
 clear h
 replace H := Option.bind_eq_some_iff.mp H
 obtain ⟨t200,A20,H⟩ := H
 replace H : (some t200) = some r := H
 have A2 := Aside0.mk A20
 clear A20
 obtain rfl := Option.some.inj H
 go_enter Tryd.func48,Tryd.ntmps48
 go_wp2_with (first | ((with_reducible refine gate_callee (f := 73) rfl ?_); refine goesL_ (some 4) rfl rfl Tryd.func73 (by kernel_rfl) rfl #[.int .i64 a0,.int .i64 1,.int .i64 6] rfl (by (try simp only [List.map_toArray,List.map_cons,List.map_nil]); first | done | rfl | (simp only [List.length_drop,List.length_take]; rfl)) ?_; (with_reducible refine (impl_within.calls a0 1 6 t200 _ A2.out).mono ?_); rintro e w' ⟨rfl,⟨nd,rfl⟩⟩; refine ⟨_,rfl,?_⟩))
 go_ret
 exact ⟨by first | rfl | (simp; done) | (simp [*]; done),by repeat (first | exact Drawn0.refl _ | apply Drawn0.step)⟩

/-! ### impl_isWidth: function 49 -/
def impl_isWidth.f (a0 : Int) : Option (Bool) := (impl_within.f a0 2 12).bind fun t201 => (if t201 = true then (some ((Int.tmod a0 2) == 0)) else (some false))
set_option maxHeartbeats 8000000 in
set_option maxRecDepth 100000 in
theorem impl_isWidth.calls (a0 : Int) (r : Bool) (w : World) (h : impl_isWidth.f a0 = some r) :
  Calls Tryd.prog 49 #[.int .i64 a0] w fun e w' => e = .returned (.bool r) ∧ Drawn0 w w' := by
 have H : ((impl_within.f a0 2 12).bind fun t201 => (if t201 = true then (some ((Int.tmod a0 2) == 0)) else (some false))) = some r := h
 clear h
 replace H := Option.bind_eq_some_iff.mp H
 obtain ⟨t201,A20,H⟩ := H
 replace H : (if t201 = true then (some ((Int.tmod a0 2) == 0)) else (some false)) = some r := H
 have A2 := Aside0.mk A20
 clear A20
 by_cases c3 : t201 = true
 ·subst c3
  have H1 : (some ((Int.tmod a0 2) == 0)) = some r := by rw [if_pos rfl] at H; exact H
  clear H
  have H := H1
  clear H1
  obtain rfl := Option.some.inj H
  go_enter Tryd.func49,Tryd.ntmps49
  go_wp2_with (first | ((with_reducible refine gate_callee (f := 73) rfl ?_); refine goesL_ (some 4) rfl rfl Tryd.func73 (by kernel_rfl) rfl #[.int .i64 a0,.int .i64 2,.int .i64 12] rfl (by (try simp only [List.map_toArray,List.map_cons,List.map_nil]); first | done | rfl | (simp only [List.length_drop,List.length_take]; rfl)) ?_; (with_reducible refine (impl_within.calls a0 2 12 true _ A2.out).mono ?_); rintro e w' ⟨rfl,⟨nd,rfl⟩⟩; refine ⟨_,rfl,?_⟩))
  go_ret
  exact ⟨by first | rfl | (simp; done) | (simp [*]; done),by repeat (first | exact Drawn0.refl _ | apply Drawn0.step)⟩
 ·replace c3 := Bool.eq_false_iff.mpr c3
  subst c3
  have H1 : (some false) = some r := by rw [if_neg (show ¬ (false = true) by decide)] at H; exact H
  clear H
  have H := H1
  clear H1
  obtain rfl := Option.some.inj H
  go_enter Tryd.func49,Tryd.ntmps49
  go_wp2_with (first | ((with_reducible refine gate_callee (f := 73) rfl ?_); refine goesL_ (some 4) rfl rfl Tryd.func73 (by kernel_rfl) rfl #[.int .i64 a0,.int .i64 2,.int .i64 12] rfl (by (try simp only [List.map_toArray,List.map_cons,List.map_nil]); first | done | rfl | (simp only [List.length_drop,List.length_take]; rfl)) ?_; (with_reducible refine (impl_within.calls a0 2 12 false _ A2.out).mono ?_); rintro e w' ⟨rfl,⟨nd,rfl⟩⟩; refine ⟨_,rfl,?_⟩))
  go_ret
  exact ⟨by first | rfl | (simp; done) | (simp [*]; done),by repeat (first | exact Drawn0.refl _ | apply Drawn0.step)⟩

/-! ### strings_Count: function 79 -/
/-- Of the text "1": all that this program asks.  -/
def strings_Count.f (a0 : ByteArray) (a1 : ByteArray) : Option (Int) := if a1 = ⟨#[49]⟩ then some (Lib.countByte a0.data.toList 49) else none
theorem strings_Count.calls (a0 : ByteArray) (a1 : ByteArray) (r : Int) (w : World) (h : strings_Count.f a0 a1 = some r) :
  Calls Tryd.prog 79 #[.string a0,.string a1] w fun e w' => e = .returned (.int .i64 r) ∧ Drawn0 w w' := by
 unfold strings_Count.f at h
 by_cases c : a1 = ⟨#[49]⟩
 ·rw [if_pos c] at h
  obtain rfl := c
  obtain rfl := Option.some.inj h
  refine (Any.strings_Count_one Tryd.lays138 a0 49 w).mono ?_
  rintro e w' ⟨rfl,rfl⟩
  exact ⟨rfl,⟨⟨0,rfl⟩⟩⟩
 ·rw [if_neg c] at h; cases h

/-! ### impl_disparity: function 44 -/
def impl_disparity.f (a0 : ByteArray) : Option (Int) := (strings_Count.f a0 (⟨#[49]⟩ : ByteArray)).bind fun t202 => (some (wrap64 ((wrap64 (2 * t202)) - (a0.size : Int))))
set_option maxHeartbeats 8000000 in
set_option maxRecDepth 100000 in
theorem impl_disparity.calls (a0 : ByteArray) (r : Int) (w : World) (h : impl_disparity.f a0 = some r) :
  Calls Tryd.prog 44 #[.string a0] w fun e w' => e = .returned (.int .i64 r) ∧ Drawn0 w w' := by
 have H : ((strings_Count.f a0 (⟨#[49]⟩ : ByteArray)).bind fun t202 => (some (wrap64 ((wrap64 (2 * t202)) - (a0.size : Int))))) = some r := h
 clear h
 replace H := Option.bind_eq_some_iff.mp H
 obtain ⟨t202,A20,H⟩ := H
 replace H : (some (wrap64 ((wrap64 (2 * t202)) - (a0.size : Int)))) = some r := H
 have A2 := Aside0.mk A20
 clear A20
 obtain rfl := Option.some.inj H
 go_enter Tryd.func44,Tryd.ntmps44
 go_wp2_with (first | ((with_reducible refine gate_callee (f := 79) rfl ?_); refine goesL_ (some 4) rfl rfl Tryd.func79 (by kernel_rfl) rfl #[.string a0,.string (⟨#[49]⟩ : ByteArray)] rfl (by (try simp only [List.map_toArray,List.map_cons,List.map_nil]); first | done | rfl | (simp only [List.length_drop,List.length_take]; rfl)) ?_; (with_reducible refine (strings_Count.calls a0 (⟨#[49]⟩ : ByteArray) t202 _ A2.out).mono ?_); rintro e w' ⟨rfl,⟨nd,rfl⟩⟩; refine ⟨_,rfl,?_⟩))
 go_ret
 exact ⟨by first | rfl | (simp; done) | (simp [*]; done),by repeat (first | exact Drawn0.refl _ | apply Drawn0.step)⟩

/-! ### strings_Trim: function 83 -/
/-- The cutset "01": all that this program asks. -/
def strings_Trim.f (a0 : ByteArray) (a1 : ByteArray) : Option (ByteArray) := if a1 = ⟨#[48,49]⟩ ∧ a0.size ≤ 9223372036854775807 then some ⟨(Lib.trimS a0.data.toList [48,49]).toArray⟩ else none
theorem strings_Trim.calls (a0 : ByteArray) (a1 : ByteArray) (r : ByteArray) (w : World) (h : strings_Trim.f a0 a1 = some r) :
  Calls Tryd.prog 83 #[.string a0,.string a1] w fun e w' => e = .returned (.string r) ∧ Below w.heap.size w w' := by
 unfold strings_Trim.f at h
 by_cases c : a1 = ⟨#[48,49]⟩ ∧ a0.size ≤ 9223372036854775807
 ·rw [if_pos c] at h
  obtain ⟨rfl,hs⟩ := c
  obtain rfl := Option.some.inj h
  exact Any.strings_Trim_laid Tryd.lays160 (by kernel_rfl) a0 ⟨#[48,49]⟩ w hs (by decide) (ascii_of_all (by decide))
 ·rw [if_neg c] at h; cases h

/-! ### impl_areBits: function 57 -/
def impl_areBits.f (a0 : ByteArray) : Option (Bool) := (strings_Trim.f a0 (⟨#[48,49]⟩ : ByteArray)).bind fun t203 => (some (t203.toList == ([] : List UInt8)))
set_option maxHeartbeats 8000000 in
set_option maxRecDepth 100000 in
theorem impl_areBits.calls (a0 : ByteArray) (r : Bool) (w : World) (h : impl_areBits.f a0 = some r) :
  Calls Tryd.prog 57 #[.string a0] w fun e w' => e = .returned (.bool r) ∧ Below w.heap.size w w' := by
 have HB := Aside0.mk (Below.refl w.heap.size w)
 have H : ((strings_Trim.f a0 (⟨#[48,49]⟩ : ByteArray)).bind fun t203 => (some (t203.toList == ([] : List UInt8)))) = some r := h
 clear h
 replace H := Option.bind_eq_some_iff.mp H
 obtain ⟨t203,A20,H⟩ := H
 replace H : (some (t203.toList == ([] : List UInt8))) = some r := H
 have A2 := Aside0.mk A20
 clear A20
 obtain rfl := Option.some.inj H
 go_enter Tryd.func57,Tryd.ntmps57
 go_wp2_with (first | ((with_reducible refine gate_callee (f := 83) rfl ?_); refine goesL_ (some 4) rfl rfl Tryd.func83 (by kernel_rfl) rfl #[.string a0,.string (⟨#[48,49]⟩ : ByteArray)] rfl (by (try simp only [List.map_toArray,List.map_cons,List.map_nil]); first | done | rfl | (simp only [List.length_drop,List.length_take]; rfl)) ?_; (with_reducible refine (strings_Trim.calls a0 (⟨#[48,49]⟩ : ByteArray) t203 _ A2.out).mono ?_); rintro e w3 ⟨rfl,hb⟩; refine ⟨_,rfl,?_⟩; have n0_ := Aside0.mk (below_step (by repeat (first | (with_reducible first | exact HB.out | apply below_alloc | apply pw_below_drewN | apply below_drew1) | exact HB.out)) hb); clear HB; have HB := n0_; clear n0_; (try clear hb); (try clear hb2); (try clear hk); (try clear hi)))
 go_ret
 exact ⟨by first | rfl | (simp [errW_none,errW_some] <;> rfl) | (simp [*,errW_none,errW_some] <;> rfl),by repeat (first | (with_reducible first | exact HB.out | apply below_alloc | apply pw_below_drewN | apply below_drew1) | exact HB.out)⟩

end Go.Proofs.YtegeaoiclepkkaaDoor.QFnExactDecodeBlocks
