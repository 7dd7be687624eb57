/-
Each Go function that this text names answers as the Lean function beside it says,wherever that one answers; conditions: the arguments lie in memory as each theorem states it.
-/
import Derived.Test.YtegeaoiclepkkaaDoorQFnExactFlipEffectx0
import Derived.Test.YtegeaoiclepkkaaDoorQFnExactFlipEffectx2
namespace Go.Proofs.YtegeaoiclepkkaaDoor.QFnExactFlipEffect
open Go.RowKit Go.Proofs.YtegeaoiclepkkaaDoorW.PrintWords Go.Proofs.YtegeaoiclepkkaaDoorW.PrintLast Go.Proofs.YtegeaoiclepkkaaDoorW.PrintMore
attribute [local go_sem] max2_int min2_int max_two min_two max_three min_three max_four min_four   -- for this text's walks alone
set_option linter.unusedVariables false
set_option linter.unusedSimpArgs false

/-! ### spec_l03State: function 59 -/
def spec_l03State.f (a0 : Int) : Option (Bool) := if a0 = (-1) then (some true) else (some (a0 == 1))
set_option maxHeartbeats 8000000 in
set_option maxRecDepth 100000 in
theorem spec_l03State.calls (a0 : Int) (r : Bool) (w : World) (h : spec_l03State.f a0 = some r) :
  Calls Tryd.prog 59 #[.int .i64 a0] w fun e w' => e = .returned (.bool r) ∧ Drawn0 w w' := by
 have H : (if a0 = (-1) then (some true) else (some (a0 == 1))) = some r := h
 clear h
 by_cases c2 : a0 = (-1)
 ·rw [if_pos c2] at H
  have c2b0 : (a0 == (-1)) = true := beq_iff_eq.mpr c2
  have c2b1 : (a0 != (-1)) = false := bne_eq_false_iff_eq.mpr c2
  clear c2
  obtain rfl := Option.some.inj H
  go_enter Tryd.func59,Tryd.ntmps59
  go_wp2
  go_ret
  exact ⟨by first | rfl | (simp; done) | (simp [*]; done),by repeat (first | exact Drawn0.refl _ | apply Drawn0.step)⟩
 ·rw [if_neg c2] at H
  have c2b0 : (a0 == (-1)) = false := beq_eq_false_iff_ne.mpr c2
  have c2b1 : (a0 != (-1)) = true := bne_iff_ne.mpr c2
  obtain rfl := Option.some.inj H
  go_enter Tryd.func59,Tryd.ntmps59
  go_wp2
  go_ret
  exact ⟨by first | rfl | (simp; done) | (simp [*]; done),by repeat (first | exact Drawn0.refl _ | apply Drawn0.step)⟩

/-! ### spec_l03List: function 52 -/
/-!  One of the lists that came in,by the sign of a number. -/
def spec_l03List.f (a1 : Int) : Option Unit := some ()
def spec_l03List_neg.f (a0_0 : Int) (a0_1 : Int) (l0_2 : List ByteArray) (l0_3 : List ByteArray) (a1 : Int) : Option Unit := if a1 < 0 then some () else none
set_option maxHeartbeats 8000000 in
set_option maxRecDepth 100000 in
theorem spec_l03List_neg.calls (g0 : Nat) (a0_0 : Int) (a0_1 : Int) (A0_2 : Option Addr) (c0_2 : Nat) (l0_2 : List ByteArray) (A0_3 : Option Addr) (c0_3 : Nat) (l0_3 : List ByteArray) (a1 : Int) (w : World) (hb0_ : w.heap[g0]? = some (.cells #[.int .i64 a0_0,.int .i64 a0_1,.slice A0_2 l0_2.length c0_2,.slice A0_3 l0_3.length c0_3] 30 (0,0))) (hr0_2 : Kd.C Kd.string w A0_2 l0_2.length l0_2) (hc0_2 : l0_2.length ≤ c0_2) (hr0_3 : Kd.C Kd.string w A0_3 l0_3.length l0_3) (hc0_3 : l0_3.length ≤ c0_3) (h : spec_l03List_neg.f a0_0 a0_1 l0_2 l0_3 a1 = some ()) :
  Calls Tryd.prog 52 #[.pointer (some ⟨g0,0,none⟩),.int .i64 a1] w fun e w' => e = .returned (.slice A0_2 l0_2.length c0_2) ∧ Below w.heap.size w w' := by
 unfold spec_l03List_neg.f at h
 by_cases c : a1 < 0
 ·have cb : decide (a1 < 0) = true := decide_eq_true c
  clear h hr0_2 hc0_2 hr0_3 hc0_3
  have hu30 := Tryd.underlying30
  have hcz2 : w.cell? ⟨g0,2,none⟩ = some (.slice A0_2 l0_2.length c0_2) := (blk_cell hb0_ 2).trans rfl
  have hcz3 : w.cell? ⟨g0,3,none⟩ = some (.slice A0_3 l0_3.length c0_3) := (blk_cell hb0_ 3).trans rfl
  clear hb0_
  have HB := Aside0.mk (Below.refl w.heap.size w)
  go_enter Tryd.func52,Tryd.ntmps52
  go_wp2
  go_ret
  exact ⟨by first | rfl | (simp; done) | (simp [*]; done),(by repeat (first | (with_reducible first | exact HB.out | apply below_alloc | apply pw_below_drewN | apply below_drew1) | exact HB.out))⟩
 ·rw [if_neg c] at h; cases h
def spec_l03List_pos.f (a0_0 : Int) (a0_1 : Int) (l0_2 : List ByteArray) (l0_3 : List ByteArray) (a1 : Int) : Option Unit := if ¬ a1 < 0 then some () else none
set_option maxHeartbeats 8000000 in
set_option maxRecDepth 100000 in
theorem spec_l03List_pos.calls (g0 : Nat) (a0_0 : Int) (a0_1 : Int) (A0_2 : Option Addr) (c0_2 : Nat) (l0_2 : List ByteArray) (A0_3 : Option Addr) (c0_3 : Nat) (l0_3 : List ByteArray) (a1 : Int) (w : World) (hb0_ : w.heap[g0]? = some (.cells #[.int .i64 a0_0,.int .i64 a0_1,.slice A0_2 l0_2.length c0_2,.slice A0_3 l0_3.length c0_3] 30 (0,0))) (hr0_2 : Kd.C Kd.string w A0_2 l0_2.length l0_2) (hc0_2 : l0_2.length ≤ c0_2) (hr0_3 : Kd.C Kd.string w A0_3 l0_3.length l0_3) (hc0_3 : l0_3.length ≤ c0_3) (h : spec_l03List_pos.f a0_0 a0_1 l0_2 l0_3 a1 = some ()) :
  Calls Tryd.prog 52 #[.pointer (some ⟨g0,0,none⟩),.int .i64 a1] w fun e w' => e = .returned (.slice A0_3 l0_3.length c0_3) ∧ Below w.heap.size w w' := by
 unfold spec_l03List_pos.f at h
 by_cases c : a1 < 0
 ·rw [if_neg (fun q => q c)] at h; cases h
 ·have cb : decide (a1 < 0) = false := decide_eq_false c
  clear h hr0_2 hc0_2 hr0_3 hc0_3
  have hu30 := Tryd.underlying30
  have hcz2 : w.cell? ⟨g0,2,none⟩ = some (.slice A0_2 l0_2.length c0_2) := (blk_cell hb0_ 2).trans rfl
  have hcz3 : w.cell? ⟨g0,3,none⟩ = some (.slice A0_3 l0_3.length c0_3) := (blk_cell hb0_ 3).trans rfl
  clear hb0_
  have HB := Aside0.mk (Below.refl w.heap.size w)
  go_enter Tryd.func52,Tryd.ntmps52
  go_wp2
  go_ret
  exact ⟨by first | rfl | (simp; done) | (simp [*]; done),(by repeat (first | (with_reducible first | exact HB.out | apply below_alloc | apply pw_below_drewN | apply below_drew1) | exact HB.out))⟩

/-! ### spec_l03Next: function 67 -/
def spec_l03Next.f (k : Nat) (a0 : Int) (a1 : ByteArray) : Option (Int) := (spec_l03Disparity.f k a1).bind fun t151 => (if t151 > 0 then (some 1) else (if t151 < 0 then (some (-1)) else (some a0)))
set_option maxHeartbeats 8000000 in
set_option maxRecDepth 100000 in
theorem spec_l03Next.calls (k : Nat) (a0 : Int) (a1 : ByteArray) (r : Int) (w : World) (h : spec_l03Next.f k a0 a1 = some r) :
  Calls Tryd.prog 67 #[.int .i64 a0,.string a1] w fun e w' => e = .returned (.int .i64 r) ∧ Drawn0 w w' := by
 have H : ((spec_l03Disparity.f k a1).bind fun t151 => (if t151 > 0 then (some 1) else (if t151 < 0 then (some (-1)) else (some a0)))) = some r := h
 clear h
 replace H := Option.bind_eq_some_iff.mp H
 obtain ⟨t151,A30,H⟩ := H
 replace H : (if t151 > 0 then (some 1) else (if t151 < 0 then (some (-1)) else (some a0))) = some r := H
 have A3 := Aside0.mk A30
 clear A30
 by_cases c4 : t151 > 0
 ·rw [if_pos c4] at H
  have c4b0 : decide (0 < t151) = true := decide_eq_true c4
  clear c4
  obtain rfl := Option.some.inj H
  go_enter Tryd.func67,Tryd.ntmps67
  go_wp2_with (first | ((with_reducible refine gate_callee (f := 42) rfl ?_); refine goesL_ (some 7) rfl rfl Tryd.func42 (by kernel_rfl) rfl #[.string a1] rfl (by (try simp only [List.map_toArray,List.map_cons,List.map_nil]); first | done | rfl | (simp only [List.length_drop,List.length_take]; rfl)) ?_; (with_reducible refine (spec_l03Disparity.calls k a1 t151 _ A3.out).mono ?_); rintro e w' ⟨rfl,⟨nd,rfl⟩⟩; refine ⟨_,rfl,?_⟩))
  go_ret
  exact ⟨by first | rfl | (simp; done) | (simp [*]; done),by repeat (first | exact Drawn0.refl _ | apply Drawn0.step)⟩
 ·rw [if_neg c4] at H
  have c4b0 : decide (0 < t151) = false := decide_eq_false c4
  clear c4
  by_cases c5 : t151 < 0
  ·rw [if_pos c5] at H
   have c5b0 : decide (t151 < 0) = true := decide_eq_true c5
   clear c5
   obtain rfl := Option.some.inj H
   go_enter Tryd.func67,Tryd.ntmps67
   go_wp2_with (first | ((with_reducible refine gate_callee (f := 42) rfl ?_); refine goesL_ (some 7) rfl rfl Tryd.func42 (by kernel_rfl) rfl #[.string a1] rfl (by (try simp only [List.map_toArray,List.map_cons,List.map_nil]); first | done | rfl | (simp only [List.length_drop,List.length_take]; rfl)) ?_; (with_reducible refine (spec_l03Disparity.calls k a1 t151 _ A3.out).mono ?_); rintro e w' ⟨rfl,⟨nd,rfl⟩⟩; refine ⟨_,rfl,?_⟩))
   go_ret
   exact ⟨by first | rfl | (simp; done) | (simp [*]; done),by repeat (first | exact Drawn0.refl _ | apply Drawn0.step)⟩
  ·rw [if_neg c5] at H
   have c5b0 : decide (t151 < 0) = false := decide_eq_false c5
   clear c5
   obtain rfl := Option.some.inj H
   go_enter Tryd.func67,Tryd.ntmps67
   go_wp2_with (first | ((with_reducible refine gate_callee (f := 42) rfl ?_); refine goesL_ (some 7) rfl rfl Tryd.func42 (by kernel_rfl) rfl #[.string a1] rfl (by (try simp only [List.map_toArray,List.map_cons,List.map_nil]); first | done | rfl | (simp only [List.length_drop,List.length_take]; rfl)) ?_; (with_reducible refine (spec_l03Disparity.calls k a1 t151 _ A3.out).mono ?_); rintro e w' ⟨rfl,⟨nd,rfl⟩⟩; refine ⟨_,rfl,?_⟩))
   go_ret
   exact ⟨by first | rfl | (simp; done) | (simp [*]; done),by repeat (first | exact Drawn0.refl _ | apply Drawn0.step)⟩

end Go.Proofs.YtegeaoiclepkkaaDoor.QFnExactFlipEffect
