/-
Each Go function that this text names answers as the Lean function beside it says,wherever that one answers; conditions: the arguments lie in memory as each theorem states it.
-/
import Derived.Test.YtegeaoiclepkkaaDoorQFnExactSumRangex0
import Derived.Test.YtegeaoiclepkkaaDoorQFnExactSumRangex1
import Derived.Test.YtegeaoiclepkkaaDoorQFnExactSumRangex4
namespace Go.Proofs.YtegeaoiclepkkaaDoor.QFnExactSumRange
open Go.RowKit Go.Proofs.YtegeaoiclepkkaaDoorW.PrintWords Go.Proofs.YtegeaoiclepkkaaDoorW.PrintLast Go.Proofs.YtegeaoiclepkkaaDoorW.PrintMore
attribute [local go_sem] max2_int min2_int max_two min_two max_three min_three max_four min_four   -- for this text's walks alone
set_option linter.unusedVariables false
set_option linter.unusedSimpArgs false

/-! ### spec_l03List: function 52 -/
/-!  One of the lists that came in,by the sign of a number. -/
def spec_l03List.f (a1 : Int) : Option Unit := some ()
def spec_l03List_neg.f (a0_0 : Int) (a0_1 : Int) (l0_2 : List ByteArray) (l0_3 : List ByteArray) (a1 : Int) : Option Unit := if a1 < 0 then some () else none
set_option maxHeartbeats 8000000 in
set_option maxRecDepth 100000 in
theorem spec_l03List_neg.calls (g0 : Nat) (a0_0 : Int) (a0_1 : Int) (A0_2 : Option Addr) (c0_2 : Nat) (l0_2 : List ByteArray) (A0_3 : Option Addr) (c0_3 : Nat) (l0_3 : List ByteArray) (a1 : Int) (w : World) (hb0_ : w.heap[g0]? = some (.cells #[.int .i64 a0_0,.int .i64 a0_1,.slice A0_2 l0_2.length c0_2,.slice A0_3 l0_3.length c0_3] 30 (0,0))) (hr0_2 : Kd.C Kd.string w A0_2 l0_2.length l0_2) (hc0_2 : l0_2.length ≤ c0_2) (hr0_3 : Kd.C Kd.string w A0_3 l0_3.length l0_3) (hc0_3 : l0_3.length ≤ c0_3) (h : spec_l03List_neg.f a0_0 a0_1 l0_2 l0_3 a1 = some ()) :
  Calls Tryd.prog 52 #[.pointer (some ⟨g0,0,none⟩),.int .i64 a1] w fun e w' => e = .returned (.slice A0_2 l0_2.length c0_2) ∧ Below w.heap.size w w' := by
 unfold spec_l03List_neg.f at h
 by_cases c : a1 < 0
 ·have cb : decide (a1 < 0) = true := decide_eq_true c
  clear h hr0_2 hc0_2 hr0_3 hc0_3
  have hu30 := Tryd.underlying30
  have hcz2 : w.cell? ⟨g0,2,none⟩ = some (.slice A0_2 l0_2.length c0_2) := (blk_cell hb0_ 2).trans rfl
  have hcz3 : w.cell? ⟨g0,3,none⟩ = some (.slice A0_3 l0_3.length c0_3) := (blk_cell hb0_ 3).trans rfl
  clear hb0_
  have HB := Aside0.mk (Below.refl w.heap.size w)
  go_enter Tryd.func52,Tryd.ntmps52
  go_wp2
  go_ret
  exact ⟨by first | rfl | (simp; done) | (simp [*]; done),(by repeat (first | (with_reducible first | exact HB.out | apply below_alloc | apply pw_below_drewN | apply below_drew1) | exact HB.out))⟩
 ·rw [if_neg c] at h; cases h
def spec_l03List_pos.f (a0_0 : Int) (a0_1 : Int) (l0_2 : List ByteArray) (l0_3 : List ByteArray) (a1 : Int) : Option Unit := if ¬ a1 < 0 then some () else none
set_option maxHeartbeats 8000000 in
set_option maxRecDepth 100000 in
theorem spec_l03List_pos.calls (g0 : Nat) (a0_0 : Int) (a0_1 : Int) (A0_2 : Option Addr) (c0_2 : Nat) (l0_2 : List ByteArray) (A0_3 : Option Addr) (c0_3 : Nat) (l0_3 : List ByteArray) (a1 : Int) (w : World) (hb0_ : w.heap[g0]? = some (.cells #[.int .i64 a0_0,.int .i64 a0_1,.slice A0_2 l0_2.length c0_2,.slice A0_3 l0_3.length c0_3] 30 (0,0))) (hr0_2 : Kd.C Kd.string w A0_2 l0_2.length l0_2) (hc0_2 : l0_2.length ≤ c0_2) (hr0_3 : Kd.C Kd.string w A0_3 l0_3.length l0_3) (hc0_3 : l0_3.length ≤ c0_3) (h : spec_l03List_pos.f a0_0 a0_1 l0_2 l0_3 a1 = some ()) :
  Calls Tryd.prog 52 #[.pointer (some ⟨g0,0,none⟩),.int .i64 a1] w fun e w' => e = .returned (.slice A0_3 l0_3.length c0_3) ∧ Below w.heap.size w w' := by
 unfold spec_l03List_pos.f at h
 by_cases c : a1 < 0
 ·rw [if_neg (fun q => q c)] at h; cases h
 ·have cb : decide (a1 < 0) = false := decide_eq_false c
  clear h hr0_2 hc0_2 hr0_3 hc0_3
  have hu30 := Tryd.underlying30
  have hcz2 : w.cell? ⟨g0,2,none⟩ = some (.slice A0_2 l0_2.length c0_2) := (blk_cell hb0_ 2).trans rfl
  have hcz3 : w.cell? ⟨g0,3,none⟩ = some (.slice A0_3 l0_3.length c0_3) := (blk_cell hb0_ 3).trans rfl
  clear hb0_
  have HB := Aside0.mk (Below.refl w.heap.size w)
  go_enter Tryd.func52,Tryd.ntmps52
  go_wp2
  go_ret
  exact ⟨by first | rfl | (simp; done) | (simp [*]; done),(by repeat (first | (with_reducible first | exact HB.out | apply below_alloc | apply pw_below_drewN | apply below_drew1) | exact HB.out))⟩

/-! ### spec_l00Min: function 53 -/
def spec_l00Min.f (a0 : Int) (a1 : Int) : Option (Int) := if a0 < a1 then (some a0) else (some a1)
set_option maxHeartbeats 8000000 in
set_option maxRecDepth 100000 in
theorem spec_l00Min.calls (a0 : Int) (a1 : Int) (r : Int) (w : World) (h : spec_l00Min.f a0 a1 = some r) :
  Calls Tryd.prog 53 #[.int .i64 a0,.int .i64 a1] w fun e w' => e = .returned (.int .i64 r) ∧ Drawn0 w w' := by
 have H : (if a0 < a1 then (some a0) else (some a1)) = some r := h
 clear h
 by_cases c3 : a0 < a1
 ·rw [if_pos c3] at H
  have c3b0 : decide (a0 < a1) = true := decide_eq_true c3
  clear c3
  obtain rfl := Option.some.inj H
  go_enter Tryd.func53,Tryd.ntmps53
  go_wp2
  go_ret
  exact ⟨by first | rfl | (simp; done) | (simp [*]; done),by repeat (first | exact Drawn0.refl _ | apply Drawn0.step)⟩
 ·rw [if_neg c3] at H
  have c3b0 : decide (a0 < a1) = false := decide_eq_false c3
  clear c3
  obtain rfl := Option.some.inj H
  go_enter Tryd.func53,Tryd.ntmps53
  go_wp2
  go_ret
  exact ⟨by first | rfl | (simp; done) | (simp [*]; done),by repeat (first | exact Drawn0.refl _ | apply Drawn0.step)⟩

/-! ### spec_l00Max: function 54 -/
def spec_l00Max.f (a0 : Int) (a1 : Int) : Option (Int) := if a0 > a1 then (some a0) else (some a1)
set_option maxHeartbeats 8000000 in
set_option maxRecDepth 100000 in
theorem spec_l00Max.calls (a0 : Int) (a1 : Int) (r : Int) (w : World) (h : spec_l00Max.f a0 a1 = some r) :
  Calls Tryd.prog 54 #[.int .i64 a0,.int .i64 a1] w fun e w' => e = .returned (.int .i64 r) ∧ Drawn0 w w' := by
 have H : (if a0 > a1 then (some a0) else (some a1)) = some r := h
 clear h
 by_cases c3 : a0 > a1
 ·rw [if_pos c3] at H
  have c3b0 : decide (a1 < a0) = true := decide_eq_true c3
  clear c3
  obtain rfl := Option.some.inj H
  go_enter Tryd.func54,Tryd.ntmps54
  go_wp2
  go_ret
  exact ⟨by first | rfl | (simp; done) | (simp [*]; done),by repeat (first | exact Drawn0.refl _ | apply Drawn0.step)⟩
 ·rw [if_neg c3] at H
  have c3b0 : decide (a1 < a0) = false := decide_eq_false c3
  clear c3
  obtain rfl := Option.some.inj H
  go_enter Tryd.func54,Tryd.ntmps54
  go_wp2
  go_ret
  exact ⟨by first | rfl | (simp; done) | (simp [*]; done),by repeat (first | exact Drawn0.refl _ | apply Drawn0.step)⟩

/-! ### spec_SumRange: function 19 -/
mutual
def spec_SumRange.l0 : Nat → Int → Int → Int → Int → Int → List ByteArray → List ByteArray → Option (Int × Int × Bool)
 | 0,_,_,_,_,_,_,_ => none
 | k + 1,x5,x6,x7,x145000,x145001,x145002,x145003 => if x7 ≤ 1 then (if x7 < 0 then ((spec_l03List_neg.f x145000 x145001 x145002 x145003 x7).bind fun _ => (spec_SumRange.l1 k x5 x6 x7 x145002 0 x145000 x145001 x145002 x145003)) else ((spec_l03List_pos.f x145000 x145001 x145002 x145003 x7).bind fun _ => (spec_SumRange.l101 k x5 x6 x7 x145003 0 x145000 x145001 x145002 x145003))) else (some (x5,x6,true))
def spec_SumRange.l1 : Nat → Int → Int → Int → List ByteArray → Int → Int → Int → List ByteArray → List ByteArray → Option (Int × Int × Bool)
 | 0,_,_,_,_,_,_,_,_,_ => none
 | k + 1,x5,x6,x7,x8,x9,x145000,x145001,x145002,x145003 => if x9 < (x8.length : Int) then (spec_SumRange.l2 k x5 x6 x7 x8 x9 1 x145000 x145001 x145002 x145003) else (spec_SumRange.l0 k x5 x6 (wrap64 (x7 + 2)) x145000 x145001 x145002 x145003)
def spec_SumRange.l2 : Nat → Int → Int → Int → List ByteArray → Int → Int → Int → Int → List ByteArray → List ByteArray → Option (Int × Int × Bool)
 | 0,_,_,_,_,_,_,_,_,_,_ => none
 | k + 1,x5,x6,x7,x8,x9,x10,x145000,x145001,x145002,x145003 => if 0 ≤ x9 then (if x9 < (x8.length : Int) then (if x10 ≤ ((rdOf ByteArray.empty x8 x9).size : Int) then (if 0 ≤ x10 then ((spec_l03Disparity.f k ((rdOf ByteArray.empty x8 x9).extract 0 (x10 : Int).toNat)).bind fun t148 => ((spec_l00Min.f x5 (wrap64 (x7 + t148))).bind fun t149 => ((spec_l00Max.f x6 (wrap64 (x7 + t148))).bind fun t150 => (spec_SumRange.l2 k t149 t150 x7 x8 x9 (wrap64 (x10 + 1)) x145000 x145001 x145002 x145003)))) else (none)) else (spec_SumRange.l1 k x5 x6 x7 x8 (wrap64 (x9 + 1)) x145000 x145001 x145002 x145003)) else (none)) else (none)
def spec_SumRange.l101 : Nat → Int → Int → Int → List ByteArray → Int → Int → Int → List ByteArray → List ByteArray → Option (Int × Int × Bool)
 | 0,_,_,_,_,_,_,_,_,_ => none
 | k + 1,x5,x6,x7,x8,x9,x145000,x145001,x145002,x145003 => if x9 < (x8.length : Int) then (spec_SumRange.l102 k x5 x6 x7 x8 x9 1 x145000 x145001 x145002 x145003) else (spec_SumRange.l0 k x5 x6 (wrap64 (x7 + 2)) x145000 x145001 x145002 x145003)
def spec_SumRange.l102 : Nat → Int → Int → Int → List ByteArray → Int → Int → Int → Int → List ByteArray → List ByteArray → Option (Int × Int × Bool)
 | 0,_,_,_,_,_,_,_,_,_,_ => none
 | k + 1,x5,x6,x7,x8,x9,x10,x145000,x145001,x145002,x145003 => if 0 ≤ x9 then (if x9 < (x8.length : Int) then (if x10 ≤ ((rdOf ByteArray.empty x8 x9).size : Int) then (if 0 ≤ x10 then ((spec_l03Disparity.f k ((rdOf ByteArray.empty x8 x9).extract 0 (x10 : Int).toNat)).bind fun t153 => ((spec_l00Min.f x5 (wrap64 (x7 + t153))).bind fun t154 => ((spec_l00Max.f x6 (wrap64 (x7 + t153))).bind fun t155 => (spec_SumRange.l102 k t154 t155 x7 x8 x9 (wrap64 (x10 + 1)) x145000 x145001 x145002 x145003)))) else (none)) else (spec_SumRange.l101 k x5 x6 x7 x8 (wrap64 (x9 + 1)) x145000 x145001 x145002 x145003)) else (none)) else (none)
end
def spec_SumRange.f (k : Nat) (a0_0 : Int) (a0_1 : Int) (l0_2 : List ByteArray) (l0_3 : List ByteArray) : Option (Int × Int × Bool) := (spec_l03Is.f k a0_0 a0_1 l0_2 l0_3).bind fun t145 => (if t145 = true then (spec_SumRange.l0 k (-1) 1 (-1) a0_0 a0_1 l0_2 l0_3) else (some (0,0,false)))
set_option maxHeartbeats 8000000 in
set_option maxRecDepth 100000 in
theorem spec_SumRange.calls (k : Nat) (a0_0 : Int) (a0_1 : Int) (A0_2 : Option Addr) (c0_2 : Nat) (l0_2 : List ByteArray) (A0_3 : Option Addr) (c0_3 : Nat) (l0_3 : List ByteArray) (r1 : Int) (r2 : Int) (r3 : Bool) (w : World) (hr0_2 : Kd.C Kd.string w A0_2 l0_2.length l0_2) (hc0_2 : l0_2.length ≤ c0_2) (hr0_3 : Kd.C Kd.string w A0_3 l0_3.length l0_3) (hc0_3 : l0_3.length ≤ c0_3) (h : spec_SumRange.f k a0_0 a0_1 l0_2 l0_3 = some (r1,r2,r3)) :
  Calls Tryd.prog 19 #[.agg #[.int .i64 a0_0,.int .i64 a0_1,.slice A0_2 l0_2.length c0_2,.slice A0_3 l0_3.length c0_3]] w fun e w' => e = .returned (.tuple #[.int .i64 r1,.int .i64 r2,.bool r3]) ∧ Below w.heap.size w w' := by
 have hu30 := Tryd.underlying30
 have HR0_2 := Aside0.mk hr0_2
 have HC0_2 := Aside0.mk hc0_2
 clear hr0_2 hc0_2
 have HR0_3 := Aside0.mk hr0_3
 have HC0_3 := Aside0.mk hc0_3
 clear hr0_3 hc0_3
 have HB := Aside0.mk (Below.refl w.heap.size w)
 have H : ((spec_l03Is.f k a0_0 a0_1 l0_2 l0_3).bind fun t145 => (if t145 = true then (spec_SumRange.l0 k (-1) 1 (-1) a0_0 a0_1 l0_2 l0_3) else (some (0,0,false)))) = some (r1,r2,r3) := h
 clear h
 replace H := Option.bind_eq_some_iff.mp H
 obtain ⟨t145,A20,H⟩ := H
 replace H : (if t145 = true then (spec_SumRange.l0 k (-1) 1 (-1) a0_0 a0_1 l0_2 l0_3) else (some (0,0,false))) = some (r1,r2,r3) := H
 have A2 := Aside0.mk A20
 clear A20
 by_cases c3 : t145 = true
 ·subst c3
  have H1 : (spec_SumRange.l0 k (-1) 1 (-1) a0_0 a0_1 l0_2 l0_3) = some (r1,r2,r3) := by rw [if_pos rfl] at H; exact H
  clear H
  have H := H1
  clear H1
  have H' := Aside0.mk H
  clear H
  go_enter Tryd.func19,Tryd.ntmps19
  go_wp2_with (first | ((with_reducible refine gate_dst (N := 1) rfl ?_); refine box_event ?hg (N := 1) ?hd (cs := #[.int .i64 a0_0,.int .i64 a0_1,.slice A0_2 l0_2.length c0_2,.slice A0_3 l0_3.length c0_3]) (t := 30) ?hr ?_; (case hd => rfl); (case hg => rfl); (case hr => first | (go_simp; done) | (go_simp; rfl)); intro gb144 hg w4 hbox hb; have n0_ := Aside0.mk (below_step (by repeat (first | (with_reducible first | exact HB.out | apply below_alloc | apply pw_below_drewN | apply below_drew1) | exact HB.out)) hb); have n1_ := Aside0.mk (hbox); have n2_ := Aside0.mk ((by rw [hg]; exact (below_size (by repeat (first | (with_reducible first | exact HB.out | apply below_alloc | apply pw_below_drewN | apply below_drew1) | exact HB.out))) : w.heap.size ≤ gb144)); have n3_ := Aside0.mk ((by rw [hg]; exact (below_size (by repeat (first | (with_reducible first | exact HB.out | apply below_alloc | apply pw_below_drewN | apply below_drew1) | exact HB.out))) : w.heap.size ≤ gb144)); clear HB; have HB := n0_; have BK144 := n1_; have GW144 := n2_; have GE144 := n3_; clear n0_ n1_ n2_ n3_; clear hb hbox hg) | ((with_reducible refine gate_callee (f := 46) rfl ?_); refine goesL_ (some 12) rfl rfl Tryd.func46 (by kernel_rfl) rfl #[.pointer (some ⟨gb144,0,none⟩)] rfl (by (try simp only [List.map_toArray,List.map_cons,List.map_nil]); first | done | rfl | (simp only [List.length_drop,List.length_take]; rfl)) ?_; (with_reducible refine (spec_l03Is.calls k gb144 a0_0 a0_1 A0_2 c0_2 l0_2 A0_3 c0_3 l0_3 true _ ?side1 ?side2 ?side3 ?side4 ?side5 A2.out).mono ?_); (case side1 => exact by (with_reducible repeat (first | refine blk_drewN ?_ _ | refine blk_drew ?_ | refine blk_alloc ?_ _)); exact BK144.out); (case side2 => repeat (first | exact (Kd.C_below HR0_2.out HB.out) | (with_reducible refine Kd.C_alloc ?_ _) | (with_reducible refine Kd.C_drewN ?_ _) | (with_reducible refine Kd.C_drew ?_))); (case side3 => exact HC0_2.out); (case side4 => repeat (first | exact (Kd.C_below HR0_3.out HB.out) | (with_reducible refine Kd.C_alloc ?_ _) | (with_reducible refine Kd.C_drewN ?_ _) | (with_reducible refine Kd.C_drew ?_))); (case side5 => exact HC0_3.out); rintro e w5 ⟨rfl,hb⟩; refine ⟨_,rfl,?_⟩; have n0_ := Aside0.mk (blk_below (g := gb144) (o := .cells #[.int .i64 a0_0,.int .i64 a0_1,.slice A0_2 l0_2.length c0_2,.slice A0_3 l0_3.length c0_3] 30 (0,0)) (by (with_reducible repeat (first | refine blk_drewN ?_ _ | refine blk_drew ?_ | refine blk_alloc ?_ _)); exact BK144.out) hb); have n1_ := Aside0.mk (below_step (by repeat (first | (with_reducible first | exact HB.out | apply below_alloc | apply pw_below_drewN | apply below_drew1 | refine below_set ?_ GE144.out) | exact HB.out)) hb); clear BK144; clear HB; have BK144 := n0_; have HB := n1_; clear n0_ n1_; (try clear hb); (try clear hb2); (try clear hk); (try clear hi)))
  go_loopg [5,6,7] k (fun kq v5 v6 v7 w' => ∃ (x5_1 : Int) (x6_1 : Int) (x7_1 : Int),v5 = .int .i64 x5_1 ∧ v6 = .int .i64 x6_1 ∧ v7 = .int .i64 x7_1 ∧ Aside0 (spec_SumRange.l0 kq x5_1 x6_1 x7_1 a0_0 a0_1 l0_2 l0_3 = some (r1,r2,r3)) ∧ Aside0 (kq ≤ k) ∧ Aside0 (w'.heap[gb144]? = some (.cells #[.int .i64 a0_0,.int .i64 a0_1,(.slice A0_2 l0_2.length c0_2),(.slice A0_3 l0_3.length c0_3)] 30 (0,0))) ∧ Aside0 (Below w.heap.size w w'))
  case atStart => exact ⟨((-1)),(1),((-1)),(by first | rfl | (simp; done) | (simp [*]; done)),(by first | rfl | (simp; done) | (simp [*]; done)),(by first | rfl | (simp; done) | (simp [*]; done)),H',⟨Nat.le_refl _⟩,⟨by (with_reducible repeat (first | refine blk_drewN ?_ _ | refine blk_drew ?_ | refine blk_alloc ?_ _)); exact BK144.out⟩,⟨by repeat (first | (with_reducible first | exact HB.out | apply below_alloc | apply pw_below_drewN | apply below_drew1 | refine below_set ?_ GE144.out) | exact HB.out)⟩⟩
  case round =>
   clear H'
   try clear c1
   try clear p2
   try clear c3
   try clear c4
   obtain ⟨x5_1,x6_1,x7_1,rfl,rfl,rfl,HA,HK1,BK144,HB⟩ := hrel
   cases gk with
   | zero => exact absurd HA.out (by simp [spec_SumRange.l0])
   | succ k1 =>
    have H := HA.out
    clear HA
    simp only [spec_SumRange.l0] at H
    by_cases c6 : x7_1 ≤ 1
    ·rw [if_pos c6] at H
     have c6b0 : decide (x7_1 ≤ 1) = true := decide_eq_true c6
     clear c6
     by_cases c7 : x7_1 < 0
     ·rw [if_pos c7] at H
      have c7b0 : decide (x7_1 < 0) = true := decide_eq_true c7
      clear c7
      replace H := Option.bind_eq_some_iff.mp H
      obtain ⟨_,A80,H⟩ := H
      replace H : (spec_SumRange.l1 k1 x5_1 x6_1 x7_1 l0_2 0 a0_0 a0_1 l0_2 l0_3) = some (r1,r2,r3) := H
      have A8 := Aside0.mk A80
      clear A80
      have H' := Aside0.mk H
      clear H
      go_wp2_with (first | ((with_reducible refine gate_callee (f := 52) rfl ?_); refine goesL_ (some 19) rfl rfl Tryd.func52 (by kernel_rfl) rfl #[.pointer (some ⟨gb144,0,none⟩),.int .i64 x7_1] rfl (by (try simp only [List.map_toArray,List.map_cons,List.map_nil]); first | done | rfl | (simp only [List.length_drop,List.length_take]; rfl)) ?_; (with_reducible refine (spec_l03List_neg.calls gb144 a0_0 a0_1 A0_2 c0_2 l0_2 A0_3 c0_3 l0_3 x7_1  _ ?side1 ?side2 ?side3 ?side4 ?side5 A8.out).mono ?_); (case side1 => exact by (with_reducible repeat (first | refine blk_drewN ?_ _ | refine blk_drew ?_ | refine blk_alloc ?_ _)); exact BK144.out); (case side2 => repeat (first | exact (Kd.C_below HR0_2.out HB.out) | (with_reducible refine Kd.C_alloc ?_ _) | (with_reducible refine Kd.C_drewN ?_ _) | (with_reducible refine Kd.C_drew ?_))); (case side3 => exact HC0_2.out); (case side4 => repeat (first | exact (Kd.C_below HR0_3.out HB.out) | (with_reducible refine Kd.C_alloc ?_ _) | (with_reducible refine Kd.C_drewN ?_ _) | (with_reducible refine Kd.C_drew ?_))); (case side5 => exact HC0_3.out); rintro e w9 ⟨rfl,hb⟩; refine ⟨_,rfl,?_⟩; have n0_ := Aside0.mk (blk_below (g := gb144) (o := .cells #[.int .i64 a0_0,.int .i64 a0_1,.slice A0_2 l0_2.length c0_2,.slice A0_3 l0_3.length c0_3] 30 (0,0)) (by (with_reducible repeat (first | refine blk_drewN ?_ _ | refine blk_drew ?_ | refine blk_alloc ?_ _)); exact BK144.out) hb); have n1_ := Aside0.mk (below_step (by repeat (first | (with_reducible first | exact HB.out | apply below_alloc | apply pw_below_drewN | apply below_drew1 | refine below_set ?_ GE144.out) | exact HB.out)) hb); clear BK144; clear HB; have BK144 := n0_; have HB := n1_; clear n0_ n1_; (try clear hb); (try clear hb2); (try clear hk); (try clear hi)))
      go_loopg [5,6,9] k1 (fun kq v5 v6 v9 w' => ∃ (x5_2 : Int) (x6_2 : Int) (x9_2 : Int),v5 = .int .i64 x5_2 ∧ v6 = .int .i64 x6_2 ∧ v9 = .int .i64 x9_2 ∧ Aside0 (spec_SumRange.l1 kq x5_2 x6_2 x7_1 l0_2 x9_2 a0_0 a0_1 l0_2 l0_3 = some (r1,r2,r3)) ∧ Aside0 (kq ≤ k1) ∧ Aside0 (w'.heap[gb144]? = some (.cells #[.int .i64 a0_0,.int .i64 a0_1,(.slice A0_2 l0_2.length c0_2),(.slice A0_3 l0_3.length c0_3)] 30 (0,0))) ∧ Aside0 (Below w.heap.size w w'))
      case atStart => exact ⟨(x5_1),(x6_1),(0),(by first | rfl | (simp; done) | (simp [*]; done)),(by first | rfl | (simp; done) | (simp [*]; done)),(by first | rfl | (simp; done) | (simp [*]; done)),H',⟨Nat.le_refl _⟩,⟨by (with_reducible repeat (first | refine blk_drewN ?_ _ | refine blk_drew ?_ | refine blk_alloc ?_ _)); exact BK144.out⟩,⟨by repeat (first | (with_reducible first | exact HB.out | apply below_alloc | apply pw_below_drewN | apply below_drew1 | refine below_set ?_ GE144.out) | exact HB.out)⟩⟩
      case round =>
       clear H'
       try clear c1
       try clear p2
       try clear c3
       try clear c4
       try clear c5
       try clear c6
       try clear c6b0
       try clear c7
       try clear c7b0
       try clear p2
       obtain ⟨x5_2,x6_2,x9_2,rfl,rfl,rfl,HA,HK2,BK144,HB⟩ := hrel
       cases gk with
       | zero => exact absurd HA.out (by simp [spec_SumRange.l1])
       | succ k2 =>
        have H := HA.out
        clear HA
        simp only [spec_SumRange.l1] at H
        by_cases c10 : x9_2 < (l0_2.length : Int)
        ·rw [if_pos c10] at H
         have c10b0 : decide (x9_2 < (l0_2.length : Int)) = true := decide_eq_true c10
         clear c10
         have H' := Aside0.mk H
         clear H
         go_wp2
         go_loopg [5,6,10] k2 (fun kq v5 v6 v10 w' => ∃ (x5_3 : Int) (x6_3 : Int) (x10_3 : Int),v5 = .int .i64 x5_3 ∧ v6 = .int .i64 x6_3 ∧ v10 = .int .i64 x10_3 ∧ Aside0 (spec_SumRange.l2 kq x5_3 x6_3 x7_1 l0_2 x9_2 x10_3 a0_0 a0_1 l0_2 l0_3 = some (r1,r2,r3)) ∧ Aside0 (kq ≤ k2) ∧ Aside0 (w'.heap[gb144]? = some (.cells #[.int .i64 a0_0,.int .i64 a0_1,(.slice A0_2 l0_2.length c0_2),(.slice A0_3 l0_3.length c0_3)] 30 (0,0))) ∧ Aside0 (Below w.heap.size w w'))
         case atStart => exact ⟨(x5_2),(x6_2),(1),(by first | rfl | (simp; done) | (simp [*]; done)),(by first | rfl | (simp; done) | (simp [*]; done)),(by first | rfl | (simp; done) | (simp [*]; done)),H',⟨Nat.le_refl _⟩,⟨by (with_reducible repeat (first | refine blk_drewN ?_ _ | refine blk_drew ?_ | refine blk_alloc ?_ _)); exact BK144.out⟩,⟨by repeat (first | (with_reducible first | exact HB.out | apply below_alloc | apply pw_below_drewN | apply below_drew1 | refine below_set ?_ GE144.out) | exact HB.out)⟩⟩
         case round =>
          clear H'
          try clear c1
          try clear p2
          try clear c3
          try clear c4
          try clear c5
          try clear c6
          try clear c6b0
          try clear c7
          try clear c7b0
          try clear c10
          try clear c10b0
          try clear p2
          obtain ⟨x5_3,x6_3,x10_3,rfl,rfl,rfl,HA,HK3,BK144,HB⟩ := hrel
          cases gk with
          | zero => exact absurd HA.out (by simp [spec_SumRange.l2])
          | succ k3 =>
           have H := HA.out
           clear HA
           simp only [spec_SumRange.l2] at H
           by_cases c11 : 0 ≤ x9_2
           ·rw [if_pos c11] at H
            have c11b0 : decide (0 ≤ x9_2) = true := decide_eq_true c11
            clear c11
            by_cases c12 : x9_2 < (l0_2.length : Int)
            ·rw [if_pos c12] at H
             have c12b0 : decide (x9_2 < (l0_2.length : Int)) = true := decide_eq_true c12
             clear c12
             by_cases c13 : x10_3 ≤ ((rdOf ByteArray.empty l0_2 x9_2).size : Int)
             ·rw [if_pos c13] at H
              have c13b0 : decide (x10_3 ≤ ((rdOf ByteArray.empty l0_2 x9_2).size : Int)) = true := decide_eq_true c13
              clear c13
              by_cases c14 : 0 ≤ x10_3
              ·rw [if_pos c14] at H
               have c14b0 := eq_true c14
               have c14b1 : decide (0 ≤ x10_3) = true := decide_eq_true c14
               clear c14
               have c15b0 := eq_true (of_decide_eq_true (by first | (with_reducible assumption) | assumption) : x10_3 ≤ ((rdOf ByteArray.empty l0_2 x9_2).size : Int))
               replace H := Option.bind_eq_some_iff.mp H
               obtain ⟨t148,A160,H⟩ := H
               replace H : ((spec_l00Min.f x5_3 (wrap64 (x7_1 + t148))).bind fun t149 => ((spec_l00Max.f x6_3 (wrap64 (x7_1 + t148))).bind fun t150 => (spec_SumRange.l2 k3 t149 t150 x7_1 l0_2 x9_2 (wrap64 (x10_3 + 1)) a0_0 a0_1 l0_2 l0_3))) = some (r1,r2,r3) := H
               have A16 := Aside0.mk A160
               clear A160
               replace H := Option.bind_eq_some_iff.mp H
               obtain ⟨t149,A170,H⟩ := H
               replace H : ((spec_l00Max.f x6_3 (wrap64 (x7_1 + t148))).bind fun t150 => (spec_SumRange.l2 k3 t149 t150 x7_1 l0_2 x9_2 (wrap64 (x10_3 + 1)) a0_0 a0_1 l0_2 l0_3)) = some (r1,r2,r3) := H
               have A17 := Aside0.mk A170
               clear A170
               replace H := Option.bind_eq_some_iff.mp H
               obtain ⟨t150,A180,H⟩ := H
               replace H : (spec_SumRange.l2 k3 t149 t150 x7_1 l0_2 x9_2 (wrap64 (x10_3 + 1)) a0_0 a0_1 l0_2 l0_3) = some (r1,r2,r3) := H
               have A18 := Aside0.mk A180
               clear A180
               have H' := Aside0.mk H
               clear H
               have p146 : 0 ≤ (x9_2 : Int) := of_decide_eq_true (by first | (with_reducible assumption) | assumption)
               have q146 : x9_2 < (l0_2.length : Int) := of_decide_eq_true (by first | (with_reducible assumption) | assumption)
               obtain ⟨ad146,e146,hx146_0⟩ := Kd.at_string HR0_2.out x9_2 p146 q146
               cases e146
               replace hx146_0 := (HB.out.cell (World.block_lt_of_cell? w _ hx146_0)).trans hx146_0
               replace p146 := eq_true p146
               replace q146 := eq_true q146
               have p147 : 0 ≤ (x9_2 : Int) := of_decide_eq_true (by first | (with_reducible assumption) | assumption)
               have q147 : x9_2 < (l0_2.length : Int) := of_decide_eq_true (by first | (with_reducible assumption) | assumption)
               obtain ⟨ad147,e147,hx147_0⟩ := Kd.at_string HR0_2.out x9_2 p147 q147
               obtain rfl : ad146 = ad147 := (by injection e147)
               replace hx147_0 := (HB.out.cell (World.block_lt_of_cell? w _ hx147_0)).trans hx147_0
               replace p147 := eq_true p147
               replace q147 := eq_true q147
               go_wp2_with (first | ((with_reducible refine gate_callee (f := 42) rfl ?_); refine goesL_ (some 42) rfl rfl Tryd.func42 (by kernel_rfl) rfl #[.string ((rdOf ByteArray.empty l0_2 x9_2).extract 0 (x10_3 : Int).toNat)] rfl (by (try simp only [List.map_toArray,List.map_cons,List.map_nil]); first | done | rfl | (simp only [List.length_drop,List.length_take]; rfl)) ?_; (with_reducible refine (spec_l03Disparity.calls k3 ((rdOf ByteArray.empty l0_2 x9_2).extract 0 (x10_3 : Int).toNat) t148 _ A16.out).mono ?_); rintro e w' ⟨rfl,⟨nd,rfl⟩⟩; refine ⟨_,rfl,?_⟩) | ((with_reducible refine gate_callee (f := 53) rfl ?_); refine goesL_ (some 46) rfl rfl Tryd.func53 (by kernel_rfl) rfl #[.int .i64 x5_3,.int .i64 (wrap64 (x7_1 + t148))] rfl (by (try simp only [List.map_toArray,List.map_cons,List.map_nil]); first | done | rfl | (simp only [List.length_drop,List.length_take]; rfl)) ?_; (with_reducible refine (spec_l00Min.calls x5_3 (wrap64 (x7_1 + t148)) t149 _ A17.out).mono ?_); rintro e w' ⟨rfl,⟨nd,rfl⟩⟩; refine ⟨_,rfl,?_⟩) | ((with_reducible refine gate_callee (f := 54) rfl ?_); refine goesL_ (some 49) rfl rfl Tryd.func54 (by kernel_rfl) rfl #[.int .i64 x6_3,.int .i64 (wrap64 (x7_1 + t148))] rfl (by (try simp only [List.map_toArray,List.map_cons,List.map_nil]); first | done | rfl | (simp only [List.length_drop,List.length_take]; rfl)) ?_; (with_reducible refine (spec_l00Max.calls x6_3 (wrap64 (x7_1 + t148)) t150 _ A18.out).mono ?_); rintro e w' ⟨rfl,⟨nd,rfl⟩⟩; refine ⟨_,rfl,?_⟩))
               go_roundg k3
               case measure => have := HK1.out; have := HK2.out; have := HK3.out; omega
               case rel => exact ⟨(t149),(t150),(wrap64 (x10_3 + 1)),(by first | rfl | (simp; done) | (simp [*]; done)),(by first | rfl | (simp; done) | (simp [*]; done)),(by first | rfl | (simp; done) | (simp [*]; done)),H',⟨by have := HK1.out; have := HK2.out; have := HK3.out; omega⟩,⟨by (with_reducible repeat (first | refine blk_drewN ?_ _ | refine blk_drew ?_ | refine blk_alloc ?_ _)); exact BK144.out⟩,⟨by repeat (first | (with_reducible first | exact HB.out | apply below_alloc | apply pw_below_drewN | apply below_drew1 | refine below_set ?_ GE144.out) | exact HB.out)⟩⟩
              ·rw [if_neg c14] at H
               exact absurd H (by simp)
             ·rw [if_neg c13] at H
              have c13b0 : decide (x10_3 ≤ ((rdOf ByteArray.empty l0_2 x9_2).size : Int)) = false := decide_eq_false c13
              clear c13
              have H' := Aside0.mk H
              clear H
              have p146 : 0 ≤ (x9_2 : Int) := of_decide_eq_true (by first | (with_reducible assumption) | assumption)
              have q146 : x9_2 < (l0_2.length : Int) := of_decide_eq_true (by first | (with_reducible assumption) | assumption)
              obtain ⟨ad146,e146,hx146_0⟩ := Kd.at_string HR0_2.out x9_2 p146 q146
              cases e146
              replace hx146_0 := (HB.out.cell (World.block_lt_of_cell? w _ hx146_0)).trans hx146_0
              replace p146 := eq_true p146
              replace q146 := eq_true q146
              go_wp2
              go_roundg k3
              case measure => have := HK1.out; have := HK2.out; have := HK3.out; omega
              case rel => exact ⟨(x5_3),(x6_3),(wrap64 (x9_2 + 1)),(by first | rfl | (simp; done) | (simp [*]; done)),(by first | rfl | (simp; done) | (simp [*]; done)),(by first | rfl | (simp; done) | (simp [*]; done)),H',⟨by have := HK1.out; have := HK2.out; have := HK3.out; omega⟩,⟨by (with_reducible repeat (first | refine blk_drewN ?_ _ | refine blk_drew ?_ | refine blk_alloc ?_ _)); exact BK144.out⟩,⟨by repeat (first | (with_reducible first | exact HB.out | apply below_alloc | apply pw_below_drewN | apply below_drew1 | refine below_set ?_ GE144.out) | exact HB.out)⟩⟩
            ·rw [if_neg c12] at H
             exact absurd H (by simp)
           ·rw [if_neg c11] at H
            exact absurd H (by simp)
        ·rw [if_neg c10] at H
         have c10b0 : decide (x9_2 < (l0_2.length : Int)) = false := decide_eq_false c10
         clear c10
         have H' := Aside0.mk H
         clear H
         go_wp2
         go_roundg k2
         case measure => have := HK1.out; have := HK2.out; omega
         case rel => exact ⟨(x5_2),(x6_2),(wrap64 (x7_1 + 2)),(by first | rfl | (simp; done) | (simp [*]; done)),(by first | rfl | (simp; done) | (simp [*]; done)),(by first | rfl | (simp; done) | (simp [*]; done)),H',⟨by have := HK1.out; have := HK2.out; omega⟩,⟨by (with_reducible repeat (first | refine blk_drewN ?_ _ | refine blk_drew ?_ | refine blk_alloc ?_ _)); exact BK144.out⟩,⟨by repeat (first | (with_reducible first | exact HB.out | apply below_alloc | apply pw_below_drewN | apply below_drew1 | refine below_set ?_ GE144.out) | exact HB.out)⟩⟩
     ·rw [if_neg c7] at H
      have c7b0 : decide (x7_1 < 0) = false := decide_eq_false c7
      clear c7
      replace H := Option.bind_eq_some_iff.mp H
      obtain ⟨_,A190,H⟩ := H
      replace H : (spec_SumRange.l101 k1 x5_1 x6_1 x7_1 l0_3 0 a0_0 a0_1 l0_2 l0_3) = some (r1,r2,r3) := H
      have A19 := Aside0.mk A190
      clear A190
      have H' := Aside0.mk H
      clear H
      go_wp2_with (first | ((with_reducible refine gate_callee (f := 52) rfl ?_); refine goesL_ (some 19) rfl rfl Tryd.func52 (by kernel_rfl) rfl #[.pointer (some ⟨gb144,0,none⟩),.int .i64 x7_1] rfl (by (try simp only [List.map_toArray,List.map_cons,List.map_nil]); first | done | rfl | (simp only [List.length_drop,List.length_take]; rfl)) ?_; (with_reducible refine (spec_l03List_pos.calls gb144 a0_0 a0_1 A0_2 c0_2 l0_2 A0_3 c0_3 l0_3 x7_1  _ ?side1 ?side2 ?side3 ?side4 ?side5 A19.out).mono ?_); (case side1 => exact by (with_reducible repeat (first | refine blk_drewN ?_ _ | refine blk_drew ?_ | refine blk_alloc ?_ _)); exact BK144.out); (case side2 => repeat (first | exact (Kd.C_below HR0_2.out HB.out) | (with_reducible refine Kd.C_alloc ?_ _) | (with_reducible refine Kd.C_drewN ?_ _) | (with_reducible refine Kd.C_drew ?_))); (case side3 => exact HC0_2.out); (case side4 => repeat (first | exact (Kd.C_below HR0_3.out HB.out) | (with_reducible refine Kd.C_alloc ?_ _) | (with_reducible refine Kd.C_drewN ?_ _) | (with_reducible refine Kd.C_drew ?_))); (case side5 => exact HC0_3.out); rintro e w20 ⟨rfl,hb⟩; refine ⟨_,rfl,?_⟩; have n0_ := Aside0.mk (blk_below (g := gb144) (o := .cells #[.int .i64 a0_0,.int .i64 a0_1,.slice A0_2 l0_2.length c0_2,.slice A0_3 l0_3.length c0_3] 30 (0,0)) (by (with_reducible repeat (first | refine blk_drewN ?_ _ | refine blk_drew ?_ | refine blk_alloc ?_ _)); exact BK144.out) hb); have n1_ := Aside0.mk (below_step (by repeat (first | (with_reducible first | exact HB.out | apply below_alloc | apply pw_below_drewN | apply below_drew1 | refine below_set ?_ GE144.out) | exact HB.out)) hb); clear BK144; clear HB; have BK144 := n0_; have HB := n1_; clear n0_ n1_; (try clear hb); (try clear hb2); (try clear hk); (try clear hi)))
      go_loopg [5,6,9] k1 (fun kq v5 v6 v9 w' => ∃ (x5_2 : Int) (x6_2 : Int) (x9_2 : Int),v5 = .int .i64 x5_2 ∧ v6 = .int .i64 x6_2 ∧ v9 = .int .i64 x9_2 ∧ Aside0 (spec_SumRange.l101 kq x5_2 x6_2 x7_1 l0_3 x9_2 a0_0 a0_1 l0_2 l0_3 = some (r1,r2,r3)) ∧ Aside0 (kq ≤ k1) ∧ Aside0 (w'.heap[gb144]? = some (.cells #[.int .i64 a0_0,.int .i64 a0_1,(.slice A0_2 l0_2.length c0_2),(.slice A0_3 l0_3.length c0_3)] 30 (0,0))) ∧ Aside0 (Below w.heap.size w w'))
      case atStart => exact ⟨(x5_1),(x6_1),(0),(by first | rfl | (simp; done) | (simp [*]; done)),(by first | rfl | (simp; done) | (simp [*]; done)),(by first | rfl | (simp; done) | (simp [*]; done)),H',⟨Nat.le_refl _⟩,⟨by (with_reducible repeat (first | refine blk_drewN ?_ _ | refine blk_drew ?_ | refine blk_alloc ?_ _)); exact BK144.out⟩,⟨by repeat (first | (with_reducible first | exact HB.out | apply below_alloc | apply pw_below_drewN | apply below_drew1 | refine below_set ?_ GE144.out) | exact HB.out)⟩⟩
      case round =>
       clear H'
       try clear c1
       try clear p1
       try clear q1
       try clear hx1
       try clear p2
       try clear c3
       try clear c4
       try clear c5
       try clear c6
       try clear c6b0
       try clear p6
       try clear c7
       try clear c7b0
       try clear c10
       try clear c10b0
       try clear c11
       try clear c11b0
       try clear c12
       try clear c12b0
       try clear c13
       try clear c13b0
       try clear c14
       try clear c14b0
       try clear c14b1
       try clear p14
       try clear q14
       try clear hx14
       try clear c15
       try clear c15b0
       try clear c19
       try clear hx146_0
       try clear hx147_0
       try clear p146
       try clear p147
       try clear p2
       try clear q146
       try clear q147
       obtain ⟨x5_2,x6_2,x9_2,rfl,rfl,rfl,HA,HK2,BK144,HB⟩ := hrel
       cases gk with
       | zero => exact absurd HA.out (by simp [spec_SumRange.l101])
       | succ k2 =>
        have H := HA.out
        clear HA
        simp only [spec_SumRange.l101] at H
        by_cases c21 : x9_2 < (l0_3.length : Int)
        ·rw [if_pos c21] at H
         have c21b0 : decide (x9_2 < (l0_3.length : Int)) = true := decide_eq_true c21
         clear c21
         have H' := Aside0.mk H
         clear H
         go_wp2
         go_loopg [5,6,10] k2 (fun kq v5 v6 v10 w' => ∃ (x5_3 : Int) (x6_3 : Int) (x10_3 : Int),v5 = .int .i64 x5_3 ∧ v6 = .int .i64 x6_3 ∧ v10 = .int .i64 x10_3 ∧ Aside0 (spec_SumRange.l102 kq x5_3 x6_3 x7_1 l0_3 x9_2 x10_3 a0_0 a0_1 l0_2 l0_3 = some (r1,r2,r3)) ∧ Aside0 (kq ≤ k2) ∧ Aside0 (w'.heap[gb144]? = some (.cells #[.int .i64 a0_0,.int .i64 a0_1,(.slice A0_2 l0_2.length c0_2),(.slice A0_3 l0_3.length c0_3)] 30 (0,0))) ∧ Aside0 (Below w.heap.size w w'))
         case atStart => exact ⟨(x5_2),(x6_2),(1),(by first | rfl | (simp; done) | (simp [*]; done)),(by first | rfl | (simp; done) | (simp [*]; done)),(by first | rfl | (simp; done) | (simp [*]; done)),H',⟨Nat.le_refl _⟩,⟨by (with_reducible repeat (first | refine blk_drewN ?_ _ | refine blk_drew ?_ | refine blk_alloc ?_ _)); exact BK144.out⟩,⟨by repeat (first | (with_reducible first | exact HB.out | apply below_alloc | apply pw_below_drewN | apply below_drew1 | refine below_set ?_ GE144.out) | exact HB.out)⟩⟩
         case round =>
          clear H'
          try clear c1
          try clear p1
          try clear q1
          try clear hx1
          try clear c2
          try clear p2
          try clear c3
          try clear c4
          try clear c5
          try clear c6
          try clear c6b0
          try clear p6
          try clear c7
          try clear c7b0
          try clear c10
          try clear c10b0
          try clear c11
          try clear c11b0
          try clear c12
          try clear c12b0
          try clear c13
          try clear c13b0
          try clear c14
          try clear c14b0
          try clear c14b1
          try clear p14
          try clear q14
          try clear hx14
          try clear c15
          try clear c15b0
          try clear c19
          try clear c21
          try clear c21b0
          try clear hx146_0
          try clear hx147_0
          try clear p1
          try clear p14
          try clear p146
          try clear p147
          try clear p2
          try clear p6
          try clear q1
          try clear q14
          try clear q146
          try clear q147
          obtain ⟨x5_3,x6_3,x10_3,rfl,rfl,rfl,HA,HK3,BK144,HB⟩ := hrel
          cases gk with
          | zero => exact absurd HA.out (by simp [spec_SumRange.l102])
          | succ k3 =>
           have H := HA.out
           clear HA
           simp only [spec_SumRange.l102] at H
           by_cases c22 : 0 ≤ x9_2
           ·rw [if_pos c22] at H
            have c22b0 : decide (0 ≤ x9_2) = true := decide_eq_true c22
            clear c22
            by_cases c23 : x9_2 < (l0_3.length : Int)
            ·rw [if_pos c23] at H
             have c23b0 : decide (x9_2 < (l0_3.length : Int)) = true := decide_eq_true c23
             clear c23
             by_cases c24 : x10_3 ≤ ((rdOf ByteArray.empty l0_3 x9_2).size : Int)
             ·rw [if_pos c24] at H
              have c24b0 : decide (x10_3 ≤ ((rdOf ByteArray.empty l0_3 x9_2).size : Int)) = true := decide_eq_true c24
              clear c24
              by_cases c25 : 0 ≤ x10_3
              ·rw [if_pos c25] at H
               have c25b0 := eq_true c25
               have c25b1 : decide (0 ≤ x10_3) = true := decide_eq_true c25
               clear c25
               have c26b0 := eq_true (of_decide_eq_true (by first | (with_reducible assumption) | assumption) : x10_3 ≤ ((rdOf ByteArray.empty l0_3 x9_2).size : Int))
               replace H := Option.bind_eq_some_iff.mp H
               obtain ⟨t153,A270,H⟩ := H
               replace H : ((spec_l00Min.f x5_3 (wrap64 (x7_1 + t153))).bind fun t154 => ((spec_l00Max.f x6_3 (wrap64 (x7_1 + t153))).bind fun t155 => (spec_SumRange.l102 k3 t154 t155 x7_1 l0_3 x9_2 (wrap64 (x10_3 + 1)) a0_0 a0_1 l0_2 l0_3))) = some (r1,r2,r3) := H
               have A27 := Aside0.mk A270
               clear A270
               replace H := Option.bind_eq_some_iff.mp H
               obtain ⟨t154,A280,H⟩ := H
               replace H : ((spec_l00Max.f x6_3 (wrap64 (x7_1 + t153))).bind fun t155 => (spec_SumRange.l102 k3 t154 t155 x7_1 l0_3 x9_2 (wrap64 (x10_3 + 1)) a0_0 a0_1 l0_2 l0_3)) = some (r1,r2,r3) := H
               have A28 := Aside0.mk A280
               clear A280
               replace H := Option.bind_eq_some_iff.mp H
               obtain ⟨t155,A290,H⟩ := H
               replace H : (spec_SumRange.l102 k3 t154 t155 x7_1 l0_3 x9_2 (wrap64 (x10_3 + 1)) a0_0 a0_1 l0_2 l0_3) = some (r1,r2,r3) := H
               have A29 := Aside0.mk A290
               clear A290
               have H' := Aside0.mk H
               clear H
               have p151 : 0 ≤ (x9_2 : Int) := of_decide_eq_true (by first | (with_reducible assumption) | assumption)
               have q151 : x9_2 < (l0_3.length : Int) := of_decide_eq_true (by first | (with_reducible assumption) | assumption)
               obtain ⟨ad151,e151,hx151_0⟩ := Kd.at_string HR0_3.out x9_2 p151 q151
               cases e151
               replace hx151_0 := (HB.out.cell (World.block_lt_of_cell? w _ hx151_0)).trans hx151_0
               replace p151 := eq_true p151
               replace q151 := eq_true q151
               have p152 : 0 ≤ (x9_2 : Int) := of_decide_eq_true (by first | (with_reducible assumption) | assumption)
               have q152 : x9_2 < (l0_3.length : Int) := of_decide_eq_true (by first | (with_reducible assumption) | assumption)
               obtain ⟨ad152,e152,hx152_0⟩ := Kd.at_string HR0_3.out x9_2 p152 q152
               obtain rfl : ad151 = ad152 := (by injection e152)
               replace hx152_0 := (HB.out.cell (World.block_lt_of_cell? w _ hx152_0)).trans hx152_0
               replace p152 := eq_true p152
               replace q152 := eq_true q152
               go_wp2_with (first | ((with_reducible refine gate_callee (f := 42) rfl ?_); refine goesL_ (some 42) rfl rfl Tryd.func42 (by kernel_rfl) rfl #[.string ((rdOf ByteArray.empty l0_3 x9_2).extract 0 (x10_3 : Int).toNat)] rfl (by (try simp only [List.map_toArray,List.map_cons,List.map_nil]); first | done | rfl | (simp only [List.length_drop,List.length_take]; rfl)) ?_; (with_reducible refine (spec_l03Disparity.calls k3 ((rdOf ByteArray.empty l0_3 x9_2).extract 0 (x10_3 : Int).toNat) t153 _ A27.out).mono ?_); rintro e w' ⟨rfl,⟨nd,rfl⟩⟩; refine ⟨_,rfl,?_⟩) | ((with_reducible refine gate_callee (f := 53) rfl ?_); refine goesL_ (some 46) rfl rfl Tryd.func53 (by kernel_rfl) rfl #[.int .i64 x5_3,.int .i64 (wrap64 (x7_1 + t153))] rfl (by (try simp only [List.map_toArray,List.map_cons,List.map_nil]); first | done | rfl | (simp only [List.length_drop,List.length_take]; rfl)) ?_; (with_reducible refine (spec_l00Min.calls x5_3 (wrap64 (x7_1 + t153)) t154 _ A28.out).mono ?_); rintro e w' ⟨rfl,⟨nd,rfl⟩⟩; refine ⟨_,rfl,?_⟩) | ((with_reducible refine gate_callee (f := 54) rfl ?_); refine goesL_ (some 49) rfl rfl Tryd.func54 (by kernel_rfl) rfl #[.int .i64 x6_3,.int .i64 (wrap64 (x7_1 + t153))] rfl (by (try simp only [List.map_toArray,List.map_cons,List.map_nil]); first | done | rfl | (simp only [List.length_drop,List.length_take]; rfl)) ?_; (with_reducible refine (spec_l00Max.calls x6_3 (wrap64 (x7_1 + t153)) t155 _ A29.out).mono ?_); rintro e w' ⟨rfl,⟨nd,rfl⟩⟩; refine ⟨_,rfl,?_⟩))
               go_roundg k3
               case measure => have := HK1.out; have := HK2.out; have := HK3.out; omega
               case rel => exact ⟨(t154),(t155),(wrap64 (x10_3 + 1)),(by first | rfl | (simp; done) | (simp [*]; done)),(by first | rfl | (simp; done) | (simp [*]; done)),(by first | rfl | (simp; done) | (simp [*]; done)),H',⟨by have := HK1.out; have := HK2.out; have := HK3.out; omega⟩,⟨by (with_reducible repeat (first | refine blk_drewN ?_ _ | refine blk_drew ?_ | refine blk_alloc ?_ _)); exact BK144.out⟩,⟨by repeat (first | (with_reducible first | exact HB.out | apply below_alloc | apply pw_below_drewN | apply below_drew1 | refine below_set ?_ GE144.out) | exact HB.out)⟩⟩
              ·rw [if_neg c25] at H
               exact absurd H (by simp)
             ·rw [if_neg c24] at H
              have c24b0 : decide (x10_3 ≤ ((rdOf ByteArray.empty l0_3 x9_2).size : Int)) = false := decide_eq_false c24
              clear c24
              have H' := Aside0.mk H
              clear H
              have p151 : 0 ≤ (x9_2 : Int) := of_decide_eq_true (by first | (with_reducible assumption) | assumption)
              have q151 : x9_2 < (l0_3.length : Int) := of_decide_eq_true (by first | (with_reducible assumption) | assumption)
              obtain ⟨ad151,e151,hx151_0⟩ := Kd.at_string HR0_3.out x9_2 p151 q151
              cases e151
              replace hx151_0 := (HB.out.cell (World.block_lt_of_cell? w _ hx151_0)).trans hx151_0
              replace p151 := eq_true p151
              replace q151 := eq_true q151
              go_wp2
              go_roundg k3
              case measure => have := HK1.out; have := HK2.out; have := HK3.out; omega
              case rel => exact ⟨(x5_3),(x6_3),(wrap64 (x9_2 + 1)),(by first | rfl | (simp; done) | (simp [*]; done)),(by first | rfl | (simp; done) | (simp [*]; done)),(by first | rfl | (simp; done) | (simp [*]; done)),H',⟨by have := HK1.out; have := HK2.out; have := HK3.out; omega⟩,⟨by (with_reducible repeat (first | refine blk_drewN ?_ _ | refine blk_drew ?_ | refine blk_alloc ?_ _)); exact BK144.out⟩,⟨by repeat (first | (with_reducible first | exact HB.out | apply below_alloc | apply pw_below_drewN | apply below_drew1 | refine below_set ?_ GE144.out) | exact HB.out)⟩⟩
            ·rw [if_neg c23] at H
             exact absurd H (by simp)
           ·rw [if_neg c22] at H
            exact absurd H (by simp)
        ·rw [if_neg c21] at H
         have c21b0 : decide (x9_2 < (l0_3.length : Int)) = false := decide_eq_false c21
         clear c21
         have H' := Aside0.mk H
         clear H
         go_wp2
         go_roundg k2
         case measure => have := HK1.out; have := HK2.out; omega
         case rel => exact ⟨(x5_2),(x6_2),(wrap64 (x7_1 + 2)),(by first | rfl | (simp; done) | (simp [*]; done)),(by first | rfl | (simp; done) | (simp [*]; done)),(by first | rfl | (simp; done) | (simp [*]; done)),H',⟨by have := HK1.out; have := HK2.out; omega⟩,⟨by (with_reducible repeat (first | refine blk_drewN ?_ _ | refine blk_drew ?_ | refine blk_alloc ?_ _)); exact BK144.out⟩,⟨by repeat (first | (with_reducible first | exact HB.out | apply below_alloc | apply pw_below_drewN | apply below_drew1 | refine below_set ?_ GE144.out) | exact HB.out)⟩⟩
    ·rw [if_neg c6] at H
     have c6b0 : decide (x7_1 ≤ 1) = false := decide_eq_false c6
     clear c6
     simp only [Option.some.injEq,Prod.mk.injEq] at H
     obtain ⟨rfl,rfl,rfl⟩ := H
     go_wp2
     go_ret3
     exact ⟨by first | rfl | (simp [errW_none,errW_some] <;> rfl) | (simp [*,errW_none,errW_some] <;> rfl),by repeat (first | (with_reducible first | exact HB.out | apply below_alloc | apply pw_below_drewN | apply below_drew1 | refine below_set ?_ GE144.out) | exact HB.out)⟩
 ·replace c3 := Bool.eq_false_iff.mpr c3
  subst c3
  have H1 : (some (0,0,false)) = some (r1,r2,r3) := by rw [if_neg (show ¬ (false = true) by decide)] at H; exact H
  clear H
  have H := H1
  clear H1
  simp only [Option.some.injEq,Prod.mk.injEq] at H
  obtain ⟨rfl,rfl,rfl⟩ := H
  go_enter Tryd.func19,Tryd.ntmps19
  go_wp2_with (first | ((with_reducible refine gate_dst (N := 1) rfl ?_); refine box_event ?hg (N := 1) ?hd (cs := #[.int .i64 a0_0,.int .i64 a0_1,.slice A0_2 l0_2.length c0_2,.slice A0_3 l0_3.length c0_3]) (t := 30) ?hr ?_; (case hd => rfl); (case hg => rfl); (case hr => first | (go_simp; done) | (go_simp; rfl)); intro gb144 hg w30 hbox hb; have n0_ := Aside0.mk (below_step (by repeat (first | (with_reducible first | exact HB.out | apply below_alloc | apply pw_below_drewN | apply below_drew1) | exact HB.out)) hb); have n1_ := Aside0.mk (hbox); have n2_ := Aside0.mk ((by rw [hg]; exact (below_size (by repeat (first | (with_reducible first | exact HB.out | apply below_alloc | apply pw_below_drewN | apply below_drew1) | exact HB.out))) : w.heap.size ≤ gb144)); have n3_ := Aside0.mk ((by rw [hg]; exact (below_size (by repeat (first | (with_reducible first | exact HB.out | apply below_alloc | apply pw_below_drewN | apply below_drew1) | exact HB.out))) : w.heap.size ≤ gb144)); clear HB; have HB := n0_; have BK144 := n1_; have GW144 := n2_; have GE144 := n3_; clear n0_ n1_ n2_ n3_; clear hb hbox hg) | ((with_reducible refine gate_callee (f := 46) rfl ?_); refine goesL_ (some 12) rfl rfl Tryd.func46 (by kernel_rfl) rfl #[.pointer (some ⟨gb144,0,none⟩)] rfl (by (try simp only [List.map_toArray,List.map_cons,List.map_nil]); first | done | rfl | (simp only [List.length_drop,List.length_take]; rfl)) ?_; (with_reducible refine (spec_l03Is.calls k gb144 a0_0 a0_1 A0_2 c0_2 l0_2 A0_3 c0_3 l0_3 false _ ?side1 ?side2 ?side3 ?side4 ?side5 A2.out).mono ?_); (case side1 => exact by (with_reducible repeat (first | refine blk_drewN ?_ _ | refine blk_drew ?_ | refine blk_alloc ?_ _)); exact BK144.out); (case side2 => repeat (first | exact (Kd.C_below HR0_2.out HB.out) | (with_reducible refine Kd.C_alloc ?_ _) | (with_reducible refine Kd.C_drewN ?_ _) | (with_reducible refine Kd.C_drew ?_))); (case side3 => exact HC0_2.out); (case side4 => repeat (first | exact (Kd.C_below HR0_3.out HB.out) | (with_reducible refine Kd.C_alloc ?_ _) | (with_reducible refine Kd.C_drewN ?_ _) | (with_reducible refine Kd.C_drew ?_))); (case side5 => exact HC0_3.out); rintro e w31 ⟨rfl,hb⟩; refine ⟨_,rfl,?_⟩; have n0_ := Aside0.mk (blk_below (g := gb144) (o := .cells #[.int .i64 a0_0,.int .i64 a0_1,.slice A0_2 l0_2.length c0_2,.slice A0_3 l0_3.length c0_3] 30 (0,0)) (by (with_reducible repeat (first | refine blk_drewN ?_ _ | refine blk_drew ?_ | refine blk_alloc ?_ _)); exact BK144.out) hb); have n1_ := Aside0.mk (below_step (by repeat (first | (with_reducible first | exact HB.out | apply below_alloc | apply pw_below_drewN | apply below_drew1 | refine below_set ?_ GE144.out) | exact HB.out)) hb); clear BK144; clear HB; have BK144 := n0_; have HB := n1_; clear n0_ n1_; (try clear hb); (try clear hb2); (try clear hk); (try clear hi)))
  go_ret3
  exact ⟨by first | rfl | (simp [errW_none,errW_some] <;> rfl) | (simp [*,errW_none,errW_some] <;> rfl),by repeat (first | (with_reducible first | exact HB.out | apply below_alloc | apply pw_below_drewN | apply below_drew1 | refine below_set ?_ GE144.out) | exact HB.out)⟩

/-! ### impl_within: function 73 -/
def impl_within.f (a0 : Int) (a1 : Int) (a2 : Int) : Option (Bool) := if a0 ≥ a1 then (some (decide (a0 ≤ a2))) else (some false)
set_option maxHeartbeats 8000000 in
set_option maxRecDepth 100000 in
theorem impl_within.calls (a0 : Int) (a1 : Int) (a2 : Int) (r : Bool) (w : World) (h : impl_within.f a0 a1 a2 = some r) :
  Calls Tryd.prog 73 #[.int .i64 a0,.int .i64 a1,.int .i64 a2] w fun e w' => e = .returned (.bool r) ∧ Drawn0 w w' := by
 have H : (if a0 ≥ a1 then (some (decide (a0 ≤ a2))) else (some false)) = some r := h
 clear h
 by_cases c4 : a0 ≥ a1
 ·rw [if_pos c4] at H
  have c4b0 : decide (a1 ≤ a0) = true := decide_eq_true c4
  clear c4
  obtain rfl := Option.some.inj H
  go_enter Tryd.func73,Tryd.ntmps73
  go_wp2
  go_ret
  exact ⟨by first | rfl | (simp; done) | (simp [*]; done),by repeat (first | exact Drawn0.refl _ | apply Drawn0.step)⟩
 ·rw [if_neg c4] at H
  have c4b0 : decide (a1 ≤ a0) = false := decide_eq_false c4
  clear c4
  obtain rfl := Option.some.inj H
  go_enter Tryd.func73,Tryd.ntmps73
  go_wp2
  go_ret
  exact ⟨by first | rfl | (simp; done) | (simp [*]; done),by repeat (first | exact Drawn0.refl _ | apply Drawn0.step)⟩

/-! ### impl_isData: function 48 -/
def impl_isData.f (a0 : Int) : Option (Bool) := (impl_within.f a0 1 6).bind fun t156 => (some t156)
set_option maxHeartbeats 8000000 in
set_option maxRecDepth 100000 in
theorem impl_isData.calls (a0 : Int) (r : Bool) (w : World) (h : impl_isData.f a0 = some r) :
  Calls Tryd.prog 48 #[.int .i64 a0] w fun e w' => e = .returned (.bool r) ∧ Drawn0 w w' := by
 have H : ((impl_within.f a0 1 6).bind fun t156 => (some t156)) = some r := h
 clear h
 replace H := Option.bind_eq_some_iff.mp H
 obtain ⟨t156,A20,H⟩ := H
 replace H : (some t156) = some r := H
 have A2 := Aside0.mk A20
 clear A20
 obtain rfl := Option.some.inj H
 go_enter Tryd.func48,Tryd.ntmps48
 go_wp2_with (first | ((with_reducible refine gate_callee (f := 73) rfl ?_); refine goesL_ (some 4) rfl rfl Tryd.func73 (by kernel_rfl) rfl #[.int .i64 a0,.int .i64 1,.int .i64 6] rfl (by (try simp only [List.map_toArray,List.map_cons,List.map_nil]); first | done | rfl | (simp only [List.length_drop,List.length_take]; rfl)) ?_; (with_reducible refine (impl_within.calls a0 1 6 t156 _ A2.out).mono ?_); rintro e w' ⟨rfl,⟨nd,rfl⟩⟩; refine ⟨_,rfl,?_⟩))
 go_ret
 exact ⟨by first | rfl | (simp; done) | (simp [*]; done),by repeat (first | exact Drawn0.refl _ | apply Drawn0.step)⟩

/-! ### impl_isWidth: function 49 -/
def impl_isWidth.f (a0 : Int) : Option (Bool) := (impl_within.f a0 2 12).bind fun t157 => (if t157 = true then (some ((Int.tmod a0 2) == 0)) else (some false))
set_option maxHeartbeats 8000000 in
set_option maxRecDepth 100000 in
theorem impl_isWidth.calls (a0 : Int) (r : Bool) (w : World) (h : impl_isWidth.f a0 = some r) :
  Calls Tryd.prog 49 #[.int .i64 a0] w fun e w' => e = .returned (.bool r) ∧ Drawn0 w w' := by
 have H : ((impl_within.f a0 2 12).bind fun t157 => (if t157 = true then (some ((Int.tmod a0 2) == 0)) else (some false))) = some r := h
 clear h
 replace H := Option.bind_eq_some_iff.mp H
 obtain ⟨t157,A20,H⟩ := H
 replace H : (if t157 = true then (some ((Int.tmod a0 2) == 0)) else (some false)) = some r := H
 have A2 := Aside0.mk A20
 clear A20
 by_cases c3 : t157 = true
 ·subst c3
  have H1 : (some ((Int.tmod a0 2) == 0)) = some r := by rw [if_pos rfl] at H; exact H
  clear H
  have H := H1
  clear H1
  obtain rfl := Option.some.inj H
  go_enter Tryd.func49,Tryd.ntmps49
  go_wp2_with (first | ((with_reducible refine gate_callee (f := 73) rfl ?_); refine goesL_ (some 4) rfl rfl Tryd.func73 (by kernel_rfl) rfl #[.int .i64 a0,.int .i64 2,.int .i64 12] rfl (by (try simp only [List.map_toArray,List.map_cons,List.map_nil]); first | done | rfl | (simp only [List.length_drop,List.length_take]; rfl)) ?_; (with_reducible refine (impl_within.calls a0 2 12 true _ A2.out).mono ?_); rintro e w' ⟨rfl,⟨nd,rfl⟩⟩; refine ⟨_,rfl,?_⟩))
  go_ret
  exact ⟨by first | rfl | (simp; done) | (simp [*]; done),by repeat (first | exact Drawn0.refl _ | apply Drawn0.step)⟩
 ·replace c3 := Bool.eq_false_iff.mpr c3
  subst c3
  have H1 : (some false) = some r := by rw [if_neg (show ¬ (false = true) by decide)] at H; exact H
  clear H
  have H := H1
  clear H1
  obtain rfl := Option.some.inj H
  go_enter Tryd.func49,Tryd.ntmps49
  go_wp2_with (first | ((with_reducible refine gate_callee (f := 73) rfl ?_); refine goesL_ (some 4) rfl rfl Tryd.func73 (by kernel_rfl) rfl #[.int .i64 a0,.int .i64 2,.int .i64 12] rfl (by (try simp only [List.map_toArray,List.map_cons,List.map_nil]); first | done | rfl | (simp only [List.length_drop,List.length_take]; rfl)) ?_; (with_reducible refine (impl_within.calls a0 2 12 false _ A2.out).mono ?_); rintro e w' ⟨rfl,⟨nd,rfl⟩⟩; refine ⟨_,rfl,?_⟩))
  go_ret
  exact ⟨by first | rfl | (simp; done) | (simp [*]; done),by repeat (first | exact Drawn0.refl _ | apply Drawn0.step)⟩

/-! ### strings_Count: function 79 -/
/-- Of the text "1": all that this program asks.  -/
def strings_Count.f (a0 : ByteArray) (a1 : ByteArray) : Option (Int) := if a1 = ⟨#[49]⟩ then some (Lib.countByte a0.data.toList 49) else none
theorem strings_Count.calls (a0 : ByteArray) (a1 : ByteArray) (r : Int) (w : World) (h : strings_Count.f a0 a1 = some r) :
  Calls Tryd.prog 79 #[.string a0,.string a1] w fun e w' => e = .returned (.int .i64 r) ∧ Drawn0 w w' := by
 unfold strings_Count.f at h
 by_cases c : a1 = ⟨#[49]⟩
 ·rw [if_pos c] at h
  obtain rfl := c
  obtain rfl := Option.some.inj h
  refine (Any.strings_Count_one Tryd.lays138 a0 49 w).mono ?_
  rintro e w' ⟨rfl,rfl⟩
  exact ⟨rfl,⟨⟨0,rfl⟩⟩⟩
 ·rw [if_neg c] at h; cases h

/-! ### impl_disparity: function 44 -/
def impl_disparity.f (a0 : ByteArray) : Option (Int) := (strings_Count.f a0 (⟨#[49]⟩ : ByteArray)).bind fun t158 => (some (wrap64 ((wrap64 (2 * t158)) - (a0.size : Int))))
set_option maxHeartbeats 8000000 in
set_option maxRecDepth 100000 in
theorem impl_disparity.calls (a0 : ByteArray) (r : Int) (w : World) (h : impl_disparity.f a0 = some r) :
  Calls Tryd.prog 44 #[.string a0] w fun e w' => e = .returned (.int .i64 r) ∧ Drawn0 w w' := by
 have H : ((strings_Count.f a0 (⟨#[49]⟩ : ByteArray)).bind fun t158 => (some (wrap64 ((wrap64 (2 * t158)) - (a0.size : Int))))) = some r := h
 clear h
 replace H := Option.bind_eq_some_iff.mp H
 obtain ⟨t158,A20,H⟩ := H
 replace H : (some (wrap64 ((wrap64 (2 * t158)) - (a0.size : Int)))) = some r := H
 have A2 := Aside0.mk A20
 clear A20
 obtain rfl := Option.some.inj H
 go_enter Tryd.func44,Tryd.ntmps44
 go_wp2_with (first | ((with_reducible refine gate_callee (f := 79) rfl ?_); refine goesL_ (some 4) rfl rfl Tryd.func79 (by kernel_rfl) rfl #[.string a0,.string (⟨#[49]⟩ : ByteArray)] rfl (by (try simp only [List.map_toArray,List.map_cons,List.map_nil]); first | done | rfl | (simp only [List.length_drop,List.length_take]; rfl)) ?_; (with_reducible refine (strings_Count.calls a0 (⟨#[49]⟩ : ByteArray) t158 _ A2.out).mono ?_); rintro e w' ⟨rfl,⟨nd,rfl⟩⟩; refine ⟨_,rfl,?_⟩))
 go_ret
 exact ⟨by first | rfl | (simp; done) | (simp [*]; done),by repeat (first | exact Drawn0.refl _ | apply Drawn0.step)⟩

/-! ### strings_Trim: function 83 -/
/-- The cutset "01": all that this program asks. -/
def strings_Trim.f (a0 : ByteArray) (a1 : ByteArray) : Option (ByteArray) := if a1 = ⟨#[48,49]⟩ ∧ a0.size ≤ 9223372036854775807 then some ⟨(Lib.trimS a0.data.toList [48,49]).toArray⟩ else none
theorem strings_Trim.calls (a0 : ByteArray) (a1 : ByteArray) (r : ByteArray) (w : World) (h : strings_Trim.f a0 a1 = some r) :
  Calls Tryd.prog 83 #[.string a0,.string a1] w fun e w' => e = .returned (.string r) ∧ Below w.heap.size w w' := by
 unfold strings_Trim.f at h
 by_cases c : a1 = ⟨#[48,49]⟩ ∧ a0.size ≤ 9223372036854775807
 ·rw [if_pos c] at h
  obtain ⟨rfl,hs⟩ := c
  obtain rfl := Option.some.inj h
  exact Any.strings_Trim_laid Tryd.lays160 (by kernel_rfl) a0 ⟨#[48,49]⟩ w hs (by decide) (ascii_of_all (by decide))
 ·rw [if_neg c] at h; cases h

/-! ### impl_areBits: function 57 -/
def impl_areBits.f (a0 : ByteArray) : Option (Bool) := (strings_Trim.f a0 (⟨#[48,49]⟩ : ByteArray)).bind fun t159 => (some (t159.toList == ([] : List UInt8)))
set_option maxHeartbeats 8000000 in
set_option maxRecDepth 100000 in
theorem impl_areBits.calls (a0 : ByteArray) (r : Bool) (w : World) (h : impl_areBits.f a0 = some r) :
  Calls Tryd.prog 57 #[.string a0] w fun e w' => e = .returned (.bool r) ∧ Below w.heap.size w w' := by
 have HB := Aside0.mk (Below.refl w.heap.size w)
 have H : ((strings_Trim.f a0 (⟨#[48,49]⟩ : ByteArray)).bind fun t159 => (some (t159.toList == ([] : List UInt8)))) = some r := h
 clear h
 replace H := Option.bind_eq_some_iff.mp H
 obtain ⟨t159,A20,H⟩ := H
 replace H : (some (t159.toList == ([] : List UInt8))) = some r := H
 have A2 := Aside0.mk A20
 clear A20
 obtain rfl := Option.some.inj H
 go_enter Tryd.func57,Tryd.ntmps57
 go_wp2_with (first | ((with_reducible refine gate_callee (f := 83) rfl ?_); refine goesL_ (some 4) rfl rfl Tryd.func83 (by kernel_rfl) rfl #[.string a0,.string (⟨#[48,49]⟩ : ByteArray)] rfl (by (try simp only [List.map_toArray,List.map_cons,List.map_nil]); first | done | rfl | (simp only [List.length_drop,List.length_take]; rfl)) ?_; (with_reducible refine (strings_Trim.calls a0 (⟨#[48,49]⟩ : ByteArray) t159 _ A2.out).mono ?_); rintro e w3 ⟨rfl,hb⟩; refine ⟨_,rfl,?_⟩; have n0_ := Aside0.mk (below_step (by repeat (first | (with_reducible first | exact HB.out | apply below_alloc | apply pw_below_drewN | apply below_drew1) | exact HB.out)) hb); clear HB; have HB := n0_; clear n0_; (try clear hb); (try clear hb2); (try clear hk); (try clear hi)))
 go_ret
 exact ⟨by first | rfl | (simp [errW_none,errW_some] <;> rfl) | (simp [*,errW_none,errW_some] <;> rfl),by repeat (first | (with_reducible first | exact HB.out | apply below_alloc | apply pw_below_drewN | apply below_drew1) | exact HB.out)⟩

end Go.Proofs.YtegeaoiclepkkaaDoor.QFnExactSumRange
