/-
Each Go function that this text names answers as the Lean function beside it says,wherever that one answers; conditions: the arguments lie in memory as each theorem states it.
-/
import Derived.Test.YtegeaoiclepkkaaDoorQFnExactRunBoundx0
import Derived.Test.YtegeaoiclepkkaaDoorQFnExactRunBoundx7
namespace Go.Proofs.YtegeaoiclepkkaaDoor.QFnExactRunBound
open Go.RowKit Go.Proofs.YtegeaoiclepkkaaDoorW.PrintWords Go.Proofs.YtegeaoiclepkkaaDoorW.PrintLast Go.Proofs.YtegeaoiclepkkaaDoorW.PrintMore
attribute [local go_sem] max2_int min2_int max_two min_two max_three min_three max_four min_four   -- for this text's walks alone
set_option linter.unusedVariables false
set_option linter.unusedSimpArgs false
theorem b8_0 {P : Prop} (h : P := by repeat (first | (with_reducible first | exact HB.out | apply below_alloc | apply pw_below_drewN | apply below_drew1) | exact HB.out)) : P := h
theorem b8_1 {P : Prop} (h : P := by first | (with_reducible assumption) | assumption) : P := h
theorem b8_2 {P : Prop} (h : P := by (with_reducible repeat (first | apply Kd.R_alloc | apply Kd.R_drewN | apply Kd.R_drew)); exact HO_3.out) : P := h
theorem b8_3 {P : Prop} (h : P := by first | rfl | (simp; done) | (simp [*]; done)) : P := h
theorem b8_4 {P : Prop} (h : P := by (try simp only [List.map_toArray,List.map_cons,List.map_nil]); first | done | rfl | (simp only [List.length_drop,List.length_take]; rfl)) : P := h
theorem b8_5 {P : Prop} (h : P := by first | rfl | (simp [errW_none,errW_some] <;> rfl) | (simp [*,errW_none,errW_some] <;> rfl)) : P := h
theorem b8_6 {P : Prop} (h : P := by repeat (first | exact Drawn0.refl _ | apply Drawn0.step)) : P := h

/-! ### impl_BlockCode_words: function 55 -/
/-!  One of the lists that came in,by the sign of a number. -/
def impl_BlockCode_words.f (a1 : Int) : Option Unit := some ()
def impl_BlockCode_words_neg.f (a0_0 : Int) (a0_1 : Int) (l0_2 : List ByteArray) (l0_3 : List ByteArray) (a1 : Int) : Option Unit := if a1 < 0 then some () else none
set_option maxHeartbeats 8000000 in
set_option maxRecDepth 100000 in
theorem impl_BlockCode_words_neg.calls (a0_0 : Int) (a0_1 : Int) (A0_2 : Option Addr) (c0_2 : Nat) (l0_2 : List ByteArray) (A0_3 : Option Addr) (c0_3 : Nat) (l0_3 : List ByteArray) (a1 : Int) (w : World) (hr0_2 : Kd.C Kd.string w A0_2 l0_2.length l0_2) (hc0_2 : l0_2.length ≤ c0_2) (hr0_3 : Kd.C Kd.string w A0_3 l0_3.length l0_3) (hc0_3 : l0_3.length ≤ c0_3) (h : impl_BlockCode_words_neg.f a0_0 a0_1 l0_2 l0_3 a1 = some ()) :
  Calls Tryd.prog 55 #[.agg #[.int .i64 a0_0,.int .i64 a0_1,.slice A0_2 l0_2.length c0_2,.slice A0_3 l0_3.length c0_3],.int .i64 a1] w fun e w' => e = .returned (.tuple #[.slice A0_2 l0_2.length c0_2,.slice A0_3 l0_3.length c0_3]) ∧ Below w.heap.size w w' := by
 unfold impl_BlockCode_words_neg.f at h
 by_cases c : a1 < 0
 ·have cb : decide (a1 < 0) = true := decide_eq_true c
  clear h hr0_2 hc0_2 hr0_3 hc0_3
  have hu30 := Tryd.underlying30
  have mixed := Tryd.lays138.mixed
  have HB := Aside0.mk (Below.refl w.heap.size w)
  go_enter Tryd.func55,Tryd.ntmps55
  go_wp2_with (first | ((with_reducible refine gate_dst (N := 2) rfl ?_); refine box_event ?hg (N := 2) ?hd (cs := #[.int .i64 a0_0,.int .i64 a0_1,.slice A0_2 l0_2.length c0_2,.slice A0_3 l0_3.length c0_3]) (t := 30) ?hr ?_; (case hd => rfl); (case hg => rfl); (case hr => first | (go_simp; done) | (go_simp; rfl)); intro g1 hg w1 hbox hb; have n0_ := Aside0.mk (below_step b8_0 hb); clear HB; have HB := n0_; clear n0_ hb hg; have BK := Aside0.mk hbox; clear hbox; have hcz0 : w1.cell? ⟨g1,0,none⟩ = some (.int .i64 a0_0) := (blk_cell BK.out 0).trans rfl; have hcz1 : w1.cell? ⟨g1,1,none⟩ = some (.int .i64 a0_1) := (blk_cell BK.out 1).trans rfl; have hcz2 : w1.cell? ⟨g1,2,none⟩ = some (.slice A0_2 l0_2.length c0_2) := (blk_cell BK.out 2).trans rfl; have hcz3 : w1.cell? ⟨g1,3,none⟩ = some (.slice A0_3 l0_3.length c0_3) := (blk_cell BK.out 3).trans rfl))
  go_region_o
  all_goals (go_wp2; go_ret2; exact ⟨b8_3,b8_0⟩)
 ·rw [if_neg c] at h; cases h
def impl_BlockCode_words_pos.f (a0_0 : Int) (a0_1 : Int) (l0_2 : List ByteArray) (l0_3 : List ByteArray) (a1 : Int) : Option Unit := if ¬ a1 < 0 then some () else none
set_option maxHeartbeats 8000000 in
set_option maxRecDepth 100000 in
theorem impl_BlockCode_words_pos.calls (a0_0 : Int) (a0_1 : Int) (A0_2 : Option Addr) (c0_2 : Nat) (l0_2 : List ByteArray) (A0_3 : Option Addr) (c0_3 : Nat) (l0_3 : List ByteArray) (a1 : Int) (w : World) (hr0_2 : Kd.C Kd.string w A0_2 l0_2.length l0_2) (hc0_2 : l0_2.length ≤ c0_2) (hr0_3 : Kd.C Kd.string w A0_3 l0_3.length l0_3) (hc0_3 : l0_3.length ≤ c0_3) (h : impl_BlockCode_words_pos.f a0_0 a0_1 l0_2 l0_3 a1 = some ()) :
  Calls Tryd.prog 55 #[.agg #[.int .i64 a0_0,.int .i64 a0_1,.slice A0_2 l0_2.length c0_2,.slice A0_3 l0_3.length c0_3],.int .i64 a1] w fun e w' => e = .returned (.tuple #[.slice A0_3 l0_3.length c0_3,.slice A0_2 l0_2.length c0_2]) ∧ Below w.heap.size w w' := by
 unfold impl_BlockCode_words_pos.f at h
 by_cases c : a1 < 0
 ·rw [if_neg (fun q => q c)] at h; cases h
 ·have cb : decide (a1 < 0) = false := decide_eq_false c
  clear h hr0_2 hc0_2 hr0_3 hc0_3
  have hu30 := Tryd.underlying30
  have mixed := Tryd.lays138.mixed
  have HB := Aside0.mk (Below.refl w.heap.size w)
  go_enter Tryd.func55,Tryd.ntmps55
  go_wp2_with (first | ((with_reducible refine gate_dst (N := 2) rfl ?_); refine box_event ?hg (N := 2) ?hd (cs := #[.int .i64 a0_0,.int .i64 a0_1,.slice A0_2 l0_2.length c0_2,.slice A0_3 l0_3.length c0_3]) (t := 30) ?hr ?_; (case hd => rfl); (case hg => rfl); (case hr => first | (go_simp; done) | (go_simp; rfl)); intro g1 hg w1 hbox hb; have n0_ := Aside0.mk (below_step b8_0 hb); clear HB; have HB := n0_; clear n0_ hb hg; have BK := Aside0.mk hbox; clear hbox; have hcz0 : w1.cell? ⟨g1,0,none⟩ = some (.int .i64 a0_0) := (blk_cell BK.out 0).trans rfl; have hcz1 : w1.cell? ⟨g1,1,none⟩ = some (.int .i64 a0_1) := (blk_cell BK.out 1).trans rfl; have hcz2 : w1.cell? ⟨g1,2,none⟩ = some (.slice A0_2 l0_2.length c0_2) := (blk_cell BK.out 2).trans rfl; have hcz3 : w1.cell? ⟨g1,3,none⟩ = some (.slice A0_3 l0_3.length c0_3) := (blk_cell BK.out 3).trans rfl))
  go_region_o
  all_goals (go_wp2; go_ret2; exact ⟨b8_3,b8_0⟩)

/-! ### impl_stateBehind: function 63 -/
def impl_stateBehind.f (a0 : Int) (a1 : ByteArray) : Option (Int) := (impl_disparity.f a1).bind fun t218 => (if t218 > 0 then (some 1) else (if t218 < 0 then (some (-1)) else (some a0)))
set_option maxHeartbeats 8000000 in
set_option maxRecDepth 100000 in
theorem impl_stateBehind.calls (a0 : Int) (a1 : ByteArray) (r : Int) (w : World) (h : impl_stateBehind.f a0 a1 = some r) :
  Calls Tryd.prog 63 #[.int .i64 a0,.string a1] w fun e w' => e = .returned (.int .i64 r) ∧ Drawn0 w w' := by
 have H : ((impl_disparity.f a1).bind fun t218 => (if t218 > 0 then (some 1) else (if t218 < 0 then (some (-1)) else (some a0)))) = some r := h
 clear h
 replace H := Option.bind_eq_some_iff.mp H
 obtain ⟨t218,A30,H⟩ := H
 replace H : (if t218 > 0 then (some 1) else (if t218 < 0 then (some (-1)) else (some a0))) = some r := H
 have A3 := Aside0.mk A30
 clear A30
 by_cases c4 : t218 > 0
 ·rw [if_pos c4] at H
  have c4b0 : decide (0 < t218) = true := decide_eq_true c4
  clear c4
  obtain rfl := Option.some.inj H
  go_enter Tryd.func63,Tryd.ntmps63
  go_wp2_with (first | ((with_reducible refine gate_callee (f := 44) rfl ?_); refine goesL_ (some 7) rfl rfl Tryd.func44 (by kernel_rfl) rfl #[.string a1] rfl b8_4 ?_; (with_reducible refine (impl_disparity.calls a1 t218 _ A3.out).mono ?_); rintro e w' ⟨rfl,⟨nd,rfl⟩⟩; refine ⟨_,rfl,?_⟩))
  go_ret
  exact ⟨b8_3,b8_6⟩
 ·rw [if_neg c4] at H
  have c4b0 : decide (0 < t218) = false := decide_eq_false c4
  clear c4
  by_cases c5 : t218 < 0
  ·rw [if_pos c5] at H
   have c5b0 : decide (t218 < 0) = true := decide_eq_true c5
   clear c5
   obtain rfl := Option.some.inj H
   go_enter Tryd.func63,Tryd.ntmps63
   go_wp2_with (first | ((with_reducible refine gate_callee (f := 44) rfl ?_); refine goesL_ (some 7) rfl rfl Tryd.func44 (by kernel_rfl) rfl #[.string a1] rfl b8_4 ?_; (with_reducible refine (impl_disparity.calls a1 t218 _ A3.out).mono ?_); rintro e w' ⟨rfl,⟨nd,rfl⟩⟩; refine ⟨_,rfl,?_⟩))
   go_ret
   exact ⟨b8_3,b8_6⟩
  ·rw [if_neg c5] at H
   have c5b0 : decide (t218 < 0) = false := decide_eq_false c5
   clear c5
   obtain rfl := Option.some.inj H
   go_enter Tryd.func63,Tryd.ntmps63
   go_wp2_with (first | ((with_reducible refine gate_callee (f := 44) rfl ?_); refine goesL_ (some 7) rfl rfl Tryd.func44 (by kernel_rfl) rfl #[.string a1] rfl b8_4 ?_; (with_reducible refine (impl_disparity.calls a1 t218 _ A3.out).mono ?_); rintro e w' ⟨rfl,⟨nd,rfl⟩⟩; refine ⟨_,rfl,?_⟩))
   go_ret
   exact ⟨b8_3,b8_6⟩

/-! ### impl_runLengths: function 68 -/
def impl_runLengths.l0 : Nat → ByteArray → List Int → Int → Int → Option (List Int)
 | 0,_,_,_,_ => none
 | k + 1,x0,x3,x7,x8 => if x8 < x7 then (if x8 = 0 then (if x3.length < 17592186044416 then ((some (x3 ++ [0] : List Int)).bind fun y222 => (if 0 ≤ (wrap64 ((y222.length : Int) - 1)) then (if (wrap64 ((y222.length : Int) - 1)) < (y222.length : Int) then (impl_runLengths.l0 k x0 (y222.set ((wrap64 ((y222.length : Int) - 1)) : Int).toNat (wrap64 ((rd y222 (wrap64 ((y222.length : Int) - 1))) + 1))) x7 (wrap64 (x8 + 1))) else (none)) else (none))) else (none)) else (if 0 ≤ x8 then (if x8 < (x0.size : Int) then (if 0 ≤ (wrap64 (x8 - 1)) then (if (wrap64 (x8 - 1)) < (x0.size : Int) then (if (bt x0 x8) = (bt x0 (wrap64 (x8 - 1))) then (if 0 ≤ (wrap64 ((x3.length : Int) - 1)) then (if (wrap64 ((x3.length : Int) - 1)) < (x3.length : Int) then (impl_runLengths.l0 k x0 (x3.set ((wrap64 ((x3.length : Int) - 1)) : Int).toNat (wrap64 ((rd x3 (wrap64 ((x3.length : Int) - 1))) + 1))) x7 (wrap64 (x8 + 1))) else (none)) else (none)) else (if x3.length < 17592186044416 then ((some (x3 ++ [0] : List Int)).bind fun y229 => (if 0 ≤ (wrap64 ((y229.length : Int) - 1)) then (if (wrap64 ((y229.length : Int) - 1)) < (y229.length : Int) then (impl_runLengths.l0 k x0 (y229.set ((wrap64 ((y229.length : Int) - 1)) : Int).toNat (wrap64 ((rd y229 (wrap64 ((y229.length : Int) - 1))) + 1))) x7 (wrap64 (x8 + 1))) else (none)) else (none))) else (none))) else (none)) else (none)) else (none)) else (none))) else (some x3)
def impl_runLengths.f (k : Nat) (a0 : ByteArray) : Option (List Int) := impl_runLengths.l0 k a0 (([] : List Int)) (a0.size : Int) 0
set_option maxHeartbeats 8000000 in
set_option maxRecDepth 100000 in
theorem impl_runLengths.calls (k : Nat) (a0 : ByteArray) (r : List Int) (w : World) (h : impl_runLengths.f k a0 = some r) :
  Calls Tryd.prog 68 #[.string a0] w fun e w' => ∃ v0_ : Value,e = .returned (v0_) ∧ Kd.R (Kd.int .i64) 2 w' w.heap.size (fun _ => True) v0_ r ∧ Below w.heap.size w w' := by
 have HB := Aside0.mk (Below.refl w.heap.size w)
 have H : (impl_runLengths.l0 k a0 (([] : List Int)) (a0.size : Int) 0) = some r := h
 clear h
 obtain ⟨y219,hy219⟩ : ∃ y_ : List Int,y_ = (([] : List Int)) := ⟨_,rfl⟩
 replace H : (impl_runLengths.l0 k a0 y219 (a0.size : Int) 0) = some r := by first | (rw [hy219]; with_reducible exact H) | (have H2_ := (Option.bind_some _ _).symm.trans H; rw [hy219]; with_reducible exact H2_) | (have H2_ := (Option.bind_some _ _).symm.trans H; with_reducible exact H2_) | with_reducible exact H | (rw [hy219]; exact H) | exact H
 have Ny219 := Aside0.mk hy219
 clear hy219
 have H' := Aside0.mk H
 clear H
 go_enter Tryd.func68,Tryd.ntmps68
 go_wp2_with (first | ((with_reducible refine gate_dst (N := 5) rfl ?_); refine Kd.R_lit (Kd.int .i64) _ 2 ?hg (N := 5) ?hd (xs := ([] : List Int)) (inner := []) (ok := fun _ => True) (okp := fun _ => True) ?hr ?hp (fun _ hk => hk) trivial (Below.refl _ _) (Nat.le_refl _) (by simp) ?_; (case hd => rfl); (case hg => rfl); (case hr => first | (go_simp; done) | (go_simp; rfl)); (case hp => exact (Reps.none _ _)); intro v220 w2 ho3 hb hg_ hnew_; clear hg_ hnew_; (first | rw [← Ny219.out] at ho3 | (simp only [Int.reduceToNat] at ho3; rw [← Ny219.out] at ho3)); have n0_ := Aside0.mk (Kd.R_lower ho3 (below_size b8_0)); have n1_ := Aside0.mk (below_step b8_0 hb); clear HB; have HO221 := n0_; have HB := n1_; clear n0_ n1_; clear hb ho3))
 repeat (go_quiet (first | ((with_reducible refine gate_dst (N := 5) rfl ?_); refine Kd.R_lit (Kd.int .i64) _ 2 ?hg (N := 5) ?hd (xs := ([] : List Int)) (inner := []) (ok := fun _ => True) (okp := fun _ => True) ?hr ?hp (fun _ hk => hk) trivial (Below.refl _ _) (Nat.le_refl _) (by simp) ?_; (case hd => rfl); (case hg => rfl); (case hr => first | (go_simp; done) | (go_simp; rfl)); (case hp => exact (Reps.none _ _)); intro v220 w2 ho3 hb hg_ hnew_; clear hg_ hnew_; (first | rw [← Ny219.out] at ho3 | (simp only [Int.reduceToNat] at ho3; rw [← Ny219.out] at ho3)); have n0_ := Aside0.mk (Kd.R_lower ho3 (below_size b8_0)); have n1_ := Aside0.mk (below_step b8_0 hb); clear HB; have HO221 := n0_; have HB := n1_; clear n0_ n1_; clear hb ho3)); try go_wp2_with (first | ((with_reducible refine gate_dst (N := 5) rfl ?_); refine Kd.R_lit (Kd.int .i64) _ 2 ?hg (N := 5) ?hd (xs := ([] : List Int)) (inner := []) (ok := fun _ => True) (okp := fun _ => True) ?hr ?hp (fun _ hk => hk) trivial (Below.refl _ _) (Nat.le_refl _) (by simp) ?_; (case hd => rfl); (case hg => rfl); (case hr => first | (go_simp; done) | (go_simp; rfl)); (case hp => exact (Reps.none _ _)); intro v220 w2 ho3 hb hg_ hnew_; clear hg_ hnew_; (first | rw [← Ny219.out] at ho3 | (simp only [Int.reduceToNat] at ho3; rw [← Ny219.out] at ho3)); have n0_ := Aside0.mk (Kd.R_lower ho3 (below_size b8_0)); have n1_ := Aside0.mk (below_step b8_0 hb); clear HB; have HO221 := n0_; have HB := n1_; clear n0_ n1_; clear hb ho3)))
 go_loopg [3,8] k (fun kq v3 v8 w' => ∃ (x3_1 : List Int) (x8_1 : Int),v8 = .int .i64 x8_1 ∧ Aside0 (impl_runLengths.l0 kq a0 x3_1 (a0.size : Int) x8_1 = some r) ∧ Aside0 (kq ≤ k) ∧ Aside0 (Kd.R (Kd.int .i64) 2 w' w.heap.size (fun _ => True) v3 x3_1) ∧ Aside0 (Below w.heap.size w w'))
 case atStart => exact ⟨(y219),(0),b8_3,H',⟨Nat.le_refl _⟩,⟨by (with_reducible repeat (first | apply Kd.R_alloc | apply Kd.R_drewN | apply Kd.R_drew)); exact HO221.out⟩,⟨b8_0⟩⟩
 case round =>
  clear H'
  (try clear p2)
  obtain ⟨x3_1,x8_1,rfl,HA,HK1,HO_3,HB⟩ := hrel
  cases gk with
  | zero => exact absurd HA.out (by simp [impl_runLengths.l0])
  | succ k1 =>
   have H := HA.out
   clear HA
   simp only [impl_runLengths.l0] at H
   by_cases c4 : x8_1 < (a0.size : Int)
   ·rw [if_pos c4] at H
    have c4b0 : decide (x8_1 < (a0.size : Int)) = true := decide_eq_true c4
    clear c4
    by_cases c5 : x8_1 = 0
    ·rw [if_pos c5] at H
     have c5b0 : (x8_1 == 0) = true := beq_iff_eq.mpr c5
     have c5b1 : (x8_1 != 0) = false := bne_eq_false_iff_eq.mpr c5
     clear c5
     by_cases c6 : x3_1.length < 17592186044416
     ·rw [if_pos c6] at H
      have LMc6 := Aside0.mk c6
      clear c6
      obtain ⟨y222,hy222⟩ : ∃ y_ : List Int,y_ = (x3_1 ++ [0]) := ⟨_,rfl⟩
      replace H : (if 0 ≤ (wrap64 ((y222.length : Int) - 1)) then (if (wrap64 ((y222.length : Int) - 1)) < (y222.length : Int) then (impl_runLengths.l0 k1 a0 (y222.set ((wrap64 ((y222.length : Int) - 1)) : Int).toNat (wrap64 ((rd y222 (wrap64 ((y222.length : Int) - 1))) + 1))) (a0.size : Int) (wrap64 (x8_1 + 1))) else (none)) else (none)) = some r := by first | (rw [hy222]; with_reducible exact H) | (have H2_ := (Option.bind_some _ _).symm.trans H; rw [hy222]; with_reducible exact H2_) | (have H2_ := (Option.bind_some _ _).symm.trans H; with_reducible exact H2_) | with_reducible exact H | (rw [hy222]; exact H) | exact H
      have Ny222 := Aside0.mk hy222
      clear hy222
      obtain ⟨ji7,hji7⟩ : ∃ j_ : Int,(wrap64 ((y222.length : Int) - 1)) = j_ := ⟨_,rfl⟩
      replace H : (if 0 ≤ (ji7) then (if (ji7) < (y222.length : Int) then (impl_runLengths.l0 k1 a0 (y222.set ((ji7) : Int).toNat (wrap64 ((rd y222 (ji7)) + 1))) (a0.size : Int) (wrap64 (x8_1 + 1))) else (none)) else (none)) = some r := by first | (rw [hji7] at H; exact H) | (simp only [hji7] at H ⊢; exact H)
      have hji7w : (IntKind.i64.wrap ((y222.length : Int) - 1)) = ji7 := (i64_w _).trans hji7
      by_cases c8 : 0 ≤ (ji7)
      ·rw [if_pos c8] at H
       have c8b0 : decide (0 ≤ (ji7)) = true := decide_eq_true c8
       clear c8
       by_cases c9 : (ji7) < (y222.length : Int)
       ·rw [if_pos c9] at H
        have c9b0 : decide ((ji7) < (y222.length : Int)) = true := decide_eq_true c9
        clear c9
        obtain ⟨y226,hy226⟩ : ∃ y_ : List Int,y_ = (y222.set ((ji7) : Int).toNat (wrap64 ((rd y222 (ji7)) + 1))) := ⟨_,rfl⟩
        replace H : (impl_runLengths.l0 k1 a0 y226 (a0.size : Int) (wrap64 (x8_1 + 1))) = some r := by first | (rw [hy226]; with_reducible exact H) | (have H2_ := (Option.bind_some _ _).symm.trans H; rw [hy226]; with_reducible exact H2_) | (have H2_ := (Option.bind_some _ _).symm.trans H; with_reducible exact H2_) | with_reducible exact H | (rw [hy226]; exact H) | exact H
        have Ny226 := Aside0.mk hy226
        clear hy226
        have H' := Aside0.mk H
        clear H
        go_wp2_with (first | ((with_reducible refine gate_builtin (b := .append) (xs := #[.tmp 23,.tmp 24]) rfl ?_); at_builtin; refine Kd.R_append (Kd.int .i64) (w0 := w) w.heap.size rfl (.tmp 23) (.tmp 24) 38 2 (.int .i64 0) 8 rfl Tryd.underlying38 info2 rfl (by decide) (by omega) u3 x3_1 0 [.int .i64 0] (fun _ => True) (fun _ => False) rfl rfl ?aP (fun _ hk => hk.elim) ?aF ?aO ?aB ?aS ?aL ?_; (case aP => exact rfl); (case aB => exact b8_0); (case aF => exact (fun _ _ => trivial)); (case aO => exact b8_2); (case aS => exact (below_size b8_0)); (case aL => have := LMc6.out; omega); intro v223 w11 ho hb hg hat; rw [← Ny222.out] at ho; have n0_ := Aside0.mk (hb); have n1_ := Aside0.mk (ho); clear HB; clear HO_3; have HB := n0_; have HO224 := n1_; clear n0_ n1_; clear ho hb hg hat; obtain ⟨Ao12,co12,eo12⟩ := Kd.R_slice HO224.out; subst eo12; have p225 : 0 ≤ ((ji7) : Int) := of_decide_eq_true b8_1; have q225 : (ji7) < (y222.length : Int) := of_decide_eq_true b8_1; obtain ⟨ad225,e225,hx225_0⟩ := Kd.at_int (Kd.R_reads' HO224.out).2.2 (ji7) p225 q225; cases e225; replace p225 := eq_true p225; replace q225 := eq_true q225; have p10 : 0 ≤ ((ji7) : Int) := of_decide_eq_true b8_1; have q10 : ((ji7) : Int) < ((y222.length : Int) : Int) := of_decide_eq_true b8_1; obtain ⟨go10,co10,eo10,gb10,gl10,cl10,HG10⟩ := Kd.R_form HO224.out (by omega); (first | cases eo10 | (injection eo10 with ea_ en_ ec_; (first | subst ea_ | (injection ea_ with ea_; subst ea_)); subst ec_; clear en_)); have GB10 := Aside0.mk gb10; have GG10 := Aside0.mk HG10; clear gb10 gl10 HG10; (first | simp only [add_plain] at hx225_0 | skip); obtain ⟨hx10_0,hf10_0⟩ := Kd.R_celln 0 HO224.out ((ji7) : Int) p10 q10; replace p10 := eq_true p10; replace q10 := eq_true q10; obtain ⟨hy13_,hz13_⟩ := Kd.R_celln 0 HO224.out ((ji7) : Int) (of_decide_eq_true b8_1) (of_decide_eq_true b8_1); have HP13 := Kd.R_putg HO224.out ((ji7) : Int) (wrap64 ((rd y222 (ji7)) + 1))) | ((with_reducible refine gate_store (t := 2) (p := 33) rfl ?_); (try (rw [drewN_self w11]; generalize hq_ : World.drewN w11 _ = w11; have n0_ := Aside0.mk (Kd.R_at hq_ HO224.out); have n1_ := Aside0.mk (below_at hq_ HB.out); clear hq_ HO224 HB; have HO224 := n0_; have HB := n1_; clear n0_ n1_; (try (obtain ⟨hy13_,hz13_⟩ := Kd.R_celln 0 HO224.out ((ji7) : Int) (of_decide_eq_true b8_1) (of_decide_eq_true b8_1))); (try (have HP13 := Kd.R_putg HO224.out ((ji7) : Int) (wrap64 ((rd y222 (ji7)) + 1)))))); refine store_event (t := 2) (p := 33) (v := ?vo_w14) (w1 := (w11.setCell ⟨go10,((ji7) : Int).toNat,none⟩ (.int .i64 (wrap64 ((rd y222 (ji7)) + 1))))) ?hg ?ho ?hn ?hr ?_; (case ho => rfl); (case hg => rfl); (case hn => rfl); (case hr => first | (go_simp; done) | (go_simp; rfl)); intro w14 hw; have hg : w11.grownBy w14 (some go10) := (by rw [hw]; exact HP13.2); have hp_ : Kd.R (Kd.int .i64) 2 w14 w.heap.size (fun _ => True) (.slice (some ⟨go10,0,none⟩) y222.length co12) y226 := (by rw [hw,Ny226.out]; exact HP13.1); clear HP13; have n0_ := Aside0.mk (hp_); have n1_ := Aside0.mk ((by rw [hw]; exact below_set (HB.out) GB10.out : Below w.heap.size w w14)); clear HO224; clear HB; have HO224 := n0_; have HB := n1_; clear n0_ n1_; clear hg hw hp_))
        repeat (go_quiet (first | ((with_reducible refine gate_builtin (b := .append) (xs := #[.tmp 23,.tmp 24]) rfl ?_); at_builtin; refine Kd.R_append (Kd.int .i64) (w0 := w) w.heap.size rfl (.tmp 23) (.tmp 24) 38 2 (.int .i64 0) 8 rfl Tryd.underlying38 info2 rfl (by decide) (by omega) u3 x3_1 0 [.int .i64 0] (fun _ => True) (fun _ => False) rfl rfl ?aP (fun _ hk => hk.elim) ?aF ?aO ?aB ?aS ?aL ?_; (case aP => exact rfl); (case aB => exact b8_0); (case aF => exact (fun _ _ => trivial)); (case aO => exact b8_2); (case aS => exact (below_size b8_0)); (case aL => have := LMc6.out; omega); intro v223 w11 ho hb hg hat; rw [← Ny222.out] at ho; have n0_ := Aside0.mk (hb); have n1_ := Aside0.mk (ho); clear HB; clear HO_3; have HB := n0_; have HO224 := n1_; clear n0_ n1_; clear ho hb hg hat; obtain ⟨Ao12,co12,eo12⟩ := Kd.R_slice HO224.out; subst eo12; have p225 : 0 ≤ ((ji7) : Int) := of_decide_eq_true b8_1; have q225 : (ji7) < (y222.length : Int) := of_decide_eq_true b8_1; obtain ⟨ad225,e225,hx225_0⟩ := Kd.at_int (Kd.R_reads' HO224.out).2.2 (ji7) p225 q225; cases e225; replace p225 := eq_true p225; replace q225 := eq_true q225; have p10 : 0 ≤ ((ji7) : Int) := of_decide_eq_true b8_1; have q10 : ((ji7) : Int) < ((y222.length : Int) : Int) := of_decide_eq_true b8_1; obtain ⟨go10,co10,eo10,gb10,gl10,cl10,HG10⟩ := Kd.R_form HO224.out (by omega); (first | cases eo10 | (injection eo10 with ea_ en_ ec_; (first | subst ea_ | (injection ea_ with ea_; subst ea_)); subst ec_; clear en_)); have GB10 := Aside0.mk gb10; have GG10 := Aside0.mk HG10; clear gb10 gl10 HG10; (first | simp only [add_plain] at hx225_0 | skip); obtain ⟨hx10_0,hf10_0⟩ := Kd.R_celln 0 HO224.out ((ji7) : Int) p10 q10; replace p10 := eq_true p10; replace q10 := eq_true q10; obtain ⟨hy13_,hz13_⟩ := Kd.R_celln 0 HO224.out ((ji7) : Int) (of_decide_eq_true b8_1) (of_decide_eq_true b8_1); have HP13 := Kd.R_putg HO224.out ((ji7) : Int) (wrap64 ((rd y222 (ji7)) + 1))) | ((with_reducible refine gate_store (t := 2) (p := 33) rfl ?_); (try (rw [drewN_self w11]; generalize hq_ : World.drewN w11 _ = w11; have n0_ := Aside0.mk (Kd.R_at hq_ HO224.out); have n1_ := Aside0.mk (below_at hq_ HB.out); clear hq_ HO224 HB; have HO224 := n0_; have HB := n1_; clear n0_ n1_; (try (obtain ⟨hy13_,hz13_⟩ := Kd.R_celln 0 HO224.out ((ji7) : Int) (of_decide_eq_true b8_1) (of_decide_eq_true b8_1))); (try (have HP13 := Kd.R_putg HO224.out ((ji7) : Int) (wrap64 ((rd y222 (ji7)) + 1)))))); refine store_event (t := 2) (p := 33) (v := ?vo_w14) (w1 := (w11.setCell ⟨go10,((ji7) : Int).toNat,none⟩ (.int .i64 (wrap64 ((rd y222 (ji7)) + 1))))) ?hg ?ho ?hn ?hr ?_; (case ho => rfl); (case hg => rfl); (case hn => rfl); (case hr => first | (go_simp; done) | (go_simp; rfl)); intro w14 hw; have hg : w11.grownBy w14 (some go10) := (by rw [hw]; exact HP13.2); have hp_ : Kd.R (Kd.int .i64) 2 w14 w.heap.size (fun _ => True) (.slice (some ⟨go10,0,none⟩) y222.length co12) y226 := (by rw [hw,Ny226.out]; exact HP13.1); clear HP13; have n0_ := Aside0.mk (hp_); have n1_ := Aside0.mk ((by rw [hw]; exact below_set (HB.out) GB10.out : Below w.heap.size w w14)); clear HO224; clear HB; have HO224 := n0_; have HB := n1_; clear n0_ n1_; clear hg hw hp_)); try go_wp2_with (first | ((with_reducible refine gate_builtin (b := .append) (xs := #[.tmp 23,.tmp 24]) rfl ?_); at_builtin; refine Kd.R_append (Kd.int .i64) (w0 := w) w.heap.size rfl (.tmp 23) (.tmp 24) 38 2 (.int .i64 0) 8 rfl Tryd.underlying38 info2 rfl (by decide) (by omega) u3 x3_1 0 [.int .i64 0] (fun _ => True) (fun _ => False) rfl rfl ?aP (fun _ hk => hk.elim) ?aF ?aO ?aB ?aS ?aL ?_; (case aP => exact rfl); (case aB => exact b8_0); (case aF => exact (fun _ _ => trivial)); (case aO => exact b8_2); (case aS => exact (below_size b8_0)); (case aL => have := LMc6.out; omega); intro v223 w11 ho hb hg hat; rw [← Ny222.out] at ho; have n0_ := Aside0.mk (hb); have n1_ := Aside0.mk (ho); clear HB; clear HO_3; have HB := n0_; have HO224 := n1_; clear n0_ n1_; clear ho hb hg hat; obtain ⟨Ao12,co12,eo12⟩ := Kd.R_slice HO224.out; subst eo12; have p225 : 0 ≤ ((ji7) : Int) := of_decide_eq_true b8_1; have q225 : (ji7) < (y222.length : Int) := of_decide_eq_true b8_1; obtain ⟨ad225,e225,hx225_0⟩ := Kd.at_int (Kd.R_reads' HO224.out).2.2 (ji7) p225 q225; cases e225; replace p225 := eq_true p225; replace q225 := eq_true q225; have p10 : 0 ≤ ((ji7) : Int) := of_decide_eq_true b8_1; have q10 : ((ji7) : Int) < ((y222.length : Int) : Int) := of_decide_eq_true b8_1; obtain ⟨go10,co10,eo10,gb10,gl10,cl10,HG10⟩ := Kd.R_form HO224.out (by omega); (first | cases eo10 | (injection eo10 with ea_ en_ ec_; (first | subst ea_ | (injection ea_ with ea_; subst ea_)); subst ec_; clear en_)); have GB10 := Aside0.mk gb10; have GG10 := Aside0.mk HG10; clear gb10 gl10 HG10; (first | simp only [add_plain] at hx225_0 | skip); obtain ⟨hx10_0,hf10_0⟩ := Kd.R_celln 0 HO224.out ((ji7) : Int) p10 q10; replace p10 := eq_true p10; replace q10 := eq_true q10; obtain ⟨hy13_,hz13_⟩ := Kd.R_celln 0 HO224.out ((ji7) : Int) (of_decide_eq_true b8_1) (of_decide_eq_true b8_1); have HP13 := Kd.R_putg HO224.out ((ji7) : Int) (wrap64 ((rd y222 (ji7)) + 1))) | ((with_reducible refine gate_store (t := 2) (p := 33) rfl ?_); (try (rw [drewN_self w11]; generalize hq_ : World.drewN w11 _ = w11; have n0_ := Aside0.mk (Kd.R_at hq_ HO224.out); have n1_ := Aside0.mk (below_at hq_ HB.out); clear hq_ HO224 HB; have HO224 := n0_; have HB := n1_; clear n0_ n1_; (try (obtain ⟨hy13_,hz13_⟩ := Kd.R_celln 0 HO224.out ((ji7) : Int) (of_decide_eq_true b8_1) (of_decide_eq_true b8_1))); (try (have HP13 := Kd.R_putg HO224.out ((ji7) : Int) (wrap64 ((rd y222 (ji7)) + 1)))))); refine store_event (t := 2) (p := 33) (v := ?vo_w14) (w1 := (w11.setCell ⟨go10,((ji7) : Int).toNat,none⟩ (.int .i64 (wrap64 ((rd y222 (ji7)) + 1))))) ?hg ?ho ?hn ?hr ?_; (case ho => rfl); (case hg => rfl); (case hn => rfl); (case hr => first | (go_simp; done) | (go_simp; rfl)); intro w14 hw; have hg : w11.grownBy w14 (some go10) := (by rw [hw]; exact HP13.2); have hp_ : Kd.R (Kd.int .i64) 2 w14 w.heap.size (fun _ => True) (.slice (some ⟨go10,0,none⟩) y222.length co12) y226 := (by rw [hw,Ny226.out]; exact HP13.1); clear HP13; have n0_ := Aside0.mk (hp_); have n1_ := Aside0.mk ((by rw [hw]; exact below_set (HB.out) GB10.out : Below w.heap.size w w14)); clear HO224; clear HB; have HO224 := n0_; have HB := n1_; clear n0_ n1_; clear hg hw hp_)))
        go_roundg k1
        case measure => have := HK1.out; omega
        case rel => exact ⟨(y226),(wrap64 (x8_1 + 1)),b8_3,H',⟨by have := HK1.out; omega⟩,⟨by (with_reducible repeat (first | apply Kd.R_alloc | apply Kd.R_drewN | apply Kd.R_drew)); exact HO224.out⟩,⟨b8_0⟩⟩
       ·rw [if_neg c9] at H
        exact absurd H (by simp)
      ·rw [if_neg c8] at H
       exact absurd H (by simp)
     ·rw [if_neg c6] at H
      exact absurd H (by simp)
    ·rw [if_neg c5] at H
     have c5b0 : (x8_1 == 0) = false := beq_eq_false_iff_ne.mpr c5
     have c5b1 : (x8_1 != 0) = true := bne_iff_ne.mpr c5
     by_cases c15 : 0 ≤ x8_1
     ·rw [if_pos c15] at H
      have c15b0 : decide (0 ≤ x8_1) = true := decide_eq_true c15
      clear c15
      by_cases c16 : x8_1 < (a0.size : Int)
      ·rw [if_pos c16] at H
       have c16b0 : decide (x8_1 < (a0.size : Int)) = true := decide_eq_true c16
       clear c16
       obtain ⟨ji18,hji18⟩ : ∃ j_ : Int,(wrap64 (x8_1 - 1)) = j_ := ⟨_,rfl⟩
       replace H : (if 0 ≤ (ji18) then (if (ji18) < (a0.size : Int) then (if (bt a0 x8_1) = (bt a0 (ji18)) then (if 0 ≤ (wrap64 ((x3_1.length : Int) - 1)) then (if (wrap64 ((x3_1.length : Int) - 1)) < (x3_1.length : Int) then (impl_runLengths.l0 k1 a0 (x3_1.set ((wrap64 ((x3_1.length : Int) - 1)) : Int).toNat (wrap64 ((rd x3_1 (wrap64 ((x3_1.length : Int) - 1))) + 1))) (a0.size : Int) (wrap64 (x8_1 + 1))) else (none)) else (none)) else (if x3_1.length < 17592186044416 then ((some (x3_1 ++ [0] : List Int)).bind fun y229 => (if 0 ≤ (wrap64 ((y229.length : Int) - 1)) then (if (wrap64 ((y229.length : Int) - 1)) < (y229.length : Int) then (impl_runLengths.l0 k1 a0 (y229.set ((wrap64 ((y229.length : Int) - 1)) : Int).toNat (wrap64 ((rd y229 (wrap64 ((y229.length : Int) - 1))) + 1))) (a0.size : Int) (wrap64 (x8_1 + 1))) else (none)) else (none))) else (none))) else (none)) else (none)) = some r := by first | (rw [hji18] at H; exact H) | (simp only [hji18] at H ⊢; exact H)
       have hji18w : (IntKind.i64.wrap (x8_1 - 1)) = ji18 := (i64_w _).trans hji18
       by_cases c19 : 0 ≤ (ji18)
       ·rw [if_pos c19] at H
        have c19b0 : decide (0 ≤ (ji18)) = true := decide_eq_true c19
        clear c19
        by_cases c20 : (ji18) < (a0.size : Int)
        ·rw [if_pos c20] at H
         have c20b0 : decide ((ji18) < (a0.size : Int)) = true := decide_eq_true c20
         clear c20
         by_cases c22 : (bt a0 x8_1) = (bt a0 (ji18))
         ·rw [if_pos c22] at H
          have c22b0 : ((bt a0 x8_1) == (bt a0 (ji18))) = true := beq_iff_eq.mpr c22
          have c22b1 : ((bt a0 x8_1) != (bt a0 (ji18))) = false := bne_eq_false_iff_eq.mpr c22
          clear c22
          obtain ⟨ji23,hji23⟩ : ∃ j_ : Int,(wrap64 ((x3_1.length : Int) - 1)) = j_ := ⟨_,rfl⟩
          replace H : (if 0 ≤ (ji23) then (if (ji23) < (x3_1.length : Int) then (impl_runLengths.l0 k1 a0 (x3_1.set ((ji23) : Int).toNat (wrap64 ((rd x3_1 (ji23)) + 1))) (a0.size : Int) (wrap64 (x8_1 + 1))) else (none)) else (none)) = some r := by first | (rw [hji23] at H; exact H) | (simp only [hji23] at H ⊢; exact H)
          have hji23w : (IntKind.i64.wrap ((x3_1.length : Int) - 1)) = ji23 := (i64_w _).trans hji23
          by_cases c24 : 0 ≤ (ji23)
          ·rw [if_pos c24] at H
           have c24b0 : decide (0 ≤ (ji23)) = true := decide_eq_true c24
           clear c24
           by_cases c25 : (ji23) < (x3_1.length : Int)
           ·rw [if_pos c25] at H
            have c25b0 : decide ((ji23) < (x3_1.length : Int)) = true := decide_eq_true c25
            clear c25
            obtain ⟨y228,hy228⟩ : ∃ y_ : List Int,y_ = (x3_1.set ((ji23) : Int).toNat (wrap64 ((rd x3_1 (ji23)) + 1))) := ⟨_,rfl⟩
            replace H : (impl_runLengths.l0 k1 a0 y228 (a0.size : Int) (wrap64 (x8_1 + 1))) = some r := by first | (rw [hy228]; with_reducible exact H) | (have H2_ := (Option.bind_some _ _).symm.trans H; rw [hy228]; with_reducible exact H2_) | (have H2_ := (Option.bind_some _ _).symm.trans H; with_reducible exact H2_) | with_reducible exact H | (rw [hy228]; exact H) | exact H
            have Ny228 := Aside0.mk hy228
            clear hy228
            have H' := Aside0.mk H
            clear H
            have p17 : 0 ≤ (x8_1 : Int) := of_decide_eq_true b8_1
            have q17 : x8_1 < (a0.size : Int) := of_decide_eq_true b8_1
            have hx17 := bt_at a0 x8_1
            replace p17 := eq_true p17
            replace q17 := eq_true q17
            have p21 : 0 ≤ ((ji18) : Int) := of_decide_eq_true b8_1
            have q21 : (ji18) < (a0.size : Int) := of_decide_eq_true b8_1
            have hx21 := bt_at a0 (ji18)
            replace p21 := eq_true p21
            replace q21 := eq_true q21
            obtain ⟨Ao27,co27,eo27⟩ := Kd.R_slice HO_3.out
            subst eo27
            have p227 : 0 ≤ ((ji23) : Int) := of_decide_eq_true b8_1
            have q227 : (ji23) < (x3_1.length : Int) := of_decide_eq_true b8_1
            obtain ⟨ad227,e227,hx227_0⟩ := Kd.at_int (Kd.R_reads' HO_3.out).2.2 (ji23) p227 q227
            cases e227
            replace p227 := eq_true p227
            replace q227 := eq_true q227
            have p26 : 0 ≤ ((ji23) : Int) := of_decide_eq_true b8_1
            have q26 : ((ji23) : Int) < ((x3_1.length : Int) : Int) := of_decide_eq_true b8_1
            obtain ⟨go26,co26,eo26,gb26,gl26,cl26,HG26⟩ := Kd.R_form HO_3.out (by omega)
            (first | cases eo26 | (injection eo26 with ea_ en_ ec_; (first | subst ea_ | (injection ea_ with ea_; subst ea_)); subst ec_; clear en_))
            have GB26 := Aside0.mk gb26
            have GG26 := Aside0.mk HG26
            clear gb26 gl26 HG26
            (first | simp only [add_plain] at hx227_0 | skip)
            obtain ⟨hx26_0,hf26_0⟩ := Kd.R_celln 0 HO_3.out ((ji23) : Int) p26 q26
            replace p26 := eq_true p26
            replace q26 := eq_true q26
            have HP28 := Kd.R_putg HO_3.out ((ji23) : Int) (wrap64 ((rd x3_1 (ji23)) + 1))
            go_wp2_with (first | ((with_reducible refine gate_store (t := 2) (p := 33) rfl ?_); (try (rw [drewN_self wr]; generalize hq_ : World.drewN wr _ = wr; have n0_ := Aside0.mk (Kd.R_at hq_ HO_3.out); have n1_ := Aside0.mk (below_at hq_ HB.out); clear hq_ HO_3 HB; have HO_3 := n0_; have HB := n1_; clear n0_ n1_; (try (have HP28 := Kd.R_putg HO_3.out ((ji23) : Int) (wrap64 ((rd x3_1 (ji23)) + 1)))))); refine store_event (t := 2) (p := 33) (v := ?vo_w29) (w1 := (wr.setCell ⟨go26,((ji23) : Int).toNat,none⟩ (.int .i64 (wrap64 ((rd x3_1 (ji23)) + 1))))) ?hg ?ho ?hn ?hr ?_; (case ho => rfl); (case hg => rfl); (case hn => rfl); (case hr => first | (go_simp; done) | (go_simp; rfl)); intro w29 hw; have hg : wr.grownBy w29 (some go26) := (by rw [hw]; exact HP28.2); have hp_ : Kd.R (Kd.int .i64) 2 w29 w.heap.size (fun _ => True) (.slice (some ⟨go26,0,none⟩) x3_1.length co27) y228 := (by rw [hw,Ny228.out]; exact HP28.1); clear HP28; have n0_ := Aside0.mk (hp_); have n1_ := Aside0.mk ((by rw [hw]; exact below_set (HB.out) GB26.out : Below w.heap.size w w29)); clear HO_3; clear HB; have HO_3 := n0_; have HB := n1_; clear n0_ n1_; clear hg hw hp_))
            repeat (go_quiet (first | ((with_reducible refine gate_store (t := 2) (p := 33) rfl ?_); (try (rw [drewN_self wr]; generalize hq_ : World.drewN wr _ = wr; have n0_ := Aside0.mk (Kd.R_at hq_ HO_3.out); have n1_ := Aside0.mk (below_at hq_ HB.out); clear hq_ HO_3 HB; have HO_3 := n0_; have HB := n1_; clear n0_ n1_; (try (have HP28 := Kd.R_putg HO_3.out ((ji23) : Int) (wrap64 ((rd x3_1 (ji23)) + 1)))))); refine store_event (t := 2) (p := 33) (v := ?vo_w29) (w1 := (wr.setCell ⟨go26,((ji23) : Int).toNat,none⟩ (.int .i64 (wrap64 ((rd x3_1 (ji23)) + 1))))) ?hg ?ho ?hn ?hr ?_; (case ho => rfl); (case hg => rfl); (case hn => rfl); (case hr => first | (go_simp; done) | (go_simp; rfl)); intro w29 hw; have hg : wr.grownBy w29 (some go26) := (by rw [hw]; exact HP28.2); have hp_ : Kd.R (Kd.int .i64) 2 w29 w.heap.size (fun _ => True) (.slice (some ⟨go26,0,none⟩) x3_1.length co27) y228 := (by rw [hw,Ny228.out]; exact HP28.1); clear HP28; have n0_ := Aside0.mk (hp_); have n1_ := Aside0.mk ((by rw [hw]; exact below_set (HB.out) GB26.out : Below w.heap.size w w29)); clear HO_3; clear HB; have HO_3 := n0_; have HB := n1_; clear n0_ n1_; clear hg hw hp_)); try go_wp2_with (first | ((with_reducible refine gate_store (t := 2) (p := 33) rfl ?_); (try (rw [drewN_self wr]; generalize hq_ : World.drewN wr _ = wr; have n0_ := Aside0.mk (Kd.R_at hq_ HO_3.out); have n1_ := Aside0.mk (below_at hq_ HB.out); clear hq_ HO_3 HB; have HO_3 := n0_; have HB := n1_; clear n0_ n1_; (try (have HP28 := Kd.R_putg HO_3.out ((ji23) : Int) (wrap64 ((rd x3_1 (ji23)) + 1)))))); refine store_event (t := 2) (p := 33) (v := ?vo_w29) (w1 := (wr.setCell ⟨go26,((ji23) : Int).toNat,none⟩ (.int .i64 (wrap64 ((rd x3_1 (ji23)) + 1))))) ?hg ?ho ?hn ?hr ?_; (case ho => rfl); (case hg => rfl); (case hn => rfl); (case hr => first | (go_simp; done) | (go_simp; rfl)); intro w29 hw; have hg : wr.grownBy w29 (some go26) := (by rw [hw]; exact HP28.2); have hp_ : Kd.R (Kd.int .i64) 2 w29 w.heap.size (fun _ => True) (.slice (some ⟨go26,0,none⟩) x3_1.length co27) y228 := (by rw [hw,Ny228.out]; exact HP28.1); clear HP28; have n0_ := Aside0.mk (hp_); have n1_ := Aside0.mk ((by rw [hw]; exact below_set (HB.out) GB26.out : Below w.heap.size w w29)); clear HO_3; clear HB; have HO_3 := n0_; have HB := n1_; clear n0_ n1_; clear hg hw hp_)))
            go_roundg k1
            case measure => have := HK1.out; omega
            case rel => exact ⟨(y228),(wrap64 (x8_1 + 1)),b8_3,H',⟨by have := HK1.out; omega⟩,⟨by first | ((with_reducible repeat (first | apply Kd.R_alloc | apply Kd.R_drewN | apply Kd.R_drew)); exact HO_3.out) | (rw [Ny228.out]; exact (Kd.R_putg (Kd.R_drewN HO_3.out _) _ _).1)⟩,⟨by first | exact below_set (pw_below_drewN HB.out _) GB26.out | repeat (first | (with_reducible first | exact HB.out | apply below_alloc | apply pw_below_drewN | apply below_drew1) | exact HB.out)⟩⟩
           ·rw [if_neg c25] at H
            exact absurd H (by simp)
          ·rw [if_neg c24] at H
           exact absurd H (by simp)
         ·rw [if_neg c22] at H
          have c22b0 : ((bt a0 x8_1) == (bt a0 (ji18))) = false := beq_eq_false_iff_ne.mpr c22
          have c22b1 : ((bt a0 x8_1) != (bt a0 (ji18))) = true := bne_iff_ne.mpr c22
          by_cases c30 : x3_1.length < 17592186044416
          ·rw [if_pos c30] at H
           have LMc30 := Aside0.mk c30
           clear c30
           obtain ⟨y229,hy229⟩ : ∃ y_ : List Int,y_ = (x3_1 ++ [0]) := ⟨_,rfl⟩
           replace H : (if 0 ≤ (wrap64 ((y229.length : Int) - 1)) then (if (wrap64 ((y229.length : Int) - 1)) < (y229.length : Int) then (impl_runLengths.l0 k1 a0 (y229.set ((wrap64 ((y229.length : Int) - 1)) : Int).toNat (wrap64 ((rd y229 (wrap64 ((y229.length : Int) - 1))) + 1))) (a0.size : Int) (wrap64 (x8_1 + 1))) else (none)) else (none)) = some r := by first | (rw [hy229]; with_reducible exact H) | (have H2_ := (Option.bind_some _ _).symm.trans H; rw [hy229]; with_reducible exact H2_) | (have H2_ := (Option.bind_some _ _).symm.trans H; with_reducible exact H2_) | with_reducible exact H | (rw [hy229]; exact H) | exact H
           have Ny229 := Aside0.mk hy229
           clear hy229
           obtain ⟨ji31,hji31⟩ : ∃ j_ : Int,(wrap64 ((y229.length : Int) - 1)) = j_ := ⟨_,rfl⟩
           replace H : (if 0 ≤ (ji31) then (if (ji31) < (y229.length : Int) then (impl_runLengths.l0 k1 a0 (y229.set ((ji31) : Int).toNat (wrap64 ((rd y229 (ji31)) + 1))) (a0.size : Int) (wrap64 (x8_1 + 1))) else (none)) else (none)) = some r := by first | (rw [hji31] at H; exact H) | (simp only [hji31] at H ⊢; exact H)
           have hji31w : (IntKind.i64.wrap ((y229.length : Int) - 1)) = ji31 := (i64_w _).trans hji31
           by_cases c32 : 0 ≤ (ji31)
           ·rw [if_pos c32] at H
            have c32b0 : decide (0 ≤ (ji31)) = true := decide_eq_true c32
            clear c32
            by_cases c33 : (ji31) < (y229.length : Int)
            ·rw [if_pos c33] at H
             have c33b0 : decide ((ji31) < (y229.length : Int)) = true := decide_eq_true c33
             clear c33
             obtain ⟨y233,hy233⟩ : ∃ y_ : List Int,y_ = (y229.set ((ji31) : Int).toNat (wrap64 ((rd y229 (ji31)) + 1))) := ⟨_,rfl⟩
             replace H : (impl_runLengths.l0 k1 a0 y233 (a0.size : Int) (wrap64 (x8_1 + 1))) = some r := by first | (rw [hy233]; with_reducible exact H) | (have H2_ := (Option.bind_some _ _).symm.trans H; rw [hy233]; with_reducible exact H2_) | (have H2_ := (Option.bind_some _ _).symm.trans H; with_reducible exact H2_) | with_reducible exact H | (rw [hy233]; exact H) | exact H
             have Ny233 := Aside0.mk hy233
             clear hy233
             have H' := Aside0.mk H
             clear H
             have p17 : 0 ≤ (x8_1 : Int) := of_decide_eq_true b8_1
             have q17 : x8_1 < (a0.size : Int) := of_decide_eq_true b8_1
             have hx17 := bt_at a0 x8_1
             replace p17 := eq_true p17
             replace q17 := eq_true q17
             have p21 : 0 ≤ ((ji18) : Int) := of_decide_eq_true b8_1
             have q21 : (ji18) < (a0.size : Int) := of_decide_eq_true b8_1
             have hx21 := bt_at a0 (ji18)
             replace p21 := eq_true p21
             replace q21 := eq_true q21
             go_wp2_with (first | ((with_reducible refine gate_builtin (b := .append) (xs := #[.tmp 23,.tmp 24]) rfl ?_); at_builtin; refine Kd.R_append (Kd.int .i64) (w0 := w) w.heap.size rfl (.tmp 23) (.tmp 24) 38 2 (.int .i64 0) 8 rfl Tryd.underlying38 info2 rfl (by decide) (by omega) u3 x3_1 0 [.int .i64 0] (fun _ => True) (fun _ => False) rfl rfl ?aP (fun _ hk => hk.elim) ?aF ?aO ?aB ?aS ?aL ?_; (case aP => exact rfl); (case aB => exact b8_0); (case aF => exact (fun _ _ => trivial)); (case aO => exact b8_2); (case aS => exact (below_size b8_0)); (case aL => have := LMc30.out; omega); intro v230 w35 ho hb hg hat; rw [← Ny229.out] at ho; have n0_ := Aside0.mk (hb); have n1_ := Aside0.mk (ho); clear HB; clear HO_3; have HB := n0_; have HO231 := n1_; clear n0_ n1_; clear ho hb hg hat; obtain ⟨Ao36,co36,eo36⟩ := Kd.R_slice HO231.out; subst eo36; have p232 : 0 ≤ ((ji31) : Int) := of_decide_eq_true b8_1; have q232 : (ji31) < (y229.length : Int) := of_decide_eq_true b8_1; obtain ⟨ad232,e232,hx232_0⟩ := Kd.at_int (Kd.R_reads' HO231.out).2.2 (ji31) p232 q232; cases e232; replace p232 := eq_true p232; replace q232 := eq_true q232; have p34 : 0 ≤ ((ji31) : Int) := of_decide_eq_true b8_1; have q34 : ((ji31) : Int) < ((y229.length : Int) : Int) := of_decide_eq_true b8_1; obtain ⟨go34,co34,eo34,gb34,gl34,cl34,HG34⟩ := Kd.R_form HO231.out (by omega); (first | cases eo34 | (injection eo34 with ea_ en_ ec_; (first | subst ea_ | (injection ea_ with ea_; subst ea_)); subst ec_; clear en_)); have GB34 := Aside0.mk gb34; have GG34 := Aside0.mk HG34; clear gb34 gl34 HG34; (first | simp only [add_plain] at hx232_0 | skip); obtain ⟨hx34_0,hf34_0⟩ := Kd.R_celln 0 HO231.out ((ji31) : Int) p34 q34; replace p34 := eq_true p34; replace q34 := eq_true q34; obtain ⟨hy37_,hz37_⟩ := Kd.R_celln 0 HO231.out ((ji31) : Int) (of_decide_eq_true b8_1) (of_decide_eq_true b8_1); have HP37 := Kd.R_putg HO231.out ((ji31) : Int) (wrap64 ((rd y229 (ji31)) + 1))) | ((with_reducible refine gate_store (t := 2) (p := 33) rfl ?_); (try (rw [drewN_self w35]; generalize hq_ : World.drewN w35 _ = w35; have n0_ := Aside0.mk (Kd.R_at hq_ HO231.out); have n1_ := Aside0.mk (below_at hq_ HB.out); clear hq_ HO231 HB; have HO231 := n0_; have HB := n1_; clear n0_ n1_; (try (obtain ⟨hy37_,hz37_⟩ := Kd.R_celln 0 HO231.out ((ji31) : Int) (of_decide_eq_true b8_1) (of_decide_eq_true b8_1))); (try (have HP37 := Kd.R_putg HO231.out ((ji31) : Int) (wrap64 ((rd y229 (ji31)) + 1)))))); refine store_event (t := 2) (p := 33) (v := ?vo_w38) (w1 := (w35.setCell ⟨go34,((ji31) : Int).toNat,none⟩ (.int .i64 (wrap64 ((rd y229 (ji31)) + 1))))) ?hg ?ho ?hn ?hr ?_; (case ho => rfl); (case hg => rfl); (case hn => rfl); (case hr => first | (go_simp; done) | (go_simp; rfl)); intro w38 hw; have hg : w35.grownBy w38 (some go34) := (by rw [hw]; exact HP37.2); have hp_ : Kd.R (Kd.int .i64) 2 w38 w.heap.size (fun _ => True) (.slice (some ⟨go34,0,none⟩) y229.length co36) y233 := (by rw [hw,Ny233.out]; exact HP37.1); clear HP37; have n0_ := Aside0.mk (hp_); have n1_ := Aside0.mk ((by rw [hw]; exact below_set (HB.out) GB34.out : Below w.heap.size w w38)); clear HO231; clear HB; have HO231 := n0_; have HB := n1_; clear n0_ n1_; clear hg hw hp_))
             repeat (go_quiet (first | ((with_reducible refine gate_builtin (b := .append) (xs := #[.tmp 23,.tmp 24]) rfl ?_); at_builtin; refine Kd.R_append (Kd.int .i64) (w0 := w) w.heap.size rfl (.tmp 23) (.tmp 24) 38 2 (.int .i64 0) 8 rfl Tryd.underlying38 info2 rfl (by decide) (by omega) u3 x3_1 0 [.int .i64 0] (fun _ => True) (fun _ => False) rfl rfl ?aP (fun _ hk => hk.elim) ?aF ?aO ?aB ?aS ?aL ?_; (case aP => exact rfl); (case aB => exact b8_0); (case aF => exact (fun _ _ => trivial)); (case aO => exact b8_2); (case aS => exact (below_size b8_0)); (case aL => have := LMc30.out; omega); intro v230 w35 ho hb hg hat; rw [← Ny229.out] at ho; have n0_ := Aside0.mk (hb); have n1_ := Aside0.mk (ho); clear HB; clear HO_3; have HB := n0_; have HO231 := n1_; clear n0_ n1_; clear ho hb hg hat; obtain ⟨Ao36,co36,eo36⟩ := Kd.R_slice HO231.out; subst eo36; have p232 : 0 ≤ ((ji31) : Int) := of_decide_eq_true b8_1; have q232 : (ji31) < (y229.length : Int) := of_decide_eq_true b8_1; obtain ⟨ad232,e232,hx232_0⟩ := Kd.at_int (Kd.R_reads' HO231.out).2.2 (ji31) p232 q232; cases e232; replace p232 := eq_true p232; replace q232 := eq_true q232; have p34 : 0 ≤ ((ji31) : Int) := of_decide_eq_true b8_1; have q34 : ((ji31) : Int) < ((y229.length : Int) : Int) := of_decide_eq_true b8_1; obtain ⟨go34,co34,eo34,gb34,gl34,cl34,HG34⟩ := Kd.R_form HO231.out (by omega); (first | cases eo34 | (injection eo34 with ea_ en_ ec_; (first | subst ea_ | (injection ea_ with ea_; subst ea_)); subst ec_; clear en_)); have GB34 := Aside0.mk gb34; have GG34 := Aside0.mk HG34; clear gb34 gl34 HG34; (first | simp only [add_plain] at hx232_0 | skip); obtain ⟨hx34_0,hf34_0⟩ := Kd.R_celln 0 HO231.out ((ji31) : Int) p34 q34; replace p34 := eq_true p34; replace q34 := eq_true q34; obtain ⟨hy37_,hz37_⟩ := Kd.R_celln 0 HO231.out ((ji31) : Int) (of_decide_eq_true b8_1) (of_decide_eq_true b8_1); have HP37 := Kd.R_putg HO231.out ((ji31) : Int) (wrap64 ((rd y229 (ji31)) + 1))) | ((with_reducible refine gate_store (t := 2) (p := 33) rfl ?_); (try (rw [drewN_self w35]; generalize hq_ : World.drewN w35 _ = w35; have n0_ := Aside0.mk (Kd.R_at hq_ HO231.out); have n1_ := Aside0.mk (below_at hq_ HB.out); clear hq_ HO231 HB; have HO231 := n0_; have HB := n1_; clear n0_ n1_; (try (obtain ⟨hy37_,hz37_⟩ := Kd.R_celln 0 HO231.out ((ji31) : Int) (of_decide_eq_true b8_1) (of_decide_eq_true b8_1))); (try (have HP37 := Kd.R_putg HO231.out ((ji31) : Int) (wrap64 ((rd y229 (ji31)) + 1)))))); refine store_event (t := 2) (p := 33) (v := ?vo_w38) (w1 := (w35.setCell ⟨go34,((ji31) : Int).toNat,none⟩ (.int .i64 (wrap64 ((rd y229 (ji31)) + 1))))) ?hg ?ho ?hn ?hr ?_; (case ho => rfl); (case hg => rfl); (case hn => rfl); (case hr => first | (go_simp; done) | (go_simp; rfl)); intro w38 hw; have hg : w35.grownBy w38 (some go34) := (by rw [hw]; exact HP37.2); have hp_ : Kd.R (Kd.int .i64) 2 w38 w.heap.size (fun _ => True) (.slice (some ⟨go34,0,none⟩) y229.length co36) y233 := (by rw [hw,Ny233.out]; exact HP37.1); clear HP37; have n0_ := Aside0.mk (hp_); have n1_ := Aside0.mk ((by rw [hw]; exact below_set (HB.out) GB34.out : Below w.heap.size w w38)); clear HO231; clear HB; have HO231 := n0_; have HB := n1_; clear n0_ n1_; clear hg hw hp_)); try go_wp2_with (first | ((with_reducible refine gate_builtin (b := .append) (xs := #[.tmp 23,.tmp 24]) rfl ?_); at_builtin; refine Kd.R_append (Kd.int .i64) (w0 := w) w.heap.size rfl (.tmp 23) (.tmp 24) 38 2 (.int .i64 0) 8 rfl Tryd.underlying38 info2 rfl (by decide) (by omega) u3 x3_1 0 [.int .i64 0] (fun _ => True) (fun _ => False) rfl rfl ?aP (fun _ hk => hk.elim) ?aF ?aO ?aB ?aS ?aL ?_; (case aP => exact rfl); (case aB => exact b8_0); (case aF => exact (fun _ _ => trivial)); (case aO => exact b8_2); (case aS => exact (below_size b8_0)); (case aL => have := LMc30.out; omega); intro v230 w35 ho hb hg hat; rw [← Ny229.out] at ho; have n0_ := Aside0.mk (hb); have n1_ := Aside0.mk (ho); clear HB; clear HO_3; have HB := n0_; have HO231 := n1_; clear n0_ n1_; clear ho hb hg hat; obtain ⟨Ao36,co36,eo36⟩ := Kd.R_slice HO231.out; subst eo36; have p232 : 0 ≤ ((ji31) : Int) := of_decide_eq_true b8_1; have q232 : (ji31) < (y229.length : Int) := of_decide_eq_true b8_1; obtain ⟨ad232,e232,hx232_0⟩ := Kd.at_int (Kd.R_reads' HO231.out).2.2 (ji31) p232 q232; cases e232; replace p232 := eq_true p232; replace q232 := eq_true q232; have p34 : 0 ≤ ((ji31) : Int) := of_decide_eq_true b8_1; have q34 : ((ji31) : Int) < ((y229.length : Int) : Int) := of_decide_eq_true b8_1; obtain ⟨go34,co34,eo34,gb34,gl34,cl34,HG34⟩ := Kd.R_form HO231.out (by omega); (first | cases eo34 | (injection eo34 with ea_ en_ ec_; (first | subst ea_ | (injection ea_ with ea_; subst ea_)); subst ec_; clear en_)); have GB34 := Aside0.mk gb34; have GG34 := Aside0.mk HG34; clear gb34 gl34 HG34; (first | simp only [add_plain] at hx232_0 | skip); obtain ⟨hx34_0,hf34_0⟩ := Kd.R_celln 0 HO231.out ((ji31) : Int) p34 q34; replace p34 := eq_true p34; replace q34 := eq_true q34; obtain ⟨hy37_,hz37_⟩ := Kd.R_celln 0 HO231.out ((ji31) : Int) (of_decide_eq_true b8_1) (of_decide_eq_true b8_1); have HP37 := Kd.R_putg HO231.out ((ji31) : Int) (wrap64 ((rd y229 (ji31)) + 1))) | ((with_reducible refine gate_store (t := 2) (p := 33) rfl ?_); (try (rw [drewN_self w35]; generalize hq_ : World.drewN w35 _ = w35; have n0_ := Aside0.mk (Kd.R_at hq_ HO231.out); have n1_ := Aside0.mk (below_at hq_ HB.out); clear hq_ HO231 HB; have HO231 := n0_; have HB := n1_; clear n0_ n1_; (try (obtain ⟨hy37_,hz37_⟩ := Kd.R_celln 0 HO231.out ((ji31) : Int) (of_decide_eq_true b8_1) (of_decide_eq_true b8_1))); (try (have HP37 := Kd.R_putg HO231.out ((ji31) : Int) (wrap64 ((rd y229 (ji31)) + 1)))))); refine store_event (t := 2) (p := 33) (v := ?vo_w38) (w1 := (w35.setCell ⟨go34,((ji31) : Int).toNat,none⟩ (.int .i64 (wrap64 ((rd y229 (ji31)) + 1))))) ?hg ?ho ?hn ?hr ?_; (case ho => rfl); (case hg => rfl); (case hn => rfl); (case hr => first | (go_simp; done) | (go_simp; rfl)); intro w38 hw; have hg : w35.grownBy w38 (some go34) := (by rw [hw]; exact HP37.2); have hp_ : Kd.R (Kd.int .i64) 2 w38 w.heap.size (fun _ => True) (.slice (some ⟨go34,0,none⟩) y229.length co36) y233 := (by rw [hw,Ny233.out]; exact HP37.1); clear HP37; have n0_ := Aside0.mk (hp_); have n1_ := Aside0.mk ((by rw [hw]; exact below_set (HB.out) GB34.out : Below w.heap.size w w38)); clear HO231; clear HB; have HO231 := n0_; have HB := n1_; clear n0_ n1_; clear hg hw hp_)))
             go_roundg k1
             case measure => have := HK1.out; omega
             case rel => exact ⟨(y233),(wrap64 (x8_1 + 1)),b8_3,H',⟨by have := HK1.out; omega⟩,⟨by (with_reducible repeat (first | apply Kd.R_alloc | apply Kd.R_drewN | apply Kd.R_drew)); exact HO231.out⟩,⟨b8_0⟩⟩
            ·rw [if_neg c33] at H
             exact absurd H (by simp)
           ·rw [if_neg c32] at H
            exact absurd H (by simp)
          ·rw [if_neg c30] at H
           exact absurd H (by simp)
        ·rw [if_neg c20] at H
         exact absurd H (by simp)
       ·rw [if_neg c19] at H
        exact absurd H (by simp)
      ·rw [if_neg c16] at H
       exact absurd H (by simp)
     ·rw [if_neg c15] at H
      exact absurd H (by simp)
   ·rw [if_neg c4] at H
    have c4b0 : decide (x8_1 < (a0.size : Int)) = false := decide_eq_false c4
    clear c4
    obtain rfl := Option.some.inj H
    go_wp2
    repeat (go_quiet (fail); try go_wp2)
    go_ret
    exact ⟨_,b8_5,b8_2,b8_0⟩

/-! ### slices_Max_int64_int64: function 69 -/
def slices_Max_int64_int64.l0 : Nat → List Int → Int → Int → Option (Int)
 | 0,_,_,_ => none
 | k + 1,x0,x3,x4 => if x4 < (x0.length : Int) then (if 0 ≤ x4 then (slices_Max_int64_int64.l0 k x0 (mx x3 (rd x0 x4)) (wrap64 (x4 + 1))) else (none)) else (some x3)
def slices_Max_int64_int64.f (k : Nat) (l0 : List Int) : Option (Int) := if (l0.length : Int) < 1 then (none) else (if 0 < (l0.length : Int) then (slices_Max_int64_int64.l0 k l0 (rd l0 0) 1) else (none))
set_option maxHeartbeats 8000000 in
set_option maxRecDepth 100000 in
theorem slices_Max_int64_int64.calls (k : Nat) (A0 : Option Addr) (c0 : Nat) (l0 : List Int) (r : Int) (w : World) (hr0 : Kd.C (Kd.int .i64) w A0 l0.length l0) (hc0 : l0.length ≤ c0) (h : slices_Max_int64_int64.f k l0 = some r) :
  Calls Tryd.prog 69 #[.slice A0 l0.length c0] w fun e w' => e = .returned (.int .i64 r) ∧ Below w.heap.size w w' := by
 have HR0 := Aside0.mk hr0
 have HC0 := Aside0.mk hc0
 clear hr0 hc0
 have HB := Aside0.mk (Below.refl w.heap.size w)
 have H : (if (l0.length : Int) < 1 then (none) else (if 0 < (l0.length : Int) then (slices_Max_int64_int64.l0 k l0 (rd l0 0) 1) else (none))) = some r := h
 clear h
 by_cases c2 : (l0.length : Int) < 1
 ·rw [if_pos c2] at H
  exact absurd H (by simp)
 ·rw [if_neg c2] at H
  have c2b0 : decide ((l0.length : Int) < 1) = false := decide_eq_false c2
  have c2b1 : decide (l0.length < 1) = false := decide_eq_false (by omega)
  clear c2
  by_cases c3 : 0 < (l0.length : Int)
  ·rw [if_pos c3] at H
   have c3b0 : decide (0 < (l0.length : Int)) = true := decide_eq_true c3
   have c3b1 : decide (0 < l0.length) = true := decide_eq_true (by omega)
   clear c3
   have H' := Aside0.mk H
   clear H
   have p234 : 0 ≤ (0 : Int) := (by omega)
   have q234 : 0 < (l0.length : Int) := of_decide_eq_true b8_1
   obtain ⟨ad234,e234,hx234_0⟩ := Kd.at_int HR0.out 0 p234 q234
   cases e234
   have qi234 : (0 < l0.length) = True := eq_true (by omega)
   (try rw [show ((0 : Int)).toNat = 0 from rfl] at hx234_0)
   (try rw [Addr.add_zero'] at hx234_0)
   replace p234 := eq_true p234
   replace q234 := eq_true q234
   go_enter Tryd.func69,Tryd.ntmps69
   go_wp2
   go_loopg [3,4] k (fun kq v3 v4 w' => ∃ (x3_1 : Int) (x4_1 : Int),v3 = .int .i64 x3_1 ∧ v4 = .int .i64 x4_1 ∧ Aside0 (slices_Max_int64_int64.l0 kq l0 x3_1 x4_1 = some r) ∧ Aside0 (kq ≤ k) ∧ Aside0 (Below w.heap.size w w'))
   case atStart => exact ⟨(rd l0 0),(1),b8_3,b8_3,H',⟨Nat.le_refl _⟩,⟨b8_0⟩⟩
   case round =>
    clear H'
    (try clear c2);(try clear c2b0);(try clear c2b1);(try clear p2);(try clear q2);(try clear hx2);(try clear qi2);(try clear c3);(try clear c3b0);(try clear c3b1);(try clear hx234_0);(try clear p234);(try clear q234)
    obtain ⟨x3_1,x4_1,rfl,rfl,HA,HK1,HB⟩ := hrel
    cases gk with
    | zero => exact absurd HA.out (by simp [slices_Max_int64_int64.l0])
    | succ k1 =>
     have H := HA.out
     clear HA
     simp only [slices_Max_int64_int64.l0] at H
     by_cases c4 : x4_1 < (l0.length : Int)
     ·rw [if_pos c4] at H
      have c4b0 : decide (x4_1 < (l0.length : Int)) = true := decide_eq_true c4
      clear c4
      by_cases c5 : 0 ≤ x4_1
      ·rw [if_pos c5] at H
       have c5b0 : decide (0 ≤ x4_1) = true := decide_eq_true c5
       clear c5
       obtain ⟨ji6,hji6⟩ : ∃ j_ : Int,(mx x3_1 (rd l0 x4_1)) = j_ := ⟨_,rfl⟩
       replace H : (slices_Max_int64_int64.l0 k1 l0 ji6 (wrap64 (x4_1 + 1))) = some r := by first | (rw [hji6] at H; exact H) | (simp only [hji6] at H ⊢; exact H)
       have hji6_ : (if x3_1 < (rd l0 x4_1) then (rd l0 x4_1) else x3_1) = ji6 := hji6
       have H' := Aside0.mk H
       clear H
       have p235 : 0 ≤ (x4_1 : Int) := of_decide_eq_true b8_1
       have q235 : x4_1 < (l0.length : Int) := of_decide_eq_true b8_1
       obtain ⟨ad235,e235,hx235_0⟩ := Kd.at_int HR0.out x4_1 p235 q235
       obtain rfl : ad234 = ad235 := (by injection e235)
       replace hx235_0 := (HB.out.cell (World.block_lt_of_cell? w _ hx235_0)).trans hx235_0
       replace p235 := eq_true p235
       replace q235 := eq_true q235
       go_wp2
       go_roundg k1
       case measure => have := HK1.out; omega
       case rel => exact ⟨(ji6),(wrap64 (x4_1 + 1)),(by first | rfl | (simp; done) | (simp only [← hji6] <;> (first | rfl | simp)) | (simp [*]; done)),b8_3,H',⟨by have := HK1.out; omega⟩,⟨b8_0⟩⟩
      ·rw [if_neg c5] at H
       exact absurd H (by simp)
     ·rw [if_neg c4] at H
      have c4b0 : decide (x4_1 < (l0.length : Int)) = false := decide_eq_false c4
      clear c4
      obtain rfl := Option.some.inj H
      go_wp2
      go_ret
      exact ⟨b8_5,b8_0⟩
  ·rw [if_neg c3] at H
   exact absurd H (by simp)

end Go.Proofs.YtegeaoiclepkkaaDoor.QFnExactRunBound
