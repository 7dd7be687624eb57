/-
Each Go function that this text names answers as the Lean function beside it says,wherever that one answers; conditions: the arguments lie in memory as each theorem states it.
-/
import Derived.Test.YtegeaoiclepkkaaDoorQFnExactRunBoundx0
import Derived.Test.YtegeaoiclepkkaaDoorQFnExactRunBoundx2
namespace Go.Proofs.YtegeaoiclepkkaaDoor.QFnExactRunBound
open Go.RowKit Go.Proofs.YtegeaoiclepkkaaDoorW.PrintWords Go.Proofs.YtegeaoiclepkkaaDoorW.PrintLast Go.Proofs.YtegeaoiclepkkaaDoorW.PrintMore
attribute [local go_sem] max2_int min2_int max_two min_two max_three min_three max_four min_four   -- for this text's walks alone
set_option linter.unusedVariables false
set_option linter.unusedSimpArgs false
theorem b5_0 {P : Prop} (h : P := by first | (with_reducible assumption) | assumption) : P := h
theorem b5_1 {P : Prop} (h : P := by repeat (first | (with_reducible first | exact HB.out | apply below_alloc | apply pw_below_drewN | apply below_drew1) | exact HB.out)) : P := h
theorem b5_2 {P : Prop} (h : P := by repeat (first | (with_reducible first | exact HB.out | apply below_alloc | apply pw_below_drewN | apply below_drew1 | refine below_set ?_ GE0.out) | exact HB.out)) : P := h
theorem b5_3 {P : Prop} (h : P := by (try simp only [List.map_toArray,List.map_cons,List.map_nil]); first | done | rfl | (simp only [List.length_drop,List.length_take]; rfl)) : P := h
theorem b5_4 {P : Prop} (h : P := by (with_reducible repeat (first | refine blk_drewN ?_ _ | refine blk_drew ?_ | refine blk_alloc ?_ _)); exact BK0.out) : P := h
theorem b5_5 {P : Prop} (h : P := by first | rfl | (simp; done) | (simp [*]; done)) : P := h
theorem b5_6 {P : Prop} (h : P := by (with_reducible repeat (first | apply Kd.R_alloc | apply Kd.R_drewN | apply Kd.R_drew)); exact HO_3.out) : P := h
theorem b5_7 {P : Prop} (h : P := by first | rfl | (simp [errW_none,errW_some] <;> rfl) | (simp [*,errW_none,errW_some] <;> rfl)) : P := h
theorem b5_8 {P : Prop} (h : P := by repeat (first | exact Drawn0.refl _ | apply Drawn0.step)) : P := h

/-! ### spec_l03List: function 52 -/
/-!  One of the lists that came in,by the sign of a number. -/
def spec_l03List.f (a1 : Int) : Option Unit := some ()
def spec_l03List_neg.f (a0_0 : Int) (a0_1 : Int) (l0_2 : List ByteArray) (l0_3 : List ByteArray) (a1 : Int) : Option Unit := if a1 < 0 then some () else none
set_option maxHeartbeats 8000000 in
set_option maxRecDepth 100000 in
theorem spec_l03List_neg.calls (g0 : Nat) (a0_0 : Int) (a0_1 : Int) (A0_2 : Option Addr) (c0_2 : Nat) (l0_2 : List ByteArray) (A0_3 : Option Addr) (c0_3 : Nat) (l0_3 : List ByteArray) (a1 : Int) (w : World) (hb0_ : w.heap[g0]? = some (.cells #[.int .i64 a0_0,.int .i64 a0_1,.slice A0_2 l0_2.length c0_2,.slice A0_3 l0_3.length c0_3] 30 (0,0))) (hr0_2 : Kd.C Kd.string w A0_2 l0_2.length l0_2) (hc0_2 : l0_2.length ≤ c0_2) (hr0_3 : Kd.C Kd.string w A0_3 l0_3.length l0_3) (hc0_3 : l0_3.length ≤ c0_3) (h : spec_l03List_neg.f a0_0 a0_1 l0_2 l0_3 a1 = some ()) :
  Calls Tryd.prog 52 #[.pointer (some ⟨g0,0,none⟩),.int .i64 a1] w fun e w' => e = .returned (.slice A0_2 l0_2.length c0_2) ∧ Below w.heap.size w w' := by
 unfold spec_l03List_neg.f at h
 by_cases c : a1 < 0
 ·have cb : decide (a1 < 0) = true := decide_eq_true c
  clear h hr0_2 hc0_2 hr0_3 hc0_3
  have hu30 := Tryd.underlying30
  have hcz2 : w.cell? ⟨g0,2,none⟩ = some (.slice A0_2 l0_2.length c0_2) := (blk_cell hb0_ 2).trans rfl
  have hcz3 : w.cell? ⟨g0,3,none⟩ = some (.slice A0_3 l0_3.length c0_3) := (blk_cell hb0_ 3).trans rfl
  clear hb0_
  have HB := Aside0.mk (Below.refl w.heap.size w)
  go_enter Tryd.func52,Tryd.ntmps52
  go_wp2
  go_ret
  exact ⟨b5_5,b5_1⟩
 ·rw [if_neg c] at h; cases h
def spec_l03List_pos.f (a0_0 : Int) (a0_1 : Int) (l0_2 : List ByteArray) (l0_3 : List ByteArray) (a1 : Int) : Option Unit := if ¬ a1 < 0 then some () else none
set_option maxHeartbeats 8000000 in
set_option maxRecDepth 100000 in
theorem spec_l03List_pos.calls (g0 : Nat) (a0_0 : Int) (a0_1 : Int) (A0_2 : Option Addr) (c0_2 : Nat) (l0_2 : List ByteArray) (A0_3 : Option Addr) (c0_3 : Nat) (l0_3 : List ByteArray) (a1 : Int) (w : World) (hb0_ : w.heap[g0]? = some (.cells #[.int .i64 a0_0,.int .i64 a0_1,.slice A0_2 l0_2.length c0_2,.slice A0_3 l0_3.length c0_3] 30 (0,0))) (hr0_2 : Kd.C Kd.string w A0_2 l0_2.length l0_2) (hc0_2 : l0_2.length ≤ c0_2) (hr0_3 : Kd.C Kd.string w A0_3 l0_3.length l0_3) (hc0_3 : l0_3.length ≤ c0_3) (h : spec_l03List_pos.f a0_0 a0_1 l0_2 l0_3 a1 = some ()) :
  Calls Tryd.prog 52 #[.pointer (some ⟨g0,0,none⟩),.int .i64 a1] w fun e w' => e = .returned (.slice A0_3 l0_3.length c0_3) ∧ Below w.heap.size w w' := by
 unfold spec_l03List_pos.f at h
 by_cases c : a1 < 0
 ·rw [if_neg (fun q => q c)] at h; cases h
 ·have cb : decide (a1 < 0) = false := decide_eq_false c
  clear h hr0_2 hc0_2 hr0_3 hc0_3
  have hu30 := Tryd.underlying30
  have hcz2 : w.cell? ⟨g0,2,none⟩ = some (.slice A0_2 l0_2.length c0_2) := (blk_cell hb0_ 2).trans rfl
  have hcz3 : w.cell? ⟨g0,3,none⟩ = some (.slice A0_3 l0_3.length c0_3) := (blk_cell hb0_ 3).trans rfl
  clear hb0_
  have HB := Aside0.mk (Below.refl w.heap.size w)
  go_enter Tryd.func52,Tryd.ntmps52
  go_wp2
  go_ret
  exact ⟨b5_5,b5_1⟩

/-! ### spec_l00Max: function 54 -/
def spec_l00Max.f (a0 : Int) (a1 : Int) : Option (Int) := if a0 > a1 then (some a0) else (some a1)
set_option maxHeartbeats 8000000 in
set_option maxRecDepth 100000 in
theorem spec_l00Max.calls (a0 : Int) (a1 : Int) (r : Int) (w : World) (h : spec_l00Max.f a0 a1 = some r) :
  Calls Tryd.prog 54 #[.int .i64 a0,.int .i64 a1] w fun e w' => e = .returned (.int .i64 r) ∧ Drawn0 w w' := by
 have H : (if a0 > a1 then (some a0) else (some a1)) = some r := h
 clear h
 by_cases c3 : a0 > a1
 ·rw [if_pos c3] at H
  have c3b0 : decide (a1 < a0) = true := decide_eq_true c3
  clear c3
  obtain rfl := Option.some.inj H
  go_enter Tryd.func54,Tryd.ntmps54
  go_wp2
  go_ret
  exact ⟨b5_5,b5_8⟩
 ·rw [if_neg c3] at H
  have c3b0 : decide (a1 < a0) = false := decide_eq_false c3
  clear c3
  obtain rfl := Option.some.inj H
  go_enter Tryd.func54,Tryd.ntmps54
  go_wp2
  go_ret
  exact ⟨b5_5,b5_8⟩

/-! ### spec_l01Runs: function 65 -/
def spec_l01Runs.l0 : Nat → ByteArray → List Int → Int → Option (List Int)
 | 0,_,_,_ => none
 | k + 1,x0,x3,x4 => if x4 < (x0.size : Int) then (if x4 = 0 then (if x3.length < 17592186044416 then ((some (x3 ++ [0] : List Int)).bind fun y147 => (if 0 ≤ (wrap64 ((y147.length : Int) - 1)) then (if (wrap64 ((y147.length : Int) - 1)) < (y147.length : Int) then (spec_l01Runs.l0 k x0 (y147.set ((wrap64 ((y147.length : Int) - 1)) : Int).toNat (wrap64 ((rd y147 (wrap64 ((y147.length : Int) - 1))) + 1))) (wrap64 (x4 + 1))) else (none)) else (none))) else (none)) else (if 0 ≤ x4 then (if 0 ≤ (wrap64 (x4 - 1)) then (if (wrap64 (x4 - 1)) < (x0.size : Int) then (if (bt x0 x4) = (bt x0 (wrap64 (x4 - 1))) then (if 0 ≤ (wrap64 ((x3.length : Int) - 1)) then (if (wrap64 ((x3.length : Int) - 1)) < (x3.length : Int) then (spec_l01Runs.l0 k x0 (x3.set ((wrap64 ((x3.length : Int) - 1)) : Int).toNat (wrap64 ((rd x3 (wrap64 ((x3.length : Int) - 1))) + 1))) (wrap64 (x4 + 1))) else (none)) else (none)) else (if x3.length < 17592186044416 then ((some (x3 ++ [0] : List Int)).bind fun y154 => (if 0 ≤ (wrap64 ((y154.length : Int) - 1)) then (if (wrap64 ((y154.length : Int) - 1)) < (y154.length : Int) then (spec_l01Runs.l0 k x0 (y154.set ((wrap64 ((y154.length : Int) - 1)) : Int).toNat (wrap64 ((rd y154 (wrap64 ((y154.length : Int) - 1))) + 1))) (wrap64 (x4 + 1))) else (none)) else (none))) else (none))) else (none)) else (none)) else (none))) else (some x3)
def spec_l01Runs.f (k : Nat) (a0 : ByteArray) : Option (List Int) := spec_l01Runs.l0 k a0 (([] : List Int)) 0
set_option maxHeartbeats 8000000 in
set_option maxRecDepth 100000 in
theorem spec_l01Runs.calls (k : Nat) (a0 : ByteArray) (r : List Int) (w : World) (h : spec_l01Runs.f k a0 = some r) :
  Calls Tryd.prog 65 #[.string a0] w fun e w' => ∃ v0_ : Value,e = .returned (v0_) ∧ Kd.R (Kd.int .i64) 2 w' w.heap.size (fun _ => True) v0_ r ∧ Below w.heap.size w w' := by
 have HB := Aside0.mk (Below.refl w.heap.size w)
 have H : (spec_l01Runs.l0 k a0 (([] : List Int)) 0) = some r := h
 clear h
 obtain ⟨y144,hy144⟩ : ∃ y_ : List Int,y_ = (([] : List Int)) := ⟨_,rfl⟩
 replace H : (spec_l01Runs.l0 k a0 y144 0) = some r := by first | (rw [hy144]; with_reducible exact H) | (have H2_ := (Option.bind_some _ _).symm.trans H; rw [hy144]; with_reducible exact H2_) | (have H2_ := (Option.bind_some _ _).symm.trans H; with_reducible exact H2_) | with_reducible exact H | (rw [hy144]; exact H) | exact H
 have Ny144 := Aside0.mk hy144
 clear hy144
 have H' := Aside0.mk H
 clear H
 go_enter Tryd.func65,Tryd.ntmps65
 go_wp2_with (first | ((with_reducible refine gate_dst (N := 5) rfl ?_); refine Kd.R_lit (Kd.int .i64) _ 2 ?hg (N := 5) ?hd (xs := ([] : List Int)) (inner := []) (ok := fun _ => True) (okp := fun _ => True) ?hr ?hp (fun _ hk => hk) trivial (Below.refl _ _) (Nat.le_refl _) (by simp) ?_; (case hd => rfl); (case hg => rfl); (case hr => first | (go_simp; done) | (go_simp; rfl)); (case hp => exact (Reps.none _ _)); intro v145 w2 ho3 hb hg_ hnew_; clear hg_ hnew_; (first | rw [← Ny144.out] at ho3 | (simp only [Int.reduceToNat] at ho3; rw [← Ny144.out] at ho3)); have n0_ := Aside0.mk (Kd.R_lower ho3 (below_size b5_1)); have n1_ := Aside0.mk (below_step b5_1 hb); clear HB; have HO146 := n0_; have HB := n1_; clear n0_ n1_; clear hb ho3))
 repeat (go_quiet (first | ((with_reducible refine gate_dst (N := 5) rfl ?_); refine Kd.R_lit (Kd.int .i64) _ 2 ?hg (N := 5) ?hd (xs := ([] : List Int)) (inner := []) (ok := fun _ => True) (okp := fun _ => True) ?hr ?hp (fun _ hk => hk) trivial (Below.refl _ _) (Nat.le_refl _) (by simp) ?_; (case hd => rfl); (case hg => rfl); (case hr => first | (go_simp; done) | (go_simp; rfl)); (case hp => exact (Reps.none _ _)); intro v145 w2 ho3 hb hg_ hnew_; clear hg_ hnew_; (first | rw [← Ny144.out] at ho3 | (simp only [Int.reduceToNat] at ho3; rw [← Ny144.out] at ho3)); have n0_ := Aside0.mk (Kd.R_lower ho3 (below_size b5_1)); have n1_ := Aside0.mk (below_step b5_1 hb); clear HB; have HO146 := n0_; have HB := n1_; clear n0_ n1_; clear hb ho3)); try go_wp2_with (first | ((with_reducible refine gate_dst (N := 5) rfl ?_); refine Kd.R_lit (Kd.int .i64) _ 2 ?hg (N := 5) ?hd (xs := ([] : List Int)) (inner := []) (ok := fun _ => True) (okp := fun _ => True) ?hr ?hp (fun _ hk => hk) trivial (Below.refl _ _) (Nat.le_refl _) (by simp) ?_; (case hd => rfl); (case hg => rfl); (case hr => first | (go_simp; done) | (go_simp; rfl)); (case hp => exact (Reps.none _ _)); intro v145 w2 ho3 hb hg_ hnew_; clear hg_ hnew_; (first | rw [← Ny144.out] at ho3 | (simp only [Int.reduceToNat] at ho3; rw [← Ny144.out] at ho3)); have n0_ := Aside0.mk (Kd.R_lower ho3 (below_size b5_1)); have n1_ := Aside0.mk (below_step b5_1 hb); clear HB; have HO146 := n0_; have HB := n1_; clear n0_ n1_; clear hb ho3)))
 go_loopg [3,4] k (fun kq v3 v4 w' => ∃ (x3_1 : List Int) (x4_1 : Int),v4 = .int .i64 x4_1 ∧ Aside0 (spec_l01Runs.l0 kq a0 x3_1 x4_1 = some r) ∧ Aside0 (kq ≤ k) ∧ Aside0 (Kd.R (Kd.int .i64) 2 w' w.heap.size (fun _ => True) v3 x3_1) ∧ Aside0 (Below w.heap.size w w'))
 case atStart => exact ⟨(y144),(0),b5_5,H',⟨Nat.le_refl _⟩,⟨by (with_reducible repeat (first | apply Kd.R_alloc | apply Kd.R_drewN | apply Kd.R_drew)); exact HO146.out⟩,⟨b5_1⟩⟩
 case round =>
  clear H'
  (try clear p2)
  obtain ⟨x3_1,x4_1,rfl,HA,HK1,HO_3,HB⟩ := hrel
  cases gk with
  | zero => exact absurd HA.out (by simp [spec_l01Runs.l0])
  | succ k1 =>
   have H := HA.out
   clear HA
   simp only [spec_l01Runs.l0] at H
   by_cases c4 : x4_1 < (a0.size : Int)
   ·rw [if_pos c4] at H
    have c4b0 : decide (x4_1 < (a0.size : Int)) = true := decide_eq_true c4
    clear c4
    by_cases c5 : x4_1 = 0
    ·rw [if_pos c5] at H
     have c5b0 : (x4_1 == 0) = true := beq_iff_eq.mpr c5
     have c5b1 : (x4_1 != 0) = false := bne_eq_false_iff_eq.mpr c5
     clear c5
     by_cases c6 : x3_1.length < 17592186044416
     ·rw [if_pos c6] at H
      have LMc6 := Aside0.mk c6
      clear c6
      obtain ⟨y147,hy147⟩ : ∃ y_ : List Int,y_ = (x3_1 ++ [0]) := ⟨_,rfl⟩
      replace H : (if 0 ≤ (wrap64 ((y147.length : Int) - 1)) then (if (wrap64 ((y147.length : Int) - 1)) < (y147.length : Int) then (spec_l01Runs.l0 k1 a0 (y147.set ((wrap64 ((y147.length : Int) - 1)) : Int).toNat (wrap64 ((rd y147 (wrap64 ((y147.length : Int) - 1))) + 1))) (wrap64 (x4_1 + 1))) else (none)) else (none)) = some r := by first | (rw [hy147]; with_reducible exact H) | (have H2_ := (Option.bind_some _ _).symm.trans H; rw [hy147]; with_reducible exact H2_) | (have H2_ := (Option.bind_some _ _).symm.trans H; with_reducible exact H2_) | with_reducible exact H | (rw [hy147]; exact H) | exact H
      have Ny147 := Aside0.mk hy147
      clear hy147
      obtain ⟨ji7,hji7⟩ : ∃ j_ : Int,(wrap64 ((y147.length : Int) - 1)) = j_ := ⟨_,rfl⟩
      replace H : (if 0 ≤ (ji7) then (if (ji7) < (y147.length : Int) then (spec_l01Runs.l0 k1 a0 (y147.set ((ji7) : Int).toNat (wrap64 ((rd y147 (ji7)) + 1))) (wrap64 (x4_1 + 1))) else (none)) else (none)) = some r := by first | (rw [hji7] at H; exact H) | (simp only [hji7] at H ⊢; exact H)
      have hji7w : (IntKind.i64.wrap ((y147.length : Int) - 1)) = ji7 := (i64_w _).trans hji7
      by_cases c8 : 0 ≤ (ji7)
      ·rw [if_pos c8] at H
       have c8b0 : decide (0 ≤ (ji7)) = true := decide_eq_true c8
       clear c8
       by_cases c9 : (ji7) < (y147.length : Int)
       ·rw [if_pos c9] at H
        have c9b0 : decide ((ji7) < (y147.length : Int)) = true := decide_eq_true c9
        clear c9
        obtain ⟨y151,hy151⟩ : ∃ y_ : List Int,y_ = (y147.set ((ji7) : Int).toNat (wrap64 ((rd y147 (ji7)) + 1))) := ⟨_,rfl⟩
        replace H : (spec_l01Runs.l0 k1 a0 y151 (wrap64 (x4_1 + 1))) = some r := by first | (rw [hy151]; with_reducible exact H) | (have H2_ := (Option.bind_some _ _).symm.trans H; rw [hy151]; with_reducible exact H2_) | (have H2_ := (Option.bind_some _ _).symm.trans H; with_reducible exact H2_) | with_reducible exact H | (rw [hy151]; exact H) | exact H
        have Ny151 := Aside0.mk hy151
        clear hy151
        have H' := Aside0.mk H
        clear H
        go_wp2_with (first | ((with_reducible refine gate_builtin (b := .append) (xs := #[.tmp 24,.tmp 25]) rfl ?_); at_builtin; refine Kd.R_append (Kd.int .i64) (w0 := w) w.heap.size rfl (.tmp 24) (.tmp 25) 38 2 (.int .i64 0) 8 rfl Tryd.underlying38 info2 rfl (by decide) (by omega) u3 x3_1 0 [.int .i64 0] (fun _ => True) (fun _ => False) rfl rfl ?aP (fun _ hk => hk.elim) ?aF ?aO ?aB ?aS ?aL ?_; (case aP => exact rfl); (case aB => exact b5_1); (case aF => exact (fun _ _ => trivial)); (case aO => exact b5_6); (case aS => exact (below_size b5_1)); (case aL => have := LMc6.out; omega); intro v148 w11 ho hb hg hat; rw [← Ny147.out] at ho; have n0_ := Aside0.mk (hb); have n1_ := Aside0.mk (ho); clear HB; clear HO_3; have HB := n0_; have HO149 := n1_; clear n0_ n1_; clear ho hb hg hat; obtain ⟨Ao12,co12,eo12⟩ := Kd.R_slice HO149.out; subst eo12; have p150 : 0 ≤ ((ji7) : Int) := of_decide_eq_true b5_0; have q150 : (ji7) < (y147.length : Int) := of_decide_eq_true b5_0; obtain ⟨ad150,e150,hx150_0⟩ := Kd.at_int (Kd.R_reads' HO149.out).2.2 (ji7) p150 q150; cases e150; replace p150 := eq_true p150; replace q150 := eq_true q150; have p10 : 0 ≤ ((ji7) : Int) := of_decide_eq_true b5_0; have q10 : ((ji7) : Int) < ((y147.length : Int) : Int) := of_decide_eq_true b5_0; obtain ⟨go10,co10,eo10,gb10,gl10,cl10,HG10⟩ := Kd.R_form HO149.out (by omega); (first | cases eo10 | (injection eo10 with ea_ en_ ec_; (first | subst ea_ | (injection ea_ with ea_; subst ea_)); subst ec_; clear en_)); have GB10 := Aside0.mk gb10; have GG10 := Aside0.mk HG10; clear gb10 gl10 HG10; (first | simp only [add_plain] at hx150_0 | skip); obtain ⟨hx10_0,hf10_0⟩ := Kd.R_celln 0 HO149.out ((ji7) : Int) p10 q10; replace p10 := eq_true p10; replace q10 := eq_true q10; obtain ⟨hy13_,hz13_⟩ := Kd.R_celln 0 HO149.out ((ji7) : Int) (of_decide_eq_true b5_0) (of_decide_eq_true b5_0); have HP13 := Kd.R_putg HO149.out ((ji7) : Int) (wrap64 ((rd y147 (ji7)) + 1))) | ((with_reducible refine gate_store (t := 2) (p := 34) rfl ?_); (try (rw [drewN_self w11]; generalize hq_ : World.drewN w11 _ = w11; have n0_ := Aside0.mk (Kd.R_at hq_ HO149.out); have n1_ := Aside0.mk (below_at hq_ HB.out); clear hq_ HO149 HB; have HO149 := n0_; have HB := n1_; clear n0_ n1_; (try (obtain ⟨hy13_,hz13_⟩ := Kd.R_celln 0 HO149.out ((ji7) : Int) (of_decide_eq_true b5_0) (of_decide_eq_true b5_0))); (try (have HP13 := Kd.R_putg HO149.out ((ji7) : Int) (wrap64 ((rd y147 (ji7)) + 1)))))); refine store_event (t := 2) (p := 34) (v := ?vo_w14) (w1 := (w11.setCell ⟨go10,((ji7) : Int).toNat,none⟩ (.int .i64 (wrap64 ((rd y147 (ji7)) + 1))))) ?hg ?ho ?hn ?hr ?_; (case ho => rfl); (case hg => rfl); (case hn => rfl); (case hr => first | (go_simp; done) | (go_simp; rfl)); intro w14 hw; have hg : w11.grownBy w14 (some go10) := (by rw [hw]; exact HP13.2); have hp_ : Kd.R (Kd.int .i64) 2 w14 w.heap.size (fun _ => True) (.slice (some ⟨go10,0,none⟩) y147.length co12) y151 := (by rw [hw,Ny151.out]; exact HP13.1); clear HP13; have n0_ := Aside0.mk (hp_); have n1_ := Aside0.mk ((by rw [hw]; exact below_set (HB.out) GB10.out : Below w.heap.size w w14)); clear HO149; clear HB; have HO149 := n0_; have HB := n1_; clear n0_ n1_; clear hg hw hp_))
        repeat (go_quiet (first | ((with_reducible refine gate_builtin (b := .append) (xs := #[.tmp 24,.tmp 25]) rfl ?_); at_builtin; refine Kd.R_append (Kd.int .i64) (w0 := w) w.heap.size rfl (.tmp 24) (.tmp 25) 38 2 (.int .i64 0) 8 rfl Tryd.underlying38 info2 rfl (by decide) (by omega) u3 x3_1 0 [.int .i64 0] (fun _ => True) (fun _ => False) rfl rfl ?aP (fun _ hk => hk.elim) ?aF ?aO ?aB ?aS ?aL ?_; (case aP => exact rfl); (case aB => exact b5_1); (case aF => exact (fun _ _ => trivial)); (case aO => exact b5_6); (case aS => exact (below_size b5_1)); (case aL => have := LMc6.out; omega); intro v148 w11 ho hb hg hat; rw [← Ny147.out] at ho; have n0_ := Aside0.mk (hb); have n1_ := Aside0.mk (ho); clear HB; clear HO_3; have HB := n0_; have HO149 := n1_; clear n0_ n1_; clear ho hb hg hat; obtain ⟨Ao12,co12,eo12⟩ := Kd.R_slice HO149.out; subst eo12; have p150 : 0 ≤ ((ji7) : Int) := of_decide_eq_true b5_0; have q150 : (ji7) < (y147.length : Int) := of_decide_eq_true b5_0; obtain ⟨ad150,e150,hx150_0⟩ := Kd.at_int (Kd.R_reads' HO149.out).2.2 (ji7) p150 q150; cases e150; replace p150 := eq_true p150; replace q150 := eq_true q150; have p10 : 0 ≤ ((ji7) : Int) := of_decide_eq_true b5_0; have q10 : ((ji7) : Int) < ((y147.length : Int) : Int) := of_decide_eq_true b5_0; obtain ⟨go10,co10,eo10,gb10,gl10,cl10,HG10⟩ := Kd.R_form HO149.out (by omega); (first | cases eo10 | (injection eo10 with ea_ en_ ec_; (first | subst ea_ | (injection ea_ with ea_; subst ea_)); subst ec_; clear en_)); have GB10 := Aside0.mk gb10; have GG10 := Aside0.mk HG10; clear gb10 gl10 HG10; (first | simp only [add_plain] at hx150_0 | skip); obtain ⟨hx10_0,hf10_0⟩ := Kd.R_celln 0 HO149.out ((ji7) : Int) p10 q10; replace p10 := eq_true p10; replace q10 := eq_true q10; obtain ⟨hy13_,hz13_⟩ := Kd.R_celln 0 HO149.out ((ji7) : Int) (of_decide_eq_true b5_0) (of_decide_eq_true b5_0); have HP13 := Kd.R_putg HO149.out ((ji7) : Int) (wrap64 ((rd y147 (ji7)) + 1))) | ((with_reducible refine gate_store (t := 2) (p := 34) rfl ?_); (try (rw [drewN_self w11]; generalize hq_ : World.drewN w11 _ = w11; have n0_ := Aside0.mk (Kd.R_at hq_ HO149.out); have n1_ := Aside0.mk (below_at hq_ HB.out); clear hq_ HO149 HB; have HO149 := n0_; have HB := n1_; clear n0_ n1_; (try (obtain ⟨hy13_,hz13_⟩ := Kd.R_celln 0 HO149.out ((ji7) : Int) (of_decide_eq_true b5_0) (of_decide_eq_true b5_0))); (try (have HP13 := Kd.R_putg HO149.out ((ji7) : Int) (wrap64 ((rd y147 (ji7)) + 1)))))); refine store_event (t := 2) (p := 34) (v := ?vo_w14) (w1 := (w11.setCell ⟨go10,((ji7) : Int).toNat,none⟩ (.int .i64 (wrap64 ((rd y147 (ji7)) + 1))))) ?hg ?ho ?hn ?hr ?_; (case ho => rfl); (case hg => rfl); (case hn => rfl); (case hr => first | (go_simp; done) | (go_simp; rfl)); intro w14 hw; have hg : w11.grownBy w14 (some go10) := (by rw [hw]; exact HP13.2); have hp_ : Kd.R (Kd.int .i64) 2 w14 w.heap.size (fun _ => True) (.slice (some ⟨go10,0,none⟩) y147.length co12) y151 := (by rw [hw,Ny151.out]; exact HP13.1); clear HP13; have n0_ := Aside0.mk (hp_); have n1_ := Aside0.mk ((by rw [hw]; exact below_set (HB.out) GB10.out : Below w.heap.size w w14)); clear HO149; clear HB; have HO149 := n0_; have HB := n1_; clear n0_ n1_; clear hg hw hp_)); try go_wp2_with (first | ((with_reducible refine gate_builtin (b := .append) (xs := #[.tmp 24,.tmp 25]) rfl ?_); at_builtin; refine Kd.R_append (Kd.int .i64) (w0 := w) w.heap.size rfl (.tmp 24) (.tmp 25) 38 2 (.int .i64 0) 8 rfl Tryd.underlying38 info2 rfl (by decide) (by omega) u3 x3_1 0 [.int .i64 0] (fun _ => True) (fun _ => False) rfl rfl ?aP (fun _ hk => hk.elim) ?aF ?aO ?aB ?aS ?aL ?_; (case aP => exact rfl); (case aB => exact b5_1); (case aF => exact (fun _ _ => trivial)); (case aO => exact b5_6); (case aS => exact (below_size b5_1)); (case aL => have := LMc6.out; omega); intro v148 w11 ho hb hg hat; rw [← Ny147.out] at ho; have n0_ := Aside0.mk (hb); have n1_ := Aside0.mk (ho); clear HB; clear HO_3; have HB := n0_; have HO149 := n1_; clear n0_ n1_; clear ho hb hg hat; obtain ⟨Ao12,co12,eo12⟩ := Kd.R_slice HO149.out; subst eo12; have p150 : 0 ≤ ((ji7) : Int) := of_decide_eq_true b5_0; have q150 : (ji7) < (y147.length : Int) := of_decide_eq_true b5_0; obtain ⟨ad150,e150,hx150_0⟩ := Kd.at_int (Kd.R_reads' HO149.out).2.2 (ji7) p150 q150; cases e150; replace p150 := eq_true p150; replace q150 := eq_true q150; have p10 : 0 ≤ ((ji7) : Int) := of_decide_eq_true b5_0; have q10 : ((ji7) : Int) < ((y147.length : Int) : Int) := of_decide_eq_true b5_0; obtain ⟨go10,co10,eo10,gb10,gl10,cl10,HG10⟩ := Kd.R_form HO149.out (by omega); (first | cases eo10 | (injection eo10 with ea_ en_ ec_; (first | subst ea_ | (injection ea_ with ea_; subst ea_)); subst ec_; clear en_)); have GB10 := Aside0.mk gb10; have GG10 := Aside0.mk HG10; clear gb10 gl10 HG10; (first | simp only [add_plain] at hx150_0 | skip); obtain ⟨hx10_0,hf10_0⟩ := Kd.R_celln 0 HO149.out ((ji7) : Int) p10 q10; replace p10 := eq_true p10; replace q10 := eq_true q10; obtain ⟨hy13_,hz13_⟩ := Kd.R_celln 0 HO149.out ((ji7) : Int) (of_decide_eq_true b5_0) (of_decide_eq_true b5_0); have HP13 := Kd.R_putg HO149.out ((ji7) : Int) (wrap64 ((rd y147 (ji7)) + 1))) | ((with_reducible refine gate_store (t := 2) (p := 34) rfl ?_); (try (rw [drewN_self w11]; generalize hq_ : World.drewN w11 _ = w11; have n0_ := Aside0.mk (Kd.R_at hq_ HO149.out); have n1_ := Aside0.mk (below_at hq_ HB.out); clear hq_ HO149 HB; have HO149 := n0_; have HB := n1_; clear n0_ n1_; (try (obtain ⟨hy13_,hz13_⟩ := Kd.R_celln 0 HO149.out ((ji7) : Int) (of_decide_eq_true b5_0) (of_decide_eq_true b5_0))); (try (have HP13 := Kd.R_putg HO149.out ((ji7) : Int) (wrap64 ((rd y147 (ji7)) + 1)))))); refine store_event (t := 2) (p := 34) (v := ?vo_w14) (w1 := (w11.setCell ⟨go10,((ji7) : Int).toNat,none⟩ (.int .i64 (wrap64 ((rd y147 (ji7)) + 1))))) ?hg ?ho ?hn ?hr ?_; (case ho => rfl); (case hg => rfl); (case hn => rfl); (case hr => first | (go_simp; done) | (go_simp; rfl)); intro w14 hw; have hg : w11.grownBy w14 (some go10) := (by rw [hw]; exact HP13.2); have hp_ : Kd.R (Kd.int .i64) 2 w14 w.heap.size (fun _ => True) (.slice (some ⟨go10,0,none⟩) y147.length co12) y151 := (by rw [hw,Ny151.out]; exact HP13.1); clear HP13; have n0_ := Aside0.mk (hp_); have n1_ := Aside0.mk ((by rw [hw]; exact below_set (HB.out) GB10.out : Below w.heap.size w w14)); clear HO149; clear HB; have HO149 := n0_; have HB := n1_; clear n0_ n1_; clear hg hw hp_)))
        go_roundg k1
        case measure => have := HK1.out; omega
        case rel => exact ⟨(y151),(wrap64 (x4_1 + 1)),b5_5,H',⟨by have := HK1.out; omega⟩,⟨by (with_reducible repeat (first | apply Kd.R_alloc | apply Kd.R_drewN | apply Kd.R_drew)); exact HO149.out⟩,⟨b5_1⟩⟩
       ·rw [if_neg c9] at H
        exact absurd H (by simp)
      ·rw [if_neg c8] at H
       exact absurd H (by simp)
     ·rw [if_neg c6] at H
      exact absurd H (by simp)
    ·rw [if_neg c5] at H
     have c5b0 : (x4_1 == 0) = false := beq_eq_false_iff_ne.mpr c5
     have c5b1 : (x4_1 != 0) = true := bne_iff_ne.mpr c5
     by_cases c15 : 0 ≤ x4_1
     ·rw [if_pos c15] at H
      have c15b0 : decide (0 ≤ x4_1) = true := decide_eq_true c15
      clear c15
      obtain ⟨ji17,hji17⟩ : ∃ j_ : Int,(wrap64 (x4_1 - 1)) = j_ := ⟨_,rfl⟩
      replace H : (if 0 ≤ (ji17) then (if (ji17) < (a0.size : Int) then (if (bt a0 x4_1) = (bt a0 (ji17)) then (if 0 ≤ (wrap64 ((x3_1.length : Int) - 1)) then (if (wrap64 ((x3_1.length : Int) - 1)) < (x3_1.length : Int) then (spec_l01Runs.l0 k1 a0 (x3_1.set ((wrap64 ((x3_1.length : Int) - 1)) : Int).toNat (wrap64 ((rd x3_1 (wrap64 ((x3_1.length : Int) - 1))) + 1))) (wrap64 (x4_1 + 1))) else (none)) else (none)) else (if x3_1.length < 17592186044416 then ((some (x3_1 ++ [0] : List Int)).bind fun y154 => (if 0 ≤ (wrap64 ((y154.length : Int) - 1)) then (if (wrap64 ((y154.length : Int) - 1)) < (y154.length : Int) then (spec_l01Runs.l0 k1 a0 (y154.set ((wrap64 ((y154.length : Int) - 1)) : Int).toNat (wrap64 ((rd y154 (wrap64 ((y154.length : Int) - 1))) + 1))) (wrap64 (x4_1 + 1))) else (none)) else (none))) else (none))) else (none)) else (none)) = some r := by first | (rw [hji17] at H; exact H) | (simp only [hji17] at H ⊢; exact H)
      have hji17w : (IntKind.i64.wrap (x4_1 - 1)) = ji17 := (i64_w _).trans hji17
      by_cases c18 : 0 ≤ (ji17)
      ·rw [if_pos c18] at H
       have c18b0 : decide (0 ≤ (ji17)) = true := decide_eq_true c18
       clear c18
       by_cases c19 : (ji17) < (a0.size : Int)
       ·rw [if_pos c19] at H
        have c19b0 : decide ((ji17) < (a0.size : Int)) = true := decide_eq_true c19
        clear c19
        by_cases c21 : (bt a0 x4_1) = (bt a0 (ji17))
        ·rw [if_pos c21] at H
         have c21b0 : ((bt a0 x4_1) == (bt a0 (ji17))) = true := beq_iff_eq.mpr c21
         have c21b1 : ((bt a0 x4_1) != (bt a0 (ji17))) = false := bne_eq_false_iff_eq.mpr c21
         clear c21
         obtain ⟨ji22,hji22⟩ : ∃ j_ : Int,(wrap64 ((x3_1.length : Int) - 1)) = j_ := ⟨_,rfl⟩
         replace H : (if 0 ≤ (ji22) then (if (ji22) < (x3_1.length : Int) then (spec_l01Runs.l0 k1 a0 (x3_1.set ((ji22) : Int).toNat (wrap64 ((rd x3_1 (ji22)) + 1))) (wrap64 (x4_1 + 1))) else (none)) else (none)) = some r := by first | (rw [hji22] at H; exact H) | (simp only [hji22] at H ⊢; exact H)
         have hji22w : (IntKind.i64.wrap ((x3_1.length : Int) - 1)) = ji22 := (i64_w _).trans hji22
         by_cases c23 : 0 ≤ (ji22)
         ·rw [if_pos c23] at H
          have c23b0 : decide (0 ≤ (ji22)) = true := decide_eq_true c23
          clear c23
          by_cases c24 : (ji22) < (x3_1.length : Int)
          ·rw [if_pos c24] at H
           have c24b0 : decide ((ji22) < (x3_1.length : Int)) = true := decide_eq_true c24
           clear c24
           obtain ⟨y153,hy153⟩ : ∃ y_ : List Int,y_ = (x3_1.set ((ji22) : Int).toNat (wrap64 ((rd x3_1 (ji22)) + 1))) := ⟨_,rfl⟩
           replace H : (spec_l01Runs.l0 k1 a0 y153 (wrap64 (x4_1 + 1))) = some r := by first | (rw [hy153]; with_reducible exact H) | (have H2_ := (Option.bind_some _ _).symm.trans H; rw [hy153]; with_reducible exact H2_) | (have H2_ := (Option.bind_some _ _).symm.trans H; with_reducible exact H2_) | with_reducible exact H | (rw [hy153]; exact H) | exact H
           have Ny153 := Aside0.mk hy153
           clear hy153
           have H' := Aside0.mk H
           clear H
           have p16 : 0 ≤ (x4_1 : Int) := of_decide_eq_true b5_0
           have q16 : x4_1 < (a0.size : Int) := of_decide_eq_true b5_0
           have hx16 := bt_at a0 x4_1
           replace p16 := eq_true p16
           replace q16 := eq_true q16
           have p20 : 0 ≤ ((ji17) : Int) := of_decide_eq_true b5_0
           have q20 : (ji17) < (a0.size : Int) := of_decide_eq_true b5_0
           have hx20 := bt_at a0 (ji17)
           replace p20 := eq_true p20
           replace q20 := eq_true q20
           obtain ⟨Ao26,co26,eo26⟩ := Kd.R_slice HO_3.out
           subst eo26
           have p152 : 0 ≤ ((ji22) : Int) := of_decide_eq_true b5_0
           have q152 : (ji22) < (x3_1.length : Int) := of_decide_eq_true b5_0
           obtain ⟨ad152,e152,hx152_0⟩ := Kd.at_int (Kd.R_reads' HO_3.out).2.2 (ji22) p152 q152
           cases e152
           replace p152 := eq_true p152
           replace q152 := eq_true q152
           have p25 : 0 ≤ ((ji22) : Int) := of_decide_eq_true b5_0
           have q25 : ((ji22) : Int) < ((x3_1.length : Int) : Int) := of_decide_eq_true b5_0
           obtain ⟨go25,co25,eo25,gb25,gl25,cl25,HG25⟩ := Kd.R_form HO_3.out (by omega)
           (first | cases eo25 | (injection eo25 with ea_ en_ ec_; (first | subst ea_ | (injection ea_ with ea_; subst ea_)); subst ec_; clear en_))
           have GB25 := Aside0.mk gb25
           have GG25 := Aside0.mk HG25
           clear gb25 gl25 HG25
           (first | simp only [add_plain] at hx152_0 | skip)
           obtain ⟨hx25_0,hf25_0⟩ := Kd.R_celln 0 HO_3.out ((ji22) : Int) p25 q25
           replace p25 := eq_true p25
           replace q25 := eq_true q25
           have HP27 := Kd.R_putg HO_3.out ((ji22) : Int) (wrap64 ((rd x3_1 (ji22)) + 1))
           go_wp2_with (first | ((with_reducible refine gate_store (t := 2) (p := 34) rfl ?_); (try (rw [drewN_self wr]; generalize hq_ : World.drewN wr _ = wr; have n0_ := Aside0.mk (Kd.R_at hq_ HO_3.out); have n1_ := Aside0.mk (below_at hq_ HB.out); clear hq_ HO_3 HB; have HO_3 := n0_; have HB := n1_; clear n0_ n1_; (try (have HP27 := Kd.R_putg HO_3.out ((ji22) : Int) (wrap64 ((rd x3_1 (ji22)) + 1)))))); refine store_event (t := 2) (p := 34) (v := ?vo_w28) (w1 := (wr.setCell ⟨go25,((ji22) : Int).toNat,none⟩ (.int .i64 (wrap64 ((rd x3_1 (ji22)) + 1))))) ?hg ?ho ?hn ?hr ?_; (case ho => rfl); (case hg => rfl); (case hn => rfl); (case hr => first | (go_simp; done) | (go_simp; rfl)); intro w28 hw; have hg : wr.grownBy w28 (some go25) := (by rw [hw]; exact HP27.2); have hp_ : Kd.R (Kd.int .i64) 2 w28 w.heap.size (fun _ => True) (.slice (some ⟨go25,0,none⟩) x3_1.length co26) y153 := (by rw [hw,Ny153.out]; exact HP27.1); clear HP27; have n0_ := Aside0.mk (hp_); have n1_ := Aside0.mk ((by rw [hw]; exact below_set (HB.out) GB25.out : Below w.heap.size w w28)); clear HO_3; clear HB; have HO_3 := n0_; have HB := n1_; clear n0_ n1_; clear hg hw hp_))
           repeat (go_quiet (first | ((with_reducible refine gate_store (t := 2) (p := 34) rfl ?_); (try (rw [drewN_self wr]; generalize hq_ : World.drewN wr _ = wr; have n0_ := Aside0.mk (Kd.R_at hq_ HO_3.out); have n1_ := Aside0.mk (below_at hq_ HB.out); clear hq_ HO_3 HB; have HO_3 := n0_; have HB := n1_; clear n0_ n1_; (try (have HP27 := Kd.R_putg HO_3.out ((ji22) : Int) (wrap64 ((rd x3_1 (ji22)) + 1)))))); refine store_event (t := 2) (p := 34) (v := ?vo_w28) (w1 := (wr.setCell ⟨go25,((ji22) : Int).toNat,none⟩ (.int .i64 (wrap64 ((rd x3_1 (ji22)) + 1))))) ?hg ?ho ?hn ?hr ?_; (case ho => rfl); (case hg => rfl); (case hn => rfl); (case hr => first | (go_simp; done) | (go_simp; rfl)); intro w28 hw; have hg : wr.grownBy w28 (some go25) := (by rw [hw]; exact HP27.2); have hp_ : Kd.R (Kd.int .i64) 2 w28 w.heap.size (fun _ => True) (.slice (some ⟨go25,0,none⟩) x3_1.length co26) y153 := (by rw [hw,Ny153.out]; exact HP27.1); clear HP27; have n0_ := Aside0.mk (hp_); have n1_ := Aside0.mk ((by rw [hw]; exact below_set (HB.out) GB25.out : Below w.heap.size w w28)); clear HO_3; clear HB; have HO_3 := n0_; have HB := n1_; clear n0_ n1_; clear hg hw hp_)); try go_wp2_with (first | ((with_reducible refine gate_store (t := 2) (p := 34) rfl ?_); (try (rw [drewN_self wr]; generalize hq_ : World.drewN wr _ = wr; have n0_ := Aside0.mk (Kd.R_at hq_ HO_3.out); have n1_ := Aside0.mk (below_at hq_ HB.out); clear hq_ HO_3 HB; have HO_3 := n0_; have HB := n1_; clear n0_ n1_; (try (have HP27 := Kd.R_putg HO_3.out ((ji22) : Int) (wrap64 ((rd x3_1 (ji22)) + 1)))))); refine store_event (t := 2) (p := 34) (v := ?vo_w28) (w1 := (wr.setCell ⟨go25,((ji22) : Int).toNat,none⟩ (.int .i64 (wrap64 ((rd x3_1 (ji22)) + 1))))) ?hg ?ho ?hn ?hr ?_; (case ho => rfl); (case hg => rfl); (case hn => rfl); (case hr => first | (go_simp; done) | (go_simp; rfl)); intro w28 hw; have hg : wr.grownBy w28 (some go25) := (by rw [hw]; exact HP27.2); have hp_ : Kd.R (Kd.int .i64) 2 w28 w.heap.size (fun _ => True) (.slice (some ⟨go25,0,none⟩) x3_1.length co26) y153 := (by rw [hw,Ny153.out]; exact HP27.1); clear HP27; have n0_ := Aside0.mk (hp_); have n1_ := Aside0.mk ((by rw [hw]; exact below_set (HB.out) GB25.out : Below w.heap.size w w28)); clear HO_3; clear HB; have HO_3 := n0_; have HB := n1_; clear n0_ n1_; clear hg hw hp_)))
           go_roundg k1
           case measure => have := HK1.out; omega
           case rel => exact ⟨(y153),(wrap64 (x4_1 + 1)),b5_5,H',⟨by have := HK1.out; omega⟩,⟨by first | ((with_reducible repeat (first | apply Kd.R_alloc | apply Kd.R_drewN | apply Kd.R_drew)); exact HO_3.out) | (rw [Ny153.out]; exact (Kd.R_putg (Kd.R_drewN HO_3.out _) _ _).1)⟩,⟨by first | exact below_set (pw_below_drewN HB.out _) GB25.out | repeat (first | (with_reducible first | exact HB.out | apply below_alloc | apply pw_below_drewN | apply below_drew1) | exact HB.out)⟩⟩
          ·rw [if_neg c24] at H
           exact absurd H (by simp)
         ·rw [if_neg c23] at H
          exact absurd H (by simp)
        ·rw [if_neg c21] at H
         have c21b0 : ((bt a0 x4_1) == (bt a0 (ji17))) = false := beq_eq_false_iff_ne.mpr c21
         have c21b1 : ((bt a0 x4_1) != (bt a0 (ji17))) = true := bne_iff_ne.mpr c21
         by_cases c29 : x3_1.length < 17592186044416
         ·rw [if_pos c29] at H
          have LMc29 := Aside0.mk c29
          clear c29
          obtain ⟨y154,hy154⟩ : ∃ y_ : List Int,y_ = (x3_1 ++ [0]) := ⟨_,rfl⟩
          replace H : (if 0 ≤ (wrap64 ((y154.length : Int) - 1)) then (if (wrap64 ((y154.length : Int) - 1)) < (y154.length : Int) then (spec_l01Runs.l0 k1 a0 (y154.set ((wrap64 ((y154.length : Int) - 1)) : Int).toNat (wrap64 ((rd y154 (wrap64 ((y154.length : Int) - 1))) + 1))) (wrap64 (x4_1 + 1))) else (none)) else (none)) = some r := by first | (rw [hy154]; with_reducible exact H) | (have H2_ := (Option.bind_some _ _).symm.trans H; rw [hy154]; with_reducible exact H2_) | (have H2_ := (Option.bind_some _ _).symm.trans H; with_reducible exact H2_) | with_reducible exact H | (rw [hy154]; exact H) | exact H
          have Ny154 := Aside0.mk hy154
          clear hy154
          obtain ⟨ji30,hji30⟩ : ∃ j_ : Int,(wrap64 ((y154.length : Int) - 1)) = j_ := ⟨_,rfl⟩
          replace H : (if 0 ≤ (ji30) then (if (ji30) < (y154.length : Int) then (spec_l01Runs.l0 k1 a0 (y154.set ((ji30) : Int).toNat (wrap64 ((rd y154 (ji30)) + 1))) (wrap64 (x4_1 + 1))) else (none)) else (none)) = some r := by first | (rw [hji30] at H; exact H) | (simp only [hji30] at H ⊢; exact H)
          have hji30w : (IntKind.i64.wrap ((y154.length : Int) - 1)) = ji30 := (i64_w _).trans hji30
          by_cases c31 : 0 ≤ (ji30)
          ·rw [if_pos c31] at H
           have c31b0 : decide (0 ≤ (ji30)) = true := decide_eq_true c31
           clear c31
           by_cases c32 : (ji30) < (y154.length : Int)
           ·rw [if_pos c32] at H
            have c32b0 : decide ((ji30) < (y154.length : Int)) = true := decide_eq_true c32
            clear c32
            obtain ⟨y158,hy158⟩ : ∃ y_ : List Int,y_ = (y154.set ((ji30) : Int).toNat (wrap64 ((rd y154 (ji30)) + 1))) := ⟨_,rfl⟩
            replace H : (spec_l01Runs.l0 k1 a0 y158 (wrap64 (x4_1 + 1))) = some r := by first | (rw [hy158]; with_reducible exact H) | (have H2_ := (Option.bind_some _ _).symm.trans H; rw [hy158]; with_reducible exact H2_) | (have H2_ := (Option.bind_some _ _).symm.trans H; with_reducible exact H2_) | with_reducible exact H | (rw [hy158]; exact H) | exact H
            have Ny158 := Aside0.mk hy158
            clear hy158
            have H' := Aside0.mk H
            clear H
            have p16 : 0 ≤ (x4_1 : Int) := of_decide_eq_true b5_0
            have q16 : x4_1 < (a0.size : Int) := of_decide_eq_true b5_0
            have hx16 := bt_at a0 x4_1
            replace p16 := eq_true p16
            replace q16 := eq_true q16
            have p20 : 0 ≤ ((ji17) : Int) := of_decide_eq_true b5_0
            have q20 : (ji17) < (a0.size : Int) := of_decide_eq_true b5_0
            have hx20 := bt_at a0 (ji17)
            replace p20 := eq_true p20
            replace q20 := eq_true q20
            go_wp2_with (first | ((with_reducible refine gate_builtin (b := .append) (xs := #[.tmp 24,.tmp 25]) rfl ?_); at_builtin; refine Kd.R_append (Kd.int .i64) (w0 := w) w.heap.size rfl (.tmp 24) (.tmp 25) 38 2 (.int .i64 0) 8 rfl Tryd.underlying38 info2 rfl (by decide) (by omega) u3 x3_1 0 [.int .i64 0] (fun _ => True) (fun _ => False) rfl rfl ?aP (fun _ hk => hk.elim) ?aF ?aO ?aB ?aS ?aL ?_; (case aP => exact rfl); (case aB => exact b5_1); (case aF => exact (fun _ _ => trivial)); (case aO => exact b5_6); (case aS => exact (below_size b5_1)); (case aL => have := LMc29.out; omega); intro v155 w34 ho hb hg hat; rw [← Ny154.out] at ho; have n0_ := Aside0.mk (hb); have n1_ := Aside0.mk (ho); clear HB; clear HO_3; have HB := n0_; have HO156 := n1_; clear n0_ n1_; clear ho hb hg hat; obtain ⟨Ao35,co35,eo35⟩ := Kd.R_slice HO156.out; subst eo35; have p157 : 0 ≤ ((ji30) : Int) := of_decide_eq_true b5_0; have q157 : (ji30) < (y154.length : Int) := of_decide_eq_true b5_0; obtain ⟨ad157,e157,hx157_0⟩ := Kd.at_int (Kd.R_reads' HO156.out).2.2 (ji30) p157 q157; cases e157; replace p157 := eq_true p157; replace q157 := eq_true q157; have p33 : 0 ≤ ((ji30) : Int) := of_decide_eq_true b5_0; have q33 : ((ji30) : Int) < ((y154.length : Int) : Int) := of_decide_eq_true b5_0; obtain ⟨go33,co33,eo33,gb33,gl33,cl33,HG33⟩ := Kd.R_form HO156.out (by omega); (first | cases eo33 | (injection eo33 with ea_ en_ ec_; (first | subst ea_ | (injection ea_ with ea_; subst ea_)); subst ec_; clear en_)); have GB33 := Aside0.mk gb33; have GG33 := Aside0.mk HG33; clear gb33 gl33 HG33; (first | simp only [add_plain] at hx157_0 | skip); obtain ⟨hx33_0,hf33_0⟩ := Kd.R_celln 0 HO156.out ((ji30) : Int) p33 q33; replace p33 := eq_true p33; replace q33 := eq_true q33; obtain ⟨hy36_,hz36_⟩ := Kd.R_celln 0 HO156.out ((ji30) : Int) (of_decide_eq_true b5_0) (of_decide_eq_true b5_0); have HP36 := Kd.R_putg HO156.out ((ji30) : Int) (wrap64 ((rd y154 (ji30)) + 1))) | ((with_reducible refine gate_store (t := 2) (p := 34) rfl ?_); (try (rw [drewN_self w34]; generalize hq_ : World.drewN w34 _ = w34; have n0_ := Aside0.mk (Kd.R_at hq_ HO156.out); have n1_ := Aside0.mk (below_at hq_ HB.out); clear hq_ HO156 HB; have HO156 := n0_; have HB := n1_; clear n0_ n1_; (try (obtain ⟨hy36_,hz36_⟩ := Kd.R_celln 0 HO156.out ((ji30) : Int) (of_decide_eq_true b5_0) (of_decide_eq_true b5_0))); (try (have HP36 := Kd.R_putg HO156.out ((ji30) : Int) (wrap64 ((rd y154 (ji30)) + 1)))))); refine store_event (t := 2) (p := 34) (v := ?vo_w37) (w1 := (w34.setCell ⟨go33,((ji30) : Int).toNat,none⟩ (.int .i64 (wrap64 ((rd y154 (ji30)) + 1))))) ?hg ?ho ?hn ?hr ?_; (case ho => rfl); (case hg => rfl); (case hn => rfl); (case hr => first | (go_simp; done) | (go_simp; rfl)); intro w37 hw; have hg : w34.grownBy w37 (some go33) := (by rw [hw]; exact HP36.2); have hp_ : Kd.R (Kd.int .i64) 2 w37 w.heap.size (fun _ => True) (.slice (some ⟨go33,0,none⟩) y154.length co35) y158 := (by rw [hw,Ny158.out]; exact HP36.1); clear HP36; have n0_ := Aside0.mk (hp_); have n1_ := Aside0.mk ((by rw [hw]; exact below_set (HB.out) GB33.out : Below w.heap.size w w37)); clear HO156; clear HB; have HO156 := n0_; have HB := n1_; clear n0_ n1_; clear hg hw hp_))
            repeat (go_quiet (first | ((with_reducible refine gate_builtin (b := .append) (xs := #[.tmp 24,.tmp 25]) rfl ?_); at_builtin; refine Kd.R_append (Kd.int .i64) (w0 := w) w.heap.size rfl (.tmp 24) (.tmp 25) 38 2 (.int .i64 0) 8 rfl Tryd.underlying38 info2 rfl (by decide) (by omega) u3 x3_1 0 [.int .i64 0] (fun _ => True) (fun _ => False) rfl rfl ?aP (fun _ hk => hk.elim) ?aF ?aO ?aB ?aS ?aL ?_; (case aP => exact rfl); (case aB => exact b5_1); (case aF => exact (fun _ _ => trivial)); (case aO => exact b5_6); (case aS => exact (below_size b5_1)); (case aL => have := LMc29.out; omega); intro v155 w34 ho hb hg hat; rw [← Ny154.out] at ho; have n0_ := Aside0.mk (hb); have n1_ := Aside0.mk (ho); clear HB; clear HO_3; have HB := n0_; have HO156 := n1_; clear n0_ n1_; clear ho hb hg hat; obtain ⟨Ao35,co35,eo35⟩ := Kd.R_slice HO156.out; subst eo35; have p157 : 0 ≤ ((ji30) : Int) := of_decide_eq_true b5_0; have q157 : (ji30) < (y154.length : Int) := of_decide_eq_true b5_0; obtain ⟨ad157,e157,hx157_0⟩ := Kd.at_int (Kd.R_reads' HO156.out).2.2 (ji30) p157 q157; cases e157; replace p157 := eq_true p157; replace q157 := eq_true q157; have p33 : 0 ≤ ((ji30) : Int) := of_decide_eq_true b5_0; have q33 : ((ji30) : Int) < ((y154.length : Int) : Int) := of_decide_eq_true b5_0; obtain ⟨go33,co33,eo33,gb33,gl33,cl33,HG33⟩ := Kd.R_form HO156.out (by omega); (first | cases eo33 | (injection eo33 with ea_ en_ ec_; (first | subst ea_ | (injection ea_ with ea_; subst ea_)); subst ec_; clear en_)); have GB33 := Aside0.mk gb33; have GG33 := Aside0.mk HG33; clear gb33 gl33 HG33; (first | simp only [add_plain] at hx157_0 | skip); obtain ⟨hx33_0,hf33_0⟩ := Kd.R_celln 0 HO156.out ((ji30) : Int) p33 q33; replace p33 := eq_true p33; replace q33 := eq_true q33; obtain ⟨hy36_,hz36_⟩ := Kd.R_celln 0 HO156.out ((ji30) : Int) (of_decide_eq_true b5_0) (of_decide_eq_true b5_0); have HP36 := Kd.R_putg HO156.out ((ji30) : Int) (wrap64 ((rd y154 (ji30)) + 1))) | ((with_reducible refine gate_store (t := 2) (p := 34) rfl ?_); (try (rw [drewN_self w34]; generalize hq_ : World.drewN w34 _ = w34; have n0_ := Aside0.mk (Kd.R_at hq_ HO156.out); have n1_ := Aside0.mk (below_at hq_ HB.out); clear hq_ HO156 HB; have HO156 := n0_; have HB := n1_; clear n0_ n1_; (try (obtain ⟨hy36_,hz36_⟩ := Kd.R_celln 0 HO156.out ((ji30) : Int) (of_decide_eq_true b5_0) (of_decide_eq_true b5_0))); (try (have HP36 := Kd.R_putg HO156.out ((ji30) : Int) (wrap64 ((rd y154 (ji30)) + 1)))))); refine store_event (t := 2) (p := 34) (v := ?vo_w37) (w1 := (w34.setCell ⟨go33,((ji30) : Int).toNat,none⟩ (.int .i64 (wrap64 ((rd y154 (ji30)) + 1))))) ?hg ?ho ?hn ?hr ?_; (case ho => rfl); (case hg => rfl); (case hn => rfl); (case hr => first | (go_simp; done) | (go_simp; rfl)); intro w37 hw; have hg : w34.grownBy w37 (some go33) := (by rw [hw]; exact HP36.2); have hp_ : Kd.R (Kd.int .i64) 2 w37 w.heap.size (fun _ => True) (.slice (some ⟨go33,0,none⟩) y154.length co35) y158 := (by rw [hw,Ny158.out]; exact HP36.1); clear HP36; have n0_ := Aside0.mk (hp_); have n1_ := Aside0.mk ((by rw [hw]; exact below_set (HB.out) GB33.out : Below w.heap.size w w37)); clear HO156; clear HB; have HO156 := n0_; have HB := n1_; clear n0_ n1_; clear hg hw hp_)); try go_wp2_with (first | ((with_reducible refine gate_builtin (b := .append) (xs := #[.tmp 24,.tmp 25]) rfl ?_); at_builtin; refine Kd.R_append (Kd.int .i64) (w0 := w) w.heap.size rfl (.tmp 24) (.tmp 25) 38 2 (.int .i64 0) 8 rfl Tryd.underlying38 info2 rfl (by decide) (by omega) u3 x3_1 0 [.int .i64 0] (fun _ => True) (fun _ => False) rfl rfl ?aP (fun _ hk => hk.elim) ?aF ?aO ?aB ?aS ?aL ?_; (case aP => exact rfl); (case aB => exact b5_1); (case aF => exact (fun _ _ => trivial)); (case aO => exact b5_6); (case aS => exact (below_size b5_1)); (case aL => have := LMc29.out; omega); intro v155 w34 ho hb hg hat; rw [← Ny154.out] at ho; have n0_ := Aside0.mk (hb); have n1_ := Aside0.mk (ho); clear HB; clear HO_3; have HB := n0_; have HO156 := n1_; clear n0_ n1_; clear ho hb hg hat; obtain ⟨Ao35,co35,eo35⟩ := Kd.R_slice HO156.out; subst eo35; have p157 : 0 ≤ ((ji30) : Int) := of_decide_eq_true b5_0; have q157 : (ji30) < (y154.length : Int) := of_decide_eq_true b5_0; obtain ⟨ad157,e157,hx157_0⟩ := Kd.at_int (Kd.R_reads' HO156.out).2.2 (ji30) p157 q157; cases e157; replace p157 := eq_true p157; replace q157 := eq_true q157; have p33 : 0 ≤ ((ji30) : Int) := of_decide_eq_true b5_0; have q33 : ((ji30) : Int) < ((y154.length : Int) : Int) := of_decide_eq_true b5_0; obtain ⟨go33,co33,eo33,gb33,gl33,cl33,HG33⟩ := Kd.R_form HO156.out (by omega); (first | cases eo33 | (injection eo33 with ea_ en_ ec_; (first | subst ea_ | (injection ea_ with ea_; subst ea_)); subst ec_; clear en_)); have GB33 := Aside0.mk gb33; have GG33 := Aside0.mk HG33; clear gb33 gl33 HG33; (first | simp only [add_plain] at hx157_0 | skip); obtain ⟨hx33_0,hf33_0⟩ := Kd.R_celln 0 HO156.out ((ji30) : Int) p33 q33; replace p33 := eq_true p33; replace q33 := eq_true q33; obtain ⟨hy36_,hz36_⟩ := Kd.R_celln 0 HO156.out ((ji30) : Int) (of_decide_eq_true b5_0) (of_decide_eq_true b5_0); have HP36 := Kd.R_putg HO156.out ((ji30) : Int) (wrap64 ((rd y154 (ji30)) + 1))) | ((with_reducible refine gate_store (t := 2) (p := 34) rfl ?_); (try (rw [drewN_self w34]; generalize hq_ : World.drewN w34 _ = w34; have n0_ := Aside0.mk (Kd.R_at hq_ HO156.out); have n1_ := Aside0.mk (below_at hq_ HB.out); clear hq_ HO156 HB; have HO156 := n0_; have HB := n1_; clear n0_ n1_; (try (obtain ⟨hy36_,hz36_⟩ := Kd.R_celln 0 HO156.out ((ji30) : Int) (of_decide_eq_true b5_0) (of_decide_eq_true b5_0))); (try (have HP36 := Kd.R_putg HO156.out ((ji30) : Int) (wrap64 ((rd y154 (ji30)) + 1)))))); refine store_event (t := 2) (p := 34) (v := ?vo_w37) (w1 := (w34.setCell ⟨go33,((ji30) : Int).toNat,none⟩ (.int .i64 (wrap64 ((rd y154 (ji30)) + 1))))) ?hg ?ho ?hn ?hr ?_; (case ho => rfl); (case hg => rfl); (case hn => rfl); (case hr => first | (go_simp; done) | (go_simp; rfl)); intro w37 hw; have hg : w34.grownBy w37 (some go33) := (by rw [hw]; exact HP36.2); have hp_ : Kd.R (Kd.int .i64) 2 w37 w.heap.size (fun _ => True) (.slice (some ⟨go33,0,none⟩) y154.length co35) y158 := (by rw [hw,Ny158.out]; exact HP36.1); clear HP36; have n0_ := Aside0.mk (hp_); have n1_ := Aside0.mk ((by rw [hw]; exact below_set (HB.out) GB33.out : Below w.heap.size w w37)); clear HO156; clear HB; have HO156 := n0_; have HB := n1_; clear n0_ n1_; clear hg hw hp_)))
            go_roundg k1
            case measure => have := HK1.out; omega
            case rel => exact ⟨(y158),(wrap64 (x4_1 + 1)),b5_5,H',⟨by have := HK1.out; omega⟩,⟨by (with_reducible repeat (first | apply Kd.R_alloc | apply Kd.R_drewN | apply Kd.R_drew)); exact HO156.out⟩,⟨b5_1⟩⟩
           ·rw [if_neg c32] at H
            exact absurd H (by simp)
          ·rw [if_neg c31] at H
           exact absurd H (by simp)
         ·rw [if_neg c29] at H
          exact absurd H (by simp)
       ·rw [if_neg c19] at H
        exact absurd H (by simp)
      ·rw [if_neg c18] at H
       exact absurd H (by simp)
     ·rw [if_neg c15] at H
      exact absurd H (by simp)
   ·rw [if_neg c4] at H
    have c4b0 : decide (x4_1 < (a0.size : Int)) = false := decide_eq_false c4
    clear c4
    obtain rfl := Option.some.inj H
    go_wp2
    repeat (go_quiet (fail); try go_wp2)
    go_ret
    exact ⟨_,b5_7,b5_6,b5_1⟩

/-! ### spec_l03Next: function 67 -/
def spec_l03Next.f (k : Nat) (a0 : Int) (a1 : ByteArray) : Option (Int) := (spec_l03Disparity.f k a1).bind fun t159 => (if t159 > 0 then (some 1) else (if t159 < 0 then (some (-1)) else (some a0)))
set_option maxHeartbeats 8000000 in
set_option maxRecDepth 100000 in
theorem spec_l03Next.calls (k : Nat) (a0 : Int) (a1 : ByteArray) (r : Int) (w : World) (h : spec_l03Next.f k a0 a1 = some r) :
  Calls Tryd.prog 67 #[.int .i64 a0,.string a1] w fun e w' => e = .returned (.int .i64 r) ∧ Drawn0 w w' := by
 have H : ((spec_l03Disparity.f k a1).bind fun t159 => (if t159 > 0 then (some 1) else (if t159 < 0 then (some (-1)) else (some a0)))) = some r := h
 clear h
 replace H := Option.bind_eq_some_iff.mp H
 obtain ⟨t159,A30,H⟩ := H
 replace H : (if t159 > 0 then (some 1) else (if t159 < 0 then (some (-1)) else (some a0))) = some r := H
 have A3 := Aside0.mk A30
 clear A30
 by_cases c4 : t159 > 0
 ·rw [if_pos c4] at H
  have c4b0 : decide (0 < t159) = true := decide_eq_true c4
  clear c4
  obtain rfl := Option.some.inj H
  go_enter Tryd.func67,Tryd.ntmps67
  go_wp2_with (first | ((with_reducible refine gate_callee (f := 42) rfl ?_); refine goesL_ (some 7) rfl rfl Tryd.func42 (by kernel_rfl) rfl #[.string a1] rfl b5_3 ?_; (with_reducible refine (spec_l03Disparity.calls k a1 t159 _ A3.out).mono ?_); rintro e w' ⟨rfl,⟨nd,rfl⟩⟩; refine ⟨_,rfl,?_⟩))
  go_ret
  exact ⟨b5_5,b5_8⟩
 ·rw [if_neg c4] at H
  have c4b0 : decide (0 < t159) = false := decide_eq_false c4
  clear c4
  by_cases c5 : t159 < 0
  ·rw [if_pos c5] at H
   have c5b0 : decide (t159 < 0) = true := decide_eq_true c5
   clear c5
   obtain rfl := Option.some.inj H
   go_enter Tryd.func67,Tryd.ntmps67
   go_wp2_with (first | ((with_reducible refine gate_callee (f := 42) rfl ?_); refine goesL_ (some 7) rfl rfl Tryd.func42 (by kernel_rfl) rfl #[.string a1] rfl b5_3 ?_; (with_reducible refine (spec_l03Disparity.calls k a1 t159 _ A3.out).mono ?_); rintro e w' ⟨rfl,⟨nd,rfl⟩⟩; refine ⟨_,rfl,?_⟩))
   go_ret
   exact ⟨b5_5,b5_8⟩
  ·rw [if_neg c5] at H
   have c5b0 : decide (t159 < 0) = false := decide_eq_false c5
   clear c5
   obtain rfl := Option.some.inj H
   go_enter Tryd.func67,Tryd.ntmps67
   go_wp2_with (first | ((with_reducible refine gate_callee (f := 42) rfl ?_); refine goesL_ (some 7) rfl rfl Tryd.func42 (by kernel_rfl) rfl #[.string a1] rfl b5_3 ?_; (with_reducible refine (spec_l03Disparity.calls k a1 t159 _ A3.out).mono ?_); rintro e w' ⟨rfl,⟨nd,rfl⟩⟩; refine ⟨_,rfl,?_⟩))
   go_ret
   exact ⟨b5_5,b5_8⟩

/-! ### spec_l03Front: function 84 -/
def spec_l03Front.f (k : Nat) (a0 : ByteArray) : Option (Int) := (spec_l01Runs.f k a0).bind fun t160 => (if 0 < (t160.length : Int) then (some (rd t160 0)) else (none))
set_option maxHeartbeats 8000000 in
set_option maxRecDepth 100000 in
theorem spec_l03Front.calls (k : Nat) (a0 : ByteArray) (r : Int) (w : World) (h : spec_l03Front.f k a0 = some r) :
  Calls Tryd.prog 84 #[.string a0] w fun e w' => e = .returned (.int .i64 r) ∧ Below w.heap.size w w' := by
 have HB := Aside0.mk (Below.refl w.heap.size w)
 have H : ((spec_l01Runs.f k a0).bind fun t160 => (if 0 < (t160.length : Int) then (some (rd t160 0)) else (none))) = some r := h
 clear h
 replace H := Option.bind_eq_some_iff.mp H
 obtain ⟨t160,A20,H⟩ := H
 replace H : (if 0 < (t160.length : Int) then (some (rd t160 0)) else (none)) = some r := H
 have A2 := Aside0.mk A20
 clear A20
 by_cases c3 : 0 < (t160.length : Int)
 ·rw [if_pos c3] at H
  have c3b0 : decide (0 < (t160.length : Int)) = true := decide_eq_true c3
  have c3b1 : decide (0 < t160.length) = true := decide_eq_true (by omega)
  clear c3
  obtain rfl := Option.some.inj H
  go_enter Tryd.func84,Tryd.ntmps84
  go_wp2_with (first | ((with_reducible refine gate_callee (f := 65) rfl ?_); refine goesL_ (some 4) rfl rfl Tryd.func65 (by kernel_rfl) rfl #[.string a0] rfl b5_3 ?_; (with_reducible refine (spec_l01Runs.calls k a0 t160 _ A2.out).mono ?_); rintro e w4 ⟨v161,rfl,ho0,hb⟩; refine ⟨_,rfl,?_⟩; have n0_ := Aside0.mk (Kd.R_lower ho0 (below_size b5_1)); have n1_ := Aside0.mk (below_step b5_1 hb); clear HB; have HO162 := n0_; have HB := n1_; clear n0_ n1_; (try clear hb); (try clear hb2); (try clear hk); (try clear hi); (try clear ho0); obtain ⟨Ao5,co5,eo5⟩ := Kd.R_slice HO162.out; subst eo5; have p163 : 0 ≤ (0 : Int) := (by omega); have q163 : 0 < (t160.length : Int) := of_decide_eq_true b5_0; obtain ⟨ad163,e163,hx163_0⟩ := Kd.at_int (Kd.R_reads' HO162.out).2.2 0 p163 q163; cases e163; have qi163 : (0 < t160.length) = True := eq_true (by omega); (try rw [show ((0 : Int)).toNat = 0 from rfl] at hx163_0); (try rw [Addr.add_zero'] at hx163_0); replace p163 := eq_true p163; replace q163 := eq_true q163))
  go_ret
  exact ⟨b5_7,b5_1⟩
 ·rw [if_neg c3] at H
  exact absurd H (by simp)

/-! ### spec_l03Longest: function 66 -/
mutual
def spec_l03Longest.l0 : Nat → Int → Int → Int → Int → List ByteArray → Int → Int → Int → List ByteArray → List ByteArray → Option (Int)
 | 0,_,_,_,_,_,_,_,_,_,_ => none
 | k + 1,x1,x2,x3,x9,x10,x11,x1000,x1001,x1002,x1003 => if x11 < (x10.length : Int) then (if 0 ≤ x11 then (if 0 < ((rdOf ByteArray.empty x10 x11).size : Int) then (if (bt (rdOf ByteArray.empty x10 x11) 0) = x2 then ((spec_l03Front.f k (rdOf ByteArray.empty x10 x11)).bind fun t166 => (if t166 = x1001 then ((spec_l03Next.f k x1 (rdOf ByteArray.empty x10 x11)).bind fun t168 => ((spec_l03Longest.f k x1000 x1001 x1002 x1003 t168 x2 (wrap64 (x3 + t166))).bind fun t169 => ((spec_l00Max.f x9 t169).bind fun t170 => (spec_l03Longest.l0 k x1 x2 x3 t170 x10 (wrap64 (x11 + 1)) x1000 x1001 x1002 x1003)))) else ((spec_l00Max.f x9 (wrap64 (x3 + t166))).bind fun t171 => (spec_l03Longest.l0 k x1 x2 x3 t171 x10 (wrap64 (x11 + 1)) x1000 x1001 x1002 x1003)))) else (spec_l03Longest.l0 k x1 x2 x3 x9 x10 (wrap64 (x11 + 1)) x1000 x1001 x1002 x1003)) else (none)) else (none)) else (some x9)
def spec_l03Longest.l100 : Nat → Int → Int → Int → Int → List ByteArray → Int → Int → Int → List ByteArray → List ByteArray → Option (Int)
 | 0,_,_,_,_,_,_,_,_,_,_ => none
 | k + 1,x1,x2,x3,x9,x10,x11,x1000,x1001,x1002,x1003 => if x11 < (x10.length : Int) then (if 0 ≤ x11 then (if 0 < ((rdOf ByteArray.empty x10 x11).size : Int) then (if (bt (rdOf ByteArray.empty x10 x11) 0) = x2 then ((spec_l03Front.f k (rdOf ByteArray.empty x10 x11)).bind fun t174 => (if t174 = x1001 then ((spec_l03Next.f k x1 (rdOf ByteArray.empty x10 x11)).bind fun t176 => ((spec_l03Longest.f k x1000 x1001 x1002 x1003 t176 x2 (wrap64 (x3 + t174))).bind fun t177 => ((spec_l00Max.f x9 t177).bind fun t178 => (spec_l03Longest.l100 k x1 x2 x3 t178 x10 (wrap64 (x11 + 1)) x1000 x1001 x1002 x1003)))) else ((spec_l00Max.f x9 (wrap64 (x3 + t174))).bind fun t179 => (spec_l03Longest.l100 k x1 x2 x3 t179 x10 (wrap64 (x11 + 1)) x1000 x1001 x1002 x1003)))) else (spec_l03Longest.l100 k x1 x2 x3 x9 x10 (wrap64 (x11 + 1)) x1000 x1001 x1002 x1003)) else (none)) else (none)) else (some x9)
def spec_l03Longest.f : Nat → Int → Int → List ByteArray → List ByteArray → Int → Int → Int → Option (Int)
 | 0,_,_,_,_,_,_,_ => none
 | k + 1,a0_0,a0_1,l0_2,l0_3,a1,a2,a3 => if a1 < 0 then ((spec_l03List_neg.f a0_0 a0_1 l0_2 l0_3 a1).bind fun _ => (spec_l03Longest.l0 k a1 a2 a3 a3 l0_2 0 a0_0 a0_1 l0_2 l0_3)) else ((spec_l03List_pos.f a0_0 a0_1 l0_2 l0_3 a1).bind fun _ => (spec_l03Longest.l100 k a1 a2 a3 a3 l0_3 0 a0_0 a0_1 l0_2 l0_3))
end
set_option maxHeartbeats 8000000 in
set_option maxRecDepth 100000 in
theorem spec_l03Longest.calls (k : Nat) : ∀ (g0 : Nat) (a0_0 : Int) (a0_1 : Int) (A0_2 : Option Addr) (c0_2 : Nat) (l0_2 : List ByteArray) (A0_3 : Option Addr) (c0_3 : Nat) (l0_3 : List ByteArray) (a1 : Int) (a2 : Int) (a3 : Int) (r : Int) (w : World) (hb0_ : w.heap[g0]? = some (.cells #[.int .i64 a0_0,.int .i64 a0_1,.slice A0_2 l0_2.length c0_2,.slice A0_3 l0_3.length c0_3] 30 (0,0))) (hr0_2 : Kd.C Kd.string w A0_2 l0_2.length l0_2) (hc0_2 : l0_2.length ≤ c0_2) (hr0_3 : Kd.C Kd.string w A0_3 l0_3.length l0_3) (hc0_3 : l0_3.length ≤ c0_3) (h : spec_l03Longest.f k a0_0 a0_1 l0_2 l0_3 a1 a2 a3 = some r),
  Calls Tryd.prog 66 #[.pointer (some ⟨g0,0,none⟩),.int .i64 a1,.int .u8 a2,.int .i64 a3] w fun e w' => e = .returned (.int .i64 r) ∧ Below w.heap.size w w' := by
 induction k using Nat.strongRecOn with
 | _ k ih =>
 intro g0 a0_0 a0_1 A0_2 c0_2 l0_2 A0_3 c0_3 l0_3 a1 a2 a3 r w hb0_ hr0_2 hc0_2 hr0_3 hc0_3 h
 cases k with
 | zero => exact absurd h (by simp [spec_l03Longest.f])
 | succ k =>
 simp only [spec_l03Longest.f] at h
 have HR0_2 := Aside0.mk hr0_2
 have HC0_2 := Aside0.mk hc0_2
 clear hr0_2 hc0_2
 have HR0_3 := Aside0.mk hr0_3
 have HC0_3 := Aside0.mk hc0_3
 clear hr0_3 hc0_3
 have BK0 := Aside0.mk hb0_
 clear hb0_
 have HB := Aside0.mk (Below.refl w.heap.size w)
 have H : (if a1 < 0 then ((spec_l03List_neg.f a0_0 a0_1 l0_2 l0_3 a1).bind fun _ => (spec_l03Longest.l0 k a1 a2 a3 a3 l0_2 0 a0_0 a0_1 l0_2 l0_3)) else ((spec_l03List_pos.f a0_0 a0_1 l0_2 l0_3 a1).bind fun _ => (spec_l03Longest.l100 k a1 a2 a3 a3 l0_3 0 a0_0 a0_1 l0_2 l0_3))) = some r := h
 clear h
 by_cases c5 : a1 < 0
 ·rw [if_pos c5] at H
  have c5b0 : decide (a1 < 0) = true := decide_eq_true c5
  clear c5
  replace H := Option.bind_eq_some_iff.mp H
  obtain ⟨_,A60,H⟩ := H
  replace H : (spec_l03Longest.l0 k a1 a2 a3 a3 l0_2 0 a0_0 a0_1 l0_2 l0_3) = some r := H
  have A6 := Aside0.mk A60
  clear A60
  have H' := Aside0.mk H
  clear H
  go_enter Tryd.func66,Tryd.ntmps66
  go_wp2_with (first | ((with_reducible refine gate_callee (f := 52) rfl ?_); refine goesL_ (some 16) rfl rfl Tryd.func52 (by kernel_rfl) rfl #[.pointer (some ⟨g0,0,none⟩),.int .i64 a1] rfl b5_3 ?_; (with_reducible refine (spec_l03List_neg.calls g0 a0_0 a0_1 A0_2 c0_2 l0_2 A0_3 c0_3 l0_3 a1  _ ?side1 ?side2 ?side3 ?side4 ?side5 A6.out).mono ?_); (case side1 => exact by (with_reducible repeat (first | refine blk_drewN ?_ _ | refine blk_drew ?_ | refine blk_alloc ?_ _)); exact BK0.out); (case side2 => repeat (first | exact HR0_2.out | (with_reducible refine Kd.C_alloc ?_ _) | (with_reducible refine Kd.C_drewN ?_ _) | (with_reducible refine Kd.C_drew ?_))); (case side3 => exact HC0_2.out); (case side4 => repeat (first | exact HR0_3.out | (with_reducible refine Kd.C_alloc ?_ _) | (with_reducible refine Kd.C_drewN ?_ _) | (with_reducible refine Kd.C_drew ?_))); (case side5 => exact HC0_3.out); rintro e w7 ⟨rfl,hb⟩; refine ⟨_,rfl,?_⟩; have n0_ := Aside0.mk (blk_below (g := g0) (o := .cells #[.int .i64 a0_0,.int .i64 a0_1,.slice A0_2 l0_2.length c0_2,.slice A0_3 l0_3.length c0_3] 30 (0,0)) b5_4 hb); have n1_ := Aside0.mk (below_step b5_2 hb); clear BK0; clear HB; have BK0 := n0_; have HB := n1_; clear n0_ n1_; (try clear hb); (try clear hb2); (try clear hk); (try clear hi)))
  go_loopg [9,11] k (fun kq v9 v11 w' => ∃ (x9_1 : Int) (x11_1 : Int),v9 = .int .i64 x9_1 ∧ v11 = .int .i64 x11_1 ∧ Aside0 (spec_l03Longest.l0 kq a1 a2 a3 x9_1 l0_2 x11_1 a0_0 a0_1 l0_2 l0_3 = some r) ∧ Aside0 (kq ≤ k) ∧ Aside0 (w'.heap[g0]? = some (.cells #[.int .i64 a0_0,.int .i64 a0_1,(.slice A0_2 l0_2.length c0_2),(.slice A0_3 l0_3.length c0_3)] 30 (0,0))) ∧ Aside0 (Below w.heap.size w w'))
  case atStart => exact ⟨(a3),(0),b5_5,b5_5,H',⟨Nat.le_refl _⟩,⟨b5_4⟩,⟨b5_2⟩⟩
  case round =>
   clear H'
   (try clear p2);(try clear c5);(try clear c5b0);(try clear c6)
   obtain ⟨x9_1,x11_1,rfl,rfl,HA,HK1,BK0,HB⟩ := hrel
   cases gk with
   | zero => exact absurd HA.out (by simp [spec_l03Longest.l0])
   | succ k1 =>
    have H := HA.out
    clear HA
    simp only [spec_l03Longest.l0] at H
    by_cases c8 : x11_1 < (l0_2.length : Int)
    ·rw [if_pos c8] at H
     have c8b0 : decide (x11_1 < (l0_2.length : Int)) = true := decide_eq_true c8
     clear c8
     by_cases c9 : 0 ≤ x11_1
     ·rw [if_pos c9] at H
      have c9b0 : decide (0 ≤ x11_1) = true := decide_eq_true c9
      clear c9
      by_cases c10 : 0 < ((rdOf ByteArray.empty l0_2 x11_1).size : Int)
      ·rw [if_pos c10] at H
       have c10b0 : decide (0 < ((rdOf ByteArray.empty l0_2 x11_1).size : Int)) = true := decide_eq_true c10
       have c10b1 : decide (0 < (rdOf ByteArray.empty l0_2 x11_1).size) = true := decide_eq_true (by omega)
       clear c10
       by_cases c12 : (bt (rdOf ByteArray.empty l0_2 x11_1) 0) = a2
       ·rw [if_pos c12] at H
        have c12b0 : ((bt (rdOf ByteArray.empty l0_2 x11_1) 0) == a2) = true := beq_iff_eq.mpr c12
        have c12b1 : ((bt (rdOf ByteArray.empty l0_2 x11_1) 0) != a2) = false := bne_eq_false_iff_eq.mpr c12
        clear c12
        replace H := Option.bind_eq_some_iff.mp H
        obtain ⟨t166,A130,H⟩ := H
        replace H : (if t166 = a0_1 then ((spec_l03Next.f k1 a1 (rdOf ByteArray.empty l0_2 x11_1)).bind fun t168 => ((spec_l03Longest.f k1 a0_0 a0_1 l0_2 l0_3 t168 a2 (wrap64 (a3 + t166))).bind fun t169 => ((spec_l00Max.f x9_1 t169).bind fun t170 => (spec_l03Longest.l0 k1 a1 a2 a3 t170 l0_2 (wrap64 (x11_1 + 1)) a0_0 a0_1 l0_2 l0_3)))) else ((spec_l00Max.f x9_1 (wrap64 (a3 + t166))).bind fun t171 => (spec_l03Longest.l0 k1 a1 a2 a3 t171 l0_2 (wrap64 (x11_1 + 1)) a0_0 a0_1 l0_2 l0_3))) = some r := H
        have A13 := Aside0.mk A130
        clear A130
        by_cases c14 : t166 = a0_1
        ·rw [if_pos c14] at H
         have c14b0 : (t166 == a0_1) = true := beq_iff_eq.mpr c14
         have c14b1 : (t166 != a0_1) = false := bne_eq_false_iff_eq.mpr c14
         clear c14
         replace H := Option.bind_eq_some_iff.mp H
         obtain ⟨t168,A150,H⟩ := H
         replace H : ((spec_l03Longest.f k1 a0_0 a0_1 l0_2 l0_3 t168 a2 (wrap64 (a3 + t166))).bind fun t169 => ((spec_l00Max.f x9_1 t169).bind fun t170 => (spec_l03Longest.l0 k1 a1 a2 a3 t170 l0_2 (wrap64 (x11_1 + 1)) a0_0 a0_1 l0_2 l0_3))) = some r := H
         have A15 := Aside0.mk A150
         clear A150
         replace H := Option.bind_eq_some_iff.mp H
         obtain ⟨t169,A160,H⟩ := H
         replace H : ((spec_l00Max.f x9_1 t169).bind fun t170 => (spec_l03Longest.l0 k1 a1 a2 a3 t170 l0_2 (wrap64 (x11_1 + 1)) a0_0 a0_1 l0_2 l0_3)) = some r := H
         have A16 := Aside0.mk A160
         clear A160
         replace H := Option.bind_eq_some_iff.mp H
         obtain ⟨t170,A170,H⟩ := H
         replace H : (spec_l03Longest.l0 k1 a1 a2 a3 t170 l0_2 (wrap64 (x11_1 + 1)) a0_0 a0_1 l0_2 l0_3) = some r := H
         have A17 := Aside0.mk A170
         clear A170
         have H' := Aside0.mk H
         clear H
         have p164 : 0 ≤ (x11_1 : Int) := of_decide_eq_true b5_0
         have q164 : x11_1 < (l0_2.length : Int) := of_decide_eq_true b5_0
         obtain ⟨ad164,e164,hx164_0⟩ := Kd.at_string HR0_2.out x11_1 p164 q164
         cases e164
         replace hx164_0 := (HB.out.cell (World.block_lt_of_cell? w _ hx164_0)).trans hx164_0
         replace p164 := eq_true p164
         replace q164 := eq_true q164
         have p11 : 0 ≤ (0 : Int) := (by omega)
         have q11 : 0 < (rdOf ByteArray.empty l0_2 x11_1).size := (by have : (0 : Int) < ((rdOf ByteArray.empty l0_2 x11_1).size : Int) := of_decide_eq_true b5_0; omega)
         have hx11 : ∀ h : 0 < (rdOf ByteArray.empty l0_2 x11_1).size,(((rdOf ByteArray.empty l0_2 x11_1)[0]'h).toNat : Int) = bt (rdOf ByteArray.empty l0_2 x11_1) 0 := bt_at (rdOf ByteArray.empty l0_2 x11_1) 0
         clear p11
         have qi11 : (0 < ((rdOf ByteArray.empty l0_2 x11_1).size : Int)) = True := eq_true (of_decide_eq_true b5_0)
         replace q11 := eq_true q11
         have p165 : 0 ≤ (x11_1 : Int) := of_decide_eq_true b5_0
         have q165 : x11_1 < (l0_2.length : Int) := of_decide_eq_true b5_0
         obtain ⟨ad165,e165,hx165_0⟩ := Kd.at_string HR0_2.out x11_1 p165 q165
         obtain rfl : ad164 = ad165 := (by injection e165)
         replace hx165_0 := (HB.out.cell (World.block_lt_of_cell? w _ hx165_0)).trans hx165_0
         replace p165 := eq_true p165
         replace q165 := eq_true q165
         go_wp2_with (first | ((with_reducible refine gate_callee (f := 84) rfl ?_); refine goesL_ (some 34) rfl rfl Tryd.func84 (by kernel_rfl) rfl #[.string (rdOf ByteArray.empty l0_2 x11_1)] rfl b5_3 ?_; (with_reducible refine (spec_l03Front.calls k1 (rdOf ByteArray.empty l0_2 x11_1) t166 _ A13.out).mono ?_); rintro e w18 ⟨rfl,hb⟩; refine ⟨_,rfl,?_⟩; have n0_ := Aside0.mk (blk_below (g := g0) (o := .cells #[.int .i64 a0_0,.int .i64 a0_1,.slice (some ad164) l0_2.length c0_2,.slice A0_3 l0_3.length c0_3] 30 (0,0)) b5_4 hb); have n1_ := Aside0.mk (below_step b5_2 hb); clear BK0; clear HB; have BK0 := n0_; have HB := n1_; clear n0_ n1_; (try clear hb); (try clear hb2); (try clear hk); (try clear hi); have hcz19_0 : w18.cell? ⟨g0,0,none⟩ = some (.int .i64 a0_0) := (blk_cell BK0.out 0).trans rfl; have hcz19_1 : w18.cell? ⟨g0,1,none⟩ = some (.int .i64 a0_1) := (blk_cell BK0.out 1).trans rfl; have hcz19_2 : w18.cell? ⟨g0,2,none⟩ = some (.slice (some ad164) l0_2.length c0_2) := (blk_cell BK0.out 2).trans rfl; have hcz19_3 : w18.cell? ⟨g0,3,none⟩ = some (.slice A0_3 l0_3.length c0_3) := (blk_cell BK0.out 3).trans rfl; have hfz19_0 := blk_frozen BK0.out 0; have hfz19_1 := blk_frozen BK0.out 1; have hfz19_2 := blk_frozen BK0.out 2; have hfz19_3 := blk_frozen BK0.out 3; have p167 : 0 ≤ (x11_1 : Int) := of_decide_eq_true b5_0; have q167 : x11_1 < (l0_2.length : Int) := of_decide_eq_true b5_0; obtain ⟨ad167,e167,hx167_0⟩ := Kd.at_string HR0_2.out x11_1 p167 q167; obtain rfl : ad164 = ad167 := (by injection e167); replace hx167_0 := (HB.out.cell (World.block_lt_of_cell? w _ hx167_0)).trans hx167_0; replace p167 := eq_true p167; replace q167 := eq_true q167) | ((with_reducible refine gate_callee (f := 67) rfl ?_); refine goesL_ (some 48) rfl rfl Tryd.func67 (by kernel_rfl) rfl #[.int .i64 a1,.string (rdOf ByteArray.empty l0_2 x11_1)] rfl b5_3 ?_; (with_reducible refine (spec_l03Next.calls k1 a1 (rdOf ByteArray.empty l0_2 x11_1) t168 _ A15.out).mono ?_); rintro e w' ⟨rfl,⟨nd,rfl⟩⟩; refine ⟨_,rfl,?_⟩) | ((with_reducible refine gate_callee (f := 66) rfl ?_); refine goesL_ (some 53) rfl rfl Tryd.func66 (by kernel_rfl) rfl #[.pointer (some ⟨g0,0,none⟩),.int .i64 t168,.int .u8 a2,.int .i64 (wrap64 (a3 + t166))] rfl b5_3 ?_; (with_reducible refine (ih k1 (by have := HK1.out; omega) g0 a0_0 a0_1 (some ad164) c0_2 l0_2 A0_3 c0_3 l0_3 t168 a2 (wrap64 (a3 + t166)) t169 _ ?side1 ?side2 ?side3 ?side4 ?side5 A16.out).mono ?_); (case side1 => exact by (with_reducible repeat (first | refine blk_drewN ?_ _ | refine blk_drew ?_ | refine blk_alloc ?_ _)); exact BK0.out); (case side2 => repeat (first | exact (Kd.C_below HR0_2.out b5_2) | (with_reducible refine Kd.C_alloc ?_ _) | (with_reducible refine Kd.C_drewN ?_ _) | (with_reducible refine Kd.C_drew ?_))); (case side3 => exact HC0_2.out); (case side4 => repeat (first | exact (Kd.C_below HR0_3.out b5_2) | (with_reducible refine Kd.C_alloc ?_ _) | (with_reducible refine Kd.C_drewN ?_ _) | (with_reducible refine Kd.C_drew ?_))); (case side5 => exact HC0_3.out); rintro e w20 ⟨rfl,hb⟩; refine ⟨_,rfl,?_⟩; have n0_ := Aside0.mk (blk_below (g := g0) (o := .cells #[.int .i64 a0_0,.int .i64 a0_1,.slice (some ad164) l0_2.length c0_2,.slice A0_3 l0_3.length c0_3] 30 (0,0)) b5_4 hb); have n1_ := Aside0.mk (below_step b5_2 hb); clear BK0; clear HB; have BK0 := n0_; have HB := n1_; clear n0_ n1_; (try clear hb); (try clear hb2); (try clear hk); (try clear hi)) | ((with_reducible refine gate_callee (f := 54) rfl ?_); refine goesL_ (some 54) rfl rfl Tryd.func54 (by kernel_rfl) rfl #[.int .i64 x9_1,.int .i64 t169] rfl b5_3 ?_; (with_reducible refine (spec_l00Max.calls x9_1 t169 t170 _ A17.out).mono ?_); rintro e w' ⟨rfl,⟨nd,rfl⟩⟩; refine ⟨_,rfl,?_⟩))
         go_roundg k1
         case measure => have := HK1.out; omega
         case rel => exact ⟨(t170),(wrap64 (x11_1 + 1)),b5_5,b5_5,H',⟨by have := HK1.out; omega⟩,⟨b5_4⟩,⟨b5_2⟩⟩
        ·rw [if_neg c14] at H
         have c14b0 : (t166 == a0_1) = false := beq_eq_false_iff_ne.mpr c14
         have c14b1 : (t166 != a0_1) = true := bne_iff_ne.mpr c14
         replace H := Option.bind_eq_some_iff.mp H
         obtain ⟨t171,A210,H⟩ := H
         replace H : (spec_l03Longest.l0 k1 a1 a2 a3 t171 l0_2 (wrap64 (x11_1 + 1)) a0_0 a0_1 l0_2 l0_3) = some r := H
         have A21 := Aside0.mk A210
         clear A210
         have H' := Aside0.mk H
         clear H
         have p164 : 0 ≤ (x11_1 : Int) := of_decide_eq_true b5_0
         have q164 : x11_1 < (l0_2.length : Int) := of_decide_eq_true b5_0
         obtain ⟨ad164,e164,hx164_0⟩ := Kd.at_string HR0_2.out x11_1 p164 q164
         cases e164
         replace hx164_0 := (HB.out.cell (World.block_lt_of_cell? w _ hx164_0)).trans hx164_0
         replace p164 := eq_true p164
         replace q164 := eq_true q164
         have p11 : 0 ≤ (0 : Int) := (by omega)
         have q11 : 0 < (rdOf ByteArray.empty l0_2 x11_1).size := (by have : (0 : Int) < ((rdOf ByteArray.empty l0_2 x11_1).size : Int) := of_decide_eq_true b5_0; omega)
         have hx11 : ∀ h : 0 < (rdOf ByteArray.empty l0_2 x11_1).size,(((rdOf ByteArray.empty l0_2 x11_1)[0]'h).toNat : Int) = bt (rdOf ByteArray.empty l0_2 x11_1) 0 := bt_at (rdOf ByteArray.empty l0_2 x11_1) 0
         clear p11
         have qi11 : (0 < ((rdOf ByteArray.empty l0_2 x11_1).size : Int)) = True := eq_true (of_decide_eq_true b5_0)
         replace q11 := eq_true q11
         have p165 : 0 ≤ (x11_1 : Int) := of_decide_eq_true b5_0
         have q165 : x11_1 < (l0_2.length : Int) := of_decide_eq_true b5_0
         obtain ⟨ad165,e165,hx165_0⟩ := Kd.at_string HR0_2.out x11_1 p165 q165
         obtain rfl : ad164 = ad165 := (by injection e165)
         replace hx165_0 := (HB.out.cell (World.block_lt_of_cell? w _ hx165_0)).trans hx165_0
         replace p165 := eq_true p165
         replace q165 := eq_true q165
         go_wp2_with (first | ((with_reducible refine gate_callee (f := 84) rfl ?_); refine goesL_ (some 34) rfl rfl Tryd.func84 (by kernel_rfl) rfl #[.string (rdOf ByteArray.empty l0_2 x11_1)] rfl b5_3 ?_; (with_reducible refine (spec_l03Front.calls k1 (rdOf ByteArray.empty l0_2 x11_1) t166 _ A13.out).mono ?_); rintro e w22 ⟨rfl,hb⟩; refine ⟨_,rfl,?_⟩; have n0_ := Aside0.mk (blk_below (g := g0) (o := .cells #[.int .i64 a0_0,.int .i64 a0_1,.slice (some ad164) l0_2.length c0_2,.slice A0_3 l0_3.length c0_3] 30 (0,0)) b5_4 hb); have n1_ := Aside0.mk (below_step b5_2 hb); clear BK0; clear HB; have BK0 := n0_; have HB := n1_; clear n0_ n1_; (try clear hb); (try clear hb2); (try clear hk); (try clear hi); have hcz23_0 : w22.cell? ⟨g0,0,none⟩ = some (.int .i64 a0_0) := (blk_cell BK0.out 0).trans rfl; have hcz23_1 : w22.cell? ⟨g0,1,none⟩ = some (.int .i64 a0_1) := (blk_cell BK0.out 1).trans rfl; have hcz23_2 : w22.cell? ⟨g0,2,none⟩ = some (.slice (some ad164) l0_2.length c0_2) := (blk_cell BK0.out 2).trans rfl; have hcz23_3 : w22.cell? ⟨g0,3,none⟩ = some (.slice A0_3 l0_3.length c0_3) := (blk_cell BK0.out 3).trans rfl; have hfz23_0 := blk_frozen BK0.out 0; have hfz23_1 := blk_frozen BK0.out 1; have hfz23_2 := blk_frozen BK0.out 2; have hfz23_3 := blk_frozen BK0.out 3) | ((with_reducible refine gate_callee (f := 54) rfl ?_); refine goesL_ (some 59) rfl rfl Tryd.func54 (by kernel_rfl) rfl #[.int .i64 x9_1,.int .i64 (wrap64 (a3 + t166))] rfl b5_3 ?_; (with_reducible refine (spec_l00Max.calls x9_1 (wrap64 (a3 + t166)) t171 _ A21.out).mono ?_); rintro e w' ⟨rfl,⟨nd,rfl⟩⟩; refine ⟨_,rfl,?_⟩))
         go_roundg k1
         case measure => have := HK1.out; omega
         case rel => exact ⟨(t171),(wrap64 (x11_1 + 1)),b5_5,b5_5,H',⟨by have := HK1.out; omega⟩,⟨b5_4⟩,⟨b5_2⟩⟩
       ·rw [if_neg c12] at H
        have c12b0 : ((bt (rdOf ByteArray.empty l0_2 x11_1) 0) == a2) = false := beq_eq_false_iff_ne.mpr c12
        have c12b1 : ((bt (rdOf ByteArray.empty l0_2 x11_1) 0) != a2) = true := bne_iff_ne.mpr c12
        have H' := Aside0.mk H
        clear H
        have p164 : 0 ≤ (x11_1 : Int) := of_decide_eq_true b5_0
        have q164 : x11_1 < (l0_2.length : Int) := of_decide_eq_true b5_0
        obtain ⟨ad164,e164,hx164_0⟩ := Kd.at_string HR0_2.out x11_1 p164 q164
        cases e164
        replace hx164_0 := (HB.out.cell (World.block_lt_of_cell? w _ hx164_0)).trans hx164_0
        replace p164 := eq_true p164
        replace q164 := eq_true q164
        have p11 : 0 ≤ (0 : Int) := (by omega)
        have q11 : 0 < (rdOf ByteArray.empty l0_2 x11_1).size := (by have : (0 : Int) < ((rdOf ByteArray.empty l0_2 x11_1).size : Int) := of_decide_eq_true b5_0; omega)
        have hx11 : ∀ h : 0 < (rdOf ByteArray.empty l0_2 x11_1).size,(((rdOf ByteArray.empty l0_2 x11_1)[0]'h).toNat : Int) = bt (rdOf ByteArray.empty l0_2 x11_1) 0 := bt_at (rdOf ByteArray.empty l0_2 x11_1) 0
        clear p11
        have qi11 : (0 < ((rdOf ByteArray.empty l0_2 x11_1).size : Int)) = True := eq_true (of_decide_eq_true b5_0)
        replace q11 := eq_true q11
        go_wp2
        go_roundg k1
        case measure => have := HK1.out; omega
        case rel => exact ⟨(x9_1),(wrap64 (x11_1 + 1)),b5_5,b5_5,H',⟨by have := HK1.out; omega⟩,⟨b5_4⟩,⟨b5_2⟩⟩
      ·rw [if_neg c10] at H
       exact absurd H (by simp)
     ·rw [if_neg c9] at H
      exact absurd H (by simp)
    ·rw [if_neg c8] at H
     have c8b0 : decide (x11_1 < (l0_2.length : Int)) = false := decide_eq_false c8
     clear c8
     obtain rfl := Option.some.inj H
     go_wp2
     go_ret
     exact ⟨b5_7,b5_2⟩
 ·rw [if_neg c5] at H
  have c5b0 : decide (a1 < 0) = false := decide_eq_false c5
  clear c5
  replace H := Option.bind_eq_some_iff.mp H
  obtain ⟨_,A240,H⟩ := H
  replace H : (spec_l03Longest.l100 k a1 a2 a3 a3 l0_3 0 a0_0 a0_1 l0_2 l0_3) = some r := H
  have A24 := Aside0.mk A240
  clear A240
  have H' := Aside0.mk H
  clear H
  go_enter Tryd.func66,Tryd.ntmps66
  go_wp2_with (first | ((with_reducible refine gate_callee (f := 52) rfl ?_); refine goesL_ (some 16) rfl rfl Tryd.func52 (by kernel_rfl) rfl #[.pointer (some ⟨g0,0,none⟩),.int .i64 a1] rfl b5_3 ?_; (with_reducible refine (spec_l03List_pos.calls g0 a0_0 a0_1 A0_2 c0_2 l0_2 A0_3 c0_3 l0_3 a1  _ ?side1 ?side2 ?side3 ?side4 ?side5 A24.out).mono ?_); (case side1 => exact by (with_reducible repeat (first | refine blk_drewN ?_ _ | refine blk_drew ?_ | refine blk_alloc ?_ _)); exact BK0.out); (case side2 => repeat (first | exact HR0_2.out | (with_reducible refine Kd.C_alloc ?_ _) | (with_reducible refine Kd.C_drewN ?_ _) | (with_reducible refine Kd.C_drew ?_))); (case side3 => exact HC0_2.out); (case side4 => repeat (first | exact HR0_3.out | (with_reducible refine Kd.C_alloc ?_ _) | (with_reducible refine Kd.C_drewN ?_ _) | (with_reducible refine Kd.C_drew ?_))); (case side5 => exact HC0_3.out); rintro e w25 ⟨rfl,hb⟩; refine ⟨_,rfl,?_⟩; have n0_ := Aside0.mk (blk_below (g := g0) (o := .cells #[.int .i64 a0_0,.int .i64 a0_1,.slice A0_2 l0_2.length c0_2,.slice A0_3 l0_3.length c0_3] 30 (0,0)) b5_4 hb); have n1_ := Aside0.mk (below_step b5_2 hb); clear BK0; clear HB; have BK0 := n0_; have HB := n1_; clear n0_ n1_; (try clear hb); (try clear hb2); (try clear hk); (try clear hi)))
  go_loopg [9,11] k (fun kq v9 v11 w' => ∃ (x9_1 : Int) (x11_1 : Int),v9 = .int .i64 x9_1 ∧ v11 = .int .i64 x11_1 ∧ Aside0 (spec_l03Longest.l100 kq a1 a2 a3 x9_1 l0_3 x11_1 a0_0 a0_1 l0_2 l0_3 = some r) ∧ Aside0 (kq ≤ k) ∧ Aside0 (w'.heap[g0]? = some (.cells #[.int .i64 a0_0,.int .i64 a0_1,(.slice A0_2 l0_2.length c0_2),(.slice A0_3 l0_3.length c0_3)] 30 (0,0))) ∧ Aside0 (Below w.heap.size w w'))
  case atStart => exact ⟨(a3),(0),b5_5,b5_5,H',⟨Nat.le_refl _⟩,⟨b5_4⟩,⟨b5_2⟩⟩
  case round =>
   clear H'
   (try clear c1);(try clear p1);(try clear q1);(try clear hx1);(try clear qi1);(try clear p2);(try clear c5);(try clear c5b0);(try clear c6);(try clear p6);(try clear c8);(try clear c8b0);(try clear c9);(try clear c9b0);(try clear c10);(try clear c10b0);(try clear c10b1);(try clear p11);(try clear q11);(try clear hx11);(try clear qi11);(try clear c12);(try clear c12b0);(try clear c12b1);(try clear c14);(try clear c14b0);(try clear c14b1);(try clear p16);(try clear q16);(try clear hx16);(try clear hcz19_0);(try clear hcz19_1);(try clear hcz19_2);(try clear hcz19_3);(try clear hcz23_0);(try clear hcz23_1);(try clear hcz23_2);(try clear hcz23_3);(try clear hfz19_0);(try clear hfz19_1);(try clear hfz19_2);(try clear hfz19_3);(try clear hfz23_0);(try clear hfz23_1);(try clear hfz23_2);(try clear hfz23_3);(try clear hx164_0);(try clear hx165_0);(try clear hx167_0);(try clear p11);(try clear p164);(try clear p165);(try clear p167);(try clear p2);(try clear q11);(try clear q164);(try clear q165);(try clear q167)
   obtain ⟨x9_1,x11_1,rfl,rfl,HA,HK1,BK0,HB⟩ := hrel
   cases gk with
   | zero => exact absurd HA.out (by simp [spec_l03Longest.l100])
   | succ k1 =>
    have H := HA.out
    clear HA
    simp only [spec_l03Longest.l100] at H
    by_cases c26 : x11_1 < (l0_3.length : Int)
    ·rw [if_pos c26] at H
     have c26b0 : decide (x11_1 < (l0_3.length : Int)) = true := decide_eq_true c26
     clear c26
     by_cases c27 : 0 ≤ x11_1
     ·rw [if_pos c27] at H
      have c27b0 : decide (0 ≤ x11_1) = true := decide_eq_true c27
      clear c27
      by_cases c28 : 0 < ((rdOf ByteArray.empty l0_3 x11_1).size : Int)
      ·rw [if_pos c28] at H
       have c28b0 : decide (0 < ((rdOf ByteArray.empty l0_3 x11_1).size : Int)) = true := decide_eq_true c28
       have c28b1 : decide (0 < (rdOf ByteArray.empty l0_3 x11_1).size) = true := decide_eq_true (by omega)
       clear c28
       by_cases c30 : (bt (rdOf ByteArray.empty l0_3 x11_1) 0) = a2
       ·rw [if_pos c30] at H
        have c30b0 : ((bt (rdOf ByteArray.empty l0_3 x11_1) 0) == a2) = true := beq_iff_eq.mpr c30
        have c30b1 : ((bt (rdOf ByteArray.empty l0_3 x11_1) 0) != a2) = false := bne_eq_false_iff_eq.mpr c30
        clear c30
        replace H := Option.bind_eq_some_iff.mp H
        obtain ⟨t174,A310,H⟩ := H
        replace H : (if t174 = a0_1 then ((spec_l03Next.f k1 a1 (rdOf ByteArray.empty l0_3 x11_1)).bind fun t176 => ((spec_l03Longest.f k1 a0_0 a0_1 l0_2 l0_3 t176 a2 (wrap64 (a3 + t174))).bind fun t177 => ((spec_l00Max.f x9_1 t177).bind fun t178 => (spec_l03Longest.l100 k1 a1 a2 a3 t178 l0_3 (wrap64 (x11_1 + 1)) a0_0 a0_1 l0_2 l0_3)))) else ((spec_l00Max.f x9_1 (wrap64 (a3 + t174))).bind fun t179 => (spec_l03Longest.l100 k1 a1 a2 a3 t179 l0_3 (wrap64 (x11_1 + 1)) a0_0 a0_1 l0_2 l0_3))) = some r := H
        have A31 := Aside0.mk A310
        clear A310
        by_cases c32 : t174 = a0_1
        ·rw [if_pos c32] at H
         have c32b0 : (t174 == a0_1) = true := beq_iff_eq.mpr c32
         have c32b1 : (t174 != a0_1) = false := bne_eq_false_iff_eq.mpr c32
         clear c32
         replace H := Option.bind_eq_some_iff.mp H
         obtain ⟨t176,A330,H⟩ := H
         replace H : ((spec_l03Longest.f k1 a0_0 a0_1 l0_2 l0_3 t176 a2 (wrap64 (a3 + t174))).bind fun t177 => ((spec_l00Max.f x9_1 t177).bind fun t178 => (spec_l03Longest.l100 k1 a1 a2 a3 t178 l0_3 (wrap64 (x11_1 + 1)) a0_0 a0_1 l0_2 l0_3))) = some r := H
         have A33 := Aside0.mk A330
         clear A330
         replace H := Option.bind_eq_some_iff.mp H
         obtain ⟨t177,A340,H⟩ := H
         replace H : ((spec_l00Max.f x9_1 t177).bind fun t178 => (spec_l03Longest.l100 k1 a1 a2 a3 t178 l0_3 (wrap64 (x11_1 + 1)) a0_0 a0_1 l0_2 l0_3)) = some r := H
         have A34 := Aside0.mk A340
         clear A340
         replace H := Option.bind_eq_some_iff.mp H
         obtain ⟨t178,A350,H⟩ := H
         replace H : (spec_l03Longest.l100 k1 a1 a2 a3 t178 l0_3 (wrap64 (x11_1 + 1)) a0_0 a0_1 l0_2 l0_3) = some r := H
         have A35 := Aside0.mk A350
         clear A350
         have H' := Aside0.mk H
         clear H
         have p172 : 0 ≤ (x11_1 : Int) := of_decide_eq_true b5_0
         have q172 : x11_1 < (l0_3.length : Int) := of_decide_eq_true b5_0
         obtain ⟨ad172,e172,hx172_0⟩ := Kd.at_string HR0_3.out x11_1 p172 q172
         cases e172
         replace hx172_0 := (HB.out.cell (World.block_lt_of_cell? w _ hx172_0)).trans hx172_0
         replace p172 := eq_true p172
         replace q172 := eq_true q172
         have p29 : 0 ≤ (0 : Int) := (by omega)
         have q29 : 0 < (rdOf ByteArray.empty l0_3 x11_1).size := (by have : (0 : Int) < ((rdOf ByteArray.empty l0_3 x11_1).size : Int) := of_decide_eq_true b5_0; omega)
         have hx29 : ∀ h : 0 < (rdOf ByteArray.empty l0_3 x11_1).size,(((rdOf ByteArray.empty l0_3 x11_1)[0]'h).toNat : Int) = bt (rdOf ByteArray.empty l0_3 x11_1) 0 := bt_at (rdOf ByteArray.empty l0_3 x11_1) 0
         clear p29
         have qi29 : (0 < ((rdOf ByteArray.empty l0_3 x11_1).size : Int)) = True := eq_true (of_decide_eq_true b5_0)
         replace q29 := eq_true q29
         have p173 : 0 ≤ (x11_1 : Int) := of_decide_eq_true b5_0
         have q173 : x11_1 < (l0_3.length : Int) := of_decide_eq_true b5_0
         obtain ⟨ad173,e173,hx173_0⟩ := Kd.at_string HR0_3.out x11_1 p173 q173
         obtain rfl : ad172 = ad173 := (by injection e173)
         replace hx173_0 := (HB.out.cell (World.block_lt_of_cell? w _ hx173_0)).trans hx173_0
         replace p173 := eq_true p173
         replace q173 := eq_true q173
         go_wp2_with (first | ((with_reducible refine gate_callee (f := 84) rfl ?_); refine goesL_ (some 34) rfl rfl Tryd.func84 (by kernel_rfl) rfl #[.string (rdOf ByteArray.empty l0_3 x11_1)] rfl b5_3 ?_; (with_reducible refine (spec_l03Front.calls k1 (rdOf ByteArray.empty l0_3 x11_1) t174 _ A31.out).mono ?_); rintro e w36 ⟨rfl,hb⟩; refine ⟨_,rfl,?_⟩; have n0_ := Aside0.mk (blk_below (g := g0) (o := .cells #[.int .i64 a0_0,.int .i64 a0_1,.slice A0_2 l0_2.length c0_2,.slice (some ad172) l0_3.length c0_3] 30 (0,0)) b5_4 hb); have n1_ := Aside0.mk (below_step b5_2 hb); clear BK0; clear HB; have BK0 := n0_; have HB := n1_; clear n0_ n1_; (try clear hb); (try clear hb2); (try clear hk); (try clear hi); have hcz37_0 : w36.cell? ⟨g0,0,none⟩ = some (.int .i64 a0_0) := (blk_cell BK0.out 0).trans rfl; have hcz37_1 : w36.cell? ⟨g0,1,none⟩ = some (.int .i64 a0_1) := (blk_cell BK0.out 1).trans rfl; have hcz37_2 : w36.cell? ⟨g0,2,none⟩ = some (.slice A0_2 l0_2.length c0_2) := (blk_cell BK0.out 2).trans rfl; have hcz37_3 : w36.cell? ⟨g0,3,none⟩ = some (.slice (some ad172) l0_3.length c0_3) := (blk_cell BK0.out 3).trans rfl; have hfz37_0 := blk_frozen BK0.out 0; have hfz37_1 := blk_frozen BK0.out 1; have hfz37_2 := blk_frozen BK0.out 2; have hfz37_3 := blk_frozen BK0.out 3; have p175 : 0 ≤ (x11_1 : Int) := of_decide_eq_true b5_0; have q175 : x11_1 < (l0_3.length : Int) := of_decide_eq_true b5_0; obtain ⟨ad175,e175,hx175_0⟩ := Kd.at_string HR0_3.out x11_1 p175 q175; obtain rfl : ad172 = ad175 := (by injection e175); replace hx175_0 := (HB.out.cell (World.block_lt_of_cell? w _ hx175_0)).trans hx175_0; replace p175 := eq_true p175; replace q175 := eq_true q175) | ((with_reducible refine gate_callee (f := 67) rfl ?_); refine goesL_ (some 48) rfl rfl Tryd.func67 (by kernel_rfl) rfl #[.int .i64 a1,.string (rdOf ByteArray.empty l0_3 x11_1)] rfl b5_3 ?_; (with_reducible refine (spec_l03Next.calls k1 a1 (rdOf ByteArray.empty l0_3 x11_1) t176 _ A33.out).mono ?_); rintro e w' ⟨rfl,⟨nd,rfl⟩⟩; refine ⟨_,rfl,?_⟩) | ((with_reducible refine gate_callee (f := 66) rfl ?_); refine goesL_ (some 53) rfl rfl Tryd.func66 (by kernel_rfl) rfl #[.pointer (some ⟨g0,0,none⟩),.int .i64 t176,.int .u8 a2,.int .i64 (wrap64 (a3 + t174))] rfl b5_3 ?_; (with_reducible refine (ih k1 (by have := HK1.out; omega) g0 a0_0 a0_1 A0_2 c0_2 l0_2 (some ad172) c0_3 l0_3 t176 a2 (wrap64 (a3 + t174)) t177 _ ?side1 ?side2 ?side3 ?side4 ?side5 A34.out).mono ?_); (case side1 => exact by (with_reducible repeat (first | refine blk_drewN ?_ _ | refine blk_drew ?_ | refine blk_alloc ?_ _)); exact BK0.out); (case side2 => repeat (first | exact (Kd.C_below HR0_2.out b5_2) | (with_reducible refine Kd.C_alloc ?_ _) | (with_reducible refine Kd.C_drewN ?_ _) | (with_reducible refine Kd.C_drew ?_))); (case side3 => exact HC0_2.out); (case side4 => repeat (first | exact (Kd.C_below HR0_3.out b5_2) | (with_reducible refine Kd.C_alloc ?_ _) | (with_reducible refine Kd.C_drewN ?_ _) | (with_reducible refine Kd.C_drew ?_))); (case side5 => exact HC0_3.out); rintro e w38 ⟨rfl,hb⟩; refine ⟨_,rfl,?_⟩; have n0_ := Aside0.mk (blk_below (g := g0) (o := .cells #[.int .i64 a0_0,.int .i64 a0_1,.slice A0_2 l0_2.length c0_2,.slice (some ad172) l0_3.length c0_3] 30 (0,0)) b5_4 hb); have n1_ := Aside0.mk (below_step b5_2 hb); clear BK0; clear HB; have BK0 := n0_; have HB := n1_; clear n0_ n1_; (try clear hb); (try clear hb2); (try clear hk); (try clear hi)) | ((with_reducible refine gate_callee (f := 54) rfl ?_); refine goesL_ (some 54) rfl rfl Tryd.func54 (by kernel_rfl) rfl #[.int .i64 x9_1,.int .i64 t177] rfl b5_3 ?_; (with_reducible refine (spec_l00Max.calls x9_1 t177 t178 _ A35.out).mono ?_); rintro e w' ⟨rfl,⟨nd,rfl⟩⟩; refine ⟨_,rfl,?_⟩))
         go_roundg k1
         case measure => have := HK1.out; omega
         case rel => exact ⟨(t178),(wrap64 (x11_1 + 1)),b5_5,b5_5,H',⟨by have := HK1.out; omega⟩,⟨b5_4⟩,⟨b5_2⟩⟩
        ·rw [if_neg c32] at H
         have c32b0 : (t174 == a0_1) = false := beq_eq_false_iff_ne.mpr c32
         have c32b1 : (t174 != a0_1) = true := bne_iff_ne.mpr c32
         replace H := Option.bind_eq_some_iff.mp H
         obtain ⟨t179,A390,H⟩ := H
         replace H : (spec_l03Longest.l100 k1 a1 a2 a3 t179 l0_3 (wrap64 (x11_1 + 1)) a0_0 a0_1 l0_2 l0_3) = some r := H
         have A39 := Aside0.mk A390
         clear A390
         have H' := Aside0.mk H
         clear H
         have p172 : 0 ≤ (x11_1 : Int) := of_decide_eq_true b5_0
         have q172 : x11_1 < (l0_3.length : Int) := of_decide_eq_true b5_0
         obtain ⟨ad172,e172,hx172_0⟩ := Kd.at_string HR0_3.out x11_1 p172 q172
         cases e172
         replace hx172_0 := (HB.out.cell (World.block_lt_of_cell? w _ hx172_0)).trans hx172_0
         replace p172 := eq_true p172
         replace q172 := eq_true q172
         have p29 : 0 ≤ (0 : Int) := (by omega)
         have q29 : 0 < (rdOf ByteArray.empty l0_3 x11_1).size := (by have : (0 : Int) < ((rdOf ByteArray.empty l0_3 x11_1).size : Int) := of_decide_eq_true b5_0; omega)
         have hx29 : ∀ h : 0 < (rdOf ByteArray.empty l0_3 x11_1).size,(((rdOf ByteArray.empty l0_3 x11_1)[0]'h).toNat : Int) = bt (rdOf ByteArray.empty l0_3 x11_1) 0 := bt_at (rdOf ByteArray.empty l0_3 x11_1) 0
         clear p29
         have qi29 : (0 < ((rdOf ByteArray.empty l0_3 x11_1).size : Int)) = True := eq_true (of_decide_eq_true b5_0)
         replace q29 := eq_true q29
         have p173 : 0 ≤ (x11_1 : Int) := of_decide_eq_true b5_0
         have q173 : x11_1 < (l0_3.length : Int) := of_decide_eq_true b5_0
         obtain ⟨ad173,e173,hx173_0⟩ := Kd.at_string HR0_3.out x11_1 p173 q173
         obtain rfl : ad172 = ad173 := (by injection e173)
         replace hx173_0 := (HB.out.cell (World.block_lt_of_cell? w _ hx173_0)).trans hx173_0
         replace p173 := eq_true p173
         replace q173 := eq_true q173
         go_wp2_with (first | ((with_reducible refine gate_callee (f := 84) rfl ?_); refine goesL_ (some 34) rfl rfl Tryd.func84 (by kernel_rfl) rfl #[.string (rdOf ByteArray.empty l0_3 x11_1)] rfl b5_3 ?_; (with_reducible refine (spec_l03Front.calls k1 (rdOf ByteArray.empty l0_3 x11_1) t174 _ A31.out).mono ?_); rintro e w40 ⟨rfl,hb⟩; refine ⟨_,rfl,?_⟩; have n0_ := Aside0.mk (blk_below (g := g0) (o := .cells #[.int .i64 a0_0,.int .i64 a0_1,.slice A0_2 l0_2.length c0_2,.slice (some ad172) l0_3.length c0_3] 30 (0,0)) b5_4 hb); have n1_ := Aside0.mk (below_step b5_2 hb); clear BK0; clear HB; have BK0 := n0_; have HB := n1_; clear n0_ n1_; (try clear hb); (try clear hb2); (try clear hk); (try clear hi); have hcz41_0 : w40.cell? ⟨g0,0,none⟩ = some (.int .i64 a0_0) := (blk_cell BK0.out 0).trans rfl; have hcz41_1 : w40.cell? ⟨g0,1,none⟩ = some (.int .i64 a0_1) := (blk_cell BK0.out 1).trans rfl; have hcz41_2 : w40.cell? ⟨g0,2,none⟩ = some (.slice A0_2 l0_2.length c0_2) := (blk_cell BK0.out 2).trans rfl; have hcz41_3 : w40.cell? ⟨g0,3,none⟩ = some (.slice (some ad172) l0_3.length c0_3) := (blk_cell BK0.out 3).trans rfl; have hfz41_0 := blk_frozen BK0.out 0; have hfz41_1 := blk_frozen BK0.out 1; have hfz41_2 := blk_frozen BK0.out 2; have hfz41_3 := blk_frozen BK0.out 3) | ((with_reducible refine gate_callee (f := 54) rfl ?_); refine goesL_ (some 59) rfl rfl Tryd.func54 (by kernel_rfl) rfl #[.int .i64 x9_1,.int .i64 (wrap64 (a3 + t174))] rfl b5_3 ?_; (with_reducible refine (spec_l00Max.calls x9_1 (wrap64 (a3 + t174)) t179 _ A39.out).mono ?_); rintro e w' ⟨rfl,⟨nd,rfl⟩⟩; refine ⟨_,rfl,?_⟩))
         go_roundg k1
         case measure => have := HK1.out; omega
         case rel => exact ⟨(t179),(wrap64 (x11_1 + 1)),b5_5,b5_5,H',⟨by have := HK1.out; omega⟩,⟨b5_4⟩,⟨b5_2⟩⟩
       ·rw [if_neg c30] at H
        have c30b0 : ((bt (rdOf ByteArray.empty l0_3 x11_1) 0) == a2) = false := beq_eq_false_iff_ne.mpr c30
        have c30b1 : ((bt (rdOf ByteArray.empty l0_3 x11_1) 0) != a2) = true := bne_iff_ne.mpr c30
        have H' := Aside0.mk H
        clear H
        have p172 : 0 ≤ (x11_1 : Int) := of_decide_eq_true b5_0
        have q172 : x11_1 < (l0_3.length : Int) := of_decide_eq_true b5_0
        obtain ⟨ad172,e172,hx172_0⟩ := Kd.at_string HR0_3.out x11_1 p172 q172
        cases e172
        replace hx172_0 := (HB.out.cell (World.block_lt_of_cell? w _ hx172_0)).trans hx172_0
        replace p172 := eq_true p172
        replace q172 := eq_true q172
        have p29 : 0 ≤ (0 : Int) := (by omega)
        have q29 : 0 < (rdOf ByteArray.empty l0_3 x11_1).size := (by have : (0 : Int) < ((rdOf ByteArray.empty l0_3 x11_1).size : Int) := of_decide_eq_true b5_0; omega)
        have hx29 : ∀ h : 0 < (rdOf ByteArray.empty l0_3 x11_1).size,(((rdOf ByteArray.empty l0_3 x11_1)[0]'h).toNat : Int) = bt (rdOf ByteArray.empty l0_3 x11_1) 0 := bt_at (rdOf ByteArray.empty l0_3 x11_1) 0
        clear p29
        have qi29 : (0 < ((rdOf ByteArray.empty l0_3 x11_1).size : Int)) = True := eq_true (of_decide_eq_true b5_0)
        replace q29 := eq_true q29
        go_wp2
        go_roundg k1
        case measure => have := HK1.out; omega
        case rel => exact ⟨(x9_1),(wrap64 (x11_1 + 1)),b5_5,b5_5,H',⟨by have := HK1.out; omega⟩,⟨b5_4⟩,⟨b5_2⟩⟩
      ·rw [if_neg c28] at H
       exact absurd H (by simp)
     ·rw [if_neg c27] at H
      exact absurd H (by simp)
    ·rw [if_neg c26] at H
     have c26b0 : decide (x11_1 < (l0_3.length : Int)) = false := decide_eq_false c26
     clear c26
     obtain rfl := Option.some.inj H
     go_wp2
     go_ret
     exact ⟨b5_7,b5_2⟩

end Go.Proofs.YtegeaoiclepkkaaDoor.QFnExactRunBound
