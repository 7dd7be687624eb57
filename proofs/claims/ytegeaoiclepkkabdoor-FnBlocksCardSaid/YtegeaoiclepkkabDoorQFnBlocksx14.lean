/-
Each Go function that this text names answers as the Lean function beside it says,wherever that one answers; conditions: the arguments lie in memory as each theorem states it.
-/
import Derived.Test.YtegeaoiclepkkabDoorQFnBlocksx0
import Derived.Test.YtegeaoiclepkkabDoorQFnBlocksx7
import Derived.Test.YtegeaoiclepkkabDoorQFnBlocksx9
import Derived.Test.YtegeaoiclepkkabDoorQFnBlocksx12
namespace Go.Proofs.YtegeaoiclepkkabDoor.QFnBlocks
open Go.RowKit Go.Proofs.YtegeaoiclepkkabDoorW.PrintWords Go.Proofs.YtegeaoiclepkkabDoorW.PrintLast Go.Proofs.YtegeaoiclepkkabDoorW.PrintMore
open _root_.Option renaming bind_eq_some_iff → zG
open Aside0 renaming mk → zH
attribute [local go_sem] max2_int min2_int max_two min_two max_three min_three max_four min_four   -- for this text's walks alone
set_option linter.unusedVariables false
set_option linter.unusedSimpArgs false
theorem b14_0 {P : Prop} (h : P := by repeat (first | (with_reducible first | exact HB.out | apply below_alloc | apply pw_below_drewN | apply below_drew1) | exact HB.out)) : P := h
theorem b14_1 {P : Prop} (h : P := by (try simp only [List.map_toArray,List.map_cons,List.map_nil]); first | done | rfl | (simp only [List.length_drop,List.length_take]; rfl)) : P := h
theorem b14_2 {P : Prop} (h : P := by first | (with_reducible assumption) | assumption) : P := h
theorem b14_3 {P : Prop} (h : P := by first | rfl | (simp [errW_none,errW_some] <;> rfl) | (simp [*,errW_none,errW_some] <;> rfl)) : P := h
theorem b14_4 {P : Prop} (h : P := by repeat (first | exact Drawn0.refl _ | apply Drawn0.step)) : P := h
theorem b14_5 {P : Prop} (h : P := by first | rfl | (simp; done) | (simp [*]; done)) : P := h

/-! ### impl_DisparityOf: function 13 -/
def impl_DisparityOf.f (a0 : ByteArray) : Option (Int × Bool) := (impl_IsBits.f a0).bind fun t389 => (if t389 = true then ((impl_disparity.f a0).bind fun t390 => (some (t390,true))) else (some (0,false)))
set_option maxHeartbeats 8000000 in
set_option maxRecDepth 100000 in
theorem impl_DisparityOf.calls (a0 : ByteArray) (r1 : Int) (r2 : Bool) (w : World) (h : impl_DisparityOf.f a0 = some (r1,r2)) :
  Calls Tryd.prog 13 #[.string a0] w fun e w' => e = .returned (.tuple #[.int .i64 r1,.bool r2]) ∧ Below w.heap.size w w' := by
 have HB := zH (Below.refl w.heap.size w); have H : ((impl_IsBits.f a0).bind fun t389 => (if t389 = true then ((impl_disparity.f a0).bind fun t390 => (some (t390,true))) else (some (0,false)))) = some (r1,r2) := h; clear h; replace H := zG.mp H; obtain ⟨t389,A20,H⟩ := H; replace H : (if t389 = true then ((impl_disparity.f a0).bind fun t390 => (some (t390,true))) else (some (0,false))) = some (r1,r2) := H; have A2 := zH A20; clear A20; by_cases c3 : t389 = true
 ·subst c3; (have H1 : ((impl_disparity.f a0).bind fun t390 => (some (t390,true))) = some (r1,r2) := by rw [if_pos rfl] at H; exact H); clear H; have H := H1; clear H1; replace H := zG.mp H; obtain ⟨t390,A40,H⟩ := H; replace H : (some (t390,true)) = some (r1,r2) := H; have A4 := zH A40; clear A40; simp only [Option.some.injEq,Prod.mk.injEq] at H; obtain ⟨rfl,rfl⟩ := H; go_enter Tryd.func13,Tryd.ntmps13; (go_wp2_with (first | ((with_reducible refine gate_callee (f := 29) rfl ?_); refine goesL_ (some 5) rfl rfl Tryd.func29 (by kernel_rfl) rfl #[.string a0] rfl b14_1 ?_; (with_reducible refine (impl_IsBits.calls a0 true _ A2.out).mono ?_); rintro e w5 ⟨rfl,hb⟩; refine ⟨_,rfl,?_⟩; have n0_ := zH (below_step b14_0 hb); clear HB; have HB := n0_; clear n0_; (try clear hb); (try clear hb2); (try clear hk); (try clear hi)) | ((with_reducible refine gate_callee (f := 31) rfl ?_); refine goesL_ (some 8) rfl rfl Tryd.func31 (by kernel_rfl) rfl #[.string a0] rfl b14_1 ?_; (with_reducible refine (impl_disparity.calls a0 t390 _ A4.out).mono ?_); rintro e w' ⟨rfl,⟨nd,rfl⟩⟩; refine ⟨_,rfl,?_⟩))); go_ret2; exact ⟨b14_3,b14_0⟩
 ·replace c3 := Bool.eq_false_iff.mpr c3; subst c3; (have H1 : (some (0,false)) = some (r1,r2) := by rw [if_neg (show ¬ (false = true) by decide)] at H; exact H); clear H; have H := H1; clear H1; simp only [Option.some.injEq,Prod.mk.injEq] at H; obtain ⟨rfl,rfl⟩ := H; go_enter Tryd.func13,Tryd.ntmps13; (go_wp2_with (first | ((with_reducible refine gate_callee (f := 29) rfl ?_); refine goesL_ (some 5) rfl rfl Tryd.func29 (by kernel_rfl) rfl #[.string a0] rfl b14_1 ?_; (with_reducible refine (impl_IsBits.calls a0 false _ A2.out).mono ?_); rintro e w6 ⟨rfl,hb⟩; refine ⟨_,rfl,?_⟩; have n0_ := zH (below_step b14_0 hb); clear HB; have HB := n0_; clear n0_; (try clear hb); (try clear hb2); (try clear hk); (try clear hi)))); go_ret2; exact ⟨b14_3,b14_0⟩

/-! ### impl_RunLengths: function 14 -/
def impl_RunLengths.f (k : Nat) (a0 : ByteArray) : Option (List Int × Bool) := (impl_IsBits.f a0).bind fun t391 => (if t391 = true then ((impl_runLengths.f k a0).bind fun t392 => (some (t392,true))) else (some (([] : List Int),false)))
set_option maxHeartbeats 8000000 in
set_option maxRecDepth 100000 in
theorem impl_RunLengths.calls (k : Nat) (a0 : ByteArray) (r1 : List Int) (r2 : Bool) (w : World) (h : impl_RunLengths.f k a0 = some (r1,r2)) :
  Calls Tryd.prog 14 #[.string a0] w fun e w' => ∃ v0_ : Value,e = .returned (.tuple #[v0_,.bool r2]) ∧ Kd.R (Kd.int .i64) 2 w' w.heap.size (fun _ => True) v0_ r1 ∧ Below w.heap.size w w' := by
 have HB := zH (Below.refl w.heap.size w); have H : ((impl_IsBits.f a0).bind fun t391 => (if t391 = true then ((impl_runLengths.f k a0).bind fun t392 => (some (t392,true))) else (some (([] : List Int),false)))) = some (r1,r2) := h; clear h; replace H := zG.mp H; obtain ⟨t391,A20,H⟩ := H; replace H : (if t391 = true then ((impl_runLengths.f k a0).bind fun t392 => (some (t392,true))) else (some (([] : List Int),false))) = some (r1,r2) := H; have A2 := zH A20; clear A20; by_cases c3 : t391 = true
 ·subst c3; (have H1 : ((impl_runLengths.f k a0).bind fun t392 => (some (t392,true))) = some (r1,r2) := by rw [if_pos rfl] at H; exact H); clear H; have H := H1; clear H1; replace H := zG.mp H; obtain ⟨t392,A40,H⟩ := H; replace H : (some (t392,true)) = some (r1,r2) := H; have A4 := zH A40; clear A40; simp only [Option.some.injEq,Prod.mk.injEq] at H; obtain ⟨rfl,rfl⟩ := H; go_enter Tryd.func14,Tryd.ntmps14; (go_wp2_with (first | ((with_reducible refine gate_callee (f := 29) rfl ?_); refine goesL_ (some 5) rfl rfl Tryd.func29 (by kernel_rfl) rfl #[.string a0] rfl b14_1 ?_; (with_reducible refine (impl_IsBits.calls a0 true _ A2.out).mono ?_); rintro e w5 ⟨rfl,hb⟩; refine ⟨_,rfl,?_⟩; have n0_ := zH (below_step b14_0 hb); clear HB; have HB := n0_; clear n0_; (try clear hb); (try clear hb2); (try clear hk); (try clear hi)) | ((with_reducible refine gate_callee (f := 32) rfl ?_); refine goesL_ (some 8) rfl rfl Tryd.func32 (by kernel_rfl) rfl #[.string a0] rfl b14_1 ?_; (with_reducible refine (impl_runLengths.calls k a0 t392 _ A4.out).mono ?_); rintro e w6 ⟨v393,rfl,ho0,hb⟩; refine ⟨_,rfl,?_⟩; have n0_ := zH (Kd.R_lower ho0 (below_size b14_0)); have n1_ := zH (below_step b14_0 hb); clear HB; have HO394 := n0_; have HB := n1_; clear n0_ n1_; (try clear hb); (try clear hb2); (try clear hk); (try clear hi); (try clear ho0)))); go_ret2; exact ⟨_,b14_3,by (with_reducible repeat (first | apply Kd.R_alloc | apply Kd.R_drewN | apply Kd.R_drew)); exact HO394.out,b14_0⟩
 ·replace c3 := Bool.eq_false_iff.mpr c3; subst c3; (have H1 : (some (([] : List Int),false)) = some (r1,r2) := by rw [if_neg (show ¬ (false = true) by decide)] at H; exact H); clear H; have H := H1; clear H1; simp only [Option.some.injEq,Prod.mk.injEq] at H; obtain ⟨rfl,rfl⟩ := H; go_enter Tryd.func14,Tryd.ntmps14; (go_wp2_with (first | ((with_reducible refine gate_callee (f := 29) rfl ?_); refine goesL_ (some 5) rfl rfl Tryd.func29 (by kernel_rfl) rfl #[.string a0] rfl b14_1 ?_; (with_reducible refine (impl_IsBits.calls a0 false _ A2.out).mono ?_); rintro e w7 ⟨rfl,hb⟩; refine ⟨_,rfl,?_⟩; have n0_ := zH (below_step b14_0 hb); clear HB; have HB := n0_; clear n0_; (try clear hb); (try clear hb2); (try clear hk); (try clear hi)))); go_ret2; exact ⟨_,b14_3,by first | exact Kd.R_nil _ _ _ _ _ | exact Kd.N_nil _ _ _ _ _ | exact Kd.V_nil _ _ _ _ _ | exact Kd.Q_nil _ _ _ _ _ | exact Kd.S_nil _ _ _ _ _,b14_0⟩

/-! ### laws_b10Nums: function 16 -/
def laws_b10Nums.l0 : Nat → List Int → List Int → Int → Option (Bool)
 | 0,_,_,_ => none
 | k + 1,x0,x1,x5 => if x5 < (x0.length : Int) then (if 0 ≤ x5 then (if x5 < (x1.length : Int) then (if (rd x0 x5) = (rd x1 x5) then (laws_b10Nums.l0 k x0 x1 (wrap64 (x5 + 1))) else (some false)) else (none)) else (none)) else (some true)
def laws_b10Nums.f (k : Nat) (l0 : List Int) (l1 : List Int) : Option (Bool) := if (l0.length : Int) = (l1.length : Int) then (laws_b10Nums.l0 k l0 l1 0) else (some false)
set_option maxHeartbeats 8000000 in
set_option maxRecDepth 100000 in
theorem laws_b10Nums.calls (k : Nat) (A0 : Option Addr) (c0 : Nat) (l0 : List Int) (A1 : Option Addr) (c1 : Nat) (l1 : List Int) (r : Bool) (w : World) (hr0 : Kd.C (Kd.int .i64) w A0 l0.length l0) (hc0 : l0.length ≤ c0) (hr1 : Kd.C (Kd.int .i64) w A1 l1.length l1) (hc1 : l1.length ≤ c1) (h : laws_b10Nums.f k l0 l1 = some r) :
  Calls Tryd.prog 16 #[.slice A0 l0.length c0,.slice A1 l1.length c1] w fun e w' => e = .returned (.bool r) ∧ Drawn0 w w' := by
 have HR0 := zH hr0; have HC0 := zH hc0; clear hr0 hc0; have HR1 := zH hr1; have HC1 := zH hc1; clear hr1 hc1; have H : (if (l0.length : Int) = (l1.length : Int) then (laws_b10Nums.l0 k l0 l1 0) else (some false)) = some r := h; clear h; by_cases c3 : (l0.length : Int) = (l1.length : Int)
 ·rw [if_pos c3] at H; have c3b0 : ((l0.length : Int) == (l1.length : Int)) = true := beq_iff_eq.mpr c3; have c3b1 : ((l0.length : Int) != (l1.length : Int)) = false := bne_eq_false_iff_eq.mpr c3; (have c3b2 : (l0.length == l1.length) = true := by first | simpa using c3 | (simp at c3 ⊢; omega)); clear c3; have H' := zH H; clear H; go_enter Tryd.func16,Tryd.ntmps16; go_wp2; (repeat (go_quiet (fail); try go_wp2)); go_loopg [5] k (fun kq v5 w' => ∃ (x5_1 : Int),v5 = .int .i64 x5_1 ∧ Aside0 (laws_b10Nums.l0 kq l0 l1 x5_1 = some r) ∧ Aside0 (kq ≤ k) ∧ Drawn0 w w')
  case atStart => exact ⟨(0),b14_5,H',⟨Nat.le_refl _⟩,b14_4⟩
  case round =>
   clear H'; (try clear c1);(try clear p2);(try clear c3);(try clear c3b0);(try clear c3b1);(try clear c3b2); obtain ⟨x5_1,rfl,HA,HK1,⟨m1,rfl⟩⟩ := hrel
   cases gk with
   | zero => exact absurd HA.out (by simp [laws_b10Nums.l0])
   | succ k1 =>
    have H := HA.out; clear HA; simp only [laws_b10Nums.l0] at H; by_cases c4 : x5_1 < (l0.length : Int)
    ·rw [if_pos c4] at H; have c4b0 : decide (x5_1 < (l0.length : Int)) = true := decide_eq_true c4; clear c4; by_cases c5 : 0 ≤ x5_1
     ·rw [if_pos c5] at H; have c5b0 : decide (0 ≤ x5_1) = true := decide_eq_true c5; clear c5; by_cases c6 : x5_1 < (l1.length : Int)
      ·rw [if_pos c6] at H; have c6b0 : decide (x5_1 < (l1.length : Int)) = true := decide_eq_true c6; clear c6; by_cases c7 : (rd l0 x5_1) = (rd l1 x5_1)
       ·rw [if_pos c7] at H; have c7b0 : ((rd l0 x5_1) == (rd l1 x5_1)) = true := beq_iff_eq.mpr c7; have c7b1 : ((rd l0 x5_1) != (rd l1 x5_1)) = false := bne_eq_false_iff_eq.mpr c7; clear c7; have H' := zH H; clear H; have p395 : 0 ≤ (x5_1 : Int) := of_decide_eq_true b14_2; have q395 : x5_1 < (l0.length : Int) := of_decide_eq_true b14_2; obtain ⟨ad395,e395,hx395_0⟩ := Kd.at_int HR0.out x5_1 p395 q395; cases e395; replace p395 := eq_true p395; replace q395 := eq_true q395; have p396 : 0 ≤ (x5_1 : Int) := of_decide_eq_true b14_2; have q396 : x5_1 < (l1.length : Int) := of_decide_eq_true b14_2; obtain ⟨ad396,e396,hx396_0⟩ := Kd.at_int HR1.out x5_1 p396 q396; cases e396; replace p396 := eq_true p396; replace q396 := eq_true q396; go_wp2; (repeat (go_quiet (fail); try go_wp2)); go_roundg k1
        case measure => have := HK1.out; omega
        case rel => exact ⟨(wrap64 (x5_1 + 1)),b14_5,H',⟨by have := HK1.out; omega⟩,b14_4⟩
       ·rw [if_neg c7] at H; have c7b0 : ((rd l0 x5_1) == (rd l1 x5_1)) = false := beq_eq_false_iff_ne.mpr c7; have c7b1 : ((rd l0 x5_1) != (rd l1 x5_1)) = true := bne_iff_ne.mpr c7; obtain rfl := Option.some.inj H; have p395 : 0 ≤ (x5_1 : Int) := of_decide_eq_true b14_2; have q395 : x5_1 < (l0.length : Int) := of_decide_eq_true b14_2; obtain ⟨ad395,e395,hx395_0⟩ := Kd.at_int HR0.out x5_1 p395 q395; cases e395; replace p395 := eq_true p395; replace q395 := eq_true q395; have p396 : 0 ≤ (x5_1 : Int) := of_decide_eq_true b14_2; have q396 : x5_1 < (l1.length : Int) := of_decide_eq_true b14_2; obtain ⟨ad396,e396,hx396_0⟩ := Kd.at_int HR1.out x5_1 p396 q396; cases e396; replace p396 := eq_true p396; replace q396 := eq_true q396; go_wp2; (repeat (go_quiet (fail); try go_wp2)); go_ret; exact ⟨b14_5,b14_4⟩
      ·rw [if_neg c6] at H; exact absurd H (by simp)
     ·rw [if_neg c5] at H; exact absurd H (by simp)
    ·rw [if_neg c4] at H; have c4b0 : decide (x5_1 < (l0.length : Int)) = false := decide_eq_false c4; clear c4; obtain rfl := Option.some.inj H; go_wp2; (repeat (go_quiet (fail); try go_wp2)); go_ret; exact ⟨b14_5,b14_4⟩
 ·rw [if_neg c3] at H; have c3b0 : ((l0.length : Int) == (l1.length : Int)) = false := beq_eq_false_iff_ne.mpr c3; have c3b1 : ((l0.length : Int) != (l1.length : Int)) = true := bne_iff_ne.mpr c3; (have c3b2 : (l0.length == l1.length) = false := by first | simpa using c3 | (simp at c3 ⊢; omega)); obtain rfl := Option.some.inj H; go_enter Tryd.func16,Tryd.ntmps16; go_wp2; (repeat (go_quiet (fail); try go_wp2)); go_ret; exact ⟨b14_5,b14_4⟩

end Go.Proofs.YtegeaoiclepkkabDoor.QFnBlocks

-- mini3
