/-
Each Go function that this text names answers as the Lean function beside it says,wherever that one answers; conditions: the arguments lie in memory as each theorem states it.
-/
import Derived.Test.YtegeaoiclepkkabDoorQFnCommasx0
import Derived.Test.YtegeaoiclepkkabDoorQFnCommasx1
import Derived.Test.YtegeaoiclepkkabDoorQFnCommasx7
namespace Go.Proofs.YtegeaoiclepkkabDoor.QFnCommas
open Go.RowKit Go.Proofs.YtegeaoiclepkkabDoorW.PrintWords Go.Proofs.YtegeaoiclepkkabDoorW.PrintLast Go.Proofs.YtegeaoiclepkkabDoorW.PrintMore
attribute [local go_sem] max2_int min2_int max_two min_two max_three min_three max_four min_four   -- for this text's walks alone
set_option linter.unusedVariables false
set_option linter.unusedSimpArgs false
theorem b8_0 {P : Prop} (h : P := by repeat (first | (with_reducible first | exact HB.out | apply below_alloc | apply pw_below_drewN | apply below_drew1 | refine below_set ?_ GE0.out) | exact HB.out)) : P := h
theorem b8_1 {P : Prop} (h : P := by (with_reducible repeat (first | refine blk_drewN ?_ _ | refine blk_drew ?_ | refine blk_alloc ?_ _)); exact BK0.out) : P := h
theorem b8_2 {P : Prop} (h : P := by first | (with_reducible assumption) | assumption) : P := h
theorem b8_3 {P : Prop} (h : P := by (try simp only [List.map_toArray,List.map_cons,List.map_nil]); first | done | rfl | (simp only [List.length_drop,List.length_take]; rfl)) : P := h
theorem b8_4 {P : Prop} (h : P := by (try simp only [List.map_toArray,List.map_cons,List.map_nil]); first | done | (simp only [hji12]; rfl) | rfl | (simp only [List.length_drop,List.length_take]; rfl)) : P := h
theorem b8_5 {P : Prop} (h : P := by first | rfl | (simp; done) | (simp [*]; done)) : P := h
theorem b8_6 {P : Prop} (h : P := by rw [← hq_]; exact (by repeat (first | (with_reducible first | exact HB.out | apply below_alloc | apply pw_below_drewN | apply below_drew1 | refine below_set ?_ GE0.out) | exact HB.out))) : P := h
theorem b8_7 {P : Prop} (h : P := by rw [← hq_]; exact (by (with_reducible repeat (first | refine blk_drewN ?_ _ | refine blk_drew ?_ | refine blk_alloc ?_ _)); exact BK0.out)) : P := h
theorem b8_8 {P : Prop} (h : P := by first | rfl | (simp [errW_none,errW_some] <;> rfl) | (simp [*,errW_none,errW_some] <;> rfl)) : P := h

/-! ### spec_l03Encode: function 39 -/
def spec_l03Encode.l0 : Nat → Int → List Int → ByteArray → Int → Int → Int → List ByteArray → List ByteArray → Option (ByteArray × Int × Bool)
 | 0,_,_,_,_,_,_,_,_ => none
 | k + 1,x1,x2,x9,x10,x1000,x1001,x1002,x1003 => if x10 < (x2.length : Int) then (if 0 ≤ x10 then (if 0 ≤ (IntKind.u64.wrap (x1000)) then ((spec_l00In.f (rd x2 x10) 0 (wrap64 ((shl .i64 1 (IntKind.u64.wrap (x1000))) - 1))).bind fun t271 => (if t271 = true then (if x1 < 0 then ((spec_l03List_neg.f x1000 x1001 x1002 x1003 x1).bind fun _ => (if 0 ≤ (rd x2 x10) then (if (rd x2 x10) < (x1002.length : Int) then (if x9.size + (rdOf ByteArray.empty x1002 (rd x2 x10)).size ≤ 9223372036854775807 then ((spec_l03Next.f k x1 (rdOf ByteArray.empty x1002 (rd x2 x10))).bind fun t274 => (spec_l03Encode.l0 k t274 x2 (x9 ++ (rdOf ByteArray.empty x1002 (rd x2 x10))) (wrap64 (x10 + 1)) x1000 x1001 x1002 x1003)) else (none)) else (none)) else (none))) else ((spec_l03List_pos.f x1000 x1001 x1002 x1003 x1).bind fun _ => (if 0 ≤ (rd x2 x10) then (if (rd x2 x10) < (x1003.length : Int) then (if x9.size + (rdOf ByteArray.empty x1003 (rd x2 x10)).size ≤ 9223372036854775807 then ((spec_l03Next.f k x1 (rdOf ByteArray.empty x1003 (rd x2 x10))).bind fun t277 => (spec_l03Encode.l0 k t277 x2 (x9 ++ (rdOf ByteArray.empty x1003 (rd x2 x10))) (wrap64 (x10 + 1)) x1000 x1001 x1002 x1003)) else (none)) else (none)) else (none)))) else (some ((⟨#[]⟩ : ByteArray),0,false)))) else (none)) else (none)) else (some (x9,x1,true))
def spec_l03Encode.f (k : Nat) (a0_0 : Int) (a0_1 : Int) (l0_2 : List ByteArray) (l0_3 : List ByteArray) (a1 : Int) (l2 : List Int) : Option (ByteArray × Int × Bool) := if a0_1 = 0 then (none) else (if (l2.length : Int) > (wrap64 (Int.tdiv (400 : Int) a0_1)) then (some ((⟨#[]⟩ : ByteArray),0,false)) else (spec_l03Encode.l0 k a1 l2 (⟨#[]⟩ : ByteArray) 0 a0_0 a0_1 l0_2 l0_3))
def spec_l03Encode.T7 : Bool × List (List Nat × List Nat) := (true,[([],[]),([],[]),([0,1],[0,1]),([2],[2]),([],[]),([4],[4]),([5],[5]),([6],[6]),([7],[7]),([8],[8]),([9],[9]),([3,10],[3,10]),([11],[11])])
def spec_l03Encode.B7 : List Nat := [0,0,3,7,0,16,48,112,240,496,1008,2047,4095]
theorem spec_l03Encode.tab7 : rtab .any (opsOf Tryd.f39 7) = spec_l03Encode.T7 := by kernel_rfl
theorem spec_l03Encode.bits7 : waitsOk spec_l03Encode.T7.2 spec_l03Encode.B7 = true := by kernel_rfl
def spec_l03Encode.T9 : Bool × List (List Nat × List Nat) := (true,[([],[]),([],[]),([0,1],[0,1]),([],[]),([],[]),([3,4],[3,4]),([5],[5]),([2,6],[2,6]),([7],[7]),([8,2,0,1,2,3,4,5,6,7,8],[8])])
def spec_l03Encode.B9 : List Nat := [0,0,3,0,0,24,56,127,255,511]
theorem spec_l03Encode.tab9 : rtab .any (opsOf Tryd.f39 9) = spec_l03Encode.T9 := by kernel_rfl
theorem spec_l03Encode.bits9 : waitsOk spec_l03Encode.T9.2 spec_l03Encode.B9 = true := by kernel_rfl
set_option maxHeartbeats 8000000 in
set_option maxRecDepth 100000 in
theorem spec_l03Encode.calls (k : Nat) (g0 : Nat) (a0_0 : Int) (a0_1 : Int) (A0_2 : Option Addr) (c0_2 : Nat) (l0_2 : List ByteArray) (A0_3 : Option Addr) (c0_3 : Nat) (l0_3 : List ByteArray) (a1 : Int) (A2 : Option Addr) (c2 : Nat) (l2 : List Int) (r1 : ByteArray) (r2 : Int) (r3 : Bool) (w : World) (hb0_ : w.heap[g0]? = some (.cells #[.int .i64 a0_0,.int .i64 a0_1,.slice A0_2 l0_2.length c0_2,.slice A0_3 l0_3.length c0_3] 26 (0,0))) (hr0_2 : Kd.C Kd.string w A0_2 l0_2.length l0_2) (hc0_2 : l0_2.length ≤ c0_2) (hr0_3 : Kd.C Kd.string w A0_3 l0_3.length l0_3) (hc0_3 : l0_3.length ≤ c0_3) (hr2 : Kd.C (Kd.int .i64) w A2 l2.length l2) (hc2 : l2.length ≤ c2) (h : spec_l03Encode.f k a0_0 a0_1 l0_2 l0_3 a1 l2 = some (r1,r2,r3)) :
  Calls Tryd.prog 39 #[.pointer (some ⟨g0,0,none⟩),.int .i64 a1,.slice A2 l2.length c2] w fun e w' => e = .returned (.tuple #[.string r1,.int .i64 r2,.bool r3]) ∧ Below w.heap.size w w' := by
 have HR0_2 := Aside0.mk hr0_2
 have HC0_2 := Aside0.mk hc0_2
 clear hr0_2 hc0_2
 have HR0_3 := Aside0.mk hr0_3
 have HC0_3 := Aside0.mk hc0_3
 clear hr0_3 hc0_3
 have HR2 := Aside0.mk hr2
 have HC2 := Aside0.mk hc2
 clear hr2 hc2
 have BK0 := Aside0.mk hb0_
 clear hb0_
 have HB := Aside0.mk (Below.refl w.heap.size w)
 have H : (if a0_1 = 0 then (none) else (if (l2.length : Int) > (wrap64 (Int.tdiv (400 : Int) a0_1)) then (some ((⟨#[]⟩ : ByteArray),0,false)) else (spec_l03Encode.l0 k a1 l2 (⟨#[]⟩ : ByteArray) 0 a0_0 a0_1 l0_2 l0_3))) = some (r1,r2,r3) := h
 clear h
 by_cases c4 : a0_1 = 0
 ·rw [if_pos c4] at H
  exact absurd H (by simp)
 ·rw [if_neg c4] at H
  have c4b0 : (a0_1 == 0) = false := beq_eq_false_iff_ne.mpr c4
  have c4b1 : (a0_1 != 0) = true := bne_iff_ne.mpr c4
  by_cases c5 : (l2.length : Int) > (wrap64 (Int.tdiv (400 : Int) a0_1))
  ·rw [if_pos c5] at H
   have c5b0 : decide ((wrap64 (Int.tdiv (400 : Int) a0_1)) < (l2.length : Int)) = true := decide_eq_true c5
   clear c5
   simp only [Option.some.injEq,Prod.mk.injEq] at H
   obtain ⟨rfl,rfl,rfl⟩ := H
   have hcz6_0 : w.cell? ⟨g0,0,none⟩ = some (.int .i64 a0_0) := (blk_cell BK0.out 0).trans rfl
   have hcz6_1 : w.cell? ⟨g0,1,none⟩ = some (.int .i64 a0_1) := (blk_cell BK0.out 1).trans rfl
   have hcz6_2 : w.cell? ⟨g0,2,none⟩ = some (.slice A0_2 l0_2.length c0_2) := (blk_cell BK0.out 2).trans rfl
   have hcz6_3 : w.cell? ⟨g0,3,none⟩ = some (.slice A0_3 l0_3.length c0_3) := (blk_cell BK0.out 3).trans rfl
   have hfz6_0 := blk_frozen BK0.out 0
   have hfz6_1 := blk_frozen BK0.out 1
   have hfz6_2 := blk_frozen BK0.out 2
   have hfz6_3 := blk_frozen BK0.out 3
   go_enter Tryd.func39,Tryd.ntmps39
   go_wp2
   go_ret3
   exact ⟨b8_8,b8_0⟩
  ·rw [if_neg c5] at H
   have c5b0 : decide ((wrap64 (Int.tdiv (400 : Int) a0_1)) < (l2.length : Int)) = false := decide_eq_false c5
   clear c5
   have H' := Aside0.mk H
   clear H
   have hcz7_0 : w.cell? ⟨g0,0,none⟩ = some (.int .i64 a0_0) := (blk_cell BK0.out 0).trans rfl
   have hcz7_1 : w.cell? ⟨g0,1,none⟩ = some (.int .i64 a0_1) := (blk_cell BK0.out 1).trans rfl
   have hcz7_2 : w.cell? ⟨g0,2,none⟩ = some (.slice A0_2 l0_2.length c0_2) := (blk_cell BK0.out 2).trans rfl
   have hcz7_3 : w.cell? ⟨g0,3,none⟩ = some (.slice A0_3 l0_3.length c0_3) := (blk_cell BK0.out 3).trans rfl
   have hfz7_0 := blk_frozen BK0.out 0
   have hfz7_1 := blk_frozen BK0.out 1
   have hfz7_2 := blk_frozen BK0.out 2
   have hfz7_3 := blk_frozen BK0.out 3
   go_enter Tryd.func39,Tryd.ntmps39
   go_wp2
   go_loopg [1,9,10] k (fun kq v1 v9 v10 w' => ∃ (x1_1 : Int) (x9_1 : ByteArray) (x10_1 : Int),v1 = .int .i64 x1_1 ∧ v9 = .string x9_1 ∧ v10 = .int .i64 x10_1 ∧ Aside0 (spec_l03Encode.l0 kq x1_1 l2 x9_1 x10_1 a0_0 a0_1 l0_2 l0_3 = some (r1,r2,r3)) ∧ Aside0 (kq ≤ k) ∧ Aside0 (w'.heap[g0]? = some (.cells #[.int .i64 a0_0,.int .i64 a0_1,(.slice A0_2 l0_2.length c0_2),(.slice A0_3 l0_3.length c0_3)] 26 (0,0))) ∧ Aside0 (Below w.heap.size w w'))
   case atStart => exact ⟨(a1),((⟨#[]⟩ : ByteArray)),(0),b8_5,b8_5,b8_5,H',⟨Nat.le_refl _⟩,⟨b8_1⟩,⟨b8_0⟩⟩
   case round =>
    clear H'
    (try clear c2);(try clear p2);(try clear c3);(try clear c4);(try clear c4b0);(try clear c4b1);(try clear c5);(try clear c5b0);(try clear p6);(try clear hcz6_0);(try clear hcz6_1);(try clear hcz6_2);(try clear hcz6_3);(try clear hcz7_0);(try clear hcz7_1);(try clear hcz7_2);(try clear hcz7_3);(try clear hfz6_0);(try clear hfz6_1);(try clear hfz6_2);(try clear hfz6_3);(try clear hfz7_0);(try clear hfz7_1);(try clear hfz7_2);(try clear hfz7_3)
    obtain ⟨x1_1,x9_1,x10_1,rfl,rfl,rfl,HA,HK1,BK0,HB⟩ := hrel
    cases gk with
    | zero => exact absurd HA.out (by simp [spec_l03Encode.l0])
    | succ k1 =>
     have H := HA.out
     clear HA
     simp only [spec_l03Encode.l0] at H
     by_cases c8 : x10_1 < (l2.length : Int)
     ·rw [if_pos c8] at H
      have c8b0 : decide (x10_1 < (l2.length : Int)) = true := decide_eq_true c8
      clear c8
      by_cases c9 : 0 ≤ x10_1
      ·rw [if_pos c9] at H
       have c9b0 : decide (0 ≤ x10_1) = true := decide_eq_true c9
       clear c9
       obtain ⟨ji10,hji10⟩ : ∃ j_ : Int,(IntKind.u64.wrap (a0_0)) = j_ := ⟨_,rfl⟩
       replace H : (if 0 ≤ (ji10) then ((spec_l00In.f (rd l2 x10_1) 0 (wrap64 ((shl .i64 1 (ji10)) - 1))).bind fun t271 => (if t271 = true then (if x1_1 < 0 then ((spec_l03List_neg.f a0_0 a0_1 l0_2 l0_3 x1_1).bind fun _ => (if 0 ≤ (rd l2 x10_1) then (if (rd l2 x10_1) < (l0_2.length : Int) then (if x9_1.size + (rdOf ByteArray.empty l0_2 (rd l2 x10_1)).size ≤ 9223372036854775807 then ((spec_l03Next.f k1 x1_1 (rdOf ByteArray.empty l0_2 (rd l2 x10_1))).bind fun t274 => (spec_l03Encode.l0 k1 t274 l2 (x9_1 ++ (rdOf ByteArray.empty l0_2 (rd l2 x10_1))) (wrap64 (x10_1 + 1)) a0_0 a0_1 l0_2 l0_3)) else (none)) else (none)) else (none))) else ((spec_l03List_pos.f a0_0 a0_1 l0_2 l0_3 x1_1).bind fun _ => (if 0 ≤ (rd l2 x10_1) then (if (rd l2 x10_1) < (l0_3.length : Int) then (if x9_1.size + (rdOf ByteArray.empty l0_3 (rd l2 x10_1)).size ≤ 9223372036854775807 then ((spec_l03Next.f k1 x1_1 (rdOf ByteArray.empty l0_3 (rd l2 x10_1))).bind fun t277 => (spec_l03Encode.l0 k1 t277 l2 (x9_1 ++ (rdOf ByteArray.empty l0_3 (rd l2 x10_1))) (wrap64 (x10_1 + 1)) a0_0 a0_1 l0_2 l0_3)) else (none)) else (none)) else (none)))) else (some ((⟨#[]⟩ : ByteArray),0,false)))) else (none)) = some (r1,r2,r3) := by first | (rw [hji10] at H; exact H) | (simp only [hji10] at H ⊢; exact H)
       by_cases c11 : 0 ≤ (ji10)
       ·rw [if_pos c11] at H
        have c11b0 := eq_true c11
        have c11b1 : decide (0 ≤ (ji10)) = true := decide_eq_true c11
        clear c11
        obtain ⟨ji12,hji12⟩ : ∃ j_ : Int,(shl .i64 1 (ji10)) = j_ := ⟨_,rfl⟩
        replace H : ((spec_l00In.f (rd l2 x10_1) 0 (wrap64 ((ji12) - 1))).bind fun t271 => (if t271 = true then (if x1_1 < 0 then ((spec_l03List_neg.f a0_0 a0_1 l0_2 l0_3 x1_1).bind fun _ => (if 0 ≤ (rd l2 x10_1) then (if (rd l2 x10_1) < (l0_2.length : Int) then (if x9_1.size + (rdOf ByteArray.empty l0_2 (rd l2 x10_1)).size ≤ 9223372036854775807 then ((spec_l03Next.f k1 x1_1 (rdOf ByteArray.empty l0_2 (rd l2 x10_1))).bind fun t274 => (spec_l03Encode.l0 k1 t274 l2 (x9_1 ++ (rdOf ByteArray.empty l0_2 (rd l2 x10_1))) (wrap64 (x10_1 + 1)) a0_0 a0_1 l0_2 l0_3)) else (none)) else (none)) else (none))) else ((spec_l03List_pos.f a0_0 a0_1 l0_2 l0_3 x1_1).bind fun _ => (if 0 ≤ (rd l2 x10_1) then (if (rd l2 x10_1) < (l0_3.length : Int) then (if x9_1.size + (rdOf ByteArray.empty l0_3 (rd l2 x10_1)).size ≤ 9223372036854775807 then ((spec_l03Next.f k1 x1_1 (rdOf ByteArray.empty l0_3 (rd l2 x10_1))).bind fun t277 => (spec_l03Encode.l0 k1 t277 l2 (x9_1 ++ (rdOf ByteArray.empty l0_3 (rd l2 x10_1))) (wrap64 (x10_1 + 1)) a0_0 a0_1 l0_2 l0_3)) else (none)) else (none)) else (none)))) else (some ((⟨#[]⟩ : ByteArray),0,false)))) = some (r1,r2,r3) := by first | (rw [hji12] at H; exact H) | (simp only [hji12] at H ⊢; exact H)
        have hji12_ : (IntKind.i64.wrap (1 * 2 ^ min (ji10).toNat 64)) = ji12 := hji12
        have hji12z : (ji10) ≤ 64 → (IntKind.i64.wrap (1 * 2 ^ (ji10).toNat)) = ji12 := shl_small hji12
        have hji12u : (IntKind.i64.wrap (2 ^ min (ji10).toNat 64)) = ji12 := by have h_ := hji12_; rw [Int.one_mul] at h_; exact h_
        have hji12v : (ji10) ≤ 64 → (IntKind.i64.wrap (2 ^ (ji10).toNat)) = ji12 := fun hle_ => by have h_ := hji12z hle_; rw [Int.one_mul] at h_; exact h_
        have hji12y : (wrap64 (1 * 2 ^ min (ji10).toNat 64)) = ji12 := (i64_w _).symm.trans hji12_
        have hji12x : (ji10) ≤ 64 → (wrap64 (1 * 2 ^ (ji10).toNat)) = ji12 := fun h_ => (i64_w _).symm.trans (hji12z h_)
        replace H := Option.bind_eq_some_iff.mp H
        obtain ⟨t271,A130,H⟩ := H
        replace H : (if t271 = true then (if x1_1 < 0 then ((spec_l03List_neg.f a0_0 a0_1 l0_2 l0_3 x1_1).bind fun _ => (if 0 ≤ (rd l2 x10_1) then (if (rd l2 x10_1) < (l0_2.length : Int) then (if x9_1.size + (rdOf ByteArray.empty l0_2 (rd l2 x10_1)).size ≤ 9223372036854775807 then ((spec_l03Next.f k1 x1_1 (rdOf ByteArray.empty l0_2 (rd l2 x10_1))).bind fun t274 => (spec_l03Encode.l0 k1 t274 l2 (x9_1 ++ (rdOf ByteArray.empty l0_2 (rd l2 x10_1))) (wrap64 (x10_1 + 1)) a0_0 a0_1 l0_2 l0_3)) else (none)) else (none)) else (none))) else ((spec_l03List_pos.f a0_0 a0_1 l0_2 l0_3 x1_1).bind fun _ => (if 0 ≤ (rd l2 x10_1) then (if (rd l2 x10_1) < (l0_3.length : Int) then (if x9_1.size + (rdOf ByteArray.empty l0_3 (rd l2 x10_1)).size ≤ 9223372036854775807 then ((spec_l03Next.f k1 x1_1 (rdOf ByteArray.empty l0_3 (rd l2 x10_1))).bind fun t277 => (spec_l03Encode.l0 k1 t277 l2 (x9_1 ++ (rdOf ByteArray.empty l0_3 (rd l2 x10_1))) (wrap64 (x10_1 + 1)) a0_0 a0_1 l0_2 l0_3)) else (none)) else (none)) else (none)))) else (some ((⟨#[]⟩ : ByteArray),0,false))) = some (r1,r2,r3) := H
        have A13 := Aside0.mk A130
        clear A130
        by_cases c14 : t271 = true
        ·subst c14
         have H1 : (if x1_1 < 0 then ((spec_l03List_neg.f a0_0 a0_1 l0_2 l0_3 x1_1).bind fun _ => (if 0 ≤ (rd l2 x10_1) then (if (rd l2 x10_1) < (l0_2.length : Int) then (if x9_1.size + (rdOf ByteArray.empty l0_2 (rd l2 x10_1)).size ≤ 9223372036854775807 then ((spec_l03Next.f k1 x1_1 (rdOf ByteArray.empty l0_2 (rd l2 x10_1))).bind fun t274 => (spec_l03Encode.l0 k1 t274 l2 (x9_1 ++ (rdOf ByteArray.empty l0_2 (rd l2 x10_1))) (wrap64 (x10_1 + 1)) a0_0 a0_1 l0_2 l0_3)) else (none)) else (none)) else (none))) else ((spec_l03List_pos.f a0_0 a0_1 l0_2 l0_3 x1_1).bind fun _ => (if 0 ≤ (rd l2 x10_1) then (if (rd l2 x10_1) < (l0_3.length : Int) then (if x9_1.size + (rdOf ByteArray.empty l0_3 (rd l2 x10_1)).size ≤ 9223372036854775807 then ((spec_l03Next.f k1 x1_1 (rdOf ByteArray.empty l0_3 (rd l2 x10_1))).bind fun t277 => (spec_l03Encode.l0 k1 t277 l2 (x9_1 ++ (rdOf ByteArray.empty l0_3 (rd l2 x10_1))) (wrap64 (x10_1 + 1)) a0_0 a0_1 l0_2 l0_3)) else (none)) else (none)) else (none)))) = some (r1,r2,r3) := by rw [if_pos rfl] at H; exact H
         clear H
         have H := H1
         clear H1
         by_cases c15 : x1_1 < 0
         ·rw [if_pos c15] at H
          have c15b0 : decide (x1_1 < 0) = true := decide_eq_true c15
          clear c15
          replace H := Option.bind_eq_some_iff.mp H
          obtain ⟨_,A160,H⟩ := H
          replace H : (if 0 ≤ (rd l2 x10_1) then (if (rd l2 x10_1) < (l0_2.length : Int) then (if x9_1.size + (rdOf ByteArray.empty l0_2 (rd l2 x10_1)).size ≤ 9223372036854775807 then ((spec_l03Next.f k1 x1_1 (rdOf ByteArray.empty l0_2 (rd l2 x10_1))).bind fun t274 => (spec_l03Encode.l0 k1 t274 l2 (x9_1 ++ (rdOf ByteArray.empty l0_2 (rd l2 x10_1))) (wrap64 (x10_1 + 1)) a0_0 a0_1 l0_2 l0_3)) else (none)) else (none)) else (none)) = some (r1,r2,r3) := H
          have A16 := Aside0.mk A160
          clear A160
          by_cases c17 : 0 ≤ (rd l2 x10_1)
          ·rw [if_pos c17] at H
           have c17b0 : decide (0 ≤ (rd l2 x10_1)) = true := decide_eq_true c17
           clear c17
           by_cases c18 : (rd l2 x10_1) < (l0_2.length : Int)
           ·rw [if_pos c18] at H
            have c18b0 : decide ((rd l2 x10_1) < (l0_2.length : Int)) = true := decide_eq_true c18
            clear c18
            by_cases c19 : x9_1.size + (rdOf ByteArray.empty l0_2 (rd l2 x10_1)).size ≤ 9223372036854775807
            ·rw [if_pos c19] at H
             have c19b0 := eq_true c19
             have c19b1 : decide (x9_1.size + (rdOf ByteArray.empty l0_2 (rd l2 x10_1)).size ≤ 9223372036854775807) = true := decide_eq_true c19
             try have c19b2 : (9223372036854775807 < x9_1.size + (rdOf ByteArray.empty l0_2 (rd l2 x10_1)).size) = False := eq_false (Nat.not_lt.2 c19)
             replace H := Option.bind_eq_some_iff.mp H
             obtain ⟨t274,A200,H⟩ := H
             replace H : (spec_l03Encode.l0 k1 t274 l2 (x9_1 ++ (rdOf ByteArray.empty l0_2 (rd l2 x10_1))) (wrap64 (x10_1 + 1)) a0_0 a0_1 l0_2 l0_3) = some (r1,r2,r3) := H
             have A20 := Aside0.mk A200
             clear A200
             have H' := Aside0.mk H
             clear H
             try go_wp2
             have n0_ := Aside0.mk (blk_drew BK0.out)
             have n1_ := Aside0.mk (below_drew1 HB.out)
             clear BK0
             clear HB
             have BK0 := n0_
             have HB := n1_
             clear n0_ n1_
             have p270 : 0 ≤ (x10_1 : Int) := of_decide_eq_true b8_2
             have q270 : x10_1 < (l2.length : Int) := of_decide_eq_true b8_2
             obtain ⟨ad270,e270,hx270_0⟩ := Kd.at_int HR2.out x10_1 p270 q270
             have hw270_0 := hx270_0
             cases e270
             replace hx270_0 := (HB.out.cell (World.block_lt_of_cell? w _ hx270_0)).trans hx270_0
             replace p270 := eq_true p270
             replace q270 := eq_true q270
             refine start_ (n := 13) (S := fun w' => w'.cell? ⟨g0,0,none⟩ = some (.int .i64 a0_0) ∧ w'.cell? ⟨g0,1,none⟩ = some (.int .i64 a0_1) ∧ w'.cell? ⟨g0,2,none⟩ = some (.slice A0_2 l0_2.length c0_2) ∧ w'.cell? ⟨g0,3,none⟩ = some (.slice A0_3 l0_3.length c0_3) ∧ w'.cell? (ad270.add (x10_1).toNat) = some (.int .i64 (rd l2 x10_1))) (ds := []) #[false,false,false,false,false,false,false,false,false,false,false,false,false] (by kernel_rfl) rfl rfl ⟨(blk_cell BK0.out 0).trans rfl,(blk_cell BK0.out 1).trans rfl,(blk_cell BK0.out 2).trans rfl,(blk_cell BK0.out 3).trans rfl,((HB.out.cell (World.block_lt_of_cell? w _ hw270_0)).trans hw270_0)⟩ (fun hHeld => ?_); refine with_tabW spec_l03Encode.tab7 spec_l03Encode.bits7 (fun HT_ HW_ => ?_)
             generalize wr.drew = w21 at BK0 HB hx270_0 hHeld ⊢
             refine pure_ (i := 0) (N := some 26) (v := ?_) (a' := ?_) #[true,false,false,false,false,false,false,false,false,false,false,false,false] rfl rfl (any_of HT_.out (by kernel_rfl)) (fun _ _ _ h => h) (Or.inl ⟨by rfl,?_⟩) ?_ ?_
             rotate_left
             ·intro w'
              go_simp
              with_reducible rfl
             rotate_left
             ·simp only [Act.put,List.setIfInBounds_toArray,List.set_cons_zero,List.set_cons_succ,i64_w,i32_w]
              rfl
             refine pure_ (i := 1) (N := some 27) (v := ?_) (a' := ?_) #[true,true,false,false,false,false,false,false,false,false,false,false,false] rfl rfl (any_of HT_.out (by kernel_rfl)) (fun _ _ _ h => h) (Or.inl ⟨by rfl,?_⟩) ?_ ?_
             rotate_left
             ·intro w'
              go_simp
              with_reducible rfl
             rotate_left
             ·simp only [Act.put,List.setIfInBounds_toArray,List.set_cons_zero,List.set_cons_succ,i64_w,i32_w]
              rfl
             refine pure_ (i := 2) (N := some 28) (v := ?_) (a' := ?_) #[true,true,true,false,false,false,false,false,false,false,false,false,false] rfl rfl (any_of HT_.out (by kernel_rfl)) (fun _ _ _ h => h) (Or.inl ⟨by rfl,?_⟩) ?_ ?_
             rotate_left
             ·intro w'
              go_simp
              with_reducible rfl
             rotate_left
             ·simp only [Act.put,List.setIfInBounds_toArray,List.set_cons_zero,List.set_cons_succ,i64_w,i32_w]
              rfl
             refine pure_ (i := 4) (N := some 30) (v := ?_) (a' := ?_) #[true,true,true,false,true,false,false,false,false,false,false,false,false] rfl rfl (any_of HT_.out (by kernel_rfl)) (fun _ _ _ h => h) (Or.inl ⟨by rfl,?_⟩) ?_ ?_
             rotate_left
             ·intro w'
              go_simp
              with_reducible rfl
             rotate_left
             ·simp only [Act.put,List.setIfInBounds_toArray,List.set_cons_zero,List.set_cons_succ,i64_w,i32_w]
              rfl
             refine pure_ (i := 5) (N := some 31) (v := ?_) (a' := ?_) #[true,true,true,false,true,true,false,false,false,false,false,false,false] rfl rfl (any_of HT_.out (by kernel_rfl)) (fun _ _ _ h => h) (Or.inl ⟨by rfl,?_⟩) ?_ ?_
             rotate_left
             ·intro w'
              go_simp
              with_reducible rfl
             rotate_left
             ·simp only [Act.put,List.setIfInBounds_toArray,List.set_cons_zero,List.set_cons_succ,i64_w,i32_w]
              rfl
             refine pure_ (i := 6) (N := some 32) (v := ?_) (a' := ?_) #[true,true,true,false,true,true,true,false,false,false,false,false,false] rfl rfl (any_of HT_.out (by kernel_rfl)) (fun _ _ _ h => h) (Or.inl ⟨by rfl,?_⟩) ?_ ?_
             rotate_left
             ·intro w'
              go_simp
              with_reducible rfl
             rotate_left
             ·simp only [Act.put,List.setIfInBounds_toArray,List.set_cons_zero,List.set_cons_succ,i64_w,i32_w]
              rfl
             refine take_ (i := 3) (N := some 29) (v := ?_) (a' := ?_) #[true,true,true,true,true,true,true,false,false,false,false,false,false] rfl rfl (take_ofW HT_.out HW_.out (by kernel_rfl)) (fun _ _ _ h => h) (Or.inl ⟨by rfl,?_⟩) hHeld ?_ ?_
             rotate_left
             ·rintro w' ⟨s0,s1,s2,s3,s4⟩
              go_simp
              with_reducible rfl
             rotate_left
             ·simp only [Act.put,List.setIfInBounds_toArray,List.set_cons_zero,List.set_cons_succ,i64_w,i32_w]
              rfl
             refine take_ (i := 7) (N := some 33) (v := ?_) (a' := ?_) #[true,true,true,true,true,true,true,true,false,false,false,false,false] rfl rfl (take_ofW HT_.out HW_.out (by kernel_rfl)) (fun _ _ _ h => h) (Or.inl ⟨by rfl,?_⟩) hHeld ?_ ?_
             rotate_left
             ·rintro w' ⟨s0,s1,s2,s3,s4⟩
              go_simp
              with_reducible rfl
             rotate_left
             ·simp only [Act.put,List.setIfInBounds_toArray,List.set_cons_zero,List.set_cons_succ,i64_w,i32_w]
              rfl
             refine pure_ (i := 8) (N := some 34) (v := ?_) (a' := ?_) #[true,true,true,true,true,true,true,true,true,false,false,false,false] rfl rfl (any_of HT_.out (by kernel_rfl)) (fun _ _ _ h => h) (Or.inl ⟨by rfl,?_⟩) ?_ ?_
             rotate_left
             ·intro w'
              go_simp
              with_reducible rfl
             rotate_left
             ·simp only [Act.put,List.setIfInBounds_toArray,List.set_cons_zero,List.set_cons_succ,i64_w,i32_w]
              rfl
             refine pure_ (i := 9) (N := some 35) (v := ?_) (a' := ?_) #[true,true,true,true,true,true,true,true,true,true,false,false,false] rfl rfl (any_of HT_.out (by kernel_rfl)) (fun _ _ _ h => h) (Or.inl ⟨by rfl,?_⟩) ?_ ?_
             rotate_left
             ·intro w'
              go_simp
              with_reducible rfl
             rotate_left
             ·simp only [Act.put,List.setIfInBounds_toArray,List.set_cons_zero,List.set_cons_succ,i64_w,i32_w]
              rfl
             refine pure_ (i := 10) (N := some 36) (v := ?_) (a' := ?_) #[true,true,true,true,true,true,true,true,true,true,true,false,false] rfl rfl (any_of HT_.out (by kernel_rfl)) (fun _ _ _ h => h) (Or.inl ⟨by rfl,?_⟩) ?_ ?_
             rotate_left
             ·intro w'
              go_simp
              with_reducible rfl
             rotate_left
             ·simp only [Act.put,List.setIfInBounds_toArray,List.set_cons_zero,List.set_cons_succ,i64_w,i32_w]
              rfl
             refine one_ (i := 11) (N := some 37) #[true,true,true,true,true,true,true,true,true,true,true,true,false] rfl rfl (one_of HT_.out (by kernel_rfl)) (by decide) (fun K hK => ?_)
             refine goes_ Tryd.func43 (by kernel_rfl) rfl #[.int .i64 (rd l2 x10_1),.int .i64 0,.int .i64 (wrap64 ((ji12) - 1))] (by rfl) rfl rfl b8_4 ?_
             with_reducible refine (spec_l00In.calls (rd l2 x10_1) 0 (wrap64 ((ji12) - 1)) true _ A13.out).mono ?_
             rintro e w' ⟨rfl,⟨nd,rfl⟩⟩
             refine ⟨_,rfl,?_⟩
             refine hK.out _ _ ⟨(blk_cell BK0.out 0).trans rfl,(blk_cell BK0.out 1).trans rfl,(blk_cell BK0.out 2).trans rfl,(blk_cell BK0.out 3).trans rfl,((HB.out.cell (World.block_lt_of_cell? w _ hw270_0)).trans hw270_0)⟩ (fun hHeld => ?_)
             clear hK K
             refine norm_ (a' := ?_) ?_ ?_
             rotate_left
             ·show Act.put _ (some 37) _ = _
              simp only [Act.put,List.setIfInBounds_toArray,List.set_cons_zero,List.set_cons_succ,i64_w,i32_w]
              rfl
             refine pure_ (i := 12) (N := some 38) (v := ?_) (a' := ?_) #[true,true,true,true,true,true,true,true,true,true,true,true,true] rfl rfl (any_of HT_.out (by kernel_rfl)) (fun _ _ _ h => h) (Or.inl ⟨by rfl,?_⟩) ?_ ?_
             rotate_left
             ·intro w'
              go_simp
              with_reducible rfl
             rotate_left
             ·simp only [Act.put,List.setIfInBounds_toArray,List.set_cons_zero,List.set_cons_succ,i64_w,i32_w]
              rfl
             refine done_ (done_of HT_.out (by kernel_rfl)) ?_
             try go_wp2
             (try (rw [drewN_self w21]; generalize hq_ : World.drewN w21 _ = w21; have n0_ : Aside0 (w21.heap[g0]? = some (.cells #[.int .i64 a0_0,.int .i64 a0_1,.slice A0_2 l0_2.length c0_2,.slice A0_3 l0_3.length c0_3] 26 (0,0))) := ⟨b8_7⟩; have n1_ : Aside0 (Below w.heap.size w w21) := ⟨b8_6⟩; clear BK0 HB hq_; have BK0 := n0_; have HB := n1_; clear n0_ n1_))
             have n0_ := Aside0.mk (blk_drew BK0.out)
             have n1_ := Aside0.mk (below_drew1 HB.out)
             clear BK0
             clear HB
             have BK0 := n0_
             have HB := n1_
             clear n0_ n1_
             have p272 : 0 ≤ (x10_1 : Int) := of_decide_eq_true b8_2
             have q272 : x10_1 < (l2.length : Int) := of_decide_eq_true b8_2
             obtain ⟨ad272,e272,hx272_0⟩ := Kd.at_int HR2.out x10_1 p272 q272
             have hw272_0 := hx272_0
             obtain rfl : ad270 = ad272 := (by injection e272)
             replace hx272_0 := (HB.out.cell (World.block_lt_of_cell? w _ hx272_0)).trans hx272_0
             replace p272 := eq_true p272
             replace q272 := eq_true q272
             have p273 : 0 ≤ ((rd l2 x10_1) : Int) := of_decide_eq_true b8_2
             have q273 : (rd l2 x10_1) < (l0_2.length : Int) := of_decide_eq_true b8_2
             obtain ⟨ad273,e273,hx273_0⟩ := Kd.at_string HR0_2.out (rd l2 x10_1) p273 q273
             have hw273_0 := hx273_0
             cases e273
             replace hx273_0 := (HB.out.cell (World.block_lt_of_cell? w _ hx273_0)).trans hx273_0
             replace p273 := eq_true p273
             replace q273 := eq_true q273
             refine start_ (n := 10) (S := fun w' => w'.cell? (ad270.add (x10_1).toNat) = some (.int .i64 (rd l2 x10_1)) ∧ w'.cell? (ad273.add ((rd l2 x10_1)).toNat) = some (.string (rdOf ByteArray.empty l0_2 (rd l2 x10_1)))) (ds := []) #[false,false,false,false,false,false,false,false,false,false] (by kernel_rfl) rfl rfl ⟨((HB.out.cell (World.block_lt_of_cell? w _ hw272_0)).trans hw272_0),((HB.out.cell (World.block_lt_of_cell? w _ hw273_0)).trans hw273_0)⟩ (fun hHeld => ?_); refine with_tabW spec_l03Encode.tab9 spec_l03Encode.bits9 (fun HT_ HW_ => ?_)
             generalize w21.drew = w22 at BK0 HB hx272_0 hx273_0 hHeld ⊢
             refine pure_ (i := 0) (N := some 39) (v := ?_) (a' := ?_) #[true,false,false,false,false,false,false,false,false,false] rfl rfl (any_of HT_.out (by kernel_rfl)) (fun _ _ _ h => h) (Or.inl ⟨by rfl,?_⟩) ?_ ?_
             rotate_left
             ·intro w'
              go_simp
              with_reducible rfl
             rotate_left
             ·simp only [Act.put,List.setIfInBounds_toArray,List.set_cons_zero,List.set_cons_succ,i64_w,i32_w]
              rfl
             refine pure_ (i := 1) (N := some 40) (v := ?_) (a' := ?_) #[true,true,false,false,false,false,false,false,false,false] rfl rfl (any_of HT_.out (by kernel_rfl)) (fun _ _ _ h => h) (Or.inl ⟨by rfl,?_⟩) ?_ ?_
             rotate_left
             ·intro w'
              go_simp
              with_reducible rfl
             rotate_left
             ·simp only [Act.put,List.setIfInBounds_toArray,List.set_cons_zero,List.set_cons_succ,i64_w,i32_w]
              rfl
             refine pure_ (i := 3) (N := some 42) (v := ?_) (a' := ?_) #[true,true,false,true,false,false,false,false,false,false] rfl rfl (any_of HT_.out (by kernel_rfl)) (fun _ _ _ h => h) (Or.inl ⟨by rfl,?_⟩) ?_ ?_
             rotate_left
             ·intro w'
              go_simp
              with_reducible rfl
             rotate_left
             ·simp only [Act.put,List.setIfInBounds_toArray,List.set_cons_zero,List.set_cons_succ,i64_w,i32_w]
              rfl
             refine pure_ (i := 4) (N := some 43) (v := ?_) (a' := ?_) #[true,true,false,true,true,false,false,false,false,false] rfl rfl (any_of HT_.out (by kernel_rfl)) (fun _ _ _ h => h) (Or.inl ⟨by rfl,?_⟩) ?_ ?_
             rotate_left
             ·intro w'
              go_simp
              with_reducible rfl
             rotate_left
             ·simp only [Act.put,List.setIfInBounds_toArray,List.set_cons_zero,List.set_cons_succ,i64_w,i32_w]
              rfl
             refine pure_ (i := 5) (N := some 44) (v := ?_) (a' := ?_) #[true,true,false,true,true,true,false,false,false,false] rfl rfl (any_of HT_.out (by kernel_rfl)) (fun _ _ _ h => h) (Or.inl ⟨by rfl,?_⟩) ?_ ?_
             rotate_left
             ·intro w'
              go_simp
              with_reducible rfl
             rotate_left
             ·simp only [Act.put,List.setIfInBounds_toArray,List.set_cons_zero,List.set_cons_succ,i64_w,i32_w]
              rfl
             refine take_ (i := 6) (N := some 45) (v := ?_) (a' := ?_) #[true,true,false,true,true,true,true,false,false,false] rfl rfl (take_ofW HT_.out HW_.out (by kernel_rfl)) (fun _ _ _ h => h) (Or.inl ⟨by rfl,?_⟩) hHeld ?_ ?_
             rotate_left
             ·rintro w' ⟨s0,s1⟩
              go_simp
              with_reducible rfl
             rotate_left
             ·simp only [Act.put,List.setIfInBounds_toArray,List.set_cons_zero,List.set_cons_succ,i64_w,i32_w]
              rfl
             refine one_ (i := 2) (N := some 41) #[true,true,true,true,true,true,true,false,false,false] rfl rfl (one_of HT_.out (by kernel_rfl)) (by decide) (fun K hK => ?_)
             refine goes_ Tryd.func54 (by kernel_rfl) rfl #[.pointer (some ⟨g0,0,none⟩),.int .i64 x1_1] (by rfl) rfl rfl b8_3 ?_
             with_reducible refine (spec_l03List_neg.calls g0 a0_0 a0_1 (some ad273) c0_2 l0_2 A0_3 c0_3 l0_3 x1_1  _ ?side1 ?side2 ?side3 ?side4 ?side5 A16.out).mono ?_
             (case side1 => exact by (with_reducible repeat (first | refine blk_drewN ?_ _ | refine blk_drew ?_ | refine blk_alloc ?_ _)); exact BK0.out)
             (case side2 => repeat (first | exact (Kd.C_below HR0_2.out HB.out) | (with_reducible refine Kd.C_alloc ?_ _) | (with_reducible refine Kd.C_drewN ?_ _) | (with_reducible refine Kd.C_drew ?_)))
             (case side3 => exact HC0_2.out)
             (case side4 => repeat (first | exact (Kd.C_below HR0_3.out HB.out) | (with_reducible refine Kd.C_alloc ?_ _) | (with_reducible refine Kd.C_drewN ?_ _) | (with_reducible refine Kd.C_drew ?_)))
             (case side5 => exact HC0_3.out)
             rintro e w23 ⟨rfl,hb⟩
             refine ⟨_,rfl,?_⟩
             have n0_ := Aside0.mk (blk_below (g := g0) (o := .cells #[.int .i64 a0_0,.int .i64 a0_1,.slice (some ad273) l0_2.length c0_2,.slice A0_3 l0_3.length c0_3] 26 (0,0)) b8_1 hb)
             have n1_ := Aside0.mk (below_step b8_0 hb)
             clear BK0
             clear HB
             have BK0 := n0_
             have HB := n1_
             clear n0_ n1_
             (try clear hb)
             (try clear hb2)
             (try clear hk)
             (try clear hi)
             refine hK.out _ _ ⟨((HB.out.cell (World.block_lt_of_cell? w _ hw272_0)).trans hw272_0),((HB.out.cell (World.block_lt_of_cell? w _ hw273_0)).trans hw273_0)⟩ (fun hHeld => ?_)
             clear hK K
             refine norm_ (a' := ?_) ?_ ?_
             rotate_left
             ·show Act.put _ (some 41) _ = _
              simp only [Act.put,List.setIfInBounds_toArray,List.set_cons_zero,List.set_cons_succ,i64_w,i32_w]
              rfl
             refine pure_ (i := 7) (N := some 46) (v := ?_) (a' := ?_) #[true,true,true,true,true,true,true,true,false,false] rfl rfl (any_of HT_.out (by kernel_rfl)) (fun _ _ _ h => h) (Or.inl ⟨by rfl,?_⟩) ?_ ?_
             rotate_left
             ·intro w'
              go_simp
              with_reducible rfl
             rotate_left
             ·simp only [Act.put,List.setIfInBounds_toArray,List.set_cons_zero,List.set_cons_succ,i64_w,i32_w]
              rfl
             refine take_ (i := 8) (N := some 47) (v := ?_) (a' := ?_) #[true,true,true,true,true,true,true,true,true,false] rfl rfl (take_ofW HT_.out HW_.out (by kernel_rfl)) (fun _ _ _ h => h) (Or.inl ⟨by rfl,?_⟩) hHeld ?_ ?_
             rotate_left
             ·rintro w' ⟨s0,s1⟩
              go_simp
              with_reducible rfl
             rotate_left
             ·simp only [Act.put,List.setIfInBounds_toArray,List.set_cons_zero,List.set_cons_succ,i64_w,i32_w]
              rfl
             refine pure_ (i := 9) (N := some 11) (v := ?_) (a' := ?_) #[true,true,true,true,true,true,true,true,true,true] rfl rfl (any_of HT_.out (by kernel_rfl)) (fun _ _ _ h => h) (Or.inl ⟨by rfl,?_⟩) ?_ ?_
             rotate_left
             ·intro w'
              go_simp
              with_reducible rfl
             rotate_left
             ·simp only [Act.put,List.setIfInBounds_toArray,List.set_cons_zero,List.set_cons_succ,i64_w,i32_w]
              rfl
             refine done_ (done_of HT_.out (by kernel_rfl)) ?_
             try go_wp2_with (first | ((with_reducible refine gate_callee (f := 55) rfl ?_); refine goesL_ (some 53) rfl rfl Tryd.func55 (by kernel_rfl) rfl #[.int .i64 x1_1,.string (rdOf ByteArray.empty l0_2 (rd l2 x10_1))] rfl b8_3 ?_; (with_reducible refine (spec_l03Next.calls k1 x1_1 (rdOf ByteArray.empty l0_2 (rd l2 x10_1)) t274 _ A20.out).mono ?_); rintro e w' ⟨rfl,⟨nd,rfl⟩⟩; refine ⟨_,rfl,?_⟩))
             go_roundg k1
             case measure => have := HK1.out; omega
             case rel => exact ⟨(t274),(x9_1 ++ (rdOf ByteArray.empty l0_2 (rd l2 x10_1))),(wrap64 (x10_1 + 1)),b8_5,b8_5,b8_5,H',⟨by have := HK1.out; omega⟩,⟨b8_1⟩,⟨b8_0⟩⟩
            ·rw [if_neg c19] at H
             exact absurd H (by simp)
           ·rw [if_neg c18] at H
            exact absurd H (by simp)
          ·rw [if_neg c17] at H
           exact absurd H (by simp)
         ·rw [if_neg c15] at H
          have c15b0 : decide (x1_1 < 0) = false := decide_eq_false c15
          clear c15
          replace H := Option.bind_eq_some_iff.mp H
          obtain ⟨_,A240,H⟩ := H
          replace H : (if 0 ≤ (rd l2 x10_1) then (if (rd l2 x10_1) < (l0_3.length : Int) then (if x9_1.size + (rdOf ByteArray.empty l0_3 (rd l2 x10_1)).size ≤ 9223372036854775807 then ((spec_l03Next.f k1 x1_1 (rdOf ByteArray.empty l0_3 (rd l2 x10_1))).bind fun t277 => (spec_l03Encode.l0 k1 t277 l2 (x9_1 ++ (rdOf ByteArray.empty l0_3 (rd l2 x10_1))) (wrap64 (x10_1 + 1)) a0_0 a0_1 l0_2 l0_3)) else (none)) else (none)) else (none)) = some (r1,r2,r3) := H
          have A24 := Aside0.mk A240
          clear A240
          by_cases c25 : 0 ≤ (rd l2 x10_1)
          ·rw [if_pos c25] at H
           have c25b0 : decide (0 ≤ (rd l2 x10_1)) = true := decide_eq_true c25
           clear c25
           by_cases c26 : (rd l2 x10_1) < (l0_3.length : Int)
           ·rw [if_pos c26] at H
            have c26b0 : decide ((rd l2 x10_1) < (l0_3.length : Int)) = true := decide_eq_true c26
            clear c26
            by_cases c27 : x9_1.size + (rdOf ByteArray.empty l0_3 (rd l2 x10_1)).size ≤ 9223372036854775807
            ·rw [if_pos c27] at H
             have c27b0 := eq_true c27
             have c27b1 : decide (x9_1.size + (rdOf ByteArray.empty l0_3 (rd l2 x10_1)).size ≤ 9223372036854775807) = true := decide_eq_true c27
             try have c27b2 : (9223372036854775807 < x9_1.size + (rdOf ByteArray.empty l0_3 (rd l2 x10_1)).size) = False := eq_false (Nat.not_lt.2 c27)
             replace H := Option.bind_eq_some_iff.mp H
             obtain ⟨t277,A280,H⟩ := H
             replace H : (spec_l03Encode.l0 k1 t277 l2 (x9_1 ++ (rdOf ByteArray.empty l0_3 (rd l2 x10_1))) (wrap64 (x10_1 + 1)) a0_0 a0_1 l0_2 l0_3) = some (r1,r2,r3) := H
             have A28 := Aside0.mk A280
             clear A280
             have H' := Aside0.mk H
             clear H
             try go_wp2
             have n0_ := Aside0.mk (blk_drew BK0.out)
             have n1_ := Aside0.mk (below_drew1 HB.out)
             clear BK0
             clear HB
             have BK0 := n0_
             have HB := n1_
             clear n0_ n1_
             have p270 : 0 ≤ (x10_1 : Int) := of_decide_eq_true b8_2
             have q270 : x10_1 < (l2.length : Int) := of_decide_eq_true b8_2
             obtain ⟨ad270,e270,hx270_0⟩ := Kd.at_int HR2.out x10_1 p270 q270
             have hw270_0 := hx270_0
             cases e270
             replace hx270_0 := (HB.out.cell (World.block_lt_of_cell? w _ hx270_0)).trans hx270_0
             replace p270 := eq_true p270
             replace q270 := eq_true q270
             refine start_ (n := 13) (S := fun w' => w'.cell? ⟨g0,0,none⟩ = some (.int .i64 a0_0) ∧ w'.cell? ⟨g0,1,none⟩ = some (.int .i64 a0_1) ∧ w'.cell? ⟨g0,2,none⟩ = some (.slice A0_2 l0_2.length c0_2) ∧ w'.cell? ⟨g0,3,none⟩ = some (.slice A0_3 l0_3.length c0_3) ∧ w'.cell? (ad270.add (x10_1).toNat) = some (.int .i64 (rd l2 x10_1))) (ds := []) #[false,false,false,false,false,false,false,false,false,false,false,false,false] (by kernel_rfl) rfl rfl ⟨(blk_cell BK0.out 0).trans rfl,(blk_cell BK0.out 1).trans rfl,(blk_cell BK0.out 2).trans rfl,(blk_cell BK0.out 3).trans rfl,((HB.out.cell (World.block_lt_of_cell? w _ hw270_0)).trans hw270_0)⟩ (fun hHeld => ?_); refine with_tabW spec_l03Encode.tab7 spec_l03Encode.bits7 (fun HT_ HW_ => ?_)
             generalize wr.drew = w29 at BK0 HB hx270_0 hHeld ⊢
             refine pure_ (i := 0) (N := some 26) (v := ?_) (a' := ?_) #[true,false,false,false,false,false,false,false,false,false,false,false,false] rfl rfl (any_of HT_.out (by kernel_rfl)) (fun _ _ _ h => h) (Or.inl ⟨by rfl,?_⟩) ?_ ?_
             rotate_left
             ·intro w'
              go_simp
              with_reducible rfl
             rotate_left
             ·simp only [Act.put,List.setIfInBounds_toArray,List.set_cons_zero,List.set_cons_succ,i64_w,i32_w]
              rfl
             refine pure_ (i := 1) (N := some 27) (v := ?_) (a' := ?_) #[true,true,false,false,false,false,false,false,false,false,false,false,false] rfl rfl (any_of HT_.out (by kernel_rfl)) (fun _ _ _ h => h) (Or.inl ⟨by rfl,?_⟩) ?_ ?_
             rotate_left
             ·intro w'
              go_simp
              with_reducible rfl
             rotate_left
             ·simp only [Act.put,List.setIfInBounds_toArray,List.set_cons_zero,List.set_cons_succ,i64_w,i32_w]
              rfl
             refine pure_ (i := 2) (N := some 28) (v := ?_) (a' := ?_) #[true,true,true,false,false,false,false,false,false,false,false,false,false] rfl rfl (any_of HT_.out (by kernel_rfl)) (fun _ _ _ h => h) (Or.inl ⟨by rfl,?_⟩) ?_ ?_
             rotate_left
             ·intro w'
              go_simp
              with_reducible rfl
             rotate_left
             ·simp only [Act.put,List.setIfInBounds_toArray,List.set_cons_zero,List.set_cons_succ,i64_w,i32_w]
              rfl
             refine pure_ (i := 4) (N := some 30) (v := ?_) (a' := ?_) #[true,true,true,false,true,false,false,false,false,false,false,false,false] rfl rfl (any_of HT_.out (by kernel_rfl)) (fun _ _ _ h => h) (Or.inl ⟨by rfl,?_⟩) ?_ ?_
             rotate_left
             ·intro w'
              go_simp
              with_reducible rfl
             rotate_left
             ·simp only [Act.put,List.setIfInBounds_toArray,List.set_cons_zero,List.set_cons_succ,i64_w,i32_w]
              rfl
             refine pure_ (i := 5) (N := some 31) (v := ?_) (a' := ?_) #[true,true,true,false,true,true,false,false,false,false,false,false,false] rfl rfl (any_of HT_.out (by kernel_rfl)) (fun _ _ _ h => h) (Or.inl ⟨by rfl,?_⟩) ?_ ?_
             rotate_left
             ·intro w'
              go_simp
              with_reducible rfl
             rotate_left
             ·simp only [Act.put,List.setIfInBounds_toArray,List.set_cons_zero,List.set_cons_succ,i64_w,i32_w]
              rfl
             refine pure_ (i := 6) (N := some 32) (v := ?_) (a' := ?_) #[true,true,true,false,true,true,true,false,false,false,false,false,false] rfl rfl (any_of HT_.out (by kernel_rfl)) (fun _ _ _ h => h) (Or.inl ⟨by rfl,?_⟩) ?_ ?_
             rotate_left
             ·intro w'
              go_simp
              with_reducible rfl
             rotate_left
             ·simp only [Act.put,List.setIfInBounds_toArray,List.set_cons_zero,List.set_cons_succ,i64_w,i32_w]
              rfl
             refine take_ (i := 3) (N := some 29) (v := ?_) (a' := ?_) #[true,true,true,true,true,true,true,false,false,false,false,false,false] rfl rfl (take_ofW HT_.out HW_.out (by kernel_rfl)) (fun _ _ _ h => h) (Or.inl ⟨by rfl,?_⟩) hHeld ?_ ?_
             rotate_left
             ·rintro w' ⟨s0,s1,s2,s3,s4⟩
              go_simp
              with_reducible rfl
             rotate_left
             ·simp only [Act.put,List.setIfInBounds_toArray,List.set_cons_zero,List.set_cons_succ,i64_w,i32_w]
              rfl
             refine take_ (i := 7) (N := some 33) (v := ?_) (a' := ?_) #[true,true,true,true,true,true,true,true,false,false,false,false,false] rfl rfl (take_ofW HT_.out HW_.out (by kernel_rfl)) (fun _ _ _ h => h) (Or.inl ⟨by rfl,?_⟩) hHeld ?_ ?_
             rotate_left
             ·rintro w' ⟨s0,s1,s2,s3,s4⟩
              go_simp
              with_reducible rfl
             rotate_left
             ·simp only [Act.put,List.setIfInBounds_toArray,List.set_cons_zero,List.set_cons_succ,i64_w,i32_w]
              rfl
             refine pure_ (i := 8) (N := some 34) (v := ?_) (a' := ?_) #[true,true,true,true,true,true,true,true,true,false,false,false,false] rfl rfl (any_of HT_.out (by kernel_rfl)) (fun _ _ _ h => h) (Or.inl ⟨by rfl,?_⟩) ?_ ?_
             rotate_left
             ·intro w'
              go_simp
              with_reducible rfl
             rotate_left
             ·simp only [Act.put,List.setIfInBounds_toArray,List.set_cons_zero,List.set_cons_succ,i64_w,i32_w]
              rfl
             refine pure_ (i := 9) (N := some 35) (v := ?_) (a' := ?_) #[true,true,true,true,true,true,true,true,true,true,false,false,false] rfl rfl (any_of HT_.out (by kernel_rfl)) (fun _ _ _ h => h) (Or.inl ⟨by rfl,?_⟩) ?_ ?_
             rotate_left
             ·intro w'
              go_simp
              with_reducible rfl
             rotate_left
             ·simp only [Act.put,List.setIfInBounds_toArray,List.set_cons_zero,List.set_cons_succ,i64_w,i32_w]
              rfl
             refine pure_ (i := 10) (N := some 36) (v := ?_) (a' := ?_) #[true,true,true,true,true,true,true,true,true,true,true,false,false] rfl rfl (any_of HT_.out (by kernel_rfl)) (fun _ _ _ h => h) (Or.inl ⟨by rfl,?_⟩) ?_ ?_
             rotate_left
             ·intro w'
              go_simp
              with_reducible rfl
             rotate_left
             ·simp only [Act.put,List.setIfInBounds_toArray,List.set_cons_zero,List.set_cons_succ,i64_w,i32_w]
              rfl
             refine one_ (i := 11) (N := some 37) #[true,true,true,true,true,true,true,true,true,true,true,true,false] rfl rfl (one_of HT_.out (by kernel_rfl)) (by decide) (fun K hK => ?_)
             refine goes_ Tryd.func43 (by kernel_rfl) rfl #[.int .i64 (rd l2 x10_1),.int .i64 0,.int .i64 (wrap64 ((ji12) - 1))] (by rfl) rfl rfl b8_4 ?_
             with_reducible refine (spec_l00In.calls (rd l2 x10_1) 0 (wrap64 ((ji12) - 1)) true _ A13.out).mono ?_
             rintro e w' ⟨rfl,⟨nd,rfl⟩⟩
             refine ⟨_,rfl,?_⟩
             refine hK.out _ _ ⟨(blk_cell BK0.out 0).trans rfl,(blk_cell BK0.out 1).trans rfl,(blk_cell BK0.out 2).trans rfl,(blk_cell BK0.out 3).trans rfl,((HB.out.cell (World.block_lt_of_cell? w _ hw270_0)).trans hw270_0)⟩ (fun hHeld => ?_)
             clear hK K
             refine norm_ (a' := ?_) ?_ ?_
             rotate_left
             ·show Act.put _ (some 37) _ = _
              simp only [Act.put,List.setIfInBounds_toArray,List.set_cons_zero,List.set_cons_succ,i64_w,i32_w]
              rfl
             refine pure_ (i := 12) (N := some 38) (v := ?_) (a' := ?_) #[true,true,true,true,true,true,true,true,true,true,true,true,true] rfl rfl (any_of HT_.out (by kernel_rfl)) (fun _ _ _ h => h) (Or.inl ⟨by rfl,?_⟩) ?_ ?_
             rotate_left
             ·intro w'
              go_simp
              with_reducible rfl
             rotate_left
             ·simp only [Act.put,List.setIfInBounds_toArray,List.set_cons_zero,List.set_cons_succ,i64_w,i32_w]
              rfl
             refine done_ (done_of HT_.out (by kernel_rfl)) ?_
             try go_wp2
             (try (rw [drewN_self w29]; generalize hq_ : World.drewN w29 _ = w29; have n0_ : Aside0 (w29.heap[g0]? = some (.cells #[.int .i64 a0_0,.int .i64 a0_1,.slice A0_2 l0_2.length c0_2,.slice A0_3 l0_3.length c0_3] 26 (0,0))) := ⟨b8_7⟩; have n1_ : Aside0 (Below w.heap.size w w29) := ⟨b8_6⟩; clear BK0 HB hq_; have BK0 := n0_; have HB := n1_; clear n0_ n1_))
             have n0_ := Aside0.mk (blk_drew BK0.out)
             have n1_ := Aside0.mk (below_drew1 HB.out)
             clear BK0
             clear HB
             have BK0 := n0_
             have HB := n1_
             clear n0_ n1_
             have p275 : 0 ≤ (x10_1 : Int) := of_decide_eq_true b8_2
             have q275 : x10_1 < (l2.length : Int) := of_decide_eq_true b8_2
             obtain ⟨ad275,e275,hx275_0⟩ := Kd.at_int HR2.out x10_1 p275 q275
             have hw275_0 := hx275_0
             obtain rfl : ad270 = ad275 := (by injection e275)
             replace hx275_0 := (HB.out.cell (World.block_lt_of_cell? w _ hx275_0)).trans hx275_0
             replace p275 := eq_true p275
             replace q275 := eq_true q275
             have p276 : 0 ≤ ((rd l2 x10_1) : Int) := of_decide_eq_true b8_2
             have q276 : (rd l2 x10_1) < (l0_3.length : Int) := of_decide_eq_true b8_2
             obtain ⟨ad276,e276,hx276_0⟩ := Kd.at_string HR0_3.out (rd l2 x10_1) p276 q276
             have hw276_0 := hx276_0
             cases e276
             replace hx276_0 := (HB.out.cell (World.block_lt_of_cell? w _ hx276_0)).trans hx276_0
             replace p276 := eq_true p276
             replace q276 := eq_true q276
             refine start_ (n := 10) (S := fun w' => w'.cell? (ad270.add (x10_1).toNat) = some (.int .i64 (rd l2 x10_1)) ∧ w'.cell? (ad276.add ((rd l2 x10_1)).toNat) = some (.string (rdOf ByteArray.empty l0_3 (rd l2 x10_1)))) (ds := []) #[false,false,false,false,false,false,false,false,false,false] (by kernel_rfl) rfl rfl ⟨((HB.out.cell (World.block_lt_of_cell? w _ hw275_0)).trans hw275_0),((HB.out.cell (World.block_lt_of_cell? w _ hw276_0)).trans hw276_0)⟩ (fun hHeld => ?_); refine with_tabW spec_l03Encode.tab9 spec_l03Encode.bits9 (fun HT_ HW_ => ?_)
             generalize w29.drew = w30 at BK0 HB hx275_0 hx276_0 hHeld ⊢
             refine pure_ (i := 0) (N := some 39) (v := ?_) (a' := ?_) #[true,false,false,false,false,false,false,false,false,false] rfl rfl (any_of HT_.out (by kernel_rfl)) (fun _ _ _ h => h) (Or.inl ⟨by rfl,?_⟩) ?_ ?_
             rotate_left
             ·intro w'
              go_simp
              with_reducible rfl
             rotate_left
             ·simp only [Act.put,List.setIfInBounds_toArray,List.set_cons_zero,List.set_cons_succ,i64_w,i32_w]
              rfl
             refine pure_ (i := 1) (N := some 40) (v := ?_) (a' := ?_) #[true,true,false,false,false,false,false,false,false,false] rfl rfl (any_of HT_.out (by kernel_rfl)) (fun _ _ _ h => h) (Or.inl ⟨by rfl,?_⟩) ?_ ?_
             rotate_left
             ·intro w'
              go_simp
              with_reducible rfl
             rotate_left
             ·simp only [Act.put,List.setIfInBounds_toArray,List.set_cons_zero,List.set_cons_succ,i64_w,i32_w]
              rfl
             refine pure_ (i := 3) (N := some 42) (v := ?_) (a' := ?_) #[true,true,false,true,false,false,false,false,false,false] rfl rfl (any_of HT_.out (by kernel_rfl)) (fun _ _ _ h => h) (Or.inl ⟨by rfl,?_⟩) ?_ ?_
             rotate_left
             ·intro w'
              go_simp
              with_reducible rfl
             rotate_left
             ·simp only [Act.put,List.setIfInBounds_toArray,List.set_cons_zero,List.set_cons_succ,i64_w,i32_w]
              rfl
             refine pure_ (i := 4) (N := some 43) (v := ?_) (a' := ?_) #[true,true,false,true,true,false,false,false,false,false] rfl rfl (any_of HT_.out (by kernel_rfl)) (fun _ _ _ h => h) (Or.inl ⟨by rfl,?_⟩) ?_ ?_
             rotate_left
             ·intro w'
              go_simp
              with_reducible rfl
             rotate_left
             ·simp only [Act.put,List.setIfInBounds_toArray,List.set_cons_zero,List.set_cons_succ,i64_w,i32_w]
              rfl
             refine pure_ (i := 5) (N := some 44) (v := ?_) (a' := ?_) #[true,true,false,true,true,true,false,false,false,false] rfl rfl (any_of HT_.out (by kernel_rfl)) (fun _ _ _ h => h) (Or.inl ⟨by rfl,?_⟩) ?_ ?_
             rotate_left
             ·intro w'
              go_simp
              with_reducible rfl
             rotate_left
             ·simp only [Act.put,List.setIfInBounds_toArray,List.set_cons_zero,List.set_cons_succ,i64_w,i32_w]
              rfl
             refine take_ (i := 6) (N := some 45) (v := ?_) (a' := ?_) #[true,true,false,true,true,true,true,false,false,false] rfl rfl (take_ofW HT_.out HW_.out (by kernel_rfl)) (fun _ _ _ h => h) (Or.inl ⟨by rfl,?_⟩) hHeld ?_ ?_
             rotate_left
             ·rintro w' ⟨s0,s1⟩
              go_simp
              with_reducible rfl
             rotate_left
             ·simp only [Act.put,List.setIfInBounds_toArray,List.set_cons_zero,List.set_cons_succ,i64_w,i32_w]
              rfl
             refine one_ (i := 2) (N := some 41) #[true,true,true,true,true,true,true,false,false,false] rfl rfl (one_of HT_.out (by kernel_rfl)) (by decide) (fun K hK => ?_)
             refine goes_ Tryd.func54 (by kernel_rfl) rfl #[.pointer (some ⟨g0,0,none⟩),.int .i64 x1_1] (by rfl) rfl rfl b8_3 ?_
             with_reducible refine (spec_l03List_pos.calls g0 a0_0 a0_1 A0_2 c0_2 l0_2 (some ad276) c0_3 l0_3 x1_1  _ ?side1 ?side2 ?side3 ?side4 ?side5 A24.out).mono ?_
             (case side1 => exact by (with_reducible repeat (first | refine blk_drewN ?_ _ | refine blk_drew ?_ | refine blk_alloc ?_ _)); exact BK0.out)
             (case side2 => repeat (first | exact (Kd.C_below HR0_2.out HB.out) | (with_reducible refine Kd.C_alloc ?_ _) | (with_reducible refine Kd.C_drewN ?_ _) | (with_reducible refine Kd.C_drew ?_)))
             (case side3 => exact HC0_2.out)
             (case side4 => repeat (first | exact (Kd.C_below HR0_3.out HB.out) | (with_reducible refine Kd.C_alloc ?_ _) | (with_reducible refine Kd.C_drewN ?_ _) | (with_reducible refine Kd.C_drew ?_)))
             (case side5 => exact HC0_3.out)
             rintro e w31 ⟨rfl,hb⟩
             refine ⟨_,rfl,?_⟩
             have n0_ := Aside0.mk (blk_below (g := g0) (o := .cells #[.int .i64 a0_0,.int .i64 a0_1,.slice A0_2 l0_2.length c0_2,.slice (some ad276) l0_3.length c0_3] 26 (0,0)) b8_1 hb)
             have n1_ := Aside0.mk (below_step b8_0 hb)
             clear BK0
             clear HB
             have BK0 := n0_
             have HB := n1_
             clear n0_ n1_
             (try clear hb)
             (try clear hb2)
             (try clear hk)
             (try clear hi)
             refine hK.out _ _ ⟨((HB.out.cell (World.block_lt_of_cell? w _ hw275_0)).trans hw275_0),((HB.out.cell (World.block_lt_of_cell? w _ hw276_0)).trans hw276_0)⟩ (fun hHeld => ?_)
             clear hK K
             refine norm_ (a' := ?_) ?_ ?_
             rotate_left
             ·show Act.put _ (some 41) _ = _
              simp only [Act.put,List.setIfInBounds_toArray,List.set_cons_zero,List.set_cons_succ,i64_w,i32_w]
              rfl
             refine pure_ (i := 7) (N := some 46) (v := ?_) (a' := ?_) #[true,true,true,true,true,true,true,true,false,false] rfl rfl (any_of HT_.out (by kernel_rfl)) (fun _ _ _ h => h) (Or.inl ⟨by rfl,?_⟩) ?_ ?_
             rotate_left
             ·intro w'
              go_simp
              with_reducible rfl
             rotate_left
             ·simp only [Act.put,List.setIfInBounds_toArray,List.set_cons_zero,List.set_cons_succ,i64_w,i32_w]
              rfl
             refine take_ (i := 8) (N := some 47) (v := ?_) (a' := ?_) #[true,true,true,true,true,true,true,true,true,false] rfl rfl (take_ofW HT_.out HW_.out (by kernel_rfl)) (fun _ _ _ h => h) (Or.inl ⟨by rfl,?_⟩) hHeld ?_ ?_
             rotate_left
             ·rintro w' ⟨s0,s1⟩
              go_simp
              with_reducible rfl
             rotate_left
             ·simp only [Act.put,List.setIfInBounds_toArray,List.set_cons_zero,List.set_cons_succ,i64_w,i32_w]
              rfl
             refine pure_ (i := 9) (N := some 11) (v := ?_) (a' := ?_) #[true,true,true,true,true,true,true,true,true,true] rfl rfl (any_of HT_.out (by kernel_rfl)) (fun _ _ _ h => h) (Or.inl ⟨by rfl,?_⟩) ?_ ?_
             rotate_left
             ·intro w'
              go_simp
              with_reducible rfl
             rotate_left
             ·simp only [Act.put,List.setIfInBounds_toArray,List.set_cons_zero,List.set_cons_succ,i64_w,i32_w]
              rfl
             refine done_ (done_of HT_.out (by kernel_rfl)) ?_
             try go_wp2_with (first | ((with_reducible refine gate_callee (f := 55) rfl ?_); refine goesL_ (some 53) rfl rfl Tryd.func55 (by kernel_rfl) rfl #[.int .i64 x1_1,.string (rdOf ByteArray.empty l0_3 (rd l2 x10_1))] rfl b8_3 ?_; (with_reducible refine (spec_l03Next.calls k1 x1_1 (rdOf ByteArray.empty l0_3 (rd l2 x10_1)) t277 _ A28.out).mono ?_); rintro e w' ⟨rfl,⟨nd,rfl⟩⟩; refine ⟨_,rfl,?_⟩))
             go_roundg k1
             case measure => have := HK1.out; omega
             case rel => exact ⟨(t277),(x9_1 ++ (rdOf ByteArray.empty l0_3 (rd l2 x10_1))),(wrap64 (x10_1 + 1)),b8_5,b8_5,b8_5,H',⟨by have := HK1.out; omega⟩,⟨b8_1⟩,⟨b8_0⟩⟩
            ·rw [if_neg c27] at H
             exact absurd H (by simp)
           ·rw [if_neg c26] at H
            exact absurd H (by simp)
          ·rw [if_neg c25] at H
           exact absurd H (by simp)
        ·replace c14 := Bool.eq_false_iff.mpr c14
         subst c14
         have H1 : (some ((⟨#[]⟩ : ByteArray),0,false)) = some (r1,r2,r3) := by rw [if_neg (show ¬ (false = true) by decide)] at H; exact H
         clear H
         have H := H1
         clear H1
         simp only [Option.some.injEq,Prod.mk.injEq] at H
         obtain ⟨rfl,rfl,rfl⟩ := H
         try go_wp2
         have n0_ := Aside0.mk (blk_drew BK0.out)
         have n1_ := Aside0.mk (below_drew1 HB.out)
         clear BK0
         clear HB
         have BK0 := n0_
         have HB := n1_
         clear n0_ n1_
         have p270 : 0 ≤ (x10_1 : Int) := of_decide_eq_true b8_2
         have q270 : x10_1 < (l2.length : Int) := of_decide_eq_true b8_2
         obtain ⟨ad270,e270,hx270_0⟩ := Kd.at_int HR2.out x10_1 p270 q270
         have hw270_0 := hx270_0
         cases e270
         replace hx270_0 := (HB.out.cell (World.block_lt_of_cell? w _ hx270_0)).trans hx270_0
         replace p270 := eq_true p270
         replace q270 := eq_true q270
         refine start_ (n := 13) (S := fun w' => w'.cell? ⟨g0,0,none⟩ = some (.int .i64 a0_0) ∧ w'.cell? ⟨g0,1,none⟩ = some (.int .i64 a0_1) ∧ w'.cell? ⟨g0,2,none⟩ = some (.slice A0_2 l0_2.length c0_2) ∧ w'.cell? ⟨g0,3,none⟩ = some (.slice A0_3 l0_3.length c0_3) ∧ w'.cell? (ad270.add (x10_1).toNat) = some (.int .i64 (rd l2 x10_1))) (ds := []) #[false,false,false,false,false,false,false,false,false,false,false,false,false] (by kernel_rfl) rfl rfl ⟨(blk_cell BK0.out 0).trans rfl,(blk_cell BK0.out 1).trans rfl,(blk_cell BK0.out 2).trans rfl,(blk_cell BK0.out 3).trans rfl,((HB.out.cell (World.block_lt_of_cell? w _ hw270_0)).trans hw270_0)⟩ (fun hHeld => ?_); refine with_tabW spec_l03Encode.tab7 spec_l03Encode.bits7 (fun HT_ HW_ => ?_)
         generalize wr.drew = w32 at BK0 HB hx270_0 hHeld ⊢
         refine pure_ (i := 0) (N := some 26) (v := ?_) (a' := ?_) #[true,false,false,false,false,false,false,false,false,false,false,false,false] rfl rfl (any_of HT_.out (by kernel_rfl)) (fun _ _ _ h => h) (Or.inl ⟨by rfl,?_⟩) ?_ ?_
         rotate_left
         ·intro w'
          go_simp
          with_reducible rfl
         rotate_left
         ·simp only [Act.put,List.setIfInBounds_toArray,List.set_cons_zero,List.set_cons_succ,i64_w,i32_w]
          rfl
         refine pure_ (i := 1) (N := some 27) (v := ?_) (a' := ?_) #[true,true,false,false,false,false,false,false,false,false,false,false,false] rfl rfl (any_of HT_.out (by kernel_rfl)) (fun _ _ _ h => h) (Or.inl ⟨by rfl,?_⟩) ?_ ?_
         rotate_left
         ·intro w'
          go_simp
          with_reducible rfl
         rotate_left
         ·simp only [Act.put,List.setIfInBounds_toArray,List.set_cons_zero,List.set_cons_succ,i64_w,i32_w]
          rfl
         refine pure_ (i := 2) (N := some 28) (v := ?_) (a' := ?_) #[true,true,true,false,false,false,false,false,false,false,false,false,false] rfl rfl (any_of HT_.out (by kernel_rfl)) (fun _ _ _ h => h) (Or.inl ⟨by rfl,?_⟩) ?_ ?_
         rotate_left
         ·intro w'
          go_simp
          with_reducible rfl
         rotate_left
         ·simp only [Act.put,List.setIfInBounds_toArray,List.set_cons_zero,List.set_cons_succ,i64_w,i32_w]
          rfl
         refine pure_ (i := 4) (N := some 30) (v := ?_) (a' := ?_) #[true,true,true,false,true,false,false,false,false,false,false,false,false] rfl rfl (any_of HT_.out (by kernel_rfl)) (fun _ _ _ h => h) (Or.inl ⟨by rfl,?_⟩) ?_ ?_
         rotate_left
         ·intro w'
          go_simp
          with_reducible rfl
         rotate_left
         ·simp only [Act.put,List.setIfInBounds_toArray,List.set_cons_zero,List.set_cons_succ,i64_w,i32_w]
          rfl
         refine pure_ (i := 5) (N := some 31) (v := ?_) (a' := ?_) #[true,true,true,false,true,true,false,false,false,false,false,false,false] rfl rfl (any_of HT_.out (by kernel_rfl)) (fun _ _ _ h => h) (Or.inl ⟨by rfl,?_⟩) ?_ ?_
         rotate_left
         ·intro w'
          go_simp
          with_reducible rfl
         rotate_left
         ·simp only [Act.put,List.setIfInBounds_toArray,List.set_cons_zero,List.set_cons_succ,i64_w,i32_w]
          rfl
         refine pure_ (i := 6) (N := some 32) (v := ?_) (a' := ?_) #[true,true,true,false,true,true,true,false,false,false,false,false,false] rfl rfl (any_of HT_.out (by kernel_rfl)) (fun _ _ _ h => h) (Or.inl ⟨by rfl,?_⟩) ?_ ?_
         rotate_left
         ·intro w'
          go_simp
          with_reducible rfl
         rotate_left
         ·simp only [Act.put,List.setIfInBounds_toArray,List.set_cons_zero,List.set_cons_succ,i64_w,i32_w]
          rfl
         refine take_ (i := 3) (N := some 29) (v := ?_) (a' := ?_) #[true,true,true,true,true,true,true,false,false,false,false,false,false] rfl rfl (take_ofW HT_.out HW_.out (by kernel_rfl)) (fun _ _ _ h => h) (Or.inl ⟨by rfl,?_⟩) hHeld ?_ ?_
         rotate_left
         ·rintro w' ⟨s0,s1,s2,s3,s4⟩
          go_simp
          with_reducible rfl
         rotate_left
         ·simp only [Act.put,List.setIfInBounds_toArray,List.set_cons_zero,List.set_cons_succ,i64_w,i32_w]
          rfl
         refine take_ (i := 7) (N := some 33) (v := ?_) (a' := ?_) #[true,true,true,true,true,true,true,true,false,false,false,false,false] rfl rfl (take_ofW HT_.out HW_.out (by kernel_rfl)) (fun _ _ _ h => h) (Or.inl ⟨by rfl,?_⟩) hHeld ?_ ?_
         rotate_left
         ·rintro w' ⟨s0,s1,s2,s3,s4⟩
          go_simp
          with_reducible rfl
         rotate_left
         ·simp only [Act.put,List.setIfInBounds_toArray,List.set_cons_zero,List.set_cons_succ,i64_w,i32_w]
          rfl
         refine pure_ (i := 8) (N := some 34) (v := ?_) (a' := ?_) #[true,true,true,true,true,true,true,true,true,false,false,false,false] rfl rfl (any_of HT_.out (by kernel_rfl)) (fun _ _ _ h => h) (Or.inl ⟨by rfl,?_⟩) ?_ ?_
         rotate_left
         ·intro w'
          go_simp
          with_reducible rfl
         rotate_left
         ·simp only [Act.put,List.setIfInBounds_toArray,List.set_cons_zero,List.set_cons_succ,i64_w,i32_w]
          rfl
         refine pure_ (i := 9) (N := some 35) (v := ?_) (a' := ?_) #[true,true,true,true,true,true,true,true,true,true,false,false,false] rfl rfl (any_of HT_.out (by kernel_rfl)) (fun _ _ _ h => h) (Or.inl ⟨by rfl,?_⟩) ?_ ?_
         rotate_left
         ·intro w'
          go_simp
          with_reducible rfl
         rotate_left
         ·simp only [Act.put,List.setIfInBounds_toArray,List.set_cons_zero,List.set_cons_succ,i64_w,i32_w]
          rfl
         refine pure_ (i := 10) (N := some 36) (v := ?_) (a' := ?_) #[true,true,true,true,true,true,true,true,true,true,true,false,false] rfl rfl (any_of HT_.out (by kernel_rfl)) (fun _ _ _ h => h) (Or.inl ⟨by rfl,?_⟩) ?_ ?_
         rotate_left
         ·intro w'
          go_simp
          with_reducible rfl
         rotate_left
         ·simp only [Act.put,List.setIfInBounds_toArray,List.set_cons_zero,List.set_cons_succ,i64_w,i32_w]
          rfl
         refine one_ (i := 11) (N := some 37) #[true,true,true,true,true,true,true,true,true,true,true,true,false] rfl rfl (one_of HT_.out (by kernel_rfl)) (by decide) (fun K hK => ?_)
         refine goes_ Tryd.func43 (by kernel_rfl) rfl #[.int .i64 (rd l2 x10_1),.int .i64 0,.int .i64 (wrap64 ((ji12) - 1))] (by rfl) rfl rfl b8_4 ?_
         with_reducible refine (spec_l00In.calls (rd l2 x10_1) 0 (wrap64 ((ji12) - 1)) false _ A13.out).mono ?_
         rintro e w' ⟨rfl,⟨nd,rfl⟩⟩
         refine ⟨_,rfl,?_⟩
         refine hK.out _ _ ⟨(blk_cell BK0.out 0).trans rfl,(blk_cell BK0.out 1).trans rfl,(blk_cell BK0.out 2).trans rfl,(blk_cell BK0.out 3).trans rfl,((HB.out.cell (World.block_lt_of_cell? w _ hw270_0)).trans hw270_0)⟩ (fun hHeld => ?_)
         clear hK K
         refine norm_ (a' := ?_) ?_ ?_
         rotate_left
         ·show Act.put _ (some 37) _ = _
          simp only [Act.put,List.setIfInBounds_toArray,List.set_cons_zero,List.set_cons_succ,i64_w,i32_w]
          rfl
         refine pure_ (i := 12) (N := some 38) (v := ?_) (a' := ?_) #[true,true,true,true,true,true,true,true,true,true,true,true,true] rfl rfl (any_of HT_.out (by kernel_rfl)) (fun _ _ _ h => h) (Or.inl ⟨by rfl,?_⟩) ?_ ?_
         rotate_left
         ·intro w'
          go_simp
          with_reducible rfl
         rotate_left
         ·simp only [Act.put,List.setIfInBounds_toArray,List.set_cons_zero,List.set_cons_succ,i64_w,i32_w]
          rfl
         refine done_ (done_of HT_.out (by kernel_rfl)) ?_
         try go_wp2
         go_ret3
         exact ⟨by first | rfl | (simp [errW_none,errW_some] <;> rfl) | (simp only [← hji10,← hji12]; first | rfl | (simp [errW_none,errW_some] <;> rfl)) | (simp [*,errW_none,errW_some] <;> rfl),b8_0⟩
       ·rw [if_neg c11] at H
        exact absurd H (by simp)
      ·rw [if_neg c9] at H
       exact absurd H (by simp)
     ·rw [if_neg c8] at H
      have c8b0 : decide (x10_1 < (l2.length : Int)) = false := decide_eq_false c8
      clear c8
      simp only [Option.some.injEq,Prod.mk.injEq] at H
      obtain ⟨rfl,rfl,rfl⟩ := H
      go_wp2
      go_ret3
      exact ⟨b8_8,b8_0⟩

end Go.Proofs.YtegeaoiclepkkabDoor.QFnCommas
