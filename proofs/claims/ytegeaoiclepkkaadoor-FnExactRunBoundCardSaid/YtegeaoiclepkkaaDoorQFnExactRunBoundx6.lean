/-
Each Go function that this text names answers as the Lean function beside it says,wherever that one answers; conditions: the arguments lie in memory as each theorem states it.
-/
import Derived.Test.YtegeaoiclepkkaaDoorQFnExactRunBoundx0
import Derived.Test.YtegeaoiclepkkaaDoorQFnExactRunBoundx4
import Derived.Test.YtegeaoiclepkkaaDoorQFnExactRunBoundx5
namespace Go.Proofs.YtegeaoiclepkkaaDoor.QFnExactRunBound
open Go.RowKit Go.Proofs.YtegeaoiclepkkaaDoorW.PrintWords Go.Proofs.YtegeaoiclepkkaaDoorW.PrintLast Go.Proofs.YtegeaoiclepkkaaDoorW.PrintMore
attribute [local go_sem] max2_int min2_int max_two min_two max_three min_three max_four min_four   -- for this text's walks alone
set_option linter.unusedVariables false
set_option linter.unusedSimpArgs false
theorem b6_0 {P : Prop} (h : P := by repeat (first | (with_reducible first | exact HB.out | apply below_alloc | apply pw_below_drewN | apply below_drew1 | refine below_set ?_ GE180.out) | exact HB.out)) : P := h
theorem b6_1 {P : Prop} (h : P := by (with_reducible repeat (first | refine blk_drewN ?_ _ | refine blk_drew ?_ | refine blk_alloc ?_ _)); exact BK180.out) : P := h
theorem b6_2 {P : Prop} (h : P := by (try simp only [List.map_toArray,List.map_cons,List.map_nil]); first | done | rfl | (simp only [List.length_drop,List.length_take]; rfl)) : P := h
theorem b6_3 {P : Prop} (h : P := by first | (with_reducible assumption) | assumption) : P := h
theorem b6_4 {P : Prop} (h : P := by first | rfl | (simp; done) | (simp [*]; done)) : P := h
theorem b6_5 {P : Prop} (h : P := by repeat (first | (with_reducible first | exact HB.out | apply below_alloc | apply pw_below_drewN | apply below_drew1) | exact HB.out)) : P := h
theorem b6_6 {P : Prop} (h : P := by (with_reducible repeat (first | apply Kd.R_alloc | apply Kd.R_drewN | apply Kd.R_drew)); exact HO_8.out) : P := h
theorem b6_7 {P : Prop} (h : P := by first | rfl | (simp [errW_none,errW_some] <;> rfl) | (simp [*,errW_none,errW_some] <;> rfl)) : P := h

/-! ### spec_RunBound: function 32 -/
mutual
def spec_RunBound.l0 : Nat → Int → Int → Int → Int → List ByteArray → List ByteArray → Option (Int × Bool)
 | 0,_,_,_,_,_,_ => none
 | k + 1,x4,x5,x181000,x181001,x181002,x181003 => if x5 ≤ 1 then (if x5 < 0 then ((spec_l03List_neg.f x181000 x181001 x181002 x181003 x5).bind fun _ => (spec_RunBound.l1 k x4 x5 x181002 0 x181000 x181001 x181002 x181003)) else ((spec_l03List_pos.f x181000 x181001 x181002 x181003 x5).bind fun _ => (spec_RunBound.l101 k x4 x5 x181003 0 x181000 x181001 x181002 x181003))) else (some (x4,true))
def spec_RunBound.l1 : Nat → Int → Int → List ByteArray → Int → Int → Int → List ByteArray → List ByteArray → Option (Int × Bool)
 | 0,_,_,_,_,_,_,_,_ => none
 | k + 1,x4,x5,x6,x7,x181000,x181001,x181002,x181003 => if x7 < (x6.length : Int) then (if 0 ≤ x7 then ((spec_l01Runs.f k (rdOf ByteArray.empty x6 x7)).bind fun t183 => (spec_RunBound.l2 k x4 x5 x6 x7 t183 0 x181000 x181001 x181002 x181003)) else (none)) else (spec_RunBound.l0 k x4 (wrap64 (x5 + 2)) x181000 x181001 x181002 x181003)
def spec_RunBound.l2 : Nat → Int → Int → List ByteArray → Int → List Int → Int → Int → Int → List ByteArray → List ByteArray → Option (Int × Bool)
 | 0,_,_,_,_,_,_,_,_,_,_ => none
 | k + 1,x4,x5,x6,x7,x8,x9,x181000,x181001,x181002,x181003 => if x9 < (x8.length : Int) then (if 0 ≤ x9 then ((spec_l00Max.f x4 (rd x8 x9)).bind fun t187 => (spec_RunBound.l2 k t187 x5 x6 x7 x8 (wrap64 (x9 + 1)) x181000 x181001 x181002 x181003)) else (none)) else (if 0 ≤ x7 then (if x7 < (x6.length : Int) then ((spec_l03Next.f k x5 (rdOf ByteArray.empty x6 x7)).bind fun t189 => (if 0 ≤ (wrap64 (x181001 - 1)) then (if (wrap64 (x181001 - 1)) < ((rdOf ByteArray.empty x6 x7).size : Int) then (if 0 ≤ (wrap64 ((x8.length : Int) - 1)) then (if (wrap64 ((x8.length : Int) - 1)) < (x8.length : Int) then ((spec_l03Longest.f k x181000 x181001 x181002 x181003 t189 (bt (rdOf ByteArray.empty x6 x7) (wrap64 (x181001 - 1))) (rd x8 (wrap64 ((x8.length : Int) - 1)))).bind fun t192 => ((spec_l00Max.f x4 t192).bind fun t193 => (spec_RunBound.l1 k t193 x5 x6 (wrap64 (x7 + 1)) x181000 x181001 x181002 x181003))) else (none)) else (none)) else (none)) else (none))) else (none)) else (none))
def spec_RunBound.l101 : Nat → Int → Int → List ByteArray → Int → Int → Int → List ByteArray → List ByteArray → Option (Int × Bool)
 | 0,_,_,_,_,_,_,_,_ => none
 | k + 1,x4,x5,x6,x7,x181000,x181001,x181002,x181003 => if x7 < (x6.length : Int) then (if 0 ≤ x7 then ((spec_l01Runs.f k (rdOf ByteArray.empty x6 x7)).bind fun t195 => (spec_RunBound.l102 k x4 x5 x6 x7 t195 0 x181000 x181001 x181002 x181003)) else (none)) else (spec_RunBound.l0 k x4 (wrap64 (x5 + 2)) x181000 x181001 x181002 x181003)
def spec_RunBound.l102 : Nat → Int → Int → List ByteArray → Int → List Int → Int → Int → Int → List ByteArray → List ByteArray → Option (Int × Bool)
 | 0,_,_,_,_,_,_,_,_,_,_ => none
 | k + 1,x4,x5,x6,x7,x8,x9,x181000,x181001,x181002,x181003 => if x9 < (x8.length : Int) then (if 0 ≤ x9 then ((spec_l00Max.f x4 (rd x8 x9)).bind fun t199 => (spec_RunBound.l102 k t199 x5 x6 x7 x8 (wrap64 (x9 + 1)) x181000 x181001 x181002 x181003)) else (none)) else (if 0 ≤ x7 then (if x7 < (x6.length : Int) then ((spec_l03Next.f k x5 (rdOf ByteArray.empty x6 x7)).bind fun t201 => (if 0 ≤ (wrap64 (x181001 - 1)) then (if (wrap64 (x181001 - 1)) < ((rdOf ByteArray.empty x6 x7).size : Int) then (if 0 ≤ (wrap64 ((x8.length : Int) - 1)) then (if (wrap64 ((x8.length : Int) - 1)) < (x8.length : Int) then ((spec_l03Longest.f k x181000 x181001 x181002 x181003 t201 (bt (rdOf ByteArray.empty x6 x7) (wrap64 (x181001 - 1))) (rd x8 (wrap64 ((x8.length : Int) - 1)))).bind fun t204 => ((spec_l00Max.f x4 t204).bind fun t205 => (spec_RunBound.l101 k t205 x5 x6 (wrap64 (x7 + 1)) x181000 x181001 x181002 x181003))) else (none)) else (none)) else (none)) else (none))) else (none)) else (none))
end
def spec_RunBound.f (k : Nat) (a0_0 : Int) (a0_1 : Int) (l0_2 : List ByteArray) (l0_3 : List ByteArray) : Option (Int × Bool) := (spec_l03Is.f k a0_0 a0_1 l0_2 l0_3).bind fun t181 => (if t181 = true then (spec_RunBound.l0 k 0 (-1) a0_0 a0_1 l0_2 l0_3) else (some (0,false)))
def spec_RunBound.T16 : Bool × List (List Nat × List Nat) := (true,[([],[]),([],[]),([],[]),([],[]),([2,3],[2,3]),([4],[4]),([1,5],[1,5]),([],[]),([],[]),([7,8],[7,8]),([9],[9]),([],[]),([11],[11]),([12],[12]),([10,13],[10,13]),([],[]),([],[]),([16],[16]),([17],[17]),([15,18],[15,18]),([19],[19]),([6,14,20,6],[6,14,20]),([0,21,21],[0,21]),([22,22,0,1,2,3,4,5,6,7,8,9,10,11,12,13,14,15,16,17,18,19,20,21,22],[0,22])])
def spec_RunBound.B16 : List Nat := [0,0,0,0,12,28,62,0,0,384,896,0,2048,6144,16256,0,0,65536,196608,491520,1015808,2097150,4194303,8388607]
theorem spec_RunBound.tab16 : rtab .any (opsOf Tryd.f32 16) = spec_RunBound.T16 := by kernel_rfl
theorem spec_RunBound.bits16 : waitsOk spec_RunBound.T16.2 spec_RunBound.B16 = true := by kernel_rfl
set_option maxHeartbeats 8000000 in
set_option maxRecDepth 100000 in
theorem spec_RunBound.calls (k : Nat) (a0_0 : Int) (a0_1 : Int) (A0_2 : Option Addr) (c0_2 : Nat) (l0_2 : List ByteArray) (A0_3 : Option Addr) (c0_3 : Nat) (l0_3 : List ByteArray) (r1 : Int) (r2 : Bool) (w : World) (hr0_2 : Kd.C Kd.string w A0_2 l0_2.length l0_2) (hc0_2 : l0_2.length ≤ c0_2) (hr0_3 : Kd.C Kd.string w A0_3 l0_3.length l0_3) (hc0_3 : l0_3.length ≤ c0_3) (h : spec_RunBound.f k a0_0 a0_1 l0_2 l0_3 = some (r1,r2)) :
  Calls Tryd.prog 32 #[.agg #[.int .i64 a0_0,.int .i64 a0_1,.slice A0_2 l0_2.length c0_2,.slice A0_3 l0_3.length c0_3]] w fun e w' => e = .returned (.tuple #[.int .i64 r1,.bool r2]) ∧ Below w.heap.size w w' := by
 have hu30 := Tryd.underlying30
 have HR0_2 := Aside0.mk hr0_2
 have HC0_2 := Aside0.mk hc0_2
 clear hr0_2 hc0_2
 have HR0_3 := Aside0.mk hr0_3
 have HC0_3 := Aside0.mk hc0_3
 clear hr0_3 hc0_3
 have HB := Aside0.mk (Below.refl w.heap.size w)
 have H : ((spec_l03Is.f k a0_0 a0_1 l0_2 l0_3).bind fun t181 => (if t181 = true then (spec_RunBound.l0 k 0 (-1) a0_0 a0_1 l0_2 l0_3) else (some (0,false)))) = some (r1,r2) := h
 clear h
 replace H := Option.bind_eq_some_iff.mp H
 obtain ⟨t181,A20,H⟩ := H
 replace H : (if t181 = true then (spec_RunBound.l0 k 0 (-1) a0_0 a0_1 l0_2 l0_3) else (some (0,false))) = some (r1,r2) := H
 have A2 := Aside0.mk A20
 clear A20
 by_cases c3 : t181 = true
 ·subst c3
  have H1 : (spec_RunBound.l0 k 0 (-1) a0_0 a0_1 l0_2 l0_3) = some (r1,r2) := by rw [if_pos rfl] at H; exact H
  clear H
  have H := H1
  clear H1
  have H' := Aside0.mk H
  clear H
  go_enter Tryd.func32,Tryd.ntmps32
  go_wp2_with (first | ((with_reducible refine gate_dst (N := 1) rfl ?_); refine box_event ?hg (N := 1) ?hd (cs := #[.int .i64 a0_0,.int .i64 a0_1,.slice A0_2 l0_2.length c0_2,.slice A0_3 l0_3.length c0_3]) (t := 30) ?hr ?_; (case hd => rfl); (case hg => rfl); (case hr => first | (go_simp; done) | (go_simp; rfl)); intro gb180 hg w4 hbox hb; have n0_ := Aside0.mk (below_step b6_5 hb); have n1_ := Aside0.mk (hbox); have n2_ := Aside0.mk ((by rw [hg]; exact (below_size b6_5) : w.heap.size ≤ gb180)); have n3_ := Aside0.mk ((by rw [hg]; exact (below_size b6_5) : w.heap.size ≤ gb180)); clear HB; have HB := n0_; have BK180 := n1_; have GW180 := n2_; have GE180 := n3_; clear n0_ n1_ n2_ n3_; clear hb hbox hg) | ((with_reducible refine gate_callee (f := 46) rfl ?_); refine goesL_ (some 10) rfl rfl Tryd.func46 (by kernel_rfl) rfl #[.pointer (some ⟨gb180,0,none⟩)] rfl b6_2 ?_; (with_reducible refine (spec_l03Is.calls k gb180 a0_0 a0_1 A0_2 c0_2 l0_2 A0_3 c0_3 l0_3 true _ ?side1 ?side2 ?side3 ?side4 ?side5 A2.out).mono ?_); (case side1 => exact by (with_reducible repeat (first | refine blk_drewN ?_ _ | refine blk_drew ?_ | refine blk_alloc ?_ _)); exact BK180.out); (case side2 => repeat (first | exact (Kd.C_below HR0_2.out HB.out) | (with_reducible refine Kd.C_alloc ?_ _) | (with_reducible refine Kd.C_drewN ?_ _) | (with_reducible refine Kd.C_drew ?_))); (case side3 => exact HC0_2.out); (case side4 => repeat (first | exact (Kd.C_below HR0_3.out HB.out) | (with_reducible refine Kd.C_alloc ?_ _) | (with_reducible refine Kd.C_drewN ?_ _) | (with_reducible refine Kd.C_drew ?_))); (case side5 => exact HC0_3.out); rintro e w5 ⟨rfl,hb⟩; refine ⟨_,rfl,?_⟩; have n0_ := Aside0.mk (blk_below (g := gb180) (o := .cells #[.int .i64 a0_0,.int .i64 a0_1,.slice A0_2 l0_2.length c0_2,.slice A0_3 l0_3.length c0_3] 30 (0,0)) b6_1 hb); have n1_ := Aside0.mk (below_step b6_0 hb); clear BK180; clear HB; have BK180 := n0_; have HB := n1_; clear n0_ n1_; (try clear hb); (try clear hb2); (try clear hk); (try clear hi)))
  go_loopg [4,5] k (fun kq v4 v5 w' => ∃ (x4_1 : Int) (x5_1 : Int),v4 = .int .i64 x4_1 ∧ v5 = .int .i64 x5_1 ∧ Aside0 (spec_RunBound.l0 kq x4_1 x5_1 a0_0 a0_1 l0_2 l0_3 = some (r1,r2)) ∧ Aside0 (kq ≤ k) ∧ Aside0 (w'.heap[gb180]? = some (.cells #[.int .i64 a0_0,.int .i64 a0_1,(.slice A0_2 l0_2.length c0_2),(.slice A0_3 l0_3.length c0_3)] 30 (0,0))) ∧ Aside0 (Below w.heap.size w w'))
  case atStart => exact ⟨(0),((-1)),b6_4,b6_4,H',⟨Nat.le_refl _⟩,⟨b6_1⟩,⟨b6_0⟩⟩
  case round =>
   clear H'
   (try clear p2);(try clear c3);(try clear c4)
   obtain ⟨x4_1,x5_1,rfl,rfl,HA,HK1,BK180,HB⟩ := hrel
   cases gk with
   | zero => exact absurd HA.out (by simp [spec_RunBound.l0])
   | succ k1 =>
    have H := HA.out
    clear HA
    simp only [spec_RunBound.l0] at H
    by_cases c6 : x5_1 ≤ 1
    ·rw [if_pos c6] at H
     have c6b0 : decide (x5_1 ≤ 1) = true := decide_eq_true c6
     clear c6
     by_cases c7 : x5_1 < 0
     ·rw [if_pos c7] at H
      have c7b0 : decide (x5_1 < 0) = true := decide_eq_true c7
      clear c7
      replace H := Option.bind_eq_some_iff.mp H
      obtain ⟨_,A80,H⟩ := H
      replace H : (spec_RunBound.l1 k1 x4_1 x5_1 l0_2 0 a0_0 a0_1 l0_2 l0_3) = some (r1,r2) := H
      have A8 := Aside0.mk A80
      clear A80
      have H' := Aside0.mk H
      clear H
      go_wp2_with (first | ((with_reducible refine gate_callee (f := 52) rfl ?_); refine goesL_ (some 17) rfl rfl Tryd.func52 (by kernel_rfl) rfl #[.pointer (some ⟨gb180,0,none⟩),.int .i64 x5_1] rfl b6_2 ?_; (with_reducible refine (spec_l03List_neg.calls gb180 a0_0 a0_1 A0_2 c0_2 l0_2 A0_3 c0_3 l0_3 x5_1  _ ?side1 ?side2 ?side3 ?side4 ?side5 A8.out).mono ?_); (case side1 => exact by (with_reducible repeat (first | refine blk_drewN ?_ _ | refine blk_drew ?_ | refine blk_alloc ?_ _)); exact BK180.out); (case side2 => repeat (first | exact (Kd.C_below HR0_2.out HB.out) | (with_reducible refine Kd.C_alloc ?_ _) | (with_reducible refine Kd.C_drewN ?_ _) | (with_reducible refine Kd.C_drew ?_))); (case side3 => exact HC0_2.out); (case side4 => repeat (first | exact (Kd.C_below HR0_3.out HB.out) | (with_reducible refine Kd.C_alloc ?_ _) | (with_reducible refine Kd.C_drewN ?_ _) | (with_reducible refine Kd.C_drew ?_))); (case side5 => exact HC0_3.out); rintro e w9 ⟨rfl,hb⟩; refine ⟨_,rfl,?_⟩; have n0_ := Aside0.mk (blk_below (g := gb180) (o := .cells #[.int .i64 a0_0,.int .i64 a0_1,.slice A0_2 l0_2.length c0_2,.slice A0_3 l0_3.length c0_3] 30 (0,0)) b6_1 hb); have n1_ := Aside0.mk (below_step b6_0 hb); clear BK180; clear HB; have BK180 := n0_; have HB := n1_; clear n0_ n1_; (try clear hb); (try clear hb2); (try clear hk); (try clear hi)))
      go_loopg [4,7] k1 (fun kq v4 v7 w' => ∃ (x4_2 : Int) (x7_2 : Int),v4 = .int .i64 x4_2 ∧ v7 = .int .i64 x7_2 ∧ Aside0 (spec_RunBound.l1 kq x4_2 x5_1 l0_2 x7_2 a0_0 a0_1 l0_2 l0_3 = some (r1,r2)) ∧ Aside0 (kq ≤ k1) ∧ Aside0 (w'.heap[gb180]? = some (.cells #[.int .i64 a0_0,.int .i64 a0_1,(.slice A0_2 l0_2.length c0_2),(.slice A0_3 l0_3.length c0_3)] 30 (0,0))) ∧ Aside0 (Below w.heap.size w w'))
      case atStart => exact ⟨(x4_1),(0),b6_4,b6_4,H',⟨Nat.le_refl _⟩,⟨b6_1⟩,⟨b6_0⟩⟩
      case round =>
       clear H'
       (try clear p2);(try clear c3);(try clear c4);(try clear c5);(try clear c6);(try clear c6b0);(try clear c7);(try clear c7b0);(try clear p2)
       obtain ⟨x4_2,x7_2,rfl,rfl,HA,HK2,BK180,HB⟩ := hrel
       cases gk with
       | zero => exact absurd HA.out (by simp [spec_RunBound.l1])
       | succ k2 =>
        have H := HA.out
        clear HA
        simp only [spec_RunBound.l1] at H
        by_cases c10 : x7_2 < (l0_2.length : Int)
        ·rw [if_pos c10] at H
         have c10b0 : decide (x7_2 < (l0_2.length : Int)) = true := decide_eq_true c10
         clear c10
         by_cases c11 : 0 ≤ x7_2
         ·rw [if_pos c11] at H
          have c11b0 : decide (0 ≤ x7_2) = true := decide_eq_true c11
          clear c11
          replace H := Option.bind_eq_some_iff.mp H
          obtain ⟨t183,A120,H⟩ := H
          replace H : (spec_RunBound.l2 k2 x4_2 x5_1 l0_2 x7_2 t183 0 a0_0 a0_1 l0_2 l0_3) = some (r1,r2) := H
          have A12 := Aside0.mk A120
          clear A120
          have H' := Aside0.mk H
          clear H
          have p182 : 0 ≤ (x7_2 : Int) := of_decide_eq_true b6_3
          have q182 : x7_2 < (l0_2.length : Int) := of_decide_eq_true b6_3
          obtain ⟨ad182,e182,hx182_0⟩ := Kd.at_string HR0_2.out x7_2 p182 q182
          cases e182
          replace hx182_0 := (HB.out.cell (World.block_lt_of_cell? w _ hx182_0)).trans hx182_0
          replace p182 := eq_true p182
          replace q182 := eq_true q182
          go_wp2_with (first | ((with_reducible refine gate_callee (f := 65) rfl ?_); refine goesL_ (some 28) rfl rfl Tryd.func65 (by kernel_rfl) rfl #[.string (rdOf ByteArray.empty l0_2 x7_2)] rfl b6_2 ?_; (with_reducible refine (spec_l01Runs.calls k2 (rdOf ByteArray.empty l0_2 x7_2) t183 _ A12.out).mono ?_); rintro e w13 ⟨v184,rfl,ho0,hb⟩; refine ⟨_,rfl,?_⟩; have n0_ := Aside0.mk (Kd.R_lower ho0 (below_size b6_0)); have n1_ := Aside0.mk (blk_below (g := gb180) (o := .cells #[.int .i64 a0_0,.int .i64 a0_1,.slice (some ad182) l0_2.length c0_2,.slice A0_3 l0_3.length c0_3] 30 (0,0)) b6_1 hb); have n2_ := Aside0.mk (below_step b6_0 hb); clear BK180; clear HB; have HO185 := n0_; have BK180 := n1_; have HB := n2_; clear n0_ n1_ n2_; (try clear hb); (try clear hb2); (try clear hk); (try clear hi); (try clear ho0)))
          go_loopg [4,9] k2 (fun kq v4 v9 w' => ∃ (x4_3 : Int) (x9_3 : Int),v4 = .int .i64 x4_3 ∧ v9 = .int .i64 x9_3 ∧ Aside0 (spec_RunBound.l2 kq x4_3 x5_1 l0_2 x7_2 t183 x9_3 a0_0 a0_1 l0_2 l0_3 = some (r1,r2)) ∧ Aside0 (kq ≤ k2) ∧ Aside0 (Kd.R (Kd.int .i64) 2 w' w.heap.size (fun _ => True) v184 t183) ∧ Aside0 (w'.heap[gb180]? = some (.cells #[.int .i64 a0_0,.int .i64 a0_1,(.slice (some ad182) l0_2.length c0_2),(.slice A0_3 l0_3.length c0_3)] 30 (0,0))) ∧ Aside0 (Below w.heap.size w w'))
          case atStart => exact ⟨(x4_2),(0),b6_4,b6_4,H',⟨Nat.le_refl _⟩,⟨by (with_reducible repeat (first | apply Kd.R_alloc | apply Kd.R_drewN | apply Kd.R_drew)); exact HO185.out⟩,⟨b6_1⟩,⟨b6_0⟩⟩
          case round =>
           clear H'
           (try clear c1);(try clear p1);(try clear q1);(try clear hx1);(try clear p2);(try clear c3);(try clear c4);(try clear c5);(try clear c6);(try clear c6b0);(try clear c7);(try clear c7b0);(try clear c10);(try clear c10b0);(try clear c11);(try clear c11b0);(try clear hx182_0);(try clear p182);(try clear p2);(try clear q182)
           obtain ⟨x4_3,x9_3,rfl,rfl,HA,HK3,HO_8,BK180,HB⟩ := hrel
           cases gk with
           | zero => exact absurd HA.out (by simp [spec_RunBound.l2])
           | succ k3 =>
            have H := HA.out
            clear HA
            simp only [spec_RunBound.l2] at H
            by_cases c14 : x9_3 < (t183.length : Int)
            ·rw [if_pos c14] at H
             have c14b0 : decide (x9_3 < (t183.length : Int)) = true := decide_eq_true c14
             clear c14
             by_cases c15 : 0 ≤ x9_3
             ·rw [if_pos c15] at H
              have c15b0 : decide (0 ≤ x9_3) = true := decide_eq_true c15
              clear c15
              replace H := Option.bind_eq_some_iff.mp H
              obtain ⟨t187,A160,H⟩ := H
              replace H : (spec_RunBound.l2 k3 t187 x5_1 l0_2 x7_2 t183 (wrap64 (x9_3 + 1)) a0_0 a0_1 l0_2 l0_3) = some (r1,r2) := H
              have A16 := Aside0.mk A160
              clear A160
              have H' := Aside0.mk H
              clear H
              obtain ⟨Ao17,co17,eo17⟩ := Kd.R_slice HO_8.out
              subst eo17
              have p186 : 0 ≤ (x9_3 : Int) := of_decide_eq_true b6_3
              have q186 : x9_3 < (t183.length : Int) := of_decide_eq_true b6_3
              obtain ⟨ad186,e186,hx186_0⟩ := Kd.at_int (Kd.R_reads' HO_8.out).2.2 x9_3 p186 q186
              cases e186
              replace p186 := eq_true p186
              replace q186 := eq_true q186
              go_wp2_with (first | ((with_reducible refine gate_callee (f := 54) rfl ?_); refine goesL_ (some 40) rfl rfl Tryd.func54 (by kernel_rfl) rfl #[.int .i64 x4_3,.int .i64 (rd t183 x9_3)] rfl b6_2 ?_; (with_reducible refine (spec_l00Max.calls x4_3 (rd t183 x9_3) t187 _ A16.out).mono ?_); rintro e w' ⟨rfl,⟨nd,rfl⟩⟩; refine ⟨_,rfl,?_⟩))
              go_roundg k3
              case measure => have := HK1.out; have := HK2.out; have := HK3.out; omega
              case rel => exact ⟨(t187),(wrap64 (x9_3 + 1)),b6_4,b6_4,H',⟨by have := HK1.out; have := HK2.out; have := HK3.out; omega⟩,⟨b6_6⟩,⟨b6_1⟩,⟨b6_0⟩⟩
             ·rw [if_neg c15] at H
              exact absurd H (by simp)
            ·rw [if_neg c14] at H
             have c14b0 : decide (x9_3 < (t183.length : Int)) = false := decide_eq_false c14
             clear c14
             by_cases c18 : 0 ≤ x7_2
             ·rw [if_pos c18] at H
              have c18b0 : decide (0 ≤ x7_2) = true := decide_eq_true c18
              clear c18
              by_cases c19 : x7_2 < (l0_2.length : Int)
              ·rw [if_pos c19] at H
               have c19b0 : decide (x7_2 < (l0_2.length : Int)) = true := decide_eq_true c19
               clear c19
               replace H := Option.bind_eq_some_iff.mp H
               obtain ⟨t189,A200,H⟩ := H
               replace H : (if 0 ≤ (wrap64 (a0_1 - 1)) then (if (wrap64 (a0_1 - 1)) < ((rdOf ByteArray.empty l0_2 x7_2).size : Int) then (if 0 ≤ (wrap64 ((t183.length : Int) - 1)) then (if (wrap64 ((t183.length : Int) - 1)) < (t183.length : Int) then ((spec_l03Longest.f k3 a0_0 a0_1 l0_2 l0_3 t189 (bt (rdOf ByteArray.empty l0_2 x7_2) (wrap64 (a0_1 - 1))) (rd t183 (wrap64 ((t183.length : Int) - 1)))).bind fun t192 => ((spec_l00Max.f x4_3 t192).bind fun t193 => (spec_RunBound.l1 k3 t193 x5_1 l0_2 (wrap64 (x7_2 + 1)) a0_0 a0_1 l0_2 l0_3))) else (none)) else (none)) else (none)) else (none)) = some (r1,r2) := H
               have A20 := Aside0.mk A200
               clear A200
               obtain ⟨ji21,hji21⟩ : ∃ j_ : Int,(wrap64 (a0_1 - 1)) = j_ := ⟨_,rfl⟩
               replace H : (if 0 ≤ (ji21) then (if (ji21) < ((rdOf ByteArray.empty l0_2 x7_2).size : Int) then (if 0 ≤ (wrap64 ((t183.length : Int) - 1)) then (if (wrap64 ((t183.length : Int) - 1)) < (t183.length : Int) then ((spec_l03Longest.f k3 a0_0 a0_1 l0_2 l0_3 t189 (bt (rdOf ByteArray.empty l0_2 x7_2) (ji21)) (rd t183 (wrap64 ((t183.length : Int) - 1)))).bind fun t192 => ((spec_l00Max.f x4_3 t192).bind fun t193 => (spec_RunBound.l1 k3 t193 x5_1 l0_2 (wrap64 (x7_2 + 1)) a0_0 a0_1 l0_2 l0_3))) else (none)) else (none)) else (none)) else (none)) = some (r1,r2) := by first | (rw [hji21] at H; exact H) | (simp only [hji21] at H ⊢; exact H)
               (try rw [hji21] at A20)
               have hji21w : (IntKind.i64.wrap (a0_1 - 1)) = ji21 := (i64_w _).trans hji21
               by_cases c22 : 0 ≤ (ji21)
               ·rw [if_pos c22] at H
                have c22b0 : decide (0 ≤ (ji21)) = true := decide_eq_true c22
                clear c22
                by_cases c23 : (ji21) < ((rdOf ByteArray.empty l0_2 x7_2).size : Int)
                ·rw [if_pos c23] at H
                 have c23b0 : decide ((ji21) < ((rdOf ByteArray.empty l0_2 x7_2).size : Int)) = true := decide_eq_true c23
                 clear c23
                 obtain ⟨ji25,hji25⟩ : ∃ j_ : Int,(wrap64 ((t183.length : Int) - 1)) = j_ := ⟨_,rfl⟩
                 replace H : (if 0 ≤ (ji25) then (if (ji25) < (t183.length : Int) then ((spec_l03Longest.f k3 a0_0 a0_1 l0_2 l0_3 t189 (bt (rdOf ByteArray.empty l0_2 x7_2) (ji21)) (rd t183 (ji25))).bind fun t192 => ((spec_l00Max.f x4_3 t192).bind fun t193 => (spec_RunBound.l1 k3 t193 x5_1 l0_2 (wrap64 (x7_2 + 1)) a0_0 a0_1 l0_2 l0_3))) else (none)) else (none)) = some (r1,r2) := by first | (rw [hji25] at H; exact H) | (simp only [hji25] at H ⊢; exact H)
                 (try rw [hji25] at A20)
                 have hji25w : (IntKind.i64.wrap ((t183.length : Int) - 1)) = ji25 := (i64_w _).trans hji25
                 by_cases c26 : 0 ≤ (ji25)
                 ·rw [if_pos c26] at H
                  have c26b0 : decide (0 ≤ (ji25)) = true := decide_eq_true c26
                  clear c26
                  by_cases c27 : (ji25) < (t183.length : Int)
                  ·rw [if_pos c27] at H
                   have c27b0 : decide ((ji25) < (t183.length : Int)) = true := decide_eq_true c27
                   clear c27
                   replace H := Option.bind_eq_some_iff.mp H
                   obtain ⟨t192,A280,H⟩ := H
                   replace H : ((spec_l00Max.f x4_3 t192).bind fun t193 => (spec_RunBound.l1 k3 t193 x5_1 l0_2 (wrap64 (x7_2 + 1)) a0_0 a0_1 l0_2 l0_3)) = some (r1,r2) := H
                   have A28 := Aside0.mk A280
                   clear A280
                   replace H := Option.bind_eq_some_iff.mp H
                   obtain ⟨t193,A290,H⟩ := H
                   replace H : (spec_RunBound.l1 k3 t193 x5_1 l0_2 (wrap64 (x7_2 + 1)) a0_0 a0_1 l0_2 l0_3) = some (r1,r2) := H
                   have A29 := Aside0.mk A290
                   clear A290
                   have H' := Aside0.mk H
                   clear H
                   obtain ⟨Ao30,co30,eo30⟩ := Kd.R_slice HO_8.out
                   subst eo30
                   try go_wp2
                   have n0_ := Aside0.mk (Kd.R_drew HO_8.out)
                   have n1_ := Aside0.mk (blk_drew BK180.out)
                   have n2_ := Aside0.mk (below_drew1 HB.out)
                   clear HO_8
                   clear BK180
                   clear HB
                   have HO_8 := n0_
                   have BK180 := n1_
                   have HB := n2_
                   clear n0_ n1_ n2_
                   have p188 : 0 ≤ (x7_2 : Int) := of_decide_eq_true b6_3
                   have q188 : x7_2 < (l0_2.length : Int) := of_decide_eq_true b6_3
                   obtain ⟨ad188,e188,hx188_0⟩ := Kd.at_string HR0_2.out x7_2 p188 q188
                   have hw188_0 := hx188_0
                   obtain rfl : ad182 = ad188 := (by injection e188)
                   replace hx188_0 := (HB.out.cell (World.block_lt_of_cell? w _ hx188_0)).trans hx188_0
                   replace p188 := eq_true p188
                   replace q188 := eq_true q188
                   have p190 : 0 ≤ (x7_2 : Int) := of_decide_eq_true b6_3
                   have q190 : x7_2 < (l0_2.length : Int) := of_decide_eq_true b6_3
                   obtain ⟨ad190,e190,hx190_0⟩ := Kd.at_string HR0_2.out x7_2 p190 q190
                   have hw190_0 := hx190_0
                   obtain rfl : ad182 = ad190 := (by injection e190)
                   replace hx190_0 := (HB.out.cell (World.block_lt_of_cell? w _ hx190_0)).trans hx190_0
                   replace p190 := eq_true p190
                   replace q190 := eq_true q190
                   have p24 : 0 ≤ ((ji21) : Int) := of_decide_eq_true b6_3
                   have q24 : (ji21) < ((rdOf ByteArray.empty l0_2 x7_2).size : Int) := of_decide_eq_true b6_3
                   have hx24 := bt_at (rdOf ByteArray.empty l0_2 x7_2) (ji21)
                   replace p24 := eq_true p24
                   replace q24 := eq_true q24
                   have p191 : 0 ≤ ((ji25) : Int) := of_decide_eq_true b6_3
                   have q191 : (ji25) < (t183.length : Int) := of_decide_eq_true b6_3
                   obtain ⟨ad191,e191,hx191_0⟩ := Kd.at_int (Kd.R_reads' HO_8.out).2.2 (ji25) p191 q191
                   cases e191
                   replace p191 := eq_true p191
                   replace q191 := eq_true q191
                   refine start_ (n := 24) (S := fun w' => w'.cell? ⟨gb180,0,none⟩ = some (.int .i64 a0_0) ∧ w'.cell? ⟨gb180,1,none⟩ = some (.int .i64 a0_1) ∧ w'.cell? ⟨gb180,2,none⟩ = some (.slice (some ad182) l0_2.length c0_2) ∧ w'.cell? ⟨gb180,3,none⟩ = some (.slice A0_3 l0_3.length c0_3) ∧ w'.cell? (ad182.add (x7_2).toNat) = some (.string (rdOf ByteArray.empty l0_2 x7_2)) ∧ w'.cell? (ad182.add (x7_2).toNat) = some (.string (rdOf ByteArray.empty l0_2 x7_2)) ∧ w'.cell? (ad191.add ((ji25)).toNat) = some (.int .i64 (rd t183 (ji25)))) (ds := []) #[false,false,false,false,false,false,false,false,false,false,false,false,false,false,false,false,false,false,false,false,false,false,false,false] (by kernel_rfl) rfl rfl ⟨(blk_cell BK180.out 0).trans rfl,(blk_cell BK180.out 1).trans rfl,(blk_cell BK180.out 2).trans rfl,(blk_cell BK180.out 3).trans rfl,((HB.out.cell (World.block_lt_of_cell? w _ hw188_0)).trans hw188_0),((HB.out.cell (World.block_lt_of_cell? w _ hw190_0)).trans hw190_0),hx191_0⟩ (fun hHeld => ?_); refine with_tabW spec_RunBound.tab16 spec_RunBound.bits16 (fun HT_ HW_ => ?_)
                   generalize wr.drew = w31 at HO_8 BK180 HB hx188_0 hx190_0 hx191_0 hHeld ⊢
                   refine pure_ (i := 0) (N := some 41) (v := ?_) (a' := ?_) #[true,false,false,false,false,false,false,false,false,false,false,false,false,false,false,false,false,false,false,false,false,false,false,false] rfl rfl (any_of HT_.out (by kernel_rfl)) (fun _ _ _ h => h) (Or.inl ⟨by rfl,?_⟩) ?_ ?_
                   rotate_left
                   ·intro w'
                    go_simp
                    with_reducible rfl
                   rotate_left
                   ·simp only [Act.put,List.setIfInBounds_toArray,List.set_cons_zero,List.set_cons_succ,i64_w,i32_w]
                    rfl
                   refine pure_ (i := 1) (N := some 42) (v := ?_) (a' := ?_) #[true,true,false,false,false,false,false,false,false,false,false,false,false,false,false,false,false,false,false,false,false,false,false,false] rfl rfl (any_of HT_.out (by kernel_rfl)) (fun _ _ _ h => h) (Or.inl ⟨by rfl,?_⟩) ?_ ?_
                   rotate_left
                   ·intro w'
                    go_simp
                    with_reducible rfl
                   rotate_left
                   ·simp only [Act.put,List.setIfInBounds_toArray,List.set_cons_zero,List.set_cons_succ,i64_w,i32_w]
                    rfl
                   refine pure_ (i := 2) (N := some 43) (v := ?_) (a' := ?_) #[true,true,true,false,false,false,false,false,false,false,false,false,false,false,false,false,false,false,false,false,false,false,false,false] rfl rfl (any_of HT_.out (by kernel_rfl)) (fun _ _ _ h => h) (Or.inl ⟨by rfl,?_⟩) ?_ ?_
                   rotate_left
                   ·intro w'
                    go_simp
                    with_reducible rfl
                   rotate_left
                   ·simp only [Act.put,List.setIfInBounds_toArray,List.set_cons_zero,List.set_cons_succ,i64_w,i32_w]
                    rfl
                   refine pure_ (i := 3) (N := some 44) (v := ?_) (a' := ?_) #[true,true,true,true,false,false,false,false,false,false,false,false,false,false,false,false,false,false,false,false,false,false,false,false] rfl rfl (any_of HT_.out (by kernel_rfl)) (fun _ _ _ h => h) (Or.inl ⟨by rfl,?_⟩) ?_ ?_
                   rotate_left
                   ·intro w'
                    go_simp
                    with_reducible rfl
                   rotate_left
                   ·simp only [Act.put,List.setIfInBounds_toArray,List.set_cons_zero,List.set_cons_succ,i64_w,i32_w]
                    rfl
                   refine pure_ (i := 4) (N := some 45) (v := ?_) (a' := ?_) #[true,true,true,true,true,false,false,false,false,false,false,false,false,false,false,false,false,false,false,false,false,false,false,false] rfl rfl (any_of HT_.out (by kernel_rfl)) (fun _ _ _ h => h) (Or.inl ⟨by rfl,?_⟩) ?_ ?_
                   rotate_left
                   ·intro w'
                    go_simp
                    with_reducible rfl
                   rotate_left
                   ·simp only [Act.put,List.setIfInBounds_toArray,List.set_cons_zero,List.set_cons_succ,i64_w,i32_w]
                    rfl
                   refine pure_ (i := 7) (N := some 48) (v := ?_) (a' := ?_) #[true,true,true,true,true,false,false,true,false,false,false,false,false,false,false,false,false,false,false,false,false,false,false,false] rfl rfl (any_of HT_.out (by kernel_rfl)) (fun _ _ _ h => h) (Or.inl ⟨by rfl,?_⟩) ?_ ?_
                   rotate_left
                   ·intro w'
                    go_simp
                    with_reducible rfl
                   rotate_left
                   ·simp only [Act.put,List.setIfInBounds_toArray,List.set_cons_zero,List.set_cons_succ,i64_w,i32_w]
                    rfl
                   refine pure_ (i := 8) (N := some 49) (v := ?_) (a' := ?_) #[true,true,true,true,true,false,false,true,true,false,false,false,false,false,false,false,false,false,false,false,false,false,false,false] rfl rfl (any_of HT_.out (by kernel_rfl)) (fun _ _ _ h => h) (Or.inl ⟨by rfl,?_⟩) ?_ ?_
                   rotate_left
                   ·intro w'
                    go_simp
                    with_reducible rfl
                   rotate_left
                   ·simp only [Act.put,List.setIfInBounds_toArray,List.set_cons_zero,List.set_cons_succ,i64_w,i32_w]
                    rfl
                   refine pure_ (i := 9) (N := some 50) (v := ?_) (a' := ?_) #[true,true,true,true,true,false,false,true,true,true,false,false,false,false,false,false,false,false,false,false,false,false,false,false] rfl rfl (any_of HT_.out (by kernel_rfl)) (fun _ _ _ h => h) (Or.inl ⟨by rfl,?_⟩) ?_ ?_
                   rotate_left
                   ·intro w'
                    go_simp
                    with_reducible rfl
                   rotate_left
                   ·simp only [Act.put,List.setIfInBounds_toArray,List.set_cons_zero,List.set_cons_succ,i64_w,i32_w]
                    rfl
                   refine pure_ (i := 11) (N := some 52) (v := ?_) (a' := ?_) #[true,true,true,true,true,false,false,true,true,true,false,true,false,false,false,false,false,false,false,false,false,false,false,false] rfl rfl (any_of HT_.out (by kernel_rfl)) (fun _ _ _ h => h) (Or.inl ⟨by rfl,?_⟩) ?_ ?_
                   rotate_left
                   ·intro w'
                    go_simp
                    with_reducible rfl
                   rotate_left
                   ·simp only [Act.put,List.setIfInBounds_toArray,List.set_cons_zero,List.set_cons_succ,i64_w,i32_w]
                    rfl
                   refine pure_ (i := 15) (N := some 56) (v := ?_) (a' := ?_) #[true,true,true,true,true,false,false,true,true,true,false,true,false,false,false,true,false,false,false,false,false,false,false,false] rfl rfl (any_of HT_.out (by kernel_rfl)) (fun _ _ _ h => h) (Or.inl ⟨by rfl,?_⟩) ?_ ?_
                   rotate_left
                   ·intro w'
                    go_simp
                    with_reducible rfl
                   rotate_left
                   ·simp only [Act.put,List.setIfInBounds_toArray,List.set_cons_zero,List.set_cons_succ,i64_w,i32_w]
                    rfl
                   refine pure_ (i := 16) (N := some 57) (v := ?_) (a' := ?_) #[true,true,true,true,true,false,false,true,true,true,false,true,false,false,false,true,true,false,false,false,false,false,false,false] rfl rfl (any_of HT_.out (by kernel_rfl)) (fun _ _ _ h => h) (Or.inl ⟨by rfl,?_⟩) ?_ ?_
                   rotate_left
                   ·intro w'
                    go_simp
                    with_reducible rfl
                   rotate_left
                   ·simp only [Act.put,List.setIfInBounds_toArray,List.set_cons_zero,List.set_cons_succ,i64_w,i32_w]
                    rfl
                   refine pure_ (i := 17) (N := some 58) (v := ?_) (a' := ?_) #[true,true,true,true,true,false,false,true,true,true,false,true,false,false,false,true,true,true,false,false,false,false,false,false] rfl rfl (any_of HT_.out (by kernel_rfl)) (fun _ _ _ h => h) (Or.inl ⟨by rfl,?_⟩) ?_ ?_
                   rotate_left
                   ·intro w'
                    go_simp
                    with_reducible rfl
                   rotate_left
                   ·simp only [Act.put,List.setIfInBounds_toArray,List.set_cons_zero,List.set_cons_succ,i64_w,i32_w]
                    rfl
                   refine pure_ (i := 18) (N := some 59) (v := ?_) (a' := ?_) #[true,true,true,true,true,false,false,true,true,true,false,true,false,false,false,true,true,true,true,false,false,false,false,false] rfl rfl (any_of HT_.out (by kernel_rfl)) (fun _ _ _ h => h) (Or.inl ⟨by rfl,?_⟩) ?_ ?_
                   rotate_left
                   ·intro w'
                    go_simp
                    with_reducible rfl
                   rotate_left
                   ·simp only [Act.put,List.setIfInBounds_toArray,List.set_cons_zero,List.set_cons_succ,i64_w,i32_w]
                    rfl
                   refine pure_ (i := 19) (N := some 60) (v := ?_) (a' := ?_) #[true,true,true,true,true,false,false,true,true,true,false,true,false,false,false,true,true,true,true,true,false,false,false,false] rfl rfl (any_of HT_.out (by kernel_rfl)) (fun _ _ _ h => h) (Or.inl ⟨by rfl,?_⟩) ?_ ?_
                   rotate_left
                   ·intro w'
                    go_simp
                    with_reducible rfl
                   rotate_left
                   ·simp only [Act.put,List.setIfInBounds_toArray,List.set_cons_zero,List.set_cons_succ,i64_w,i32_w]
                    rfl
                   refine take_ (i := 5) (N := some 46) (v := ?_) (a' := ?_) #[true,true,true,true,true,true,false,true,true,true,false,true,false,false,false,true,true,true,true,true,false,false,false,false] rfl rfl (take_ofW HT_.out HW_.out (by kernel_rfl)) (fun _ _ _ h => h) (Or.inl ⟨by rfl,?_⟩) hHeld ?_ ?_
                   rotate_left
                   ·rintro w' ⟨s0,s1,s2,s3,s4,s5,s6⟩
                    go_simp
                    with_reducible rfl
                   rotate_left
                   ·simp only [Act.put,List.setIfInBounds_toArray,List.set_cons_zero,List.set_cons_succ,i64_w,i32_w]
                    rfl
                   refine take_ (i := 10) (N := some 51) (v := ?_) (a' := ?_) #[true,true,true,true,true,true,false,true,true,true,true,true,false,false,false,true,true,true,true,true,false,false,false,false] rfl rfl (take_ofW HT_.out HW_.out (by kernel_rfl)) (fun _ _ _ h => h) (Or.inl ⟨by rfl,?_⟩) hHeld ?_ ?_
                   rotate_left
                   ·rintro w' ⟨s0,s1,s2,s3,s4,s5,s6⟩
                    go_simp
                    with_reducible rfl
                   rotate_left
                   ·simp only [Act.put,List.setIfInBounds_toArray,List.set_cons_zero,List.set_cons_succ,i64_w,i32_w]
                    rfl
                   refine take_ (i := 12) (N := some 53) (v := ?_) (a' := ?_) #[true,true,true,true,true,true,false,true,true,true,true,true,true,false,false,true,true,true,true,true,false,false,false,false] rfl rfl (take_ofW HT_.out HW_.out (by kernel_rfl)) (fun _ _ _ h => h) (Or.inl ⟨by rfl,?_⟩) hHeld ?_ ?_
                   rotate_left
                   ·rintro w' ⟨s0,s1,s2,s3,s4,s5,s6⟩
                    go_simp
                    with_reducible rfl
                   rotate_left
                   ·simp only [Act.put,List.setIfInBounds_toArray,List.set_cons_zero,List.set_cons_succ,i64_w,i32_w]
                    rfl
                   refine pure_ (i := 13) (N := some 54) (v := ?_) (a' := ?_) #[true,true,true,true,true,true,false,true,true,true,true,true,true,true,false,true,true,true,true,true,false,false,false,false] rfl rfl (any_of HT_.out (by kernel_rfl)) (fun _ _ _ h => h) (Or.inl ⟨by rfl,?_⟩) ?_ ?_
                   rotate_left
                   ·intro w'
                    go_simp
                    with_reducible rfl
                   rotate_left
                   ·simp only [Act.put,List.setIfInBounds_toArray,List.set_cons_zero,List.set_cons_succ,i64_w,i32_w]
                    rfl
                   refine take_ (i := 14) (N := some 55) (v := ?_) (a' := ?_) #[true,true,true,true,true,true,false,true,true,true,true,true,true,true,true,true,true,true,true,true,false,false,false,false] rfl rfl (take_ofW HT_.out HW_.out (by kernel_rfl)) (fun _ _ _ h => h) (Or.inl ⟨by rfl,?_⟩) hHeld ?_ ?_
                   rotate_left
                   ·rintro w' ⟨s0,s1,s2,s3,s4,s5,s6⟩
                    go_simp
                    with_reducible rfl
                   rotate_left
                   ·simp only [Act.put,List.setIfInBounds_toArray,List.set_cons_zero,List.set_cons_succ,i64_w,i32_w]
                    rfl
                   refine take_ (i := 20) (N := some 61) (v := ?_) (a' := ?_) #[true,true,true,true,true,true,false,true,true,true,true,true,true,true,true,true,true,true,true,true,true,false,false,false] rfl rfl (take_ofW HT_.out HW_.out (by kernel_rfl)) (fun _ _ _ h => h) (Or.inl ⟨by rfl,?_⟩) hHeld ?_ ?_
                   rotate_left
                   ·rintro w' ⟨s0,s1,s2,s3,s4,s5,s6⟩
                    go_simp
                    with_reducible rfl
                   rotate_left
                   ·simp only [Act.put,List.setIfInBounds_toArray,List.set_cons_zero,List.set_cons_succ,i64_w,i32_w]
                    rfl
                   refine one_ (i := 6) (N := some 47) #[true,true,true,true,true,true,true,true,true,true,true,true,true,true,true,true,true,true,true,true,true,false,false,false] rfl rfl (one_of HT_.out (by kernel_rfl)) (by decide) (fun K hK => ?_)
                   refine goes_ Tryd.func67 (by kernel_rfl) rfl #[.int .i64 x5_1,.string (rdOf ByteArray.empty l0_2 x7_2)] (by rfl) rfl rfl b6_2 ?_
                   with_reducible refine (spec_l03Next.calls k3 x5_1 (rdOf ByteArray.empty l0_2 x7_2) t189 _ A20.out).mono ?_
                   rintro e w' ⟨rfl,⟨nd,rfl⟩⟩
                   refine ⟨_,rfl,?_⟩
                   refine hK.out _ _ ⟨(blk_cell BK180.out 0).trans rfl,(blk_cell BK180.out 1).trans rfl,(blk_cell BK180.out 2).trans rfl,(blk_cell BK180.out 3).trans rfl,((HB.out.cell (World.block_lt_of_cell? w _ hw188_0)).trans hw188_0),((HB.out.cell (World.block_lt_of_cell? w _ hw190_0)).trans hw190_0),hHeld.2.2.2.2.2.2⟩ (fun hHeld => ?_)
                   clear hK K
                   refine norm_ (a' := ?_) ?_ ?_
                   rotate_left
                   ·show Act.put _ (some 47) _ = _
                    simp only [Act.put,List.setIfInBounds_toArray,List.set_cons_zero,List.set_cons_succ,i64_w,i32_w]
                    rfl
                   refine one_ (i := 21) (N := some 62) #[true,true,true,true,true,true,true,true,true,true,true,true,true,true,true,true,true,true,true,true,true,true,false,false] rfl rfl (one_of HT_.out (by kernel_rfl)) (by decide) (fun K hK => ?_)
                   refine goes_ Tryd.func66 (by kernel_rfl) rfl #[.pointer (some ⟨gb180,0,none⟩),.int .i64 t189,.int .u8 (bt (rdOf ByteArray.empty l0_2 x7_2) (ji21)),.int .i64 (rd t183 (ji25))] (by rfl) rfl rfl (by (try simp only [List.map_toArray,List.map_cons,List.map_nil]); first | done | (simp only [hji21,hji25]; rfl) | rfl | (simp only [List.length_drop,List.length_take]; rfl)) ?_
                   with_reducible refine (spec_l03Longest.calls k3 gb180 a0_0 a0_1 (some ad182) c0_2 l0_2 A0_3 c0_3 l0_3 t189 (bt (rdOf ByteArray.empty l0_2 x7_2) (ji21)) (rd t183 (ji25)) t192 _ ?side1 ?side2 ?side3 ?side4 ?side5 A28.out).mono ?_
                   (case side1 => exact by (with_reducible repeat (first | refine blk_drewN ?_ _ | refine blk_drew ?_ | refine blk_alloc ?_ _)); exact BK180.out)
                   (case side2 => repeat (first | exact (Kd.C_below HR0_2.out b6_0) | (with_reducible refine Kd.C_alloc ?_ _) | (with_reducible refine Kd.C_drewN ?_ _) | (with_reducible refine Kd.C_drew ?_)))
                   (case side3 => exact HC0_2.out)
                   (case side4 => repeat (first | exact (Kd.C_below HR0_3.out b6_0) | (with_reducible refine Kd.C_alloc ?_ _) | (with_reducible refine Kd.C_drewN ?_ _) | (with_reducible refine Kd.C_drew ?_)))
                   (case side5 => exact HC0_3.out)
                   rintro e w32 ⟨rfl,hb⟩
                   have HS6_ := (hb.cell (World.block_lt_of_cell? _ _ (hHeld.2.2.2.2.2.2))).trans (hHeld.2.2.2.2.2.2)
                   refine ⟨_,rfl,?_⟩
                   have n0_ := Aside0.mk (Kd.R_below b6_6 hb)
                   have n1_ := Aside0.mk (blk_below (g := gb180) (o := .cells #[.int .i64 a0_0,.int .i64 a0_1,.slice (some ad182) l0_2.length c0_2,.slice A0_3 l0_3.length c0_3] 30 (0,0)) b6_1 hb)
                   have n2_ := Aside0.mk (below_step b6_0 hb)
                   clear HO_8
                   clear BK180
                   clear HB
                   have HO_8 := n0_
                   have BK180 := n1_
                   have HB := n2_
                   clear n0_ n1_ n2_
                   (try clear hb)
                   (try clear hb2)
                   (try clear hk)
                   (try clear hi)
                   refine hK.out _ _ ⟨(blk_cell BK180.out 0).trans rfl,(blk_cell BK180.out 1).trans rfl,(blk_cell BK180.out 2).trans rfl,(blk_cell BK180.out 3).trans rfl,((HB.out.cell (World.block_lt_of_cell? w _ hw188_0)).trans hw188_0),((HB.out.cell (World.block_lt_of_cell? w _ hw190_0)).trans hw190_0),HS6_⟩ (fun hHeld => ?_)
                   clear hK K
                   refine norm_ (a' := ?_) ?_ ?_
                   rotate_left
                   ·show Act.put _ (some 62) _ = _
                    simp only [Act.put,List.setIfInBounds_toArray,List.set_cons_zero,List.set_cons_succ,i64_w,i32_w]
                    rfl
                   refine one_ (i := 22) (N := some 63) #[true,true,true,true,true,true,true,true,true,true,true,true,true,true,true,true,true,true,true,true,true,true,true,false] rfl rfl (one_of HT_.out (by kernel_rfl)) (by decide) (fun K hK => ?_)
                   refine goes_ Tryd.func54 (by kernel_rfl) rfl #[.int .i64 x4_3,.int .i64 t192] (by rfl) rfl rfl b6_2 ?_
                   with_reducible refine (spec_l00Max.calls x4_3 t192 t193 _ A29.out).mono ?_
                   rintro e w' ⟨rfl,⟨nd,rfl⟩⟩
                   refine ⟨_,rfl,?_⟩
                   refine hK.out _ _ ⟨(blk_cell BK180.out 0).trans rfl,(blk_cell BK180.out 1).trans rfl,(blk_cell BK180.out 2).trans rfl,(blk_cell BK180.out 3).trans rfl,((HB.out.cell (World.block_lt_of_cell? w _ hw188_0)).trans hw188_0),((HB.out.cell (World.block_lt_of_cell? w _ hw190_0)).trans hw190_0),hHeld.2.2.2.2.2.2⟩ (fun hHeld => ?_)
                   clear hK K
                   refine norm_ (a' := ?_) ?_ ?_
                   rotate_left
                   ·show Act.put _ (some 63) _ = _
                    simp only [Act.put,List.setIfInBounds_toArray,List.set_cons_zero,List.set_cons_succ,i64_w,i32_w]
                    rfl
                   refine pure_ (i := 23) (N := some 4) (v := ?_) (a' := ?_) #[true,true,true,true,true,true,true,true,true,true,true,true,true,true,true,true,true,true,true,true,true,true,true,true] rfl rfl (any_of HT_.out (by kernel_rfl)) (fun _ _ _ h => h) (Or.inl ⟨by rfl,?_⟩) ?_ ?_
                   rotate_left
                   ·intro w'
                    go_simp
                    with_reducible rfl
                   rotate_left
                   ·simp only [Act.put,List.setIfInBounds_toArray,List.set_cons_zero,List.set_cons_succ,i64_w,i32_w]
                    rfl
                   refine done_ (done_of HT_.out (by kernel_rfl)) ?_
                   try go_wp2
                   go_roundg k3
                   case measure => have := HK1.out; have := HK2.out; have := HK3.out; omega
                   case rel => exact ⟨(t193),(wrap64 (x7_2 + 1)),b6_4,b6_4,H',⟨by have := HK1.out; have := HK2.out; have := HK3.out; omega⟩,⟨b6_1⟩,⟨b6_0⟩⟩
                  ·rw [if_neg c27] at H
                   exact absurd H (by simp)
                 ·rw [if_neg c26] at H
                  exact absurd H (by simp)
                ·rw [if_neg c23] at H
                 exact absurd H (by simp)
               ·rw [if_neg c22] at H
                exact absurd H (by simp)
              ·rw [if_neg c19] at H
               exact absurd H (by simp)
             ·rw [if_neg c18] at H
              exact absurd H (by simp)
         ·rw [if_neg c11] at H
          exact absurd H (by simp)
        ·rw [if_neg c10] at H
         have c10b0 : decide (x7_2 < (l0_2.length : Int)) = false := decide_eq_false c10
         clear c10
         have H' := Aside0.mk H
         clear H
         go_wp2
         go_roundg k2
         case measure => have := HK1.out; have := HK2.out; omega
         case rel => exact ⟨(x4_2),(wrap64 (x5_1 + 2)),b6_4,b6_4,H',⟨by have := HK1.out; have := HK2.out; omega⟩,⟨b6_1⟩,⟨b6_0⟩⟩
     ·rw [if_neg c7] at H
      have c7b0 : decide (x5_1 < 0) = false := decide_eq_false c7
      clear c7
      replace H := Option.bind_eq_some_iff.mp H
      obtain ⟨_,A330,H⟩ := H
      replace H : (spec_RunBound.l101 k1 x4_1 x5_1 l0_3 0 a0_0 a0_1 l0_2 l0_3) = some (r1,r2) := H
      have A33 := Aside0.mk A330
      clear A330
      have H' := Aside0.mk H
      clear H
      go_wp2_with (first | ((with_reducible refine gate_callee (f := 52) rfl ?_); refine goesL_ (some 17) rfl rfl Tryd.func52 (by kernel_rfl) rfl #[.pointer (some ⟨gb180,0,none⟩),.int .i64 x5_1] rfl b6_2 ?_; (with_reducible refine (spec_l03List_pos.calls gb180 a0_0 a0_1 A0_2 c0_2 l0_2 A0_3 c0_3 l0_3 x5_1  _ ?side1 ?side2 ?side3 ?side4 ?side5 A33.out).mono ?_); (case side1 => exact by (with_reducible repeat (first | refine blk_drewN ?_ _ | refine blk_drew ?_ | refine blk_alloc ?_ _)); exact BK180.out); (case side2 => repeat (first | exact (Kd.C_below HR0_2.out HB.out) | (with_reducible refine Kd.C_alloc ?_ _) | (with_reducible refine Kd.C_drewN ?_ _) | (with_reducible refine Kd.C_drew ?_))); (case side3 => exact HC0_2.out); (case side4 => repeat (first | exact (Kd.C_below HR0_3.out HB.out) | (with_reducible refine Kd.C_alloc ?_ _) | (with_reducible refine Kd.C_drewN ?_ _) | (with_reducible refine Kd.C_drew ?_))); (case side5 => exact HC0_3.out); rintro e w34 ⟨rfl,hb⟩; refine ⟨_,rfl,?_⟩; have n0_ := Aside0.mk (blk_below (g := gb180) (o := .cells #[.int .i64 a0_0,.int .i64 a0_1,.slice A0_2 l0_2.length c0_2,.slice A0_3 l0_3.length c0_3] 30 (0,0)) b6_1 hb); have n1_ := Aside0.mk (below_step b6_0 hb); clear BK180; clear HB; have BK180 := n0_; have HB := n1_; clear n0_ n1_; (try clear hb); (try clear hb2); (try clear hk); (try clear hi)))
      go_loopg [4,7] k1 (fun kq v4 v7 w' => ∃ (x4_2 : Int) (x7_2 : Int),v4 = .int .i64 x4_2 ∧ v7 = .int .i64 x7_2 ∧ Aside0 (spec_RunBound.l101 kq x4_2 x5_1 l0_3 x7_2 a0_0 a0_1 l0_2 l0_3 = some (r1,r2)) ∧ Aside0 (kq ≤ k1) ∧ Aside0 (w'.heap[gb180]? = some (.cells #[.int .i64 a0_0,.int .i64 a0_1,(.slice A0_2 l0_2.length c0_2),(.slice A0_3 l0_3.length c0_3)] 30 (0,0))) ∧ Aside0 (Below w.heap.size w w'))
      case atStart => exact ⟨(x4_1),(0),b6_4,b6_4,H',⟨Nat.le_refl _⟩,⟨b6_1⟩,⟨b6_0⟩⟩
      case round =>
       clear H'
       (try clear c1);(try clear p1);(try clear q1);(try clear hx1);(try clear c2);(try clear p2);(try clear q2);(try clear hx2);(try clear c3);(try clear c4);(try clear c5);(try clear c6);(try clear c6b0);(try clear p6);(try clear c7);(try clear c7b0);(try clear c10);(try clear c10b0);(try clear c11);(try clear c11b0);(try clear c14);(try clear c14b0);(try clear c15);(try clear c15b0);(try clear c18);(try clear c18b0);(try clear p18);(try clear q18);(try clear hx18);(try clear c19);(try clear c19b0);(try clear p19);(try clear q19);(try clear hx19);(try clear c22);(try clear c22b0);(try clear c23);(try clear c23b0);(try clear p24);(try clear q24);(try clear hx24);(try clear c26);(try clear c26b0);(try clear c27);(try clear c27b0);(try clear c32);(try clear hx182_0);(try clear hx186_0);(try clear hx188_0);(try clear hx190_0);(try clear hx191_0);(try clear p1);(try clear p182);(try clear p186);(try clear p188);(try clear p190);(try clear p191);(try clear p2);(try clear p24);(try clear q1);(try clear q182);(try clear q186);(try clear q188);(try clear q190);(try clear q191);(try clear q24)
       obtain ⟨x4_2,x7_2,rfl,rfl,HA,HK2,BK180,HB⟩ := hrel
       cases gk with
       | zero => exact absurd HA.out (by simp [spec_RunBound.l101])
       | succ k2 =>
        have H := HA.out
        clear HA
        simp only [spec_RunBound.l101] at H
        by_cases c35 : x7_2 < (l0_3.length : Int)
        ·rw [if_pos c35] at H
         have c35b0 : decide (x7_2 < (l0_3.length : Int)) = true := decide_eq_true c35
         clear c35
         by_cases c36 : 0 ≤ x7_2
         ·rw [if_pos c36] at H
          have c36b0 : decide (0 ≤ x7_2) = true := decide_eq_true c36
          clear c36
          replace H := Option.bind_eq_some_iff.mp H
          obtain ⟨t195,A370,H⟩ := H
          replace H : (spec_RunBound.l102 k2 x4_2 x5_1 l0_3 x7_2 t195 0 a0_0 a0_1 l0_2 l0_3) = some (r1,r2) := H
          have A37 := Aside0.mk A370
          clear A370
          have H' := Aside0.mk H
          clear H
          have p194 : 0 ≤ (x7_2 : Int) := of_decide_eq_true b6_3
          have q194 : x7_2 < (l0_3.length : Int) := of_decide_eq_true b6_3
          obtain ⟨ad194,e194,hx194_0⟩ := Kd.at_string HR0_3.out x7_2 p194 q194
          cases e194
          replace hx194_0 := (HB.out.cell (World.block_lt_of_cell? w _ hx194_0)).trans hx194_0
          replace p194 := eq_true p194
          replace q194 := eq_true q194
          go_wp2_with (first | ((with_reducible refine gate_callee (f := 65) rfl ?_); refine goesL_ (some 28) rfl rfl Tryd.func65 (by kernel_rfl) rfl #[.string (rdOf ByteArray.empty l0_3 x7_2)] rfl b6_2 ?_; (with_reducible refine (spec_l01Runs.calls k2 (rdOf ByteArray.empty l0_3 x7_2) t195 _ A37.out).mono ?_); rintro e w38 ⟨v196,rfl,ho0,hb⟩; refine ⟨_,rfl,?_⟩; have n0_ := Aside0.mk (Kd.R_lower ho0 (below_size b6_0)); have n1_ := Aside0.mk (blk_below (g := gb180) (o := .cells #[.int .i64 a0_0,.int .i64 a0_1,.slice A0_2 l0_2.length c0_2,.slice (some ad194) l0_3.length c0_3] 30 (0,0)) b6_1 hb); have n2_ := Aside0.mk (below_step b6_0 hb); clear BK180; clear HB; have HO197 := n0_; have BK180 := n1_; have HB := n2_; clear n0_ n1_ n2_; (try clear hb); (try clear hb2); (try clear hk); (try clear hi); (try clear ho0)))
          go_loopg [4,9] k2 (fun kq v4 v9 w' => ∃ (x4_3 : Int) (x9_3 : Int),v4 = .int .i64 x4_3 ∧ v9 = .int .i64 x9_3 ∧ Aside0 (spec_RunBound.l102 kq x4_3 x5_1 l0_3 x7_2 t195 x9_3 a0_0 a0_1 l0_2 l0_3 = some (r1,r2)) ∧ Aside0 (kq ≤ k2) ∧ Aside0 (Kd.R (Kd.int .i64) 2 w' w.heap.size (fun _ => True) v196 t195) ∧ Aside0 (w'.heap[gb180]? = some (.cells #[.int .i64 a0_0,.int .i64 a0_1,(.slice A0_2 l0_2.length c0_2),(.slice (some ad194) l0_3.length c0_3)] 30 (0,0))) ∧ Aside0 (Below w.heap.size w w'))
          case atStart => exact ⟨(x4_2),(0),b6_4,b6_4,H',⟨Nat.le_refl _⟩,⟨by (with_reducible repeat (first | apply Kd.R_alloc | apply Kd.R_drewN | apply Kd.R_drew)); exact HO197.out⟩,⟨b6_1⟩,⟨b6_0⟩⟩
          case round =>
           clear H'
           (try clear c1);(try clear p1);(try clear q1);(try clear hx1);(try clear c2);(try clear p2);(try clear q2);(try clear hx2);(try clear c3);(try clear c4);(try clear c5);(try clear c6);(try clear c6b0);(try clear p6);(try clear c7);(try clear c7b0);(try clear c10);(try clear c10b0);(try clear c11);(try clear c11b0);(try clear c14);(try clear c14b0);(try clear c15);(try clear c15b0);(try clear c18);(try clear c18b0);(try clear p18);(try clear q18);(try clear hx18);(try clear c19);(try clear c19b0);(try clear p19);(try clear q19);(try clear hx19);(try clear c22);(try clear c22b0);(try clear c23);(try clear c23b0);(try clear p24);(try clear q24);(try clear hx24);(try clear c26);(try clear c26b0);(try clear c27);(try clear c27b0);(try clear c32);(try clear c35);(try clear c35b0);(try clear c36);(try clear c36b0);(try clear hx182_0);(try clear hx186_0);(try clear hx188_0);(try clear hx190_0);(try clear hx191_0);(try clear hx194_0);(try clear p1);(try clear p18);(try clear p182);(try clear p186);(try clear p188);(try clear p19);(try clear p190);(try clear p191);(try clear p194);(try clear p2);(try clear p24);(try clear p6);(try clear q1);(try clear q18);(try clear q182);(try clear q186);(try clear q188);(try clear q19);(try clear q190);(try clear q191);(try clear q194);(try clear q2);(try clear q24)
           obtain ⟨x4_3,x9_3,rfl,rfl,HA,HK3,HO_8,BK180,HB⟩ := hrel
           cases gk with
           | zero => exact absurd HA.out (by simp [spec_RunBound.l102])
           | succ k3 =>
            have H := HA.out
            clear HA
            simp only [spec_RunBound.l102] at H
            by_cases c39 : x9_3 < (t195.length : Int)
            ·rw [if_pos c39] at H
             have c39b0 : decide (x9_3 < (t195.length : Int)) = true := decide_eq_true c39
             clear c39
             by_cases c40 : 0 ≤ x9_3
             ·rw [if_pos c40] at H
              have c40b0 : decide (0 ≤ x9_3) = true := decide_eq_true c40
              clear c40
              replace H := Option.bind_eq_some_iff.mp H
              obtain ⟨t199,A410,H⟩ := H
              replace H : (spec_RunBound.l102 k3 t199 x5_1 l0_3 x7_2 t195 (wrap64 (x9_3 + 1)) a0_0 a0_1 l0_2 l0_3) = some (r1,r2) := H
              have A41 := Aside0.mk A410
              clear A410
              have H' := Aside0.mk H
              clear H
              obtain ⟨Ao42,co42,eo42⟩ := Kd.R_slice HO_8.out
              subst eo42
              have p198 : 0 ≤ (x9_3 : Int) := of_decide_eq_true b6_3
              have q198 : x9_3 < (t195.length : Int) := of_decide_eq_true b6_3
              obtain ⟨ad198,e198,hx198_0⟩ := Kd.at_int (Kd.R_reads' HO_8.out).2.2 x9_3 p198 q198
              cases e198
              replace p198 := eq_true p198
              replace q198 := eq_true q198
              go_wp2_with (first | ((with_reducible refine gate_callee (f := 54) rfl ?_); refine goesL_ (some 40) rfl rfl Tryd.func54 (by kernel_rfl) rfl #[.int .i64 x4_3,.int .i64 (rd t195 x9_3)] rfl b6_2 ?_; (with_reducible refine (spec_l00Max.calls x4_3 (rd t195 x9_3) t199 _ A41.out).mono ?_); rintro e w' ⟨rfl,⟨nd,rfl⟩⟩; refine ⟨_,rfl,?_⟩))
              go_roundg k3
              case measure => have := HK1.out; have := HK2.out; have := HK3.out; omega
              case rel => exact ⟨(t199),(wrap64 (x9_3 + 1)),b6_4,b6_4,H',⟨by have := HK1.out; have := HK2.out; have := HK3.out; omega⟩,⟨b6_6⟩,⟨b6_1⟩,⟨b6_0⟩⟩
             ·rw [if_neg c40] at H
              exact absurd H (by simp)
            ·rw [if_neg c39] at H
             have c39b0 : decide (x9_3 < (t195.length : Int)) = false := decide_eq_false c39
             clear c39
             by_cases c43 : 0 ≤ x7_2
             ·rw [if_pos c43] at H
              have c43b0 : decide (0 ≤ x7_2) = true := decide_eq_true c43
              clear c43
              by_cases c44 : x7_2 < (l0_3.length : Int)
              ·rw [if_pos c44] at H
               have c44b0 : decide (x7_2 < (l0_3.length : Int)) = true := decide_eq_true c44
               clear c44
               replace H := Option.bind_eq_some_iff.mp H
               obtain ⟨t201,A450,H⟩ := H
               replace H : (if 0 ≤ (wrap64 (a0_1 - 1)) then (if (wrap64 (a0_1 - 1)) < ((rdOf ByteArray.empty l0_3 x7_2).size : Int) then (if 0 ≤ (wrap64 ((t195.length : Int) - 1)) then (if (wrap64 ((t195.length : Int) - 1)) < (t195.length : Int) then ((spec_l03Longest.f k3 a0_0 a0_1 l0_2 l0_3 t201 (bt (rdOf ByteArray.empty l0_3 x7_2) (wrap64 (a0_1 - 1))) (rd t195 (wrap64 ((t195.length : Int) - 1)))).bind fun t204 => ((spec_l00Max.f x4_3 t204).bind fun t205 => (spec_RunBound.l101 k3 t205 x5_1 l0_3 (wrap64 (x7_2 + 1)) a0_0 a0_1 l0_2 l0_3))) else (none)) else (none)) else (none)) else (none)) = some (r1,r2) := H
               have A45 := Aside0.mk A450
               clear A450
               obtain ⟨ji46,hji46⟩ : ∃ j_ : Int,(wrap64 (a0_1 - 1)) = j_ := ⟨_,rfl⟩
               replace H : (if 0 ≤ (ji46) then (if (ji46) < ((rdOf ByteArray.empty l0_3 x7_2).size : Int) then (if 0 ≤ (wrap64 ((t195.length : Int) - 1)) then (if (wrap64 ((t195.length : Int) - 1)) < (t195.length : Int) then ((spec_l03Longest.f k3 a0_0 a0_1 l0_2 l0_3 t201 (bt (rdOf ByteArray.empty l0_3 x7_2) (ji46)) (rd t195 (wrap64 ((t195.length : Int) - 1)))).bind fun t204 => ((spec_l00Max.f x4_3 t204).bind fun t205 => (spec_RunBound.l101 k3 t205 x5_1 l0_3 (wrap64 (x7_2 + 1)) a0_0 a0_1 l0_2 l0_3))) else (none)) else (none)) else (none)) else (none)) = some (r1,r2) := by first | (rw [hji46] at H; exact H) | (simp only [hji46] at H ⊢; exact H)
               (try rw [hji46] at A45)
               have hji46w : (IntKind.i64.wrap (a0_1 - 1)) = ji46 := (i64_w _).trans hji46
               by_cases c47 : 0 ≤ (ji46)
               ·rw [if_pos c47] at H
                have c47b0 : decide (0 ≤ (ji46)) = true := decide_eq_true c47
                clear c47
                by_cases c48 : (ji46) < ((rdOf ByteArray.empty l0_3 x7_2).size : Int)
                ·rw [if_pos c48] at H
                 have c48b0 : decide ((ji46) < ((rdOf ByteArray.empty l0_3 x7_2).size : Int)) = true := decide_eq_true c48
                 clear c48
                 obtain ⟨ji50,hji50⟩ : ∃ j_ : Int,(wrap64 ((t195.length : Int) - 1)) = j_ := ⟨_,rfl⟩
                 replace H : (if 0 ≤ (ji50) then (if (ji50) < (t195.length : Int) then ((spec_l03Longest.f k3 a0_0 a0_1 l0_2 l0_3 t201 (bt (rdOf ByteArray.empty l0_3 x7_2) (ji46)) (rd t195 (ji50))).bind fun t204 => ((spec_l00Max.f x4_3 t204).bind fun t205 => (spec_RunBound.l101 k3 t205 x5_1 l0_3 (wrap64 (x7_2 + 1)) a0_0 a0_1 l0_2 l0_3))) else (none)) else (none)) = some (r1,r2) := by first | (rw [hji50] at H; exact H) | (simp only [hji50] at H ⊢; exact H)
                 (try rw [hji50] at A45)
                 have hji50w : (IntKind.i64.wrap ((t195.length : Int) - 1)) = ji50 := (i64_w _).trans hji50
                 by_cases c51 : 0 ≤ (ji50)
                 ·rw [if_pos c51] at H
                  have c51b0 : decide (0 ≤ (ji50)) = true := decide_eq_true c51
                  clear c51
                  by_cases c52 : (ji50) < (t195.length : Int)
                  ·rw [if_pos c52] at H
                   have c52b0 : decide ((ji50) < (t195.length : Int)) = true := decide_eq_true c52
                   clear c52
                   replace H := Option.bind_eq_some_iff.mp H
                   obtain ⟨t204,A530,H⟩ := H
                   replace H : ((spec_l00Max.f x4_3 t204).bind fun t205 => (spec_RunBound.l101 k3 t205 x5_1 l0_3 (wrap64 (x7_2 + 1)) a0_0 a0_1 l0_2 l0_3)) = some (r1,r2) := H
                   have A53 := Aside0.mk A530
                   clear A530
                   replace H := Option.bind_eq_some_iff.mp H
                   obtain ⟨t205,A540,H⟩ := H
                   replace H : (spec_RunBound.l101 k3 t205 x5_1 l0_3 (wrap64 (x7_2 + 1)) a0_0 a0_1 l0_2 l0_3) = some (r1,r2) := H
                   have A54 := Aside0.mk A540
                   clear A540
                   have H' := Aside0.mk H
                   clear H
                   obtain ⟨Ao55,co55,eo55⟩ := Kd.R_slice HO_8.out
                   subst eo55
                   try go_wp2
                   have n0_ := Aside0.mk (Kd.R_drew HO_8.out)
                   have n1_ := Aside0.mk (blk_drew BK180.out)
                   have n2_ := Aside0.mk (below_drew1 HB.out)
                   clear HO_8
                   clear BK180
                   clear HB
                   have HO_8 := n0_
                   have BK180 := n1_
                   have HB := n2_
                   clear n0_ n1_ n2_
                   have p200 : 0 ≤ (x7_2 : Int) := of_decide_eq_true b6_3
                   have q200 : x7_2 < (l0_3.length : Int) := of_decide_eq_true b6_3
                   obtain ⟨ad200,e200,hx200_0⟩ := Kd.at_string HR0_3.out x7_2 p200 q200
                   have hw200_0 := hx200_0
                   obtain rfl : ad194 = ad200 := (by injection e200)
                   replace hx200_0 := (HB.out.cell (World.block_lt_of_cell? w _ hx200_0)).trans hx200_0
                   replace p200 := eq_true p200
                   replace q200 := eq_true q200
                   have p202 : 0 ≤ (x7_2 : Int) := of_decide_eq_true b6_3
                   have q202 : x7_2 < (l0_3.length : Int) := of_decide_eq_true b6_3
                   obtain ⟨ad202,e202,hx202_0⟩ := Kd.at_string HR0_3.out x7_2 p202 q202
                   have hw202_0 := hx202_0
                   obtain rfl : ad194 = ad202 := (by injection e202)
                   replace hx202_0 := (HB.out.cell (World.block_lt_of_cell? w _ hx202_0)).trans hx202_0
                   replace p202 := eq_true p202
                   replace q202 := eq_true q202
                   have p49 : 0 ≤ ((ji46) : Int) := of_decide_eq_true b6_3
                   have q49 : (ji46) < ((rdOf ByteArray.empty l0_3 x7_2).size : Int) := of_decide_eq_true b6_3
                   have hx49 := bt_at (rdOf ByteArray.empty l0_3 x7_2) (ji46)
                   replace p49 := eq_true p49
                   replace q49 := eq_true q49
                   have p203 : 0 ≤ ((ji50) : Int) := of_decide_eq_true b6_3
                   have q203 : (ji50) < (t195.length : Int) := of_decide_eq_true b6_3
                   obtain ⟨ad203,e203,hx203_0⟩ := Kd.at_int (Kd.R_reads' HO_8.out).2.2 (ji50) p203 q203
                   cases e203
                   replace p203 := eq_true p203
                   replace q203 := eq_true q203
                   refine start_ (n := 24) (S := fun w' => w'.cell? ⟨gb180,0,none⟩ = some (.int .i64 a0_0) ∧ w'.cell? ⟨gb180,1,none⟩ = some (.int .i64 a0_1) ∧ w'.cell? ⟨gb180,2,none⟩ = some (.slice A0_2 l0_2.length c0_2) ∧ w'.cell? ⟨gb180,3,none⟩ = some (.slice (some ad194) l0_3.length c0_3) ∧ w'.cell? (ad194.add (x7_2).toNat) = some (.string (rdOf ByteArray.empty l0_3 x7_2)) ∧ w'.cell? (ad194.add (x7_2).toNat) = some (.string (rdOf ByteArray.empty l0_3 x7_2)) ∧ w'.cell? (ad203.add ((ji50)).toNat) = some (.int .i64 (rd t195 (ji50)))) (ds := []) #[false,false,false,false,false,false,false,false,false,false,false,false,false,false,false,false,false,false,false,false,false,false,false,false] (by kernel_rfl) rfl rfl ⟨(blk_cell BK180.out 0).trans rfl,(blk_cell BK180.out 1).trans rfl,(blk_cell BK180.out 2).trans rfl,(blk_cell BK180.out 3).trans rfl,((HB.out.cell (World.block_lt_of_cell? w _ hw200_0)).trans hw200_0),((HB.out.cell (World.block_lt_of_cell? w _ hw202_0)).trans hw202_0),hx203_0⟩ (fun hHeld => ?_); refine with_tabW spec_RunBound.tab16 spec_RunBound.bits16 (fun HT_ HW_ => ?_)
                   generalize wr.drew = w56 at HO_8 BK180 HB hx200_0 hx202_0 hx203_0 hHeld ⊢
                   refine pure_ (i := 0) (N := some 41) (v := ?_) (a' := ?_) #[true,false,false,false,false,false,false,false,false,false,false,false,false,false,false,false,false,false,false,false,false,false,false,false] rfl rfl (any_of HT_.out (by kernel_rfl)) (fun _ _ _ h => h) (Or.inl ⟨by rfl,?_⟩) ?_ ?_
                   rotate_left
                   ·intro w'
                    go_simp
                    with_reducible rfl
                   rotate_left
                   ·simp only [Act.put,List.setIfInBounds_toArray,List.set_cons_zero,List.set_cons_succ,i64_w,i32_w]
                    rfl
                   refine pure_ (i := 1) (N := some 42) (v := ?_) (a' := ?_) #[true,true,false,false,false,false,false,false,false,false,false,false,false,false,false,false,false,false,false,false,false,false,false,false] rfl rfl (any_of HT_.out (by kernel_rfl)) (fun _ _ _ h => h) (Or.inl ⟨by rfl,?_⟩) ?_ ?_
                   rotate_left
                   ·intro w'
                    go_simp
                    with_reducible rfl
                   rotate_left
                   ·simp only [Act.put,List.setIfInBounds_toArray,List.set_cons_zero,List.set_cons_succ,i64_w,i32_w]
                    rfl
                   refine pure_ (i := 2) (N := some 43) (v := ?_) (a' := ?_) #[true,true,true,false,false,false,false,false,false,false,false,false,false,false,false,false,false,false,false,false,false,false,false,false] rfl rfl (any_of HT_.out (by kernel_rfl)) (fun _ _ _ h => h) (Or.inl ⟨by rfl,?_⟩) ?_ ?_
                   rotate_left
                   ·intro w'
                    go_simp
                    with_reducible rfl
                   rotate_left
                   ·simp only [Act.put,List.setIfInBounds_toArray,List.set_cons_zero,List.set_cons_succ,i64_w,i32_w]
                    rfl
                   refine pure_ (i := 3) (N := some 44) (v := ?_) (a' := ?_) #[true,true,true,true,false,false,false,false,false,false,false,false,false,false,false,false,false,false,false,false,false,false,false,false] rfl rfl (any_of HT_.out (by kernel_rfl)) (fun _ _ _ h => h) (Or.inl ⟨by rfl,?_⟩) ?_ ?_
                   rotate_left
                   ·intro w'
                    go_simp
                    with_reducible rfl
                   rotate_left
                   ·simp only [Act.put,List.setIfInBounds_toArray,List.set_cons_zero,List.set_cons_succ,i64_w,i32_w]
                    rfl
                   refine pure_ (i := 4) (N := some 45) (v := ?_) (a' := ?_) #[true,true,true,true,true,false,false,false,false,false,false,false,false,false,false,false,false,false,false,false,false,false,false,false] rfl rfl (any_of HT_.out (by kernel_rfl)) (fun _ _ _ h => h) (Or.inl ⟨by rfl,?_⟩) ?_ ?_
                   rotate_left
                   ·intro w'
                    go_simp
                    with_reducible rfl
                   rotate_left
                   ·simp only [Act.put,List.setIfInBounds_toArray,List.set_cons_zero,List.set_cons_succ,i64_w,i32_w]
                    rfl
                   refine pure_ (i := 7) (N := some 48) (v := ?_) (a' := ?_) #[true,true,true,true,true,false,false,true,false,false,false,false,false,false,false,false,false,false,false,false,false,false,false,false] rfl rfl (any_of HT_.out (by kernel_rfl)) (fun _ _ _ h => h) (Or.inl ⟨by rfl,?_⟩) ?_ ?_
                   rotate_left
                   ·intro w'
                    go_simp
                    with_reducible rfl
                   rotate_left
                   ·simp only [Act.put,List.setIfInBounds_toArray,List.set_cons_zero,List.set_cons_succ,i64_w,i32_w]
                    rfl
                   refine pure_ (i := 8) (N := some 49) (v := ?_) (a' := ?_) #[true,true,true,true,true,false,false,true,true,false,false,false,false,false,false,false,false,false,false,false,false,false,false,false] rfl rfl (any_of HT_.out (by kernel_rfl)) (fun _ _ _ h => h) (Or.inl ⟨by rfl,?_⟩) ?_ ?_
                   rotate_left
                   ·intro w'
                    go_simp
                    with_reducible rfl
                   rotate_left
                   ·simp only [Act.put,List.setIfInBounds_toArray,List.set_cons_zero,List.set_cons_succ,i64_w,i32_w]
                    rfl
                   refine pure_ (i := 9) (N := some 50) (v := ?_) (a' := ?_) #[true,true,true,true,true,false,false,true,true,true,false,false,false,false,false,false,false,false,false,false,false,false,false,false] rfl rfl (any_of HT_.out (by kernel_rfl)) (fun _ _ _ h => h) (Or.inl ⟨by rfl,?_⟩) ?_ ?_
                   rotate_left
                   ·intro w'
                    go_simp
                    with_reducible rfl
                   rotate_left
                   ·simp only [Act.put,List.setIfInBounds_toArray,List.set_cons_zero,List.set_cons_succ,i64_w,i32_w]
                    rfl
                   refine pure_ (i := 11) (N := some 52) (v := ?_) (a' := ?_) #[true,true,true,true,true,false,false,true,true,true,false,true,false,false,false,false,false,false,false,false,false,false,false,false] rfl rfl (any_of HT_.out (by kernel_rfl)) (fun _ _ _ h => h) (Or.inl ⟨by rfl,?_⟩) ?_ ?_
                   rotate_left
                   ·intro w'
                    go_simp
                    with_reducible rfl
                   rotate_left
                   ·simp only [Act.put,List.setIfInBounds_toArray,List.set_cons_zero,List.set_cons_succ,i64_w,i32_w]
                    rfl
                   refine pure_ (i := 15) (N := some 56) (v := ?_) (a' := ?_) #[true,true,true,true,true,false,false,true,true,true,false,true,false,false,false,true,false,false,false,false,false,false,false,false] rfl rfl (any_of HT_.out (by kernel_rfl)) (fun _ _ _ h => h) (Or.inl ⟨by rfl,?_⟩) ?_ ?_
                   rotate_left
                   ·intro w'
                    go_simp
                    with_reducible rfl
                   rotate_left
                   ·simp only [Act.put,List.setIfInBounds_toArray,List.set_cons_zero,List.set_cons_succ,i64_w,i32_w]
                    rfl
                   refine pure_ (i := 16) (N := some 57) (v := ?_) (a' := ?_) #[true,true,true,true,true,false,false,true,true,true,false,true,false,false,false,true,true,false,false,false,false,false,false,false] rfl rfl (any_of HT_.out (by kernel_rfl)) (fun _ _ _ h => h) (Or.inl ⟨by rfl,?_⟩) ?_ ?_
                   rotate_left
                   ·intro w'
                    go_simp
                    with_reducible rfl
                   rotate_left
                   ·simp only [Act.put,List.setIfInBounds_toArray,List.set_cons_zero,List.set_cons_succ,i64_w,i32_w]
                    rfl
                   refine pure_ (i := 17) (N := some 58) (v := ?_) (a' := ?_) #[true,true,true,true,true,false,false,true,true,true,false,true,false,false,false,true,true,true,false,false,false,false,false,false] rfl rfl (any_of HT_.out (by kernel_rfl)) (fun _ _ _ h => h) (Or.inl ⟨by rfl,?_⟩) ?_ ?_
                   rotate_left
                   ·intro w'
                    go_simp
                    with_reducible rfl
                   rotate_left
                   ·simp only [Act.put,List.setIfInBounds_toArray,List.set_cons_zero,List.set_cons_succ,i64_w,i32_w]
                    rfl
                   refine pure_ (i := 18) (N := some 59) (v := ?_) (a' := ?_) #[true,true,true,true,true,false,false,true,true,true,false,true,false,false,false,true,true,true,true,false,false,false,false,false] rfl rfl (any_of HT_.out (by kernel_rfl)) (fun _ _ _ h => h) (Or.inl ⟨by rfl,?_⟩) ?_ ?_
                   rotate_left
                   ·intro w'
                    go_simp
                    with_reducible rfl
                   rotate_left
                   ·simp only [Act.put,List.setIfInBounds_toArray,List.set_cons_zero,List.set_cons_succ,i64_w,i32_w]
                    rfl
                   refine pure_ (i := 19) (N := some 60) (v := ?_) (a' := ?_) #[true,true,true,true,true,false,false,true,true,true,false,true,false,false,false,true,true,true,true,true,false,false,false,false] rfl rfl (any_of HT_.out (by kernel_rfl)) (fun _ _ _ h => h) (Or.inl ⟨by rfl,?_⟩) ?_ ?_
                   rotate_left
                   ·intro w'
                    go_simp
                    with_reducible rfl
                   rotate_left
                   ·simp only [Act.put,List.setIfInBounds_toArray,List.set_cons_zero,List.set_cons_succ,i64_w,i32_w]
                    rfl
                   refine take_ (i := 5) (N := some 46) (v := ?_) (a' := ?_) #[true,true,true,true,true,true,false,true,true,true,false,true,false,false,false,true,true,true,true,true,false,false,false,false] rfl rfl (take_ofW HT_.out HW_.out (by kernel_rfl)) (fun _ _ _ h => h) (Or.inl ⟨by rfl,?_⟩) hHeld ?_ ?_
                   rotate_left
                   ·rintro w' ⟨s0,s1,s2,s3,s4,s5,s6⟩
                    go_simp
                    with_reducible rfl
                   rotate_left
                   ·simp only [Act.put,List.setIfInBounds_toArray,List.set_cons_zero,List.set_cons_succ,i64_w,i32_w]
                    rfl
                   refine take_ (i := 10) (N := some 51) (v := ?_) (a' := ?_) #[true,true,true,true,true,true,false,true,true,true,true,true,false,false,false,true,true,true,true,true,false,false,false,false] rfl rfl (take_ofW HT_.out HW_.out (by kernel_rfl)) (fun _ _ _ h => h) (Or.inl ⟨by rfl,?_⟩) hHeld ?_ ?_
                   rotate_left
                   ·rintro w' ⟨s0,s1,s2,s3,s4,s5,s6⟩
                    go_simp
                    with_reducible rfl
                   rotate_left
                   ·simp only [Act.put,List.setIfInBounds_toArray,List.set_cons_zero,List.set_cons_succ,i64_w,i32_w]
                    rfl
                   refine take_ (i := 12) (N := some 53) (v := ?_) (a' := ?_) #[true,true,true,true,true,true,false,true,true,true,true,true,true,false,false,true,true,true,true,true,false,false,false,false] rfl rfl (take_ofW HT_.out HW_.out (by kernel_rfl)) (fun _ _ _ h => h) (Or.inl ⟨by rfl,?_⟩) hHeld ?_ ?_
                   rotate_left
                   ·rintro w' ⟨s0,s1,s2,s3,s4,s5,s6⟩
                    go_simp
                    with_reducible rfl
                   rotate_left
                   ·simp only [Act.put,List.setIfInBounds_toArray,List.set_cons_zero,List.set_cons_succ,i64_w,i32_w]
                    rfl
                   refine pure_ (i := 13) (N := some 54) (v := ?_) (a' := ?_) #[true,true,true,true,true,true,false,true,true,true,true,true,true,true,false,true,true,true,true,true,false,false,false,false] rfl rfl (any_of HT_.out (by kernel_rfl)) (fun _ _ _ h => h) (Or.inl ⟨by rfl,?_⟩) ?_ ?_
                   rotate_left
                   ·intro w'
                    go_simp
                    with_reducible rfl
                   rotate_left
                   ·simp only [Act.put,List.setIfInBounds_toArray,List.set_cons_zero,List.set_cons_succ,i64_w,i32_w]
                    rfl
                   refine take_ (i := 14) (N := some 55) (v := ?_) (a' := ?_) #[true,true,true,true,true,true,false,true,true,true,true,true,true,true,true,true,true,true,true,true,false,false,false,false] rfl rfl (take_ofW HT_.out HW_.out (by kernel_rfl)) (fun _ _ _ h => h) (Or.inl ⟨by rfl,?_⟩) hHeld ?_ ?_
                   rotate_left
                   ·rintro w' ⟨s0,s1,s2,s3,s4,s5,s6⟩
                    go_simp
                    with_reducible rfl
                   rotate_left
                   ·simp only [Act.put,List.setIfInBounds_toArray,List.set_cons_zero,List.set_cons_succ,i64_w,i32_w]
                    rfl
                   refine take_ (i := 20) (N := some 61) (v := ?_) (a' := ?_) #[true,true,true,true,true,true,false,true,true,true,true,true,true,true,true,true,true,true,true,true,true,false,false,false] rfl rfl (take_ofW HT_.out HW_.out (by kernel_rfl)) (fun _ _ _ h => h) (Or.inl ⟨by rfl,?_⟩) hHeld ?_ ?_
                   rotate_left
                   ·rintro w' ⟨s0,s1,s2,s3,s4,s5,s6⟩
                    go_simp
                    with_reducible rfl
                   rotate_left
                   ·simp only [Act.put,List.setIfInBounds_toArray,List.set_cons_zero,List.set_cons_succ,i64_w,i32_w]
                    rfl
                   refine one_ (i := 6) (N := some 47) #[true,true,true,true,true,true,true,true,true,true,true,true,true,true,true,true,true,true,true,true,true,false,false,false] rfl rfl (one_of HT_.out (by kernel_rfl)) (by decide) (fun K hK => ?_)
                   refine goes_ Tryd.func67 (by kernel_rfl) rfl #[.int .i64 x5_1,.string (rdOf ByteArray.empty l0_3 x7_2)] (by rfl) rfl rfl b6_2 ?_
                   with_reducible refine (spec_l03Next.calls k3 x5_1 (rdOf ByteArray.empty l0_3 x7_2) t201 _ A45.out).mono ?_
                   rintro e w' ⟨rfl,⟨nd,rfl⟩⟩
                   refine ⟨_,rfl,?_⟩
                   refine hK.out _ _ ⟨(blk_cell BK180.out 0).trans rfl,(blk_cell BK180.out 1).trans rfl,(blk_cell BK180.out 2).trans rfl,(blk_cell BK180.out 3).trans rfl,((HB.out.cell (World.block_lt_of_cell? w _ hw200_0)).trans hw200_0),((HB.out.cell (World.block_lt_of_cell? w _ hw202_0)).trans hw202_0),hHeld.2.2.2.2.2.2⟩ (fun hHeld => ?_)
                   clear hK K
                   refine norm_ (a' := ?_) ?_ ?_
                   rotate_left
                   ·show Act.put _ (some 47) _ = _
                    simp only [Act.put,List.setIfInBounds_toArray,List.set_cons_zero,List.set_cons_succ,i64_w,i32_w]
                    rfl
                   refine one_ (i := 21) (N := some 62) #[true,true,true,true,true,true,true,true,true,true,true,true,true,true,true,true,true,true,true,true,true,true,false,false] rfl rfl (one_of HT_.out (by kernel_rfl)) (by decide) (fun K hK => ?_)
                   refine goes_ Tryd.func66 (by kernel_rfl) rfl #[.pointer (some ⟨gb180,0,none⟩),.int .i64 t201,.int .u8 (bt (rdOf ByteArray.empty l0_3 x7_2) (ji46)),.int .i64 (rd t195 (ji50))] (by rfl) rfl rfl (by (try simp only [List.map_toArray,List.map_cons,List.map_nil]); first | done | (simp only [hji46,hji50]; rfl) | rfl | (simp only [List.length_drop,List.length_take]; rfl)) ?_
                   with_reducible refine (spec_l03Longest.calls k3 gb180 a0_0 a0_1 A0_2 c0_2 l0_2 (some ad194) c0_3 l0_3 t201 (bt (rdOf ByteArray.empty l0_3 x7_2) (ji46)) (rd t195 (ji50)) t204 _ ?side1 ?side2 ?side3 ?side4 ?side5 A53.out).mono ?_
                   (case side1 => exact by (with_reducible repeat (first | refine blk_drewN ?_ _ | refine blk_drew ?_ | refine blk_alloc ?_ _)); exact BK180.out)
                   (case side2 => repeat (first | exact (Kd.C_below HR0_2.out b6_0) | (with_reducible refine Kd.C_alloc ?_ _) | (with_reducible refine Kd.C_drewN ?_ _) | (with_reducible refine Kd.C_drew ?_)))
                   (case side3 => exact HC0_2.out)
                   (case side4 => repeat (first | exact (Kd.C_below HR0_3.out b6_0) | (with_reducible refine Kd.C_alloc ?_ _) | (with_reducible refine Kd.C_drewN ?_ _) | (with_reducible refine Kd.C_drew ?_)))
                   (case side5 => exact HC0_3.out)
                   rintro e w57 ⟨rfl,hb⟩
                   have HS6_ := (hb.cell (World.block_lt_of_cell? _ _ (hHeld.2.2.2.2.2.2))).trans (hHeld.2.2.2.2.2.2)
                   refine ⟨_,rfl,?_⟩
                   have n0_ := Aside0.mk (Kd.R_below b6_6 hb)
                   have n1_ := Aside0.mk (blk_below (g := gb180) (o := .cells #[.int .i64 a0_0,.int .i64 a0_1,.slice A0_2 l0_2.length c0_2,.slice (some ad194) l0_3.length c0_3] 30 (0,0)) b6_1 hb)
                   have n2_ := Aside0.mk (below_step b6_0 hb)
                   clear HO_8
                   clear BK180
                   clear HB
                   have HO_8 := n0_
                   have BK180 := n1_
                   have HB := n2_
                   clear n0_ n1_ n2_
                   (try clear hb)
                   (try clear hb2)
                   (try clear hk)
                   (try clear hi)
                   refine hK.out _ _ ⟨(blk_cell BK180.out 0).trans rfl,(blk_cell BK180.out 1).trans rfl,(blk_cell BK180.out 2).trans rfl,(blk_cell BK180.out 3).trans rfl,((HB.out.cell (World.block_lt_of_cell? w _ hw200_0)).trans hw200_0),((HB.out.cell (World.block_lt_of_cell? w _ hw202_0)).trans hw202_0),HS6_⟩ (fun hHeld => ?_)
                   clear hK K
                   refine norm_ (a' := ?_) ?_ ?_
                   rotate_left
                   ·show Act.put _ (some 62) _ = _
                    simp only [Act.put,List.setIfInBounds_toArray,List.set_cons_zero,List.set_cons_succ,i64_w,i32_w]
                    rfl
                   refine one_ (i := 22) (N := some 63) #[true,true,true,true,true,true,true,true,true,true,true,true,true,true,true,true,true,true,true,true,true,true,true,false] rfl rfl (one_of HT_.out (by kernel_rfl)) (by decide) (fun K hK => ?_)
                   refine goes_ Tryd.func54 (by kernel_rfl) rfl #[.int .i64 x4_3,.int .i64 t204] (by rfl) rfl rfl b6_2 ?_
                   with_reducible refine (spec_l00Max.calls x4_3 t204 t205 _ A54.out).mono ?_
                   rintro e w' ⟨rfl,⟨nd,rfl⟩⟩
                   refine ⟨_,rfl,?_⟩
                   refine hK.out _ _ ⟨(blk_cell BK180.out 0).trans rfl,(blk_cell BK180.out 1).trans rfl,(blk_cell BK180.out 2).trans rfl,(blk_cell BK180.out 3).trans rfl,((HB.out.cell (World.block_lt_of_cell? w _ hw200_0)).trans hw200_0),((HB.out.cell (World.block_lt_of_cell? w _ hw202_0)).trans hw202_0),hHeld.2.2.2.2.2.2⟩ (fun hHeld => ?_)
                   clear hK K
                   refine norm_ (a' := ?_) ?_ ?_
                   rotate_left
                   ·show Act.put _ (some 63) _ = _
                    simp only [Act.put,List.setIfInBounds_toArray,List.set_cons_zero,List.set_cons_succ,i64_w,i32_w]
                    rfl
                   refine pure_ (i := 23) (N := some 4) (v := ?_) (a' := ?_) #[true,true,true,true,true,true,true,true,true,true,true,true,true,true,true,true,true,true,true,true,true,true,true,true] rfl rfl (any_of HT_.out (by kernel_rfl)) (fun _ _ _ h => h) (Or.inl ⟨by rfl,?_⟩) ?_ ?_
                   rotate_left
                   ·intro w'
                    go_simp
                    with_reducible rfl
                   rotate_left
                   ·simp only [Act.put,List.setIfInBounds_toArray,List.set_cons_zero,List.set_cons_succ,i64_w,i32_w]
                    rfl
                   refine done_ (done_of HT_.out (by kernel_rfl)) ?_
                   try go_wp2
                   go_roundg k3
                   case measure => have := HK1.out; have := HK2.out; have := HK3.out; omega
                   case rel => exact ⟨(t205),(wrap64 (x7_2 + 1)),b6_4,b6_4,H',⟨by have := HK1.out; have := HK2.out; have := HK3.out; omega⟩,⟨b6_1⟩,⟨b6_0⟩⟩
                  ·rw [if_neg c52] at H
                   exact absurd H (by simp)
                 ·rw [if_neg c51] at H
                  exact absurd H (by simp)
                ·rw [if_neg c48] at H
                 exact absurd H (by simp)
               ·rw [if_neg c47] at H
                exact absurd H (by simp)
              ·rw [if_neg c44] at H
               exact absurd H (by simp)
             ·rw [if_neg c43] at H
              exact absurd H (by simp)
         ·rw [if_neg c36] at H
          exact absurd H (by simp)
        ·rw [if_neg c35] at H
         have c35b0 : decide (x7_2 < (l0_3.length : Int)) = false := decide_eq_false c35
         clear c35
         have H' := Aside0.mk H
         clear H
         go_wp2
         go_roundg k2
         case measure => have := HK1.out; have := HK2.out; omega
         case rel => exact ⟨(x4_2),(wrap64 (x5_1 + 2)),b6_4,b6_4,H',⟨by have := HK1.out; have := HK2.out; omega⟩,⟨b6_1⟩,⟨b6_0⟩⟩
    ·rw [if_neg c6] at H
     have c6b0 : decide (x5_1 ≤ 1) = false := decide_eq_false c6
     clear c6
     simp only [Option.some.injEq,Prod.mk.injEq] at H
     obtain ⟨rfl,rfl⟩ := H
     go_wp2
     go_ret2
     exact ⟨b6_7,b6_0⟩
 ·replace c3 := Bool.eq_false_iff.mpr c3
  subst c3
  have H1 : (some (0,false)) = some (r1,r2) := by rw [if_neg (show ¬ (false = true) by decide)] at H; exact H
  clear H
  have H := H1
  clear H1
  simp only [Option.some.injEq,Prod.mk.injEq] at H
  obtain ⟨rfl,rfl⟩ := H
  go_enter Tryd.func32,Tryd.ntmps32
  go_wp2_with (first | ((with_reducible refine gate_dst (N := 1) rfl ?_); refine box_event ?hg (N := 1) ?hd (cs := #[.int .i64 a0_0,.int .i64 a0_1,.slice A0_2 l0_2.length c0_2,.slice A0_3 l0_3.length c0_3]) (t := 30) ?hr ?_; (case hd => rfl); (case hg => rfl); (case hr => first | (go_simp; done) | (go_simp; rfl)); intro gb180 hg w58 hbox hb; have n0_ := Aside0.mk (below_step b6_5 hb); have n1_ := Aside0.mk (hbox); have n2_ := Aside0.mk ((by rw [hg]; exact (below_size b6_5) : w.heap.size ≤ gb180)); have n3_ := Aside0.mk ((by rw [hg]; exact (below_size b6_5) : w.heap.size ≤ gb180)); clear HB; have HB := n0_; have BK180 := n1_; have GW180 := n2_; have GE180 := n3_; clear n0_ n1_ n2_ n3_; clear hb hbox hg) | ((with_reducible refine gate_callee (f := 46) rfl ?_); refine goesL_ (some 10) rfl rfl Tryd.func46 (by kernel_rfl) rfl #[.pointer (some ⟨gb180,0,none⟩)] rfl b6_2 ?_; (with_reducible refine (spec_l03Is.calls k gb180 a0_0 a0_1 A0_2 c0_2 l0_2 A0_3 c0_3 l0_3 false _ ?side1 ?side2 ?side3 ?side4 ?side5 A2.out).mono ?_); (case side1 => exact by (with_reducible repeat (first | refine blk_drewN ?_ _ | refine blk_drew ?_ | refine blk_alloc ?_ _)); exact BK180.out); (case side2 => repeat (first | exact (Kd.C_below HR0_2.out HB.out) | (with_reducible refine Kd.C_alloc ?_ _) | (with_reducible refine Kd.C_drewN ?_ _) | (with_reducible refine Kd.C_drew ?_))); (case side3 => exact HC0_2.out); (case side4 => repeat (first | exact (Kd.C_below HR0_3.out HB.out) | (with_reducible refine Kd.C_alloc ?_ _) | (with_reducible refine Kd.C_drewN ?_ _) | (with_reducible refine Kd.C_drew ?_))); (case side5 => exact HC0_3.out); rintro e w59 ⟨rfl,hb⟩; refine ⟨_,rfl,?_⟩; have n0_ := Aside0.mk (blk_below (g := gb180) (o := .cells #[.int .i64 a0_0,.int .i64 a0_1,.slice A0_2 l0_2.length c0_2,.slice A0_3 l0_3.length c0_3] 30 (0,0)) b6_1 hb); have n1_ := Aside0.mk (below_step b6_0 hb); clear BK180; clear HB; have BK180 := n0_; have HB := n1_; clear n0_ n1_; (try clear hb); (try clear hb2); (try clear hk); (try clear hi)))
  go_ret2
  exact ⟨b6_7,b6_0⟩

end Go.Proofs.YtegeaoiclepkkaaDoor.QFnExactRunBound
