/-
Each Go function that this text names answers as the Lean function beside it says,wherever that one answers; conditions: the arguments lie in memory as each theorem states it.
-/
import Derived.Test.YtegeaoiclepkkaaDoorQFnExactSumRangex0
import Derived.Test.YtegeaoiclepkkaaDoorQFnExactSumRangex5
import Derived.Test.YtegeaoiclepkkaaDoorQFnExactSumRangex6
namespace Go.Proofs.YtegeaoiclepkkaaDoor.QFnExactSumRange
open Go.RowKit Go.Proofs.YtegeaoiclepkkaaDoorW.PrintWords Go.Proofs.YtegeaoiclepkkaaDoorW.PrintLast Go.Proofs.YtegeaoiclepkkaaDoorW.PrintMore
attribute [local go_sem] max2_int min2_int max_two min_two max_three min_three max_four min_four   -- for this text's walks alone
set_option linter.unusedVariables false
set_option linter.unusedSimpArgs false

/-! ### impl_SumRange: function 20 -/
mutual
def impl_SumRange.l0 : Nat → Int → Int → List Int → Int → Int → Int → Int → List ByteArray → List ByteArray → Option (Int × Int × Bool)
 | 0,_,_,_,_,_,_,_,_,_ => none
 | k + 1,x5,x6,x18,x19,x20,x169000,x169001,x169002,x169003 => if x20 < x19 then (if 0 ≤ x20 then (if x20 < (x18.length : Int) then (if (rd x18 x20) < 0 then ((impl_BlockCode_words_neg.f x169000 x169001 x169002 x169003 (rd x18 x20)).bind fun _ => (impl_SumRange.l1 k x5 x6 (rd x18 x20) x18 x19 x20 x169002 (x169002.length : Int) 0 x169000 x169001 x169002 x169003)) else ((impl_BlockCode_words_pos.f x169000 x169001 x169002 x169003 (rd x18 x20)).bind fun _ => (impl_SumRange.l101 k x5 x6 (rd x18 x20) x18 x19 x20 x169003 (x169003.length : Int) 0 x169000 x169001 x169002 x169003))) else (none)) else (none)) else (some (x5,x6,true))
def impl_SumRange.l1 : Nat → Int → Int → Int → List Int → Int → Int → List ByteArray → Int → Int → Int → Int → List ByteArray → List ByteArray → Option (Int × Int × Bool)
 | 0,_,_,_,_,_,_,_,_,_,_,_,_,_ => none
 | k + 1,x5,x6,x8,x18,x19,x20,x30,x31,x32,x169000,x169001,x169002,x169003 => if x32 < x31 then (if 0 ≤ x32 then (if x32 < (x30.length : Int) then (impl_SumRange.l2 k x5 x6 x8 (rdOf ByteArray.empty x30 x32) x18 x19 x20 x30 x31 x32 (wrap64 (((rdOf ByteArray.empty x30 x32).size : Int) + 1)) 0 x169000 x169001 x169002 x169003) else (none)) else (none)) else (impl_SumRange.l0 k x5 x6 x18 x19 (wrap64 (x20 + 1)) x169000 x169001 x169002 x169003)
def impl_SumRange.l2 : Nat → Int → Int → Int → ByteArray → List Int → Int → Int → List ByteArray → Int → Int → Int → Int → Int → Int → List ByteArray → List ByteArray → Option (Int × Int × Bool)
 | 0,_,_,_,_,_,_,_,_,_,_,_,_,_,_,_,_ => none
 | k + 1,x5,x6,x8,x12,x18,x19,x20,x30,x31,x32,x38,x39,x169000,x169001,x169002,x169003 => if x39 < x38 then (if 0 ≤ x39 then (if x39 ≤ (x12.size : Int) then ((impl_disparity.f (x12.extract 0 (x39 : Int).toNat)).bind fun t175 => (impl_SumRange.l2 k (mn x5 (wrap64 (x8 + t175))) (mx x6 (wrap64 (x8 + t175))) x8 x12 x18 x19 x20 x30 x31 x32 x38 (wrap64 (x39 + 1)) x169000 x169001 x169002 x169003)) else (none)) else (none)) else (impl_SumRange.l1 k x5 x6 x8 x18 x19 x20 x30 x31 (wrap64 (x32 + 1)) x169000 x169001 x169002 x169003)
def impl_SumRange.l101 : Nat → Int → Int → Int → List Int → Int → Int → List ByteArray → Int → Int → Int → Int → List ByteArray → List ByteArray → Option (Int × Int × Bool)
 | 0,_,_,_,_,_,_,_,_,_,_,_,_,_ => none
 | k + 1,x5,x6,x8,x18,x19,x20,x30,x31,x32,x169000,x169001,x169002,x169003 => if x32 < x31 then (if 0 ≤ x32 then (if x32 < (x30.length : Int) then (impl_SumRange.l102 k x5 x6 x8 (rdOf ByteArray.empty x30 x32) x18 x19 x20 x30 x31 x32 (wrap64 (((rdOf ByteArray.empty x30 x32).size : Int) + 1)) 0 x169000 x169001 x169002 x169003) else (none)) else (none)) else (impl_SumRange.l0 k x5 x6 x18 x19 (wrap64 (x20 + 1)) x169000 x169001 x169002 x169003)
def impl_SumRange.l102 : Nat → Int → Int → Int → ByteArray → List Int → Int → Int → List ByteArray → Int → Int → Int → Int → Int → Int → List ByteArray → List ByteArray → Option (Int × Int × Bool)
 | 0,_,_,_,_,_,_,_,_,_,_,_,_,_,_,_,_ => none
 | k + 1,x5,x6,x8,x12,x18,x19,x20,x30,x31,x32,x38,x39,x169000,x169001,x169002,x169003 => if x39 < x38 then (if 0 ≤ x39 then (if x39 ≤ (x12.size : Int) then ((impl_disparity.f (x12.extract 0 (x39 : Int).toNat)).bind fun t177 => (impl_SumRange.l102 k (mn x5 (wrap64 (x8 + t177))) (mx x6 (wrap64 (x8 + t177))) x8 x12 x18 x19 x20 x30 x31 x32 x38 (wrap64 (x39 + 1)) x169000 x169001 x169002 x169003)) else (none)) else (none)) else (impl_SumRange.l101 k x5 x6 x8 x18 x19 x20 x30 x31 (wrap64 (x32 + 1)) x169000 x169001 x169002 x169003)
end
def impl_SumRange.f (k : Nat) (a0_0 : Int) (a0_1 : Int) (l0_2 : List ByteArray) (l0_3 : List ByteArray) : Option (Int × Int × Bool) := (impl_ValidBlockCode.f k a0_0 a0_1 l0_2 l0_3).bind fun t169 => (if t169 = true then ((some (([(-1),1] : List Int) : List Int)).bind fun y170 => (impl_SumRange.l0 k (-1) 1 y170 (y170.length : Int) 0 a0_0 a0_1 l0_2 l0_3)) else (some (0,0,false)))
set_option maxHeartbeats 8000000 in
set_option maxRecDepth 100000 in
theorem impl_SumRange.calls (k : Nat) (a0_0 : Int) (a0_1 : Int) (A0_2 : Option Addr) (c0_2 : Nat) (l0_2 : List ByteArray) (A0_3 : Option Addr) (c0_3 : Nat) (l0_3 : List ByteArray) (r1 : Int) (r2 : Int) (r3 : Bool) (w : World) (hr0_2 : Kd.C Kd.string w A0_2 l0_2.length l0_2) (hc0_2 : l0_2.length ≤ c0_2) (hr0_3 : Kd.C Kd.string w A0_3 l0_3.length l0_3) (hc0_3 : l0_3.length ≤ c0_3) (h : impl_SumRange.f k a0_0 a0_1 l0_2 l0_3 = some (r1,r2,r3)) :
  Calls Tryd.prog 20 #[.agg #[.int .i64 a0_0,.int .i64 a0_1,.slice A0_2 l0_2.length c0_2,.slice A0_3 l0_3.length c0_3]] w fun e w' => e = .returned (.tuple #[.int .i64 r1,.int .i64 r2,.bool r3]) ∧ Below w.heap.size w w' := by
 have hu30 := Tryd.underlying30
 have HR0_2 := Aside0.mk hr0_2
 have HC0_2 := Aside0.mk hc0_2
 clear hr0_2 hc0_2
 have HR0_3 := Aside0.mk hr0_3
 have HC0_3 := Aside0.mk hc0_3
 clear hr0_3 hc0_3
 have HB := Aside0.mk (Below.refl w.heap.size w)
 have H : ((impl_ValidBlockCode.f k a0_0 a0_1 l0_2 l0_3).bind fun t169 => (if t169 = true then ((some (([(-1),1] : List Int) : List Int)).bind fun y170 => (impl_SumRange.l0 k (-1) 1 y170 (y170.length : Int) 0 a0_0 a0_1 l0_2 l0_3)) else (some (0,0,false)))) = some (r1,r2,r3) := h
 clear h
 replace H := Option.bind_eq_some_iff.mp H
 obtain ⟨t169,A20,H⟩ := H
 replace H : (if t169 = true then ((some (([(-1),1] : List Int) : List Int)).bind fun y170 => (impl_SumRange.l0 k (-1) 1 y170 (y170.length : Int) 0 a0_0 a0_1 l0_2 l0_3)) else (some (0,0,false))) = some (r1,r2,r3) := H
 have A2 := Aside0.mk A20
 clear A20
 by_cases c3 : t169 = true
 ·subst c3
  have H1 : ((some (([(-1),1] : List Int) : List Int)).bind fun y170 => (impl_SumRange.l0 k (-1) 1 y170 (y170.length : Int) 0 a0_0 a0_1 l0_2 l0_3)) = some (r1,r2,r3) := by rw [if_pos rfl] at H; exact H
  clear H
  have H := H1
  clear H1
  obtain ⟨y170,hy170⟩ : ∃ y_ : List Int,y_ = (([(-1),1] : List Int)) := ⟨_,rfl⟩
  replace H : (impl_SumRange.l0 k (-1) 1 y170 (y170.length : Int) 0 a0_0 a0_1 l0_2 l0_3) = some (r1,r2,r3) := by first | (rw [hy170]; with_reducible exact H) | (have H2_ := (Option.bind_some _ _).symm.trans H; rw [hy170]; with_reducible exact H2_) | (have H2_ := (Option.bind_some _ _).symm.trans H; with_reducible exact H2_) | with_reducible exact H | (rw [hy170]; exact H) | exact H
  have Ny170 := Aside0.mk hy170
  clear hy170
  have H' := Aside0.mk H
  clear H
  go_enter Tryd.func20,Tryd.ntmps20
  go_wp2_with (first | ((with_reducible refine gate_dst (N := 1) rfl ?_); refine box_event ?hg (N := 1) ?hd (cs := #[.int .i64 a0_0,.int .i64 a0_1,.slice A0_2 l0_2.length c0_2,.slice A0_3 l0_3.length c0_3]) (t := 30) ?hr ?_; (case hd => rfl); (case hg => rfl); (case hr => first | (go_simp; done) | (go_simp; rfl)); intro gb168 hg w4 hbox hb; have n0_ := Aside0.mk (below_step (by repeat (first | (with_reducible first | exact HB.out | apply below_alloc | apply pw_below_drewN | apply below_drew1) | exact HB.out)) hb); have n1_ := Aside0.mk (hbox); have n2_ := Aside0.mk ((by rw [hg]; exact (below_size (by repeat (first | (with_reducible first | exact HB.out | apply below_alloc | apply pw_below_drewN | apply below_drew1) | exact HB.out))) : w.heap.size ≤ gb168)); have n3_ := Aside0.mk ((by rw [hg]; exact (below_size (by repeat (first | (with_reducible first | exact HB.out | apply below_alloc | apply pw_below_drewN | apply below_drew1) | exact HB.out))) : w.heap.size ≤ gb168)); clear HB; have HB := n0_; have BK168 := n1_; have GW168 := n2_; have GE168 := n3_; clear n0_ n1_ n2_ n3_; clear hb hbox hg; have hcz5_0 : w4.cell? ⟨gb168,0,none⟩ = some (.int .i64 a0_0) := (blk_cell BK168.out 0).trans rfl; have hcz5_1 : w4.cell? ⟨gb168,1,none⟩ = some (.int .i64 a0_1) := (blk_cell BK168.out 1).trans rfl; have hcz5_2 : w4.cell? ⟨gb168,2,none⟩ = some (.slice A0_2 l0_2.length c0_2) := (blk_cell BK168.out 2).trans rfl; have hcz5_3 : w4.cell? ⟨gb168,3,none⟩ = some (.slice A0_3 l0_3.length c0_3) := (blk_cell BK168.out 3).trans rfl; have hfz5_0 := blk_frozen BK168.out 0; have hfz5_1 := blk_frozen BK168.out 1; have hfz5_2 := blk_frozen BK168.out 2; have hfz5_3 := blk_frozen BK168.out 3) | ((with_reducible refine gate_callee (f := 17) rfl ?_); refine goesL_ (some 16) rfl rfl Tryd.func17 (by kernel_rfl) rfl #[.agg #[.int .i64 a0_0,.int .i64 a0_1,.slice A0_2 l0_2.length c0_2,.slice A0_3 l0_3.length c0_3]] rfl (by (try simp only [List.map_toArray,List.map_cons,List.map_nil]); first | done | rfl | (simp only [List.length_drop,List.length_take]; rfl)) ?_; (with_reducible refine (impl_ValidBlockCode.calls k a0_0 a0_1 _ _ l0_2 _ _ l0_3 true _ ?side1 ?side2 ?side3 ?side4 A2.out).mono ?_); (case side1 => repeat (first | exact (Kd.C_below HR0_2.out HB.out) | (with_reducible refine Kd.C_alloc ?_ _) | (with_reducible refine Kd.C_drewN ?_ _) | (with_reducible refine Kd.C_drew ?_))); (case side2 => exact HC0_2.out); (case side3 => repeat (first | exact (Kd.C_below HR0_3.out HB.out) | (with_reducible refine Kd.C_alloc ?_ _) | (with_reducible refine Kd.C_drewN ?_ _) | (with_reducible refine Kd.C_drew ?_))); (case side4 => exact HC0_3.out); rintro e w6 ⟨rfl,hb⟩; refine ⟨_,rfl,?_⟩; have n0_ := Aside0.mk (blk_below (g := gb168) (o := .cells #[.int .i64 a0_0,.int .i64 a0_1,.slice A0_2 l0_2.length c0_2,.slice A0_3 l0_3.length c0_3] 30 (0,0)) (by (with_reducible repeat (first | refine blk_drewN ?_ _ | refine blk_drew ?_ | refine blk_alloc ?_ _)); exact BK168.out) hb); have n1_ := Aside0.mk (below_step (by repeat (first | (with_reducible first | exact HB.out | apply below_alloc | apply pw_below_drewN | apply below_drew1 | refine below_set ?_ GE168.out) | exact HB.out)) hb); clear BK168; clear HB; have BK168 := n0_; have HB := n1_; clear n0_ n1_; (try clear hb); (try clear hb2); (try clear hk); (try clear hi)) | ((with_reducible refine gate_dst (N := 18) rfl ?_); refine Kd.R_lit (Kd.int .i64) _ 2 ?hg (N := 18) ?hd (xs := ([(-1),1] : List Int)) (inner := [.int .i64 (-1),.int .i64 1]) (ok := fun _ => True) (okp := fun _ => True) ?hr ?hp (fun _ hk => hk) trivial (Below.refl _ _) (Nat.le_refl _) (by simp) ?_; (case hd => rfl); (case hg => rfl); (case hr => first | (go_simp; done) | (go_simp; rfl)); (case hp => exact (Reps.one (show Kd.M (Kd.int .i64) _ _ _ (-1) [.int .i64 (-1)] from rfl) (Reps.one (show Kd.M (Kd.int .i64) _ _ _ 1 [.int .i64 1] from rfl) (Reps.none _ _)))); intro v171 w7 ho8 hb hg_ hnew_; clear hg_ hnew_; (first | rw [← Ny170.out] at ho8 | (simp only [Int.reduceToNat] at ho8; rw [← Ny170.out] at ho8)); have n0_ := Aside0.mk (Kd.R_lower ho8 (below_size (by repeat (first | (with_reducible first | exact HB.out | apply below_alloc | apply pw_below_drewN | apply below_drew1 | refine below_set ?_ GE168.out) | exact HB.out)))); have n1_ := Aside0.mk (blk_below (g := gb168) (o := .cells #[.int .i64 a0_0,.int .i64 a0_1,.slice A0_2 l0_2.length c0_2,.slice A0_3 l0_3.length c0_3] 30 (0,0)) (by (with_reducible repeat (first | refine blk_drewN ?_ _ | refine blk_drew ?_ | refine blk_alloc ?_ _)); exact BK168.out) hb); have n2_ := Aside0.mk (below_step (by repeat (first | (with_reducible first | exact HB.out | apply below_alloc | apply pw_below_drewN | apply below_drew1 | refine below_set ?_ GE168.out) | exact HB.out)) hb); clear BK168; clear HB; have HO172 := n0_; have BK168 := n1_; have HB := n2_; clear n0_ n1_ n2_; clear hb ho8; obtain ⟨Ao9,co9,eo9⟩ := Kd.R_slice HO172.out; subst eo9))
  go_loopg [5,6,20] k (fun kq v5 v6 v20 w' => ∃ (x5_1 : Int) (x6_1 : Int) (x20_1 : Int),v5 = .int .i64 x5_1 ∧ v6 = .int .i64 x6_1 ∧ v20 = .int .i64 x20_1 ∧ Aside0 (impl_SumRange.l0 kq x5_1 x6_1 y170 (y170.length : Int) x20_1 a0_0 a0_1 l0_2 l0_3 = some (r1,r2,r3)) ∧ Aside0 (kq ≤ k) ∧ Aside0 (Kd.R (Kd.int .i64) 2 w' w.heap.size (fun _ => True) (.slice Ao9 y170.length co9) y170) ∧ Aside0 (w'.heap[gb168]? = some (.cells #[.int .i64 a0_0,.int .i64 a0_1,(.slice A0_2 l0_2.length c0_2),(.slice A0_3 l0_3.length c0_3)] 30 (0,0))) ∧ Aside0 (Below w.heap.size w w'))
  case atStart => exact ⟨((-1)),(1),(0),(by first | rfl | (simp; done) | (simp [*]; done)),(by first | rfl | (simp; done) | (simp [*]; done)),(by first | rfl | (simp; done) | (simp [*]; done)),H',⟨Nat.le_refl _⟩,⟨by (with_reducible repeat (first | apply Kd.R_alloc | apply Kd.R_drewN | apply Kd.R_drew)); exact HO172.out⟩,⟨by (with_reducible repeat (first | refine blk_drewN ?_ _ | refine blk_drew ?_ | refine blk_alloc ?_ _)); exact BK168.out⟩,⟨by repeat (first | (with_reducible first | exact HB.out | apply below_alloc | apply pw_below_drewN | apply below_drew1 | refine below_set ?_ GE168.out) | exact HB.out)⟩⟩
  case round =>
   clear H'
   try clear c1
   try clear c2
   try clear p2
   try clear c3
   try clear hcz5_0
   try clear hcz5_1
   try clear hcz5_2
   try clear hcz5_3
   try clear hfz5_0
   try clear hfz5_1
   try clear hfz5_2
   try clear hfz5_3
   obtain ⟨x5_1,x6_1,x20_1,rfl,rfl,rfl,HA,HK1,HO_18,BK168,HB⟩ := hrel
   cases gk with
   | zero => exact absurd HA.out (by simp [impl_SumRange.l0])
   | succ k1 =>
    have H := HA.out
    clear HA
    simp only [impl_SumRange.l0] at H
    by_cases c10 : x20_1 < (y170.length : Int)
    ·rw [if_pos c10] at H
     have c10b0 : decide (x20_1 < (y170.length : Int)) = true := decide_eq_true c10
     clear c10
     by_cases c11 : 0 ≤ x20_1
     ·rw [if_pos c11] at H
      have c11b0 : decide (0 ≤ x20_1) = true := decide_eq_true c11
      clear c11
      by_cases c12 : x20_1 < (y170.length : Int)
      ·rw [if_pos c12] at H
       have c12b0 : decide (x20_1 < (y170.length : Int)) = true := decide_eq_true c12
       clear c12
       by_cases c13 : (rd y170 x20_1) < 0
       ·rw [if_pos c13] at H
        have c13b0 : decide ((rd y170 x20_1) < 0) = true := decide_eq_true c13
        clear c13
        replace H := Option.bind_eq_some_iff.mp H
        obtain ⟨_,A140,H⟩ := H
        replace H : (impl_SumRange.l1 k1 x5_1 x6_1 (rd y170 x20_1) y170 (y170.length : Int) x20_1 l0_2 (l0_2.length : Int) 0 a0_0 a0_1 l0_2 l0_3) = some (r1,r2,r3) := H
        have A14 := Aside0.mk A140
        clear A140
        have H' := Aside0.mk H
        clear H
        have p173 : 0 ≤ (x20_1 : Int) := of_decide_eq_true (by first | (with_reducible assumption) | assumption)
        have q173 : x20_1 < (y170.length : Int) := of_decide_eq_true (by first | (with_reducible assumption) | assumption)
        obtain ⟨ad173,e173,hx173_0⟩ := Kd.at_int (Kd.R_reads' HO_18.out).2.2 x20_1 p173 q173
        cases e173
        replace p173 := eq_true p173
        replace q173 := eq_true q173
        have hcz15_0 : wr.cell? ⟨gb168,0,none⟩ = some (.int .i64 a0_0) := (blk_cell BK168.out 0).trans rfl
        have hcz15_1 : wr.cell? ⟨gb168,1,none⟩ = some (.int .i64 a0_1) := (blk_cell BK168.out 1).trans rfl
        have hcz15_2 : wr.cell? ⟨gb168,2,none⟩ = some (.slice A0_2 l0_2.length c0_2) := (blk_cell BK168.out 2).trans rfl
        have hcz15_3 : wr.cell? ⟨gb168,3,none⟩ = some (.slice A0_3 l0_3.length c0_3) := (blk_cell BK168.out 3).trans rfl
        have hfz15_0 := blk_frozen BK168.out 0
        have hfz15_1 := blk_frozen BK168.out 1
        have hfz15_2 := blk_frozen BK168.out 2
        have hfz15_3 := blk_frozen BK168.out 3
        go_wp2_with (first | ((with_reducible refine gate_callee (f := 55) rfl ?_); refine goesL_ (some 27) rfl rfl Tryd.func55 (by kernel_rfl) rfl #[.agg #[.int .i64 a0_0,.int .i64 a0_1,.slice A0_2 l0_2.length c0_2,.slice A0_3 l0_3.length c0_3],.int .i64 (rd y170 x20_1)] rfl (by (try simp only [List.map_toArray,List.map_cons,List.map_nil]); first | done | rfl | (simp only [List.length_drop,List.length_take]; rfl)) ?_; (with_reducible refine (impl_BlockCode_words_neg.calls a0_0 a0_1 _ _ l0_2 _ _ l0_3 (rd y170 x20_1)  _ ?side1 ?side2 ?side3 ?side4 A14.out).mono ?_); (case side1 => repeat (first | exact (Kd.C_below HR0_2.out HB.out) | (with_reducible refine Kd.C_alloc ?_ _) | (with_reducible refine Kd.C_drewN ?_ _) | (with_reducible refine Kd.C_drew ?_))); (case side2 => exact HC0_2.out); (case side3 => repeat (first | exact (Kd.C_below HR0_3.out HB.out) | (with_reducible refine Kd.C_alloc ?_ _) | (with_reducible refine Kd.C_drewN ?_ _) | (with_reducible refine Kd.C_drew ?_))); (case side4 => exact HC0_3.out); rintro e w16 ⟨rfl,hb⟩; refine ⟨_,rfl,?_⟩; have n0_ := Aside0.mk (Kd.R_below (by (with_reducible repeat (first | apply Kd.R_alloc | apply Kd.R_drewN | apply Kd.R_drew)); exact HO_18.out) hb); have n1_ := Aside0.mk (blk_below (g := gb168) (o := .cells #[.int .i64 a0_0,.int .i64 a0_1,.slice A0_2 l0_2.length c0_2,.slice A0_3 l0_3.length c0_3] 30 (0,0)) (by (with_reducible repeat (first | refine blk_drewN ?_ _ | refine blk_drew ?_ | refine blk_alloc ?_ _)); exact BK168.out) hb); have n2_ := Aside0.mk (below_step (by repeat (first | (with_reducible first | exact HB.out | apply below_alloc | apply pw_below_drewN | apply below_drew1 | refine below_set ?_ GE168.out) | exact HB.out)) hb); clear HO_18; clear BK168; clear HB; have HO_18 := n0_; have BK168 := n1_; have HB := n2_; clear n0_ n1_ n2_; (try clear hb); (try clear hb2); (try clear hk); (try clear hi)))
        go_loopg [5,6,32] k1 (fun kq v5 v6 v32 w' => ∃ (x5_2 : Int) (x6_2 : Int) (x32_2 : Int),v5 = .int .i64 x5_2 ∧ v6 = .int .i64 x6_2 ∧ v32 = .int .i64 x32_2 ∧ Aside0 (impl_SumRange.l1 kq x5_2 x6_2 (rd y170 x20_1) y170 (y170.length : Int) x20_1 l0_2 (l0_2.length : Int) x32_2 a0_0 a0_1 l0_2 l0_3 = some (r1,r2,r3)) ∧ Aside0 (kq ≤ k1) ∧ Aside0 (Kd.R (Kd.int .i64) 2 w' w.heap.size (fun _ => True) (.slice (some ad173) y170.length co9) y170) ∧ Aside0 (w'.heap[gb168]? = some (.cells #[.int .i64 a0_0,.int .i64 a0_1,(.slice A0_2 l0_2.length c0_2),(.slice A0_3 l0_3.length c0_3)] 30 (0,0))) ∧ Aside0 (Below w.heap.size w w'))
        case atStart => exact ⟨(x5_1),(x6_1),(0),(by first | rfl | (simp; done) | (simp [*]; done)),(by first | rfl | (simp; done) | (simp [*]; done)),(by first | rfl | (simp; done) | (simp [*]; done)),H',⟨Nat.le_refl _⟩,⟨by (with_reducible repeat (first | apply Kd.R_alloc | apply Kd.R_drewN | apply Kd.R_drew)); exact HO_18.out⟩,⟨by (with_reducible repeat (first | refine blk_drewN ?_ _ | refine blk_drew ?_ | refine blk_alloc ?_ _)); exact BK168.out⟩,⟨by repeat (first | (with_reducible first | exact HB.out | apply below_alloc | apply pw_below_drewN | apply below_drew1 | refine below_set ?_ GE168.out) | exact HB.out)⟩⟩
        case round =>
         clear H'
         try clear c1
         try clear p1
         try clear q1
         try clear hx1
         try clear c2
         try clear p2
         try clear c3
         try clear c5
         try clear c10
         try clear c10b0
         try clear c11
         try clear c11b0
         try clear c12
         try clear c12b0
         try clear c13
         try clear c13b0
         try clear hcz15_0
         try clear hcz15_1
         try clear hcz15_2
         try clear hcz15_3
         try clear hcz5_0
         try clear hcz5_1
         try clear hcz5_2
         try clear hcz5_3
         try clear hfz15_0
         try clear hfz15_1
         try clear hfz15_2
         try clear hfz15_3
         try clear hfz5_0
         try clear hfz5_1
         try clear hfz5_2
         try clear hfz5_3
         try clear hx173_0
         try clear p173
         try clear p2
         try clear q173
         obtain ⟨x5_2,x6_2,x32_2,rfl,rfl,rfl,HA,HK2,HO_18,BK168,HB⟩ := hrel
         cases gk with
         | zero => exact absurd HA.out (by simp [impl_SumRange.l1])
         | succ k2 =>
          have H := HA.out
          clear HA
          simp only [impl_SumRange.l1] at H
          by_cases c17 : x32_2 < (l0_2.length : Int)
          ·rw [if_pos c17] at H
           have c17b0 : decide (x32_2 < (l0_2.length : Int)) = true := decide_eq_true c17
           clear c17
           by_cases c18 : 0 ≤ x32_2
           ·rw [if_pos c18] at H
            have c18b0 : decide (0 ≤ x32_2) = true := decide_eq_true c18
            clear c18
            by_cases c19 : x32_2 < (l0_2.length : Int)
            ·rw [if_pos c19] at H
             have c19b0 : decide (x32_2 < (l0_2.length : Int)) = true := decide_eq_true c19
             clear c19
             have H' := Aside0.mk H
             clear H
             have p174 : 0 ≤ (x32_2 : Int) := of_decide_eq_true (by first | (with_reducible assumption) | assumption)
             have q174 : x32_2 < (l0_2.length : Int) := of_decide_eq_true (by first | (with_reducible assumption) | assumption)
             obtain ⟨ad174,e174,hx174_0⟩ := Kd.at_string HR0_2.out x32_2 p174 q174
             cases e174
             replace hx174_0 := (HB.out.cell (World.block_lt_of_cell? w _ hx174_0)).trans hx174_0
             replace p174 := eq_true p174
             replace q174 := eq_true q174
             go_wp2
             go_loopg [5,6,39] k2 (fun kq v5 v6 v39 w' => ∃ (x5_3 : Int) (x6_3 : Int) (x39_3 : Int),v5 = .int .i64 x5_3 ∧ v6 = .int .i64 x6_3 ∧ v39 = .int .i64 x39_3 ∧ Aside0 (impl_SumRange.l2 kq x5_3 x6_3 (rd y170 x20_1) (rdOf ByteArray.empty l0_2 x32_2) y170 (y170.length : Int) x20_1 l0_2 (l0_2.length : Int) x32_2 (wrap64 (((rdOf ByteArray.empty l0_2 x32_2).size : Int) + 1)) x39_3 a0_0 a0_1 l0_2 l0_3 = some (r1,r2,r3)) ∧ Aside0 (kq ≤ k2) ∧ Aside0 (Kd.R (Kd.int .i64) 2 w' w.heap.size (fun _ => True) (.slice (some ad173) y170.length co9) y170) ∧ Aside0 (w'.heap[gb168]? = some (.cells #[.int .i64 a0_0,.int .i64 a0_1,(.slice (some ad174) l0_2.length c0_2),(.slice A0_3 l0_3.length c0_3)] 30 (0,0))) ∧ Aside0 (Below w.heap.size w w'))
             case atStart => exact ⟨(x5_2),(x6_2),(0),(by first | rfl | (simp; done) | (simp [*]; done)),(by first | rfl | (simp; done) | (simp [*]; done)),(by first | rfl | (simp; done) | (simp [*]; done)),H',⟨Nat.le_refl _⟩,⟨by (with_reducible repeat (first | apply Kd.R_alloc | apply Kd.R_drewN | apply Kd.R_drew)); exact HO_18.out⟩,⟨by (with_reducible repeat (first | refine blk_drewN ?_ _ | refine blk_drew ?_ | refine blk_alloc ?_ _)); exact BK168.out⟩,⟨by repeat (first | (with_reducible first | exact HB.out | apply below_alloc | apply pw_below_drewN | apply below_drew1 | refine below_set ?_ GE168.out) | exact HB.out)⟩⟩
             case round =>
              clear H'
              try clear c1
              try clear p1
              try clear q1
              try clear hx1
              try clear c2
              try clear p2
              try clear c3
              try clear c5
              try clear p6
              try clear c10
              try clear c10b0
              try clear c11
              try clear c11b0
              try clear c12
              try clear c12b0
              try clear c13
              try clear c13b0
              try clear c17
              try clear c17b0
              try clear p17
              try clear q17
              try clear hx17
              try clear c18
              try clear c18b0
              try clear c19
              try clear c19b0
              try clear hcz15_0
              try clear hcz15_1
              try clear hcz15_2
              try clear hcz15_3
              try clear hcz5_0
              try clear hcz5_1
              try clear hcz5_2
              try clear hcz5_3
              try clear hfz15_0
              try clear hfz15_1
              try clear hfz15_2
              try clear hfz15_3
              try clear hfz5_0
              try clear hfz5_1
              try clear hfz5_2
              try clear hfz5_3
              try clear hx173_0
              try clear hx174_0
              try clear p1
              try clear p173
              try clear p174
              try clear p2
              try clear q1
              try clear q173
              try clear q174
              obtain ⟨x5_3,x6_3,x39_3,rfl,rfl,rfl,HA,HK3,HO_18,BK168,HB⟩ := hrel
              cases gk with
              | zero => exact absurd HA.out (by simp [impl_SumRange.l2])
              | succ k3 =>
               have H := HA.out
               clear HA
               simp only [impl_SumRange.l2] at H
               by_cases c20 : x39_3 < (wrap64 (((rdOf ByteArray.empty l0_2 x32_2).size : Int) + 1))
               ·rw [if_pos c20] at H
                have c20b0 : decide (x39_3 < (wrap64 (((rdOf ByteArray.empty l0_2 x32_2).size : Int) + 1))) = true := decide_eq_true c20
                clear c20
                by_cases c21 : 0 ≤ x39_3
                ·rw [if_pos c21] at H
                 have c21b0 := eq_true c21
                 have c21b1 : decide (0 ≤ x39_3) = true := decide_eq_true c21
                 clear c21
                 by_cases c22 : x39_3 ≤ ((rdOf ByteArray.empty l0_2 x32_2).size : Int)
                 ·rw [if_pos c22] at H
                  have c22b0 := eq_true c22
                  have c22b1 : decide (x39_3 ≤ ((rdOf ByteArray.empty l0_2 x32_2).size : Int)) = true := decide_eq_true c22
                  clear c22
                  replace H := Option.bind_eq_some_iff.mp H
                  obtain ⟨t175,A230,H⟩ := H
                  replace H : (impl_SumRange.l2 k3 (mn x5_3 (wrap64 ((rd y170 x20_1) + t175))) (mx x6_3 (wrap64 ((rd y170 x20_1) + t175))) (rd y170 x20_1) (rdOf ByteArray.empty l0_2 x32_2) y170 (y170.length : Int) x20_1 l0_2 (l0_2.length : Int) x32_2 (wrap64 (((rdOf ByteArray.empty l0_2 x32_2).size : Int) + 1)) (wrap64 (x39_3 + 1)) a0_0 a0_1 l0_2 l0_3) = some (r1,r2,r3) := H
                  have A23 := Aside0.mk A230
                  clear A230
                  obtain ⟨ji24,hji24⟩ : ∃ j_ : Int,(mn x5_3 (wrap64 ((rd y170 x20_1) + t175))) = j_ := ⟨_,rfl⟩
                  replace H : (impl_SumRange.l2 k3 ji24 (mx x6_3 (wrap64 ((rd y170 x20_1) + t175))) (rd y170 x20_1) (rdOf ByteArray.empty l0_2 x32_2) y170 (y170.length : Int) x20_1 l0_2 (l0_2.length : Int) x32_2 (wrap64 (((rdOf ByteArray.empty l0_2 x32_2).size : Int) + 1)) (wrap64 (x39_3 + 1)) a0_0 a0_1 l0_2 l0_3) = some (r1,r2,r3) := by first | (rw [hji24] at H; exact H) | (simp only [hji24] at H ⊢; exact H)
                  (try rw [hji24] at A23)
                  have hji24_ : (if (wrap64 ((rd y170 x20_1) + t175)) < x5_3 then (wrap64 ((rd y170 x20_1) + t175)) else x5_3) = ji24 := hji24
                  obtain ⟨ji25,hji25⟩ : ∃ j_ : Int,(mx x6_3 (wrap64 ((rd y170 x20_1) + t175))) = j_ := ⟨_,rfl⟩
                  replace H : (impl_SumRange.l2 k3 ji24 ji25 (rd y170 x20_1) (rdOf ByteArray.empty l0_2 x32_2) y170 (y170.length : Int) x20_1 l0_2 (l0_2.length : Int) x32_2 (wrap64 (((rdOf ByteArray.empty l0_2 x32_2).size : Int) + 1)) (wrap64 (x39_3 + 1)) a0_0 a0_1 l0_2 l0_3) = some (r1,r2,r3) := by first | (rw [hji25] at H; exact H) | (simp only [hji25] at H ⊢; exact H)
                  (try rw [hji25] at A23)
                  have hji25_ : (if x6_3 < (wrap64 ((rd y170 x20_1) + t175)) then (wrap64 ((rd y170 x20_1) + t175)) else x6_3) = ji25 := hji25
                  have H' := Aside0.mk H
                  clear H
                  go_wp2_with (first | ((with_reducible refine gate_callee (f := 44) rfl ?_); refine goesL_ (some 46) rfl rfl Tryd.func44 (by kernel_rfl) rfl #[.string ((rdOf ByteArray.empty l0_2 x32_2).extract 0 (x39_3 : Int).toNat)] rfl (by (try simp only [List.map_toArray,List.map_cons,List.map_nil]); first | done | rfl | (simp only [List.length_drop,List.length_take]; rfl)) ?_; (with_reducible refine (impl_disparity.calls ((rdOf ByteArray.empty l0_2 x32_2).extract 0 (x39_3 : Int).toNat) t175 _ A23.out).mono ?_); rintro e w' ⟨rfl,⟨nd,rfl⟩⟩; refine ⟨_,rfl,?_⟩))
                  go_roundg k3
                  case measure => have := HK1.out; have := HK2.out; have := HK3.out; omega
                  case rel => exact ⟨(ji24),(ji25),(wrap64 (x39_3 + 1)),(by first | rfl | (simp; done) | (simp only [← hji24] <;> (first | rfl | simp)) | (simp [*]; done)),(by first | rfl | (simp; done) | (simp only [← hji25] <;> (first | rfl | simp)) | (simp [*]; done)),(by first | rfl | (simp; done) | (simp [*]; done)),H',⟨by have := HK1.out; have := HK2.out; have := HK3.out; omega⟩,⟨by (with_reducible repeat (first | apply Kd.R_alloc | apply Kd.R_drewN | apply Kd.R_drew)); exact HO_18.out⟩,⟨by (with_reducible repeat (first | refine blk_drewN ?_ _ | refine blk_drew ?_ | refine blk_alloc ?_ _)); exact BK168.out⟩,⟨by repeat (first | (with_reducible first | exact HB.out | apply below_alloc | apply pw_below_drewN | apply below_drew1 | refine below_set ?_ GE168.out) | exact HB.out)⟩⟩
                 ·rw [if_neg c22] at H
                  exact absurd H (by simp)
                ·rw [if_neg c21] at H
                 exact absurd H (by simp)
               ·rw [if_neg c20] at H
                have c20b0 : decide (x39_3 < (wrap64 (((rdOf ByteArray.empty l0_2 x32_2).size : Int) + 1))) = false := decide_eq_false c20
                clear c20
                have H' := Aside0.mk H
                clear H
                go_wp2
                go_roundg k3
                case measure => have := HK1.out; have := HK2.out; have := HK3.out; omega
                case rel => exact ⟨(x5_3),(x6_3),(wrap64 (x32_2 + 1)),(by first | rfl | (simp; done) | (simp [*]; done)),(by first | rfl | (simp; done) | (simp [*]; done)),(by first | rfl | (simp; done) | (simp [*]; done)),H',⟨by have := HK1.out; have := HK2.out; have := HK3.out; omega⟩,⟨by (with_reducible repeat (first | apply Kd.R_alloc | apply Kd.R_drewN | apply Kd.R_drew)); exact HO_18.out⟩,⟨by (with_reducible repeat (first | refine blk_drewN ?_ _ | refine blk_drew ?_ | refine blk_alloc ?_ _)); exact BK168.out⟩,⟨by repeat (first | (with_reducible first | exact HB.out | apply below_alloc | apply pw_below_drewN | apply below_drew1 | refine below_set ?_ GE168.out) | exact HB.out)⟩⟩
            ·rw [if_neg c19] at H
             exact absurd H (by simp)
           ·rw [if_neg c18] at H
            exact absurd H (by simp)
          ·rw [if_neg c17] at H
           have c17b0 : decide (x32_2 < (l0_2.length : Int)) = false := decide_eq_false c17
           clear c17
           have H' := Aside0.mk H
           clear H
           go_wp2
           go_roundg k2
           case measure => have := HK1.out; have := HK2.out; omega
           case rel => exact ⟨(x5_2),(x6_2),(wrap64 (x20_1 + 1)),(by first | rfl | (simp; done) | (simp [*]; done)),(by first | rfl | (simp; done) | (simp [*]; done)),(by first | rfl | (simp; done) | (simp [*]; done)),H',⟨by have := HK1.out; have := HK2.out; omega⟩,⟨by (with_reducible repeat (first | apply Kd.R_alloc | apply Kd.R_drewN | apply Kd.R_drew)); exact HO_18.out⟩,⟨by (with_reducible repeat (first | refine blk_drewN ?_ _ | refine blk_drew ?_ | refine blk_alloc ?_ _)); exact BK168.out⟩,⟨by repeat (first | (with_reducible first | exact HB.out | apply below_alloc | apply pw_below_drewN | apply below_drew1 | refine below_set ?_ GE168.out) | exact HB.out)⟩⟩
       ·rw [if_neg c13] at H
        have c13b0 : decide ((rd y170 x20_1) < 0) = false := decide_eq_false c13
        clear c13
        replace H := Option.bind_eq_some_iff.mp H
        obtain ⟨_,A260,H⟩ := H
        replace H : (impl_SumRange.l101 k1 x5_1 x6_1 (rd y170 x20_1) y170 (y170.length : Int) x20_1 l0_3 (l0_3.length : Int) 0 a0_0 a0_1 l0_2 l0_3) = some (r1,r2,r3) := H
        have A26 := Aside0.mk A260
        clear A260
        have H' := Aside0.mk H
        clear H
        have p173 : 0 ≤ (x20_1 : Int) := of_decide_eq_true (by first | (with_reducible assumption) | assumption)
        have q173 : x20_1 < (y170.length : Int) := of_decide_eq_true (by first | (with_reducible assumption) | assumption)
        obtain ⟨ad173,e173,hx173_0⟩ := Kd.at_int (Kd.R_reads' HO_18.out).2.2 x20_1 p173 q173
        cases e173
        replace p173 := eq_true p173
        replace q173 := eq_true q173
        have hcz27_0 : wr.cell? ⟨gb168,0,none⟩ = some (.int .i64 a0_0) := (blk_cell BK168.out 0).trans rfl
        have hcz27_1 : wr.cell? ⟨gb168,1,none⟩ = some (.int .i64 a0_1) := (blk_cell BK168.out 1).trans rfl
        have hcz27_2 : wr.cell? ⟨gb168,2,none⟩ = some (.slice A0_2 l0_2.length c0_2) := (blk_cell BK168.out 2).trans rfl
        have hcz27_3 : wr.cell? ⟨gb168,3,none⟩ = some (.slice A0_3 l0_3.length c0_3) := (blk_cell BK168.out 3).trans rfl
        have hfz27_0 := blk_frozen BK168.out 0
        have hfz27_1 := blk_frozen BK168.out 1
        have hfz27_2 := blk_frozen BK168.out 2
        have hfz27_3 := blk_frozen BK168.out 3
        go_wp2_with (first | ((with_reducible refine gate_callee (f := 55) rfl ?_); refine goesL_ (some 27) rfl rfl Tryd.func55 (by kernel_rfl) rfl #[.agg #[.int .i64 a0_0,.int .i64 a0_1,.slice A0_2 l0_2.length c0_2,.slice A0_3 l0_3.length c0_3],.int .i64 (rd y170 x20_1)] rfl (by (try simp only [List.map_toArray,List.map_cons,List.map_nil]); first | done | rfl | (simp only [List.length_drop,List.length_take]; rfl)) ?_; (with_reducible refine (impl_BlockCode_words_pos.calls a0_0 a0_1 _ _ l0_2 _ _ l0_3 (rd y170 x20_1)  _ ?side1 ?side2 ?side3 ?side4 A26.out).mono ?_); (case side1 => repeat (first | exact (Kd.C_below HR0_2.out HB.out) | (with_reducible refine Kd.C_alloc ?_ _) | (with_reducible refine Kd.C_drewN ?_ _) | (with_reducible refine Kd.C_drew ?_))); (case side2 => exact HC0_2.out); (case side3 => repeat (first | exact (Kd.C_below HR0_3.out HB.out) | (with_reducible refine Kd.C_alloc ?_ _) | (with_reducible refine Kd.C_drewN ?_ _) | (with_reducible refine Kd.C_drew ?_))); (case side4 => exact HC0_3.out); rintro e w28 ⟨rfl,hb⟩; refine ⟨_,rfl,?_⟩; have n0_ := Aside0.mk (Kd.R_below (by (with_reducible repeat (first | apply Kd.R_alloc | apply Kd.R_drewN | apply Kd.R_drew)); exact HO_18.out) hb); have n1_ := Aside0.mk (blk_below (g := gb168) (o := .cells #[.int .i64 a0_0,.int .i64 a0_1,.slice A0_2 l0_2.length c0_2,.slice A0_3 l0_3.length c0_3] 30 (0,0)) (by (with_reducible repeat (first | refine blk_drewN ?_ _ | refine blk_drew ?_ | refine blk_alloc ?_ _)); exact BK168.out) hb); have n2_ := Aside0.mk (below_step (by repeat (first | (with_reducible first | exact HB.out | apply below_alloc | apply pw_below_drewN | apply below_drew1 | refine below_set ?_ GE168.out) | exact HB.out)) hb); clear HO_18; clear BK168; clear HB; have HO_18 := n0_; have BK168 := n1_; have HB := n2_; clear n0_ n1_ n2_; (try clear hb); (try clear hb2); (try clear hk); (try clear hi)))
        go_loopg [5,6,32] k1 (fun kq v5 v6 v32 w' => ∃ (x5_2 : Int) (x6_2 : Int) (x32_2 : Int),v5 = .int .i64 x5_2 ∧ v6 = .int .i64 x6_2 ∧ v32 = .int .i64 x32_2 ∧ Aside0 (impl_SumRange.l101 kq x5_2 x6_2 (rd y170 x20_1) y170 (y170.length : Int) x20_1 l0_3 (l0_3.length : Int) x32_2 a0_0 a0_1 l0_2 l0_3 = some (r1,r2,r3)) ∧ Aside0 (kq ≤ k1) ∧ Aside0 (Kd.R (Kd.int .i64) 2 w' w.heap.size (fun _ => True) (.slice (some ad173) y170.length co9) y170) ∧ Aside0 (w'.heap[gb168]? = some (.cells #[.int .i64 a0_0,.int .i64 a0_1,(.slice A0_2 l0_2.length c0_2),(.slice A0_3 l0_3.length c0_3)] 30 (0,0))) ∧ Aside0 (Below w.heap.size w w'))
        case atStart => exact ⟨(x5_1),(x6_1),(0),(by first | rfl | (simp; done) | (simp [*]; done)),(by first | rfl | (simp; done) | (simp [*]; done)),(by first | rfl | (simp; done) | (simp [*]; done)),H',⟨Nat.le_refl _⟩,⟨by (with_reducible repeat (first | apply Kd.R_alloc | apply Kd.R_drewN | apply Kd.R_drew)); exact HO_18.out⟩,⟨by (with_reducible repeat (first | refine blk_drewN ?_ _ | refine blk_drew ?_ | refine blk_alloc ?_ _)); exact BK168.out⟩,⟨by repeat (first | (with_reducible first | exact HB.out | apply below_alloc | apply pw_below_drewN | apply below_drew1 | refine below_set ?_ GE168.out) | exact HB.out)⟩⟩
        case round =>
         clear H'
         try clear c1
         try clear p1
         try clear q1
         try clear hx1
         try clear c2
         try clear p2
         try clear c3
         try clear c4
         try clear c5
         try clear p6
         try clear c10
         try clear c10b0
         try clear c11
         try clear c11b0
         try clear c12
         try clear c12b0
         try clear c13
         try clear c13b0
         try clear c17
         try clear c17b0
         try clear p17
         try clear q17
         try clear hx17
         try clear c18
         try clear c18b0
         try clear c19
         try clear c19b0
         try clear c20
         try clear c20b0
         try clear c21
         try clear c21b0
         try clear c21b1
         try clear c22
         try clear c22b0
         try clear c22b1
         try clear hcz15_0
         try clear hcz15_1
         try clear hcz15_2
         try clear hcz15_3
         try clear hcz27_0
         try clear hcz27_1
         try clear hcz27_2
         try clear hcz27_3
         try clear hcz5_0
         try clear hcz5_1
         try clear hcz5_2
         try clear hcz5_3
         try clear hfz15_0
         try clear hfz15_1
         try clear hfz15_2
         try clear hfz15_3
         try clear hfz27_0
         try clear hfz27_1
         try clear hfz27_2
         try clear hfz27_3
         try clear hfz5_0
         try clear hfz5_1
         try clear hfz5_2
         try clear hfz5_3
         try clear hx173_0
         try clear hx174_0
         try clear p1
         try clear p17
         try clear p173
         try clear p174
         try clear p2
         try clear p6
         try clear q1
         try clear q17
         try clear q173
         try clear q174
         obtain ⟨x5_2,x6_2,x32_2,rfl,rfl,rfl,HA,HK2,HO_18,BK168,HB⟩ := hrel
         cases gk with
         | zero => exact absurd HA.out (by simp [impl_SumRange.l101])
         | succ k2 =>
          have H := HA.out
          clear HA
          simp only [impl_SumRange.l101] at H
          by_cases c29 : x32_2 < (l0_3.length : Int)
          ·rw [if_pos c29] at H
           have c29b0 : decide (x32_2 < (l0_3.length : Int)) = true := decide_eq_true c29
           clear c29
           by_cases c30 : 0 ≤ x32_2
           ·rw [if_pos c30] at H
            have c30b0 : decide (0 ≤ x32_2) = true := decide_eq_true c30
            clear c30
            by_cases c31 : x32_2 < (l0_3.length : Int)
            ·rw [if_pos c31] at H
             have c31b0 : decide (x32_2 < (l0_3.length : Int)) = true := decide_eq_true c31
             clear c31
             have H' := Aside0.mk H
             clear H
             have p176 : 0 ≤ (x32_2 : Int) := of_decide_eq_true (by first | (with_reducible assumption) | assumption)
             have q176 : x32_2 < (l0_3.length : Int) := of_decide_eq_true (by first | (with_reducible assumption) | assumption)
             obtain ⟨ad176,e176,hx176_0⟩ := Kd.at_string HR0_3.out x32_2 p176 q176
             cases e176
             replace hx176_0 := (HB.out.cell (World.block_lt_of_cell? w _ hx176_0)).trans hx176_0
             replace p176 := eq_true p176
             replace q176 := eq_true q176
             go_wp2
             go_loopg [5,6,39] k2 (fun kq v5 v6 v39 w' => ∃ (x5_3 : Int) (x6_3 : Int) (x39_3 : Int),v5 = .int .i64 x5_3 ∧ v6 = .int .i64 x6_3 ∧ v39 = .int .i64 x39_3 ∧ Aside0 (impl_SumRange.l102 kq x5_3 x6_3 (rd y170 x20_1) (rdOf ByteArray.empty l0_3 x32_2) y170 (y170.length : Int) x20_1 l0_3 (l0_3.length : Int) x32_2 (wrap64 (((rdOf ByteArray.empty l0_3 x32_2).size : Int) + 1)) x39_3 a0_0 a0_1 l0_2 l0_3 = some (r1,r2,r3)) ∧ Aside0 (kq ≤ k2) ∧ Aside0 (Kd.R (Kd.int .i64) 2 w' w.heap.size (fun _ => True) (.slice (some ad173) y170.length co9) y170) ∧ Aside0 (w'.heap[gb168]? = some (.cells #[.int .i64 a0_0,.int .i64 a0_1,(.slice A0_2 l0_2.length c0_2),(.slice (some ad176) l0_3.length c0_3)] 30 (0,0))) ∧ Aside0 (Below w.heap.size w w'))
             case atStart => exact ⟨(x5_2),(x6_2),(0),(by first | rfl | (simp; done) | (simp [*]; done)),(by first | rfl | (simp; done) | (simp [*]; done)),(by first | rfl | (simp; done) | (simp [*]; done)),H',⟨Nat.le_refl _⟩,⟨by (with_reducible repeat (first | apply Kd.R_alloc | apply Kd.R_drewN | apply Kd.R_drew)); exact HO_18.out⟩,⟨by (with_reducible repeat (first | refine blk_drewN ?_ _ | refine blk_drew ?_ | refine blk_alloc ?_ _)); exact BK168.out⟩,⟨by repeat (first | (with_reducible first | exact HB.out | apply below_alloc | apply pw_below_drewN | apply below_drew1 | refine below_set ?_ GE168.out) | exact HB.out)⟩⟩
             case round =>
              clear H'
              try clear c1
              try clear p1
              try clear q1
              try clear hx1
              try clear c2
              try clear p2
              try clear c3
              try clear c4
              try clear c5
              try clear p6
              try clear c10
              try clear c10b0
              try clear c11
              try clear c11b0
              try clear c12
              try clear c12b0
              try clear c13
              try clear c13b0
              try clear c17
              try clear c17b0
              try clear p17
              try clear q17
              try clear hx17
              try clear c18
              try clear c18b0
              try clear c19
              try clear c19b0
              try clear c20
              try clear c20b0
              try clear c21
              try clear c21b0
              try clear c21b1
              try clear c22
              try clear c22b0
              try clear c22b1
              try clear c29
              try clear c29b0
              try clear c30
              try clear c30b0
              try clear c31
              try clear c31b0
              try clear hcz15_0
              try clear hcz15_1
              try clear hcz15_2
              try clear hcz15_3
              try clear hcz27_0
              try clear hcz27_1
              try clear hcz27_2
              try clear hcz27_3
              try clear hcz5_0
              try clear hcz5_1
              try clear hcz5_2
              try clear hcz5_3
              try clear hfz15_0
              try clear hfz15_1
              try clear hfz15_2
              try clear hfz15_3
              try clear hfz27_0
              try clear hfz27_1
              try clear hfz27_2
              try clear hfz27_3
              try clear hfz5_0
              try clear hfz5_1
              try clear hfz5_2
              try clear hfz5_3
              try clear hx173_0
              try clear hx174_0
              try clear hx176_0
              try clear p1
              try clear p17
              try clear p173
              try clear p174
              try clear p176
              try clear p2
              try clear p6
              try clear q1
              try clear q17
              try clear q173
              try clear q174
              try clear q176
              obtain ⟨x5_3,x6_3,x39_3,rfl,rfl,rfl,HA,HK3,HO_18,BK168,HB⟩ := hrel
              cases gk with
              | zero => exact absurd HA.out (by simp [impl_SumRange.l102])
              | succ k3 =>
               have H := HA.out
               clear HA
               simp only [impl_SumRange.l102] at H
               by_cases c32 : x39_3 < (wrap64 (((rdOf ByteArray.empty l0_3 x32_2).size : Int) + 1))
               ·rw [if_pos c32] at H
                have c32b0 : decide (x39_3 < (wrap64 (((rdOf ByteArray.empty l0_3 x32_2).size : Int) + 1))) = true := decide_eq_true c32
                clear c32
                by_cases c33 : 0 ≤ x39_3
                ·rw [if_pos c33] at H
                 have c33b0 := eq_true c33
                 have c33b1 : decide (0 ≤ x39_3) = true := decide_eq_true c33
                 clear c33
                 by_cases c34 : x39_3 ≤ ((rdOf ByteArray.empty l0_3 x32_2).size : Int)
                 ·rw [if_pos c34] at H
                  have c34b0 := eq_true c34
                  have c34b1 : decide (x39_3 ≤ ((rdOf ByteArray.empty l0_3 x32_2).size : Int)) = true := decide_eq_true c34
                  clear c34
                  replace H := Option.bind_eq_some_iff.mp H
                  obtain ⟨t177,A350,H⟩ := H
                  replace H : (impl_SumRange.l102 k3 (mn x5_3 (wrap64 ((rd y170 x20_1) + t177))) (mx x6_3 (wrap64 ((rd y170 x20_1) + t177))) (rd y170 x20_1) (rdOf ByteArray.empty l0_3 x32_2) y170 (y170.length : Int) x20_1 l0_3 (l0_3.length : Int) x32_2 (wrap64 (((rdOf ByteArray.empty l0_3 x32_2).size : Int) + 1)) (wrap64 (x39_3 + 1)) a0_0 a0_1 l0_2 l0_3) = some (r1,r2,r3) := H
                  have A35 := Aside0.mk A350
                  clear A350
                  obtain ⟨ji36,hji36⟩ : ∃ j_ : Int,(mn x5_3 (wrap64 ((rd y170 x20_1) + t177))) = j_ := ⟨_,rfl⟩
                  replace H : (impl_SumRange.l102 k3 ji36 (mx x6_3 (wrap64 ((rd y170 x20_1) + t177))) (rd y170 x20_1) (rdOf ByteArray.empty l0_3 x32_2) y170 (y170.length : Int) x20_1 l0_3 (l0_3.length : Int) x32_2 (wrap64 (((rdOf ByteArray.empty l0_3 x32_2).size : Int) + 1)) (wrap64 (x39_3 + 1)) a0_0 a0_1 l0_2 l0_3) = some (r1,r2,r3) := by first | (rw [hji36] at H; exact H) | (simp only [hji36] at H ⊢; exact H)
                  (try rw [hji36] at A35)
                  have hji36_ : (if (wrap64 ((rd y170 x20_1) + t177)) < x5_3 then (wrap64 ((rd y170 x20_1) + t177)) else x5_3) = ji36 := hji36
                  obtain ⟨ji37,hji37⟩ : ∃ j_ : Int,(mx x6_3 (wrap64 ((rd y170 x20_1) + t177))) = j_ := ⟨_,rfl⟩
                  replace H : (impl_SumRange.l102 k3 ji36 ji37 (rd y170 x20_1) (rdOf ByteArray.empty l0_3 x32_2) y170 (y170.length : Int) x20_1 l0_3 (l0_3.length : Int) x32_2 (wrap64 (((rdOf ByteArray.empty l0_3 x32_2).size : Int) + 1)) (wrap64 (x39_3 + 1)) a0_0 a0_1 l0_2 l0_3) = some (r1,r2,r3) := by first | (rw [hji37] at H; exact H) | (simp only [hji37] at H ⊢; exact H)
                  (try rw [hji37] at A35)
                  have hji37_ : (if x6_3 < (wrap64 ((rd y170 x20_1) + t177)) then (wrap64 ((rd y170 x20_1) + t177)) else x6_3) = ji37 := hji37
                  have H' := Aside0.mk H
                  clear H
                  go_wp2_with (first | ((with_reducible refine gate_callee (f := 44) rfl ?_); refine goesL_ (some 46) rfl rfl Tryd.func44 (by kernel_rfl) rfl #[.string ((rdOf ByteArray.empty l0_3 x32_2).extract 0 (x39_3 : Int).toNat)] rfl (by (try simp only [List.map_toArray,List.map_cons,List.map_nil]); first | done | rfl | (simp only [List.length_drop,List.length_take]; rfl)) ?_; (with_reducible refine (impl_disparity.calls ((rdOf ByteArray.empty l0_3 x32_2).extract 0 (x39_3 : Int).toNat) t177 _ A35.out).mono ?_); rintro e w' ⟨rfl,⟨nd,rfl⟩⟩; refine ⟨_,rfl,?_⟩))
                  go_roundg k3
                  case measure => have := HK1.out; have := HK2.out; have := HK3.out; omega
                  case rel => exact ⟨(ji36),(ji37),(wrap64 (x39_3 + 1)),(by first | rfl | (simp; done) | (simp only [← hji36] <;> (first | rfl | simp)) | (simp [*]; done)),(by first | rfl | (simp; done) | (simp only [← hji37] <;> (first | rfl | simp)) | (simp [*]; done)),(by first | rfl | (simp; done) | (simp [*]; done)),H',⟨by have := HK1.out; have := HK2.out; have := HK3.out; omega⟩,⟨by (with_reducible repeat (first | apply Kd.R_alloc | apply Kd.R_drewN | apply Kd.R_drew)); exact HO_18.out⟩,⟨by (with_reducible repeat (first | refine blk_drewN ?_ _ | refine blk_drew ?_ | refine blk_alloc ?_ _)); exact BK168.out⟩,⟨by repeat (first | (with_reducible first | exact HB.out | apply below_alloc | apply pw_below_drewN | apply below_drew1 | refine below_set ?_ GE168.out) | exact HB.out)⟩⟩
                 ·rw [if_neg c34] at H
                  exact absurd H (by simp)
                ·rw [if_neg c33] at H
                 exact absurd H (by simp)
               ·rw [if_neg c32] at H
                have c32b0 : decide (x39_3 < (wrap64 (((rdOf ByteArray.empty l0_3 x32_2).size : Int) + 1))) = false := decide_eq_false c32
                clear c32
                have H' := Aside0.mk H
                clear H
                go_wp2
                go_roundg k3
                case measure => have := HK1.out; have := HK2.out; have := HK3.out; omega
                case rel => exact ⟨(x5_3),(x6_3),(wrap64 (x32_2 + 1)),(by first | rfl | (simp; done) | (simp [*]; done)),(by first | rfl | (simp; done) | (simp [*]; done)),(by first | rfl | (simp; done) | (simp [*]; done)),H',⟨by have := HK1.out; have := HK2.out; have := HK3.out; omega⟩,⟨by (with_reducible repeat (first | apply Kd.R_alloc | apply Kd.R_drewN | apply Kd.R_drew)); exact HO_18.out⟩,⟨by (with_reducible repeat (first | refine blk_drewN ?_ _ | refine blk_drew ?_ | refine blk_alloc ?_ _)); exact BK168.out⟩,⟨by repeat (first | (with_reducible first | exact HB.out | apply below_alloc | apply pw_below_drewN | apply below_drew1 | refine below_set ?_ GE168.out) | exact HB.out)⟩⟩
            ·rw [if_neg c31] at H
             exact absurd H (by simp)
           ·rw [if_neg c30] at H
            exact absurd H (by simp)
          ·rw [if_neg c29] at H
           have c29b0 : decide (x32_2 < (l0_3.length : Int)) = false := decide_eq_false c29
           clear c29
           have H' := Aside0.mk H
           clear H
           go_wp2
           go_roundg k2
           case measure => have := HK1.out; have := HK2.out; omega
           case rel => exact ⟨(x5_2),(x6_2),(wrap64 (x20_1 + 1)),(by first | rfl | (simp; done) | (simp [*]; done)),(by first | rfl | (simp; done) | (simp [*]; done)),(by first | rfl | (simp; done) | (simp [*]; done)),H',⟨by have := HK1.out; have := HK2.out; omega⟩,⟨by (with_reducible repeat (first | apply Kd.R_alloc | apply Kd.R_drewN | apply Kd.R_drew)); exact HO_18.out⟩,⟨by (with_reducible repeat (first | refine blk_drewN ?_ _ | refine blk_drew ?_ | refine blk_alloc ?_ _)); exact BK168.out⟩,⟨by repeat (first | (with_reducible first | exact HB.out | apply below_alloc | apply pw_below_drewN | apply below_drew1 | refine below_set ?_ GE168.out) | exact HB.out)⟩⟩
      ·rw [if_neg c12] at H
       exact absurd H (by simp)
     ·rw [if_neg c11] at H
      exact absurd H (by simp)
    ·rw [if_neg c10] at H
     have c10b0 : decide (x20_1 < (y170.length : Int)) = false := decide_eq_false c10
     clear c10
     simp only [Option.some.injEq,Prod.mk.injEq] at H
     obtain ⟨rfl,rfl,rfl⟩ := H
     go_wp2
     go_ret3
     exact ⟨by first | rfl | (simp [errW_none,errW_some] <;> rfl) | (simp [*,errW_none,errW_some] <;> rfl),by repeat (first | (with_reducible first | exact HB.out | apply below_alloc | apply pw_below_drewN | apply below_drew1 | refine below_set ?_ GE168.out) | exact HB.out)⟩
 ·replace c3 := Bool.eq_false_iff.mpr c3
  subst c3
  have H1 : (some (0,0,false)) = some (r1,r2,r3) := by rw [if_neg (show ¬ (false = true) by decide)] at H; exact H
  clear H
  have H := H1
  clear H1
  simp only [Option.some.injEq,Prod.mk.injEq] at H
  obtain ⟨rfl,rfl,rfl⟩ := H
  go_enter Tryd.func20,Tryd.ntmps20
  go_wp2_with (first | ((with_reducible refine gate_dst (N := 1) rfl ?_); refine box_event ?hg (N := 1) ?hd (cs := #[.int .i64 a0_0,.int .i64 a0_1,.slice A0_2 l0_2.length c0_2,.slice A0_3 l0_3.length c0_3]) (t := 30) ?hr ?_; (case hd => rfl); (case hg => rfl); (case hr => first | (go_simp; done) | (go_simp; rfl)); intro gb168 hg w38 hbox hb; have n0_ := Aside0.mk (below_step (by repeat (first | (with_reducible first | exact HB.out | apply below_alloc | apply pw_below_drewN | apply below_drew1) | exact HB.out)) hb); have n1_ := Aside0.mk (hbox); have n2_ := Aside0.mk ((by rw [hg]; exact (below_size (by repeat (first | (with_reducible first | exact HB.out | apply below_alloc | apply pw_below_drewN | apply below_drew1) | exact HB.out))) : w.heap.size ≤ gb168)); have n3_ := Aside0.mk ((by rw [hg]; exact (below_size (by repeat (first | (with_reducible first | exact HB.out | apply below_alloc | apply pw_below_drewN | apply below_drew1) | exact HB.out))) : w.heap.size ≤ gb168)); clear HB; have HB := n0_; have BK168 := n1_; have GW168 := n2_; have GE168 := n3_; clear n0_ n1_ n2_ n3_; clear hb hbox hg; have hcz39_0 : w38.cell? ⟨gb168,0,none⟩ = some (.int .i64 a0_0) := (blk_cell BK168.out 0).trans rfl; have hcz39_1 : w38.cell? ⟨gb168,1,none⟩ = some (.int .i64 a0_1) := (blk_cell BK168.out 1).trans rfl; have hcz39_2 : w38.cell? ⟨gb168,2,none⟩ = some (.slice A0_2 l0_2.length c0_2) := (blk_cell BK168.out 2).trans rfl; have hcz39_3 : w38.cell? ⟨gb168,3,none⟩ = some (.slice A0_3 l0_3.length c0_3) := (blk_cell BK168.out 3).trans rfl; have hfz39_0 := blk_frozen BK168.out 0; have hfz39_1 := blk_frozen BK168.out 1; have hfz39_2 := blk_frozen BK168.out 2; have hfz39_3 := blk_frozen BK168.out 3) | ((with_reducible refine gate_callee (f := 17) rfl ?_); refine goesL_ (some 16) rfl rfl Tryd.func17 (by kernel_rfl) rfl #[.agg #[.int .i64 a0_0,.int .i64 a0_1,.slice A0_2 l0_2.length c0_2,.slice A0_3 l0_3.length c0_3]] rfl (by (try simp only [List.map_toArray,List.map_cons,List.map_nil]); first | done | rfl | (simp only [List.length_drop,List.length_take]; rfl)) ?_; (with_reducible refine (impl_ValidBlockCode.calls k a0_0 a0_1 _ _ l0_2 _ _ l0_3 false _ ?side1 ?side2 ?side3 ?side4 A2.out).mono ?_); (case side1 => repeat (first | exact (Kd.C_below HR0_2.out HB.out) | (with_reducible refine Kd.C_alloc ?_ _) | (with_reducible refine Kd.C_drewN ?_ _) | (with_reducible refine Kd.C_drew ?_))); (case side2 => exact HC0_2.out); (case side3 => repeat (first | exact (Kd.C_below HR0_3.out HB.out) | (with_reducible refine Kd.C_alloc ?_ _) | (with_reducible refine Kd.C_drewN ?_ _) | (with_reducible refine Kd.C_drew ?_))); (case side4 => exact HC0_3.out); rintro e w40 ⟨rfl,hb⟩; refine ⟨_,rfl,?_⟩; have n0_ := Aside0.mk (blk_below (g := gb168) (o := .cells #[.int .i64 a0_0,.int .i64 a0_1,.slice A0_2 l0_2.length c0_2,.slice A0_3 l0_3.length c0_3] 30 (0,0)) (by (with_reducible repeat (first | refine blk_drewN ?_ _ | refine blk_drew ?_ | refine blk_alloc ?_ _)); exact BK168.out) hb); have n1_ := Aside0.mk (below_step (by repeat (first | (with_reducible first | exact HB.out | apply below_alloc | apply pw_below_drewN | apply below_drew1 | refine below_set ?_ GE168.out) | exact HB.out)) hb); clear BK168; clear HB; have BK168 := n0_; have HB := n1_; clear n0_ n1_; (try clear hb); (try clear hb2); (try clear hk); (try clear hi)))
  go_ret3
  exact ⟨by first | rfl | (simp [errW_none,errW_some] <;> rfl) | (simp [*,errW_none,errW_some] <;> rfl),by repeat (first | (with_reducible first | exact HB.out | apply below_alloc | apply pw_below_drewN | apply below_drew1 | refine below_set ?_ GE168.out) | exact HB.out)⟩

end Go.Proofs.YtegeaoiclepkkaaDoor.QFnExactSumRange
