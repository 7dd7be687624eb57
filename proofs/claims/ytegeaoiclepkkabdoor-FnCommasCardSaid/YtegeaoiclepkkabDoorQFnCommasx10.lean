/-
Each Go function that this text names answers as the Lean function beside it says,wherever that one answers; conditions: the arguments lie in memory as each theorem states it.
-/
import Derived.Test.YtegeaoiclepkkabDoorQFnCommasx0
import Derived.Test.YtegeaoiclepkkabDoorQFnCommasx9
namespace Go.Proofs.YtegeaoiclepkkabDoor.QFnCommas
open Go.RowKit Go.Proofs.YtegeaoiclepkkabDoorW.PrintWords Go.Proofs.YtegeaoiclepkkabDoorW.PrintLast Go.Proofs.YtegeaoiclepkkabDoorW.PrintMore
attribute [local go_sem] max2_int min2_int max_two min_two max_three min_three max_four min_four   -- for this text's walks alone
set_option linter.unusedVariables false
set_option linter.unusedSimpArgs false
theorem b10_0 {P : Prop} (h : P := by repeat (first | (with_reducible first | exact HB.out | apply below_alloc | apply pw_below_drewN | apply below_drew1 | refine below_set ?_ GE289.out) | exact HB.out)) : P := h
theorem b10_1 {P : Prop} (h : P := by (try simp only [List.map_toArray,List.map_cons,List.map_nil]); first | done | rfl | (simp only [List.length_drop,List.length_take]; rfl)) : P := h
theorem b10_2 {P : Prop} (h : P := by (with_reducible repeat (first | refine blk_drewN ?_ _ | refine blk_drew ?_ | refine blk_alloc ?_ _)); exact BK289.out) : P := h
theorem b10_3 {P : Prop} (h : P := by repeat (first | (with_reducible first | exact HB.out | apply below_alloc | apply pw_below_drewN | apply below_drew1) | exact HB.out)) : P := h
theorem b10_4 {P : Prop} (h : P := by first | rfl | (simp; done) | (simp [*]; done)) : P := h
theorem b10_5 {P : Prop} (h : P := by first | (with_reducible assumption) | assumption) : P := h
theorem b10_6 {P : Prop} (h : P := by first | rfl | (simp [errW_none,errW_some] <;> rfl) | (simp [*,errW_none,errW_some] <;> rfl)) : P := h
theorem b10_7 {P : Prop} (h : P := by repeat (first | exact Drawn0.refl _ | apply Drawn0.step)) : P := h

/-! ### impl_ValidBlockCode: function 15 -/
mutual
def impl_ValidBlockCode.j0 : Nat → Bool → Int → Int → List ByteArray → List ByteArray → Option (Bool)
 | 0,_,_,_,_,_ => none
 | k + 1,x29,x290000,x290001,x290002,x290003 => if x29 = true then (some false) else (impl_ValidBlockCode.l0 k x290002 (x290002.length : Int) 0 x290000 x290001 x290002 x290003)
def impl_ValidBlockCode.l0 : Nat → List ByteArray → Int → Int → Int → Int → List ByteArray → List ByteArray → Option (Bool)
 | 0,_,_,_,_,_,_,_ => none
 | k + 1,x31,x32,x33,x290000,x290001,x290002,x290003 => if x33 < x32 then (if 0 ≤ x33 then (if x33 < (x31.length : Int) then ((slices_Index_string_string.f k x290003 (rdOf ByteArray.empty x31 x33)).bind fun t295 => (if t295 ≥ 0 then (if t295 = x33 then (impl_ValidBlockCode.l0 k x31 x32 (wrap64 (x33 + 1)) x290000 x290001 x290002 x290003) else (some false)) else (impl_ValidBlockCode.l0 k x31 x32 (wrap64 (x33 + 1)) x290000 x290001 x290002 x290003))) else (none)) else (none)) else (some true)
end
def impl_ValidBlockCode.f (k : Nat) (a0_0 : Int) (a0_1 : Int) (l0_2 : List ByteArray) (l0_3 : List ByteArray) : Option (Bool) := (impl_isData.f a0_0).bind fun t290 => (if t290 = true then ((impl_isWidth.f a0_1).bind fun t291 => (if t291 = true then ((impl_BlockCode_areWords.f k a0_0 a0_1 l0_2 l0_3 l0_2 2).bind fun t292 => (if t292 = true then ((impl_BlockCode_areWords.f k a0_0 a0_1 l0_2 l0_3 l0_3 (-2)).bind fun t293 => (impl_ValidBlockCode.j0 k (!t293) a0_0 a0_1 l0_2 l0_3)) else (impl_ValidBlockCode.j0 k true a0_0 a0_1 l0_2 l0_3))) else (impl_ValidBlockCode.j0 k true a0_0 a0_1 l0_2 l0_3))) else (impl_ValidBlockCode.j0 k true a0_0 a0_1 l0_2 l0_3))
set_option maxHeartbeats 8000000 in
set_option maxRecDepth 100000 in
theorem impl_ValidBlockCode.calls (k : Nat) (a0_0 : Int) (a0_1 : Int) (A0_2 : Option Addr) (c0_2 : Nat) (l0_2 : List ByteArray) (A0_3 : Option Addr) (c0_3 : Nat) (l0_3 : List ByteArray) (r : Bool) (w : World) (hr0_2 : Kd.C Kd.string w A0_2 l0_2.length l0_2) (hc0_2 : l0_2.length ≤ c0_2) (hr0_3 : Kd.C Kd.string w A0_3 l0_3.length l0_3) (hc0_3 : l0_3.length ≤ c0_3) (h : impl_ValidBlockCode.f k a0_0 a0_1 l0_2 l0_3 = some r) :
  Calls Tryd.prog 15 #[.agg #[.int .i64 a0_0,.int .i64 a0_1,.slice A0_2 l0_2.length c0_2,.slice A0_3 l0_3.length c0_3]] w fun e w' => e = .returned (.bool r) ∧ Below w.heap.size w w' := by
 have hu26 := Tryd.underlying26
 have HR0_2 := Aside0.mk hr0_2
 have HC0_2 := Aside0.mk hc0_2
 clear hr0_2 hc0_2
 have HR0_3 := Aside0.mk hr0_3
 have HC0_3 := Aside0.mk hc0_3
 clear hr0_3 hc0_3
 have HB := Aside0.mk (Below.refl w.heap.size w)
 have H : ((impl_isData.f a0_0).bind fun t290 => (if t290 = true then ((impl_isWidth.f a0_1).bind fun t291 => (if t291 = true then ((impl_BlockCode_areWords.f k a0_0 a0_1 l0_2 l0_3 l0_2 2).bind fun t292 => (if t292 = true then ((impl_BlockCode_areWords.f k a0_0 a0_1 l0_2 l0_3 l0_3 (-2)).bind fun t293 => (impl_ValidBlockCode.j0 k (!t293) a0_0 a0_1 l0_2 l0_3)) else (impl_ValidBlockCode.j0 k true a0_0 a0_1 l0_2 l0_3))) else (impl_ValidBlockCode.j0 k true a0_0 a0_1 l0_2 l0_3))) else (impl_ValidBlockCode.j0 k true a0_0 a0_1 l0_2 l0_3))) = some r := h
 clear h
 have HC2 := Aside0.mk H
 clear H
 go_enter Tryd.func15,Tryd.ntmps15
 go_upto_region 1 with (first | ((with_reducible refine gate_dst (N := 1) rfl ?_); refine box_event ?hg (N := 1) ?hd (cs := #[.int .i64 a0_0,.int .i64 a0_1,.slice A0_2 l0_2.length c0_2,.slice A0_3 l0_3.length c0_3]) (t := 26) ?hr ?_; (case hd => rfl); (case hg => rfl); (case hr => first | (go_simp; done) | (go_simp; rfl)); intro gb289 hg w3 hbox hb; have n0_ := Aside0.mk (below_step b10_3 hb); have n1_ := Aside0.mk (hbox); have n2_ := Aside0.mk ((by rw [hg]; exact (below_size b10_3) : w.heap.size ≤ gb289)); have n3_ := Aside0.mk ((by rw [hg]; exact (below_size b10_3) : w.heap.size ≤ gb289)); clear HB; have HB := n0_; have BK289 := n1_; have GW289 := n2_; have GE289 := n3_; clear n0_ n1_ n2_ n3_; clear hb hbox hg))
 (try simp only [Act.put,List.setIfInBounds_toArray,List.set_cons_zero,List.set_cons_succ])
 go_cut [29] (fun v29 wc => ∃ (kq : Nat) (x29_1 : Bool),v29 = .bool x29_1 ∧ Aside0 (impl_ValidBlockCode.j0 kq x29_1 a0_0 a0_1 l0_2 l0_3 = some r) ∧ Aside0 (kq ≤ k) ∧ Aside0 (wc.heap[gb289]? = some (.cells #[.int .i64 a0_0,.int .i64 a0_1,(.slice A0_2 l0_2.length c0_2),(.slice A0_3 l0_3.length c0_3)] 26 (0,0))) ∧ Aside0 (Below w.heap.size w wc))
 case first =>
  have H := HC2.out
  clear HC2
  replace H := Option.bind_eq_some_iff.mp H
  obtain ⟨t290,A40,H⟩ := H
  replace H : (if t290 = true then ((impl_isWidth.f a0_1).bind fun t291 => (if t291 = true then ((impl_BlockCode_areWords.f k a0_0 a0_1 l0_2 l0_3 l0_2 2).bind fun t292 => (if t292 = true then ((impl_BlockCode_areWords.f k a0_0 a0_1 l0_2 l0_3 l0_3 (-2)).bind fun t293 => (impl_ValidBlockCode.j0 k (!t293) a0_0 a0_1 l0_2 l0_3)) else (impl_ValidBlockCode.j0 k true a0_0 a0_1 l0_2 l0_3))) else (impl_ValidBlockCode.j0 k true a0_0 a0_1 l0_2 l0_3))) else (impl_ValidBlockCode.j0 k true a0_0 a0_1 l0_2 l0_3)) = some r := H
  have A4 := Aside0.mk A40
  clear A40
  by_cases c5 : t290 = true
  ·subst c5
   have H1 : ((impl_isWidth.f a0_1).bind fun t291 => (if t291 = true then ((impl_BlockCode_areWords.f k a0_0 a0_1 l0_2 l0_3 l0_2 2).bind fun t292 => (if t292 = true then ((impl_BlockCode_areWords.f k a0_0 a0_1 l0_2 l0_3 l0_3 (-2)).bind fun t293 => (impl_ValidBlockCode.j0 k (!t293) a0_0 a0_1 l0_2 l0_3)) else (impl_ValidBlockCode.j0 k true a0_0 a0_1 l0_2 l0_3))) else (impl_ValidBlockCode.j0 k true a0_0 a0_1 l0_2 l0_3))) = some r := by rw [if_pos rfl] at H; exact H
   clear H
   have H := H1
   clear H1
   replace H := Option.bind_eq_some_iff.mp H
   obtain ⟨t291,A60,H⟩ := H
   replace H : (if t291 = true then ((impl_BlockCode_areWords.f k a0_0 a0_1 l0_2 l0_3 l0_2 2).bind fun t292 => (if t292 = true then ((impl_BlockCode_areWords.f k a0_0 a0_1 l0_2 l0_3 l0_3 (-2)).bind fun t293 => (impl_ValidBlockCode.j0 k (!t293) a0_0 a0_1 l0_2 l0_3)) else (impl_ValidBlockCode.j0 k true a0_0 a0_1 l0_2 l0_3))) else (impl_ValidBlockCode.j0 k true a0_0 a0_1 l0_2 l0_3)) = some r := H
   have A6 := Aside0.mk A60
   clear A60
   by_cases c7 : t291 = true
   ·subst c7
    have H1 : ((impl_BlockCode_areWords.f k a0_0 a0_1 l0_2 l0_3 l0_2 2).bind fun t292 => (if t292 = true then ((impl_BlockCode_areWords.f k a0_0 a0_1 l0_2 l0_3 l0_3 (-2)).bind fun t293 => (impl_ValidBlockCode.j0 k (!t293) a0_0 a0_1 l0_2 l0_3)) else (impl_ValidBlockCode.j0 k true a0_0 a0_1 l0_2 l0_3))) = some r := by rw [if_pos rfl] at H; exact H
    clear H
    have H := H1
    clear H1
    replace H := Option.bind_eq_some_iff.mp H
    obtain ⟨t292,A80,H⟩ := H
    replace H : (if t292 = true then ((impl_BlockCode_areWords.f k a0_0 a0_1 l0_2 l0_3 l0_3 (-2)).bind fun t293 => (impl_ValidBlockCode.j0 k (!t293) a0_0 a0_1 l0_2 l0_3)) else (impl_ValidBlockCode.j0 k true a0_0 a0_1 l0_2 l0_3)) = some r := H
    have A8 := Aside0.mk A80
    clear A80
    by_cases c9 : t292 = true
    ·subst c9
     have H1 : ((impl_BlockCode_areWords.f k a0_0 a0_1 l0_2 l0_3 l0_3 (-2)).bind fun t293 => (impl_ValidBlockCode.j0 k (!t293) a0_0 a0_1 l0_2 l0_3)) = some r := by rw [if_pos rfl] at H; exact H
     clear H
     have H := H1
     clear H1
     replace H := Option.bind_eq_some_iff.mp H
     obtain ⟨t293,A100,H⟩ := H
     replace H : (impl_ValidBlockCode.j0 k (!t293) a0_0 a0_1 l0_2 l0_3) = some r := H
     have A10 := Aside0.mk A100
     clear A100
     have H' := Aside0.mk H
     clear H
     have hcz11_0 : w3.cell? ⟨gb289,0,none⟩ = some (.int .i64 a0_0) := (blk_cell BK289.out 0).trans rfl
     have hcz11_1 : w3.cell? ⟨gb289,1,none⟩ = some (.int .i64 a0_1) := (blk_cell BK289.out 1).trans rfl
     have hcz11_2 : w3.cell? ⟨gb289,2,none⟩ = some (.slice A0_2 l0_2.length c0_2) := (blk_cell BK289.out 2).trans rfl
     have hcz11_3 : w3.cell? ⟨gb289,3,none⟩ = some (.slice A0_3 l0_3.length c0_3) := (blk_cell BK289.out 3).trans rfl
     have hfz11_0 := blk_frozen BK289.out 0
     have hfz11_1 := blk_frozen BK289.out 1
     have hfz11_2 := blk_frozen BK289.out 2
     have hfz11_3 := blk_frozen BK289.out 3
     go_wp2_with (first | ((with_reducible refine gate_callee (f := 34) rfl ?_); refine goesL_ (some 8) rfl rfl Tryd.func34 (by kernel_rfl) rfl #[.int .i64 a0_0] rfl b10_1 ?_; (with_reducible refine (impl_isData.calls a0_0 true _ A4.out).mono ?_); rintro e w' ⟨rfl,⟨nd,rfl⟩⟩; refine ⟨_,rfl,?_⟩) | (go_at_call 35; (with_reducible refine (impl_isWidth.calls a0_1 true _ A6.out).mono ?_); rintro e w' ⟨rfl,⟨nd,rfl⟩⟩) | (go_at_call 36; (with_reducible refine (impl_BlockCode_areWords.calls k a0_0 a0_1 _ _ l0_2 _ _ l0_3 _ _ l0_2 2 true _ ?side1 ?side2 ?side3 ?side4 ?side5 ?side6 A8.out).mono ?_); (case side1 => repeat (first | exact (Kd.C_below HR0_2.out b10_0) | (with_reducible refine Kd.C_alloc ?_ _) | (with_reducible refine Kd.C_drewN ?_ _) | (with_reducible refine Kd.C_drew ?_))); (case side2 => exact HC0_2.out); (case side3 => repeat (first | exact (Kd.C_below HR0_3.out b10_0) | (with_reducible refine Kd.C_alloc ?_ _) | (with_reducible refine Kd.C_drewN ?_ _) | (with_reducible refine Kd.C_drew ?_))); (case side4 => exact HC0_3.out); (case side5 => repeat (first | exact (Kd.C_below HR0_2.out b10_0) | (with_reducible refine Kd.C_alloc ?_ _) | (with_reducible refine Kd.C_drewN ?_ _) | (with_reducible refine Kd.C_drew ?_))); (case side6 => exact HC0_2.out); rintro e w12 ⟨rfl,hb⟩; have n0_ := Aside0.mk (blk_below (g := gb289) (o := .cells #[.int .i64 a0_0,.int .i64 a0_1,.slice A0_2 l0_2.length c0_2,.slice A0_3 l0_3.length c0_3] 26 (0,0)) b10_2 hb); have n1_ := Aside0.mk (below_step b10_0 hb); clear BK289; clear HB; have BK289 := n0_; have HB := n1_; clear n0_ n1_; (try clear hb); (try clear hb2); (try clear hk); (try clear hi); have hcz13_0 : w12.cell? ⟨gb289,0,none⟩ = some (.int .i64 a0_0) := (blk_cell BK289.out 0).trans rfl; have hcz13_1 : w12.cell? ⟨gb289,1,none⟩ = some (.int .i64 a0_1) := (blk_cell BK289.out 1).trans rfl; have hcz13_2 : w12.cell? ⟨gb289,2,none⟩ = some (.slice A0_2 l0_2.length c0_2) := (blk_cell BK289.out 2).trans rfl; have hcz13_3 : w12.cell? ⟨gb289,3,none⟩ = some (.slice A0_3 l0_3.length c0_3) := (blk_cell BK289.out 3).trans rfl; have hfz13_0 := blk_frozen BK289.out 0; have hfz13_1 := blk_frozen BK289.out 1; have hfz13_2 := blk_frozen BK289.out 2; have hfz13_3 := blk_frozen BK289.out 3) | (go_at_call 36; (with_reducible refine (impl_BlockCode_areWords.calls k a0_0 a0_1 _ _ l0_2 _ _ l0_3 _ _ l0_3 (-2) t293 _ ?side1 ?side2 ?side3 ?side4 ?side5 ?side6 A10.out).mono ?_); (case side1 => repeat (first | exact (Kd.C_below HR0_2.out HB.out) | (with_reducible refine Kd.C_alloc ?_ _) | (with_reducible refine Kd.C_drewN ?_ _) | (with_reducible refine Kd.C_drew ?_))); (case side2 => exact HC0_2.out); (case side3 => repeat (first | exact (Kd.C_below HR0_3.out HB.out) | (with_reducible refine Kd.C_alloc ?_ _) | (with_reducible refine Kd.C_drewN ?_ _) | (with_reducible refine Kd.C_drew ?_))); (case side4 => exact HC0_3.out); (case side5 => repeat (first | exact (Kd.C_below HR0_3.out HB.out) | (with_reducible refine Kd.C_alloc ?_ _) | (with_reducible refine Kd.C_drewN ?_ _) | (with_reducible refine Kd.C_drew ?_))); (case side6 => exact HC0_3.out); rintro e w14 ⟨rfl,hb⟩; have n0_ := Aside0.mk (blk_below (g := gb289) (o := .cells #[.int .i64 a0_0,.int .i64 a0_1,.slice A0_2 l0_2.length c0_2,.slice A0_3 l0_3.length c0_3] 26 (0,0)) b10_2 hb); have n1_ := Aside0.mk (below_step b10_0 hb); clear BK289; clear HB; have BK289 := n0_; have HB := n1_; clear n0_ n1_; (try clear hb); (try clear hb2); (try clear hk); (try clear hi)))
     go_meet
     case rel => exact ⟨_,(!t293),b10_4,H',⟨by first | omega | exact Nat.le_refl _⟩,⟨b10_2⟩,⟨b10_0⟩⟩
    ·replace c9 := Bool.eq_false_iff.mpr c9
     subst c9
     have H1 : (impl_ValidBlockCode.j0 k true a0_0 a0_1 l0_2 l0_3) = some r := by rw [if_neg (show ¬ (false = true) by decide)] at H; exact H
     clear H
     have H := H1
     clear H1
     have H' := Aside0.mk H
     clear H
     have hcz15_0 : w3.cell? ⟨gb289,0,none⟩ = some (.int .i64 a0_0) := (blk_cell BK289.out 0).trans rfl
     have hcz15_1 : w3.cell? ⟨gb289,1,none⟩ = some (.int .i64 a0_1) := (blk_cell BK289.out 1).trans rfl
     have hcz15_2 : w3.cell? ⟨gb289,2,none⟩ = some (.slice A0_2 l0_2.length c0_2) := (blk_cell BK289.out 2).trans rfl
     have hcz15_3 : w3.cell? ⟨gb289,3,none⟩ = some (.slice A0_3 l0_3.length c0_3) := (blk_cell BK289.out 3).trans rfl
     have hfz15_0 := blk_frozen BK289.out 0
     have hfz15_1 := blk_frozen BK289.out 1
     have hfz15_2 := blk_frozen BK289.out 2
     have hfz15_3 := blk_frozen BK289.out 3
     go_wp2_with (first | ((with_reducible refine gate_callee (f := 34) rfl ?_); refine goesL_ (some 8) rfl rfl Tryd.func34 (by kernel_rfl) rfl #[.int .i64 a0_0] rfl b10_1 ?_; (with_reducible refine (impl_isData.calls a0_0 true _ A4.out).mono ?_); rintro e w' ⟨rfl,⟨nd,rfl⟩⟩; refine ⟨_,rfl,?_⟩) | (go_at_call 35; (with_reducible refine (impl_isWidth.calls a0_1 true _ A6.out).mono ?_); rintro e w' ⟨rfl,⟨nd,rfl⟩⟩) | (go_at_call 36; (with_reducible refine (impl_BlockCode_areWords.calls k a0_0 a0_1 _ _ l0_2 _ _ l0_3 _ _ l0_2 2 false _ ?side1 ?side2 ?side3 ?side4 ?side5 ?side6 A8.out).mono ?_); (case side1 => repeat (first | exact (Kd.C_below HR0_2.out b10_0) | (with_reducible refine Kd.C_alloc ?_ _) | (with_reducible refine Kd.C_drewN ?_ _) | (with_reducible refine Kd.C_drew ?_))); (case side2 => exact HC0_2.out); (case side3 => repeat (first | exact (Kd.C_below HR0_3.out b10_0) | (with_reducible refine Kd.C_alloc ?_ _) | (with_reducible refine Kd.C_drewN ?_ _) | (with_reducible refine Kd.C_drew ?_))); (case side4 => exact HC0_3.out); (case side5 => repeat (first | exact (Kd.C_below HR0_2.out b10_0) | (with_reducible refine Kd.C_alloc ?_ _) | (with_reducible refine Kd.C_drewN ?_ _) | (with_reducible refine Kd.C_drew ?_))); (case side6 => exact HC0_2.out); rintro e w16 ⟨rfl,hb⟩; have n0_ := Aside0.mk (blk_below (g := gb289) (o := .cells #[.int .i64 a0_0,.int .i64 a0_1,.slice A0_2 l0_2.length c0_2,.slice A0_3 l0_3.length c0_3] 26 (0,0)) b10_2 hb); have n1_ := Aside0.mk (below_step b10_0 hb); clear BK289; clear HB; have BK289 := n0_; have HB := n1_; clear n0_ n1_; (try clear hb); (try clear hb2); (try clear hk); (try clear hi)))
     go_meet
     case rel => exact ⟨_,(true),b10_4,H',⟨by first | omega | exact Nat.le_refl _⟩,⟨b10_2⟩,⟨b10_0⟩⟩
   ·replace c7 := Bool.eq_false_iff.mpr c7
    subst c7
    have H1 : (impl_ValidBlockCode.j0 k true a0_0 a0_1 l0_2 l0_3) = some r := by rw [if_neg (show ¬ (false = true) by decide)] at H; exact H
    clear H
    have H := H1
    clear H1
    have H' := Aside0.mk H
    clear H
    have hcz17_0 : w3.cell? ⟨gb289,0,none⟩ = some (.int .i64 a0_0) := (blk_cell BK289.out 0).trans rfl
    have hcz17_1 : w3.cell? ⟨gb289,1,none⟩ = some (.int .i64 a0_1) := (blk_cell BK289.out 1).trans rfl
    have hcz17_2 : w3.cell? ⟨gb289,2,none⟩ = some (.slice A0_2 l0_2.length c0_2) := (blk_cell BK289.out 2).trans rfl
    have hcz17_3 : w3.cell? ⟨gb289,3,none⟩ = some (.slice A0_3 l0_3.length c0_3) := (blk_cell BK289.out 3).trans rfl
    have hfz17_0 := blk_frozen BK289.out 0
    have hfz17_1 := blk_frozen BK289.out 1
    have hfz17_2 := blk_frozen BK289.out 2
    have hfz17_3 := blk_frozen BK289.out 3
    go_wp2_with (first | ((with_reducible refine gate_callee (f := 34) rfl ?_); refine goesL_ (some 8) rfl rfl Tryd.func34 (by kernel_rfl) rfl #[.int .i64 a0_0] rfl b10_1 ?_; (with_reducible refine (impl_isData.calls a0_0 true _ A4.out).mono ?_); rintro e w' ⟨rfl,⟨nd,rfl⟩⟩; refine ⟨_,rfl,?_⟩) | (go_at_call 35; (with_reducible refine (impl_isWidth.calls a0_1 false _ A6.out).mono ?_); rintro e w' ⟨rfl,⟨nd,rfl⟩⟩))
    go_meet
    case rel => exact ⟨_,(true),b10_4,H',⟨by first | omega | exact Nat.le_refl _⟩,⟨b10_2⟩,⟨b10_0⟩⟩
  ·replace c5 := Bool.eq_false_iff.mpr c5
   subst c5
   have H1 : (impl_ValidBlockCode.j0 k true a0_0 a0_1 l0_2 l0_3) = some r := by rw [if_neg (show ¬ (false = true) by decide)] at H; exact H
   clear H
   have H := H1
   clear H1
   have H' := Aside0.mk H
   clear H
   have hcz18_0 : w3.cell? ⟨gb289,0,none⟩ = some (.int .i64 a0_0) := (blk_cell BK289.out 0).trans rfl
   have hcz18_1 : w3.cell? ⟨gb289,1,none⟩ = some (.int .i64 a0_1) := (blk_cell BK289.out 1).trans rfl
   have hcz18_2 : w3.cell? ⟨gb289,2,none⟩ = some (.slice A0_2 l0_2.length c0_2) := (blk_cell BK289.out 2).trans rfl
   have hcz18_3 : w3.cell? ⟨gb289,3,none⟩ = some (.slice A0_3 l0_3.length c0_3) := (blk_cell BK289.out 3).trans rfl
   have hfz18_0 := blk_frozen BK289.out 0
   have hfz18_1 := blk_frozen BK289.out 1
   have hfz18_2 := blk_frozen BK289.out 2
   have hfz18_3 := blk_frozen BK289.out 3
   go_wp2_with (first | ((with_reducible refine gate_callee (f := 34) rfl ?_); refine goesL_ (some 8) rfl rfl Tryd.func34 (by kernel_rfl) rfl #[.int .i64 a0_0] rfl b10_1 ?_; (with_reducible refine (impl_isData.calls a0_0 false _ A4.out).mono ?_); rintro e w' ⟨rfl,⟨nd,rfl⟩⟩; refine ⟨_,rfl,?_⟩))
   go_meet
   case rel => exact ⟨_,(true),b10_4,H',⟨by first | omega | exact Nat.le_refl _⟩,⟨b10_2⟩,⟨b10_0⟩⟩
 case rest =>
  clear HC2
  (try clear c1);(try clear p2);(try clear c3);(try clear c5);(try clear c7);(try clear c9);(try clear c15);(try clear hcz11_0);(try clear hcz11_1);(try clear hcz11_2);(try clear hcz11_3);(try clear hcz13_0);(try clear hcz13_1);(try clear hcz13_2);(try clear hcz13_3);(try clear hcz15_0);(try clear hcz15_1);(try clear hcz15_2);(try clear hcz15_3);(try clear hcz17_0);(try clear hcz17_1);(try clear hcz17_2);(try clear hcz17_3);(try clear hcz18_0);(try clear hcz18_1);(try clear hcz18_2);(try clear hcz18_3);(try clear hfz11_0);(try clear hfz11_1);(try clear hfz11_2);(try clear hfz11_3);(try clear hfz13_0);(try clear hfz13_1);(try clear hfz13_2);(try clear hfz13_3);(try clear hfz15_0);(try clear hfz15_1);(try clear hfz15_2);(try clear hfz15_3);(try clear hfz17_0);(try clear hfz17_1);(try clear hfz17_2);(try clear hfz17_3);(try clear hfz18_0);(try clear hfz18_1);(try clear hfz18_2);(try clear hfz18_3)
  obtain ⟨kq,x29_1,rfl,HA,HJ1,BK289,HB⟩ := hcut
  cases kq with
  | zero => exact absurd HA.out (by simp [impl_ValidBlockCode.j0])
  | succ kj1 =>
   have H := HA.out
   clear HA
   simp only [impl_ValidBlockCode.j0] at H
   by_cases c19 : x29_1 = true
   ·subst c19
    have H1 : (some false) = some r := by rw [if_pos rfl] at H; exact H
    clear H
    have H := H1
    clear H1
    obtain rfl := Option.some.inj H
    go_wp2
    go_ret
    exact ⟨b10_6,b10_0⟩
   ·replace c19 := Bool.eq_false_iff.mpr c19
    subst c19
    have H1 : (impl_ValidBlockCode.l0 kj1 l0_2 (l0_2.length : Int) 0 a0_0 a0_1 l0_2 l0_3) = some r := by rw [if_neg (show ¬ (false = true) by decide)] at H; exact H
    clear H
    have H := H1
    clear H1
    have H' := Aside0.mk H
    clear H
    have hcz20_0 : wc.cell? ⟨gb289,0,none⟩ = some (.int .i64 a0_0) := (blk_cell BK289.out 0).trans rfl
    have hcz20_1 : wc.cell? ⟨gb289,1,none⟩ = some (.int .i64 a0_1) := (blk_cell BK289.out 1).trans rfl
    have hcz20_2 : wc.cell? ⟨gb289,2,none⟩ = some (.slice A0_2 l0_2.length c0_2) := (blk_cell BK289.out 2).trans rfl
    have hcz20_3 : wc.cell? ⟨gb289,3,none⟩ = some (.slice A0_3 l0_3.length c0_3) := (blk_cell BK289.out 3).trans rfl
    have hfz20_0 := blk_frozen BK289.out 0
    have hfz20_1 := blk_frozen BK289.out 1
    have hfz20_2 := blk_frozen BK289.out 2
    have hfz20_3 := blk_frozen BK289.out 3
    go_wp2
    go_loopg [33] kj1 (fun kq v33 w' => ∃ (x33_2 : Int),v33 = .int .i64 x33_2 ∧ Aside0 (impl_ValidBlockCode.l0 kq l0_2 (l0_2.length : Int) x33_2 a0_0 a0_1 l0_2 l0_3 = some r) ∧ Aside0 (kq ≤ kj1) ∧ Aside0 (w'.heap[gb289]? = some (.cells #[.int .i64 a0_0,.int .i64 a0_1,(.slice A0_2 l0_2.length c0_2),(.slice A0_3 l0_3.length c0_3)] 26 (0,0))) ∧ Aside0 (Below w.heap.size w w'))
    case atStart => exact ⟨(0),b10_4,H',⟨Nat.le_refl _⟩,⟨b10_2⟩,⟨b10_0⟩⟩
    case round =>
     clear H'
     (try clear c1);(try clear p2);(try clear c3);(try clear c5);(try clear c7);(try clear c9);(try clear c15);(try clear c19);(try clear hcz11_0);(try clear hcz11_1);(try clear hcz11_2);(try clear hcz11_3);(try clear hcz13_0);(try clear hcz13_1);(try clear hcz13_2);(try clear hcz13_3);(try clear hcz15_0);(try clear hcz15_1);(try clear hcz15_2);(try clear hcz15_3);(try clear hcz17_0);(try clear hcz17_1);(try clear hcz17_2);(try clear hcz17_3);(try clear hcz18_0);(try clear hcz18_1);(try clear hcz18_2);(try clear hcz18_3);(try clear hcz20_0);(try clear hcz20_1);(try clear hcz20_2);(try clear hcz20_3);(try clear hfz11_0);(try clear hfz11_1);(try clear hfz11_2);(try clear hfz11_3);(try clear hfz13_0);(try clear hfz13_1);(try clear hfz13_2);(try clear hfz13_3);(try clear hfz15_0);(try clear hfz15_1);(try clear hfz15_2);(try clear hfz15_3);(try clear hfz17_0);(try clear hfz17_1);(try clear hfz17_2);(try clear hfz17_3);(try clear hfz18_0);(try clear hfz18_1);(try clear hfz18_2);(try clear hfz18_3);(try clear hfz20_0);(try clear hfz20_1);(try clear hfz20_2);(try clear hfz20_3);(try clear p2)
     obtain ⟨x33_2,rfl,HA,HK2,BK289,HB⟩ := hrel
     cases gk with
     | zero => exact absurd HA.out (by simp [impl_ValidBlockCode.l0])
     | succ k2 =>
      have H := HA.out
      clear HA
      simp only [impl_ValidBlockCode.l0] at H
      by_cases c21 : x33_2 < (l0_2.length : Int)
      ·rw [if_pos c21] at H
       have c21b0 : decide (x33_2 < (l0_2.length : Int)) = true := decide_eq_true c21
       clear c21
       by_cases c22 : 0 ≤ x33_2
       ·rw [if_pos c22] at H
        have c22b0 : decide (0 ≤ x33_2) = true := decide_eq_true c22
        clear c22
        by_cases c23 : x33_2 < (l0_2.length : Int)
        ·rw [if_pos c23] at H
         have c23b0 : decide (x33_2 < (l0_2.length : Int)) = true := decide_eq_true c23
         clear c23
         replace H := Option.bind_eq_some_iff.mp H
         obtain ⟨t295,A240,H⟩ := H
         replace H : (if t295 ≥ 0 then (if t295 = x33_2 then (impl_ValidBlockCode.l0 k2 l0_2 (l0_2.length : Int) (wrap64 (x33_2 + 1)) a0_0 a0_1 l0_2 l0_3) else (some false)) else (impl_ValidBlockCode.l0 k2 l0_2 (l0_2.length : Int) (wrap64 (x33_2 + 1)) a0_0 a0_1 l0_2 l0_3)) = some r := H
         have A24 := Aside0.mk A240
         clear A240
         by_cases c25 : t295 ≥ 0
         ·rw [if_pos c25] at H
          have c25b0 : decide (0 ≤ t295) = true := decide_eq_true c25
          clear c25
          by_cases c26 : t295 = x33_2
          ·rw [if_pos c26] at H
           have c26b0 : (t295 == x33_2) = true := beq_iff_eq.mpr c26
           have c26b1 : (t295 != x33_2) = false := bne_eq_false_iff_eq.mpr c26
           clear c26
           have H' := Aside0.mk H
           clear H
           have p294 : 0 ≤ (x33_2 : Int) := of_decide_eq_true b10_5
           have q294 : x33_2 < (l0_2.length : Int) := of_decide_eq_true b10_5
           obtain ⟨ad294,e294,hx294_0⟩ := Kd.at_string HR0_2.out x33_2 p294 q294
           cases e294
           replace hx294_0 := (HB.out.cell (World.block_lt_of_cell? w _ hx294_0)).trans hx294_0
           replace p294 := eq_true p294
           replace q294 := eq_true q294
           have hcz27_0 : wr.cell? ⟨gb289,0,none⟩ = some (.int .i64 a0_0) := (blk_cell BK289.out 0).trans rfl
           have hcz27_1 : wr.cell? ⟨gb289,1,none⟩ = some (.int .i64 a0_1) := (blk_cell BK289.out 1).trans rfl
           have hcz27_2 : wr.cell? ⟨gb289,2,none⟩ = some (.slice (some ad294) l0_2.length c0_2) := (blk_cell BK289.out 2).trans rfl
           have hcz27_3 : wr.cell? ⟨gb289,3,none⟩ = some (.slice A0_3 l0_3.length c0_3) := (blk_cell BK289.out 3).trans rfl
           have hfz27_0 := blk_frozen BK289.out 0
           have hfz27_1 := blk_frozen BK289.out 1
           have hfz27_2 := blk_frozen BK289.out 2
           have hfz27_3 := blk_frozen BK289.out 3
           go_wp2_with (first | ((with_reducible refine gate_callee (f := 30) rfl ?_); refine goesL_ (some 41) rfl rfl Tryd.func30 (by kernel_rfl) rfl #[.slice A0_3 l0_3.length c0_3,.string (rdOf ByteArray.empty l0_2 x33_2)] rfl b10_1 ?_; (with_reducible refine (slices_Index_string_string.calls k2 _ _ l0_3 (rdOf ByteArray.empty l0_2 x33_2) t295 _ ?side1 ?side2 A24.out).mono ?_); (case side1 => repeat (first | exact (Kd.C_below HR0_3.out HB.out) | (with_reducible refine Kd.C_alloc ?_ _) | (with_reducible refine Kd.C_drewN ?_ _) | (with_reducible refine Kd.C_drew ?_))); (case side2 => exact HC0_3.out); rintro e w' ⟨rfl,⟨nd,rfl⟩⟩; refine ⟨_,rfl,?_⟩))
           go_roundg k2
           case measure => have := HJ1.out; have := HK2.out; omega
           case rel => exact ⟨(wrap64 (x33_2 + 1)),b10_4,H',⟨by have := HJ1.out; have := HK2.out; omega⟩,⟨b10_2⟩,⟨b10_0⟩⟩
          ·rw [if_neg c26] at H
           have c26b0 : (t295 == x33_2) = false := beq_eq_false_iff_ne.mpr c26
           have c26b1 : (t295 != x33_2) = true := bne_iff_ne.mpr c26
           obtain rfl := Option.some.inj H
           have p294 : 0 ≤ (x33_2 : Int) := of_decide_eq_true b10_5
           have q294 : x33_2 < (l0_2.length : Int) := of_decide_eq_true b10_5
           obtain ⟨ad294,e294,hx294_0⟩ := Kd.at_string HR0_2.out x33_2 p294 q294
           cases e294
           replace hx294_0 := (HB.out.cell (World.block_lt_of_cell? w _ hx294_0)).trans hx294_0
           replace p294 := eq_true p294
           replace q294 := eq_true q294
           have hcz28_0 : wr.cell? ⟨gb289,0,none⟩ = some (.int .i64 a0_0) := (blk_cell BK289.out 0).trans rfl
           have hcz28_1 : wr.cell? ⟨gb289,1,none⟩ = some (.int .i64 a0_1) := (blk_cell BK289.out 1).trans rfl
           have hcz28_2 : wr.cell? ⟨gb289,2,none⟩ = some (.slice (some ad294) l0_2.length c0_2) := (blk_cell BK289.out 2).trans rfl
           have hcz28_3 : wr.cell? ⟨gb289,3,none⟩ = some (.slice A0_3 l0_3.length c0_3) := (blk_cell BK289.out 3).trans rfl
           have hfz28_0 := blk_frozen BK289.out 0
           have hfz28_1 := blk_frozen BK289.out 1
           have hfz28_2 := blk_frozen BK289.out 2
           have hfz28_3 := blk_frozen BK289.out 3
           go_wp2_with (first | ((with_reducible refine gate_callee (f := 30) rfl ?_); refine goesL_ (some 41) rfl rfl Tryd.func30 (by kernel_rfl) rfl #[.slice A0_3 l0_3.length c0_3,.string (rdOf ByteArray.empty l0_2 x33_2)] rfl b10_1 ?_; (with_reducible refine (slices_Index_string_string.calls k2 _ _ l0_3 (rdOf ByteArray.empty l0_2 x33_2) t295 _ ?side1 ?side2 A24.out).mono ?_); (case side1 => repeat (first | exact (Kd.C_below HR0_3.out HB.out) | (with_reducible refine Kd.C_alloc ?_ _) | (with_reducible refine Kd.C_drewN ?_ _) | (with_reducible refine Kd.C_drew ?_))); (case side2 => exact HC0_3.out); rintro e w' ⟨rfl,⟨nd,rfl⟩⟩; refine ⟨_,rfl,?_⟩))
           go_ret
           exact ⟨b10_6,b10_0⟩
         ·rw [if_neg c25] at H
          have c25b0 : decide (0 ≤ t295) = false := decide_eq_false c25
          clear c25
          have H' := Aside0.mk H
          clear H
          have p294 : 0 ≤ (x33_2 : Int) := of_decide_eq_true b10_5
          have q294 : x33_2 < (l0_2.length : Int) := of_decide_eq_true b10_5
          obtain ⟨ad294,e294,hx294_0⟩ := Kd.at_string HR0_2.out x33_2 p294 q294
          cases e294
          replace hx294_0 := (HB.out.cell (World.block_lt_of_cell? w _ hx294_0)).trans hx294_0
          replace p294 := eq_true p294
          replace q294 := eq_true q294
          have hcz29_0 : wr.cell? ⟨gb289,0,none⟩ = some (.int .i64 a0_0) := (blk_cell BK289.out 0).trans rfl
          have hcz29_1 : wr.cell? ⟨gb289,1,none⟩ = some (.int .i64 a0_1) := (blk_cell BK289.out 1).trans rfl
          have hcz29_2 : wr.cell? ⟨gb289,2,none⟩ = some (.slice (some ad294) l0_2.length c0_2) := (blk_cell BK289.out 2).trans rfl
          have hcz29_3 : wr.cell? ⟨gb289,3,none⟩ = some (.slice A0_3 l0_3.length c0_3) := (blk_cell BK289.out 3).trans rfl
          have hfz29_0 := blk_frozen BK289.out 0
          have hfz29_1 := blk_frozen BK289.out 1
          have hfz29_2 := blk_frozen BK289.out 2
          have hfz29_3 := blk_frozen BK289.out 3
          go_wp2_with (first | ((with_reducible refine gate_callee (f := 30) rfl ?_); refine goesL_ (some 41) rfl rfl Tryd.func30 (by kernel_rfl) rfl #[.slice A0_3 l0_3.length c0_3,.string (rdOf ByteArray.empty l0_2 x33_2)] rfl b10_1 ?_; (with_reducible refine (slices_Index_string_string.calls k2 _ _ l0_3 (rdOf ByteArray.empty l0_2 x33_2) t295 _ ?side1 ?side2 A24.out).mono ?_); (case side1 => repeat (first | exact (Kd.C_below HR0_3.out HB.out) | (with_reducible refine Kd.C_alloc ?_ _) | (with_reducible refine Kd.C_drewN ?_ _) | (with_reducible refine Kd.C_drew ?_))); (case side2 => exact HC0_3.out); rintro e w' ⟨rfl,⟨nd,rfl⟩⟩; refine ⟨_,rfl,?_⟩))
          go_roundg k2
          case measure => have := HJ1.out; have := HK2.out; omega
          case rel => exact ⟨(wrap64 (x33_2 + 1)),b10_4,H',⟨by have := HJ1.out; have := HK2.out; omega⟩,⟨b10_2⟩,⟨b10_0⟩⟩
        ·rw [if_neg c23] at H
         exact absurd H (by simp)
       ·rw [if_neg c22] at H
        exact absurd H (by simp)
      ·rw [if_neg c21] at H
       have c21b0 : decide (x33_2 < (l0_2.length : Int)) = false := decide_eq_false c21
       clear c21
       obtain rfl := Option.some.inj H
       go_wp2
       go_ret
       exact ⟨b10_6,b10_0⟩

/-! ### impl_BlockCode_words: function 27 -/
/-!  One of the lists that came in,by the sign of a number. -/
def impl_BlockCode_words.f (a1 : Int) : Option Unit := some ()
def impl_BlockCode_words_neg.f (a0_0 : Int) (a0_1 : Int) (l0_2 : List ByteArray) (l0_3 : List ByteArray) (a1 : Int) : Option Unit := if a1 < 0 then some () else none
set_option maxHeartbeats 8000000 in
set_option maxRecDepth 100000 in
theorem impl_BlockCode_words_neg.calls (a0_0 : Int) (a0_1 : Int) (A0_2 : Option Addr) (c0_2 : Nat) (l0_2 : List ByteArray) (A0_3 : Option Addr) (c0_3 : Nat) (l0_3 : List ByteArray) (a1 : Int) (w : World) (hr0_2 : Kd.C Kd.string w A0_2 l0_2.length l0_2) (hc0_2 : l0_2.length ≤ c0_2) (hr0_3 : Kd.C Kd.string w A0_3 l0_3.length l0_3) (hc0_3 : l0_3.length ≤ c0_3) (h : impl_BlockCode_words_neg.f a0_0 a0_1 l0_2 l0_3 a1 = some ()) :
  Calls Tryd.prog 27 #[.agg #[.int .i64 a0_0,.int .i64 a0_1,.slice A0_2 l0_2.length c0_2,.slice A0_3 l0_3.length c0_3],.int .i64 a1] w fun e w' => e = .returned (.tuple #[.slice A0_2 l0_2.length c0_2,.slice A0_3 l0_3.length c0_3]) ∧ Below w.heap.size w w' := by
 unfold impl_BlockCode_words_neg.f at h
 by_cases c : a1 < 0
 ·have cb : decide (a1 < 0) = true := decide_eq_true c
  clear h hr0_2 hc0_2 hr0_3 hc0_3
  have hu30 := Tryd.underlying26
  have mixed := Tryd.lays138.mixed
  have HB := Aside0.mk (Below.refl w.heap.size w)
  go_enter Tryd.func27,Tryd.ntmps27
  go_wp2_with (first | ((with_reducible refine gate_dst (N := 2) rfl ?_); refine box_event ?hg (N := 2) ?hd (cs := #[.int .i64 a0_0,.int .i64 a0_1,.slice A0_2 l0_2.length c0_2,.slice A0_3 l0_3.length c0_3]) (t := 26) ?hr ?_; (case hd => rfl); (case hg => rfl); (case hr => first | (go_simp; done) | (go_simp; rfl)); intro g1 hg w1 hbox hb; have n0_ := Aside0.mk (below_step b10_3 hb); clear HB; have HB := n0_; clear n0_ hb hg; have BK := Aside0.mk hbox; clear hbox; have hcz0 : w1.cell? ⟨g1,0,none⟩ = some (.int .i64 a0_0) := (blk_cell BK.out 0).trans rfl; have hcz1 : w1.cell? ⟨g1,1,none⟩ = some (.int .i64 a0_1) := (blk_cell BK.out 1).trans rfl; have hcz2 : w1.cell? ⟨g1,2,none⟩ = some (.slice A0_2 l0_2.length c0_2) := (blk_cell BK.out 2).trans rfl; have hcz3 : w1.cell? ⟨g1,3,none⟩ = some (.slice A0_3 l0_3.length c0_3) := (blk_cell BK.out 3).trans rfl))
  go_region_o
  all_goals (go_wp2; go_ret2; exact ⟨b10_4,b10_3⟩)
 ·rw [if_neg c] at h; cases h
def impl_BlockCode_words_pos.f (a0_0 : Int) (a0_1 : Int) (l0_2 : List ByteArray) (l0_3 : List ByteArray) (a1 : Int) : Option Unit := if ¬ a1 < 0 then some () else none
set_option maxHeartbeats 8000000 in
set_option maxRecDepth 100000 in
theorem impl_BlockCode_words_pos.calls (a0_0 : Int) (a0_1 : Int) (A0_2 : Option Addr) (c0_2 : Nat) (l0_2 : List ByteArray) (A0_3 : Option Addr) (c0_3 : Nat) (l0_3 : List ByteArray) (a1 : Int) (w : World) (hr0_2 : Kd.C Kd.string w A0_2 l0_2.length l0_2) (hc0_2 : l0_2.length ≤ c0_2) (hr0_3 : Kd.C Kd.string w A0_3 l0_3.length l0_3) (hc0_3 : l0_3.length ≤ c0_3) (h : impl_BlockCode_words_pos.f a0_0 a0_1 l0_2 l0_3 a1 = some ()) :
  Calls Tryd.prog 27 #[.agg #[.int .i64 a0_0,.int .i64 a0_1,.slice A0_2 l0_2.length c0_2,.slice A0_3 l0_3.length c0_3],.int .i64 a1] w fun e w' => e = .returned (.tuple #[.slice A0_3 l0_3.length c0_3,.slice A0_2 l0_2.length c0_2]) ∧ Below w.heap.size w w' := by
 unfold impl_BlockCode_words_pos.f at h
 by_cases c : a1 < 0
 ·rw [if_neg (fun q => q c)] at h; cases h
 ·have cb : decide (a1 < 0) = false := decide_eq_false c
  clear h hr0_2 hc0_2 hr0_3 hc0_3
  have hu30 := Tryd.underlying26
  have mixed := Tryd.lays138.mixed
  have HB := Aside0.mk (Below.refl w.heap.size w)
  go_enter Tryd.func27,Tryd.ntmps27
  go_wp2_with (first | ((with_reducible refine gate_dst (N := 2) rfl ?_); refine box_event ?hg (N := 2) ?hd (cs := #[.int .i64 a0_0,.int .i64 a0_1,.slice A0_2 l0_2.length c0_2,.slice A0_3 l0_3.length c0_3]) (t := 26) ?hr ?_; (case hd => rfl); (case hg => rfl); (case hr => first | (go_simp; done) | (go_simp; rfl)); intro g1 hg w1 hbox hb; have n0_ := Aside0.mk (below_step b10_3 hb); clear HB; have HB := n0_; clear n0_ hb hg; have BK := Aside0.mk hbox; clear hbox; have hcz0 : w1.cell? ⟨g1,0,none⟩ = some (.int .i64 a0_0) := (blk_cell BK.out 0).trans rfl; have hcz1 : w1.cell? ⟨g1,1,none⟩ = some (.int .i64 a0_1) := (blk_cell BK.out 1).trans rfl; have hcz2 : w1.cell? ⟨g1,2,none⟩ = some (.slice A0_2 l0_2.length c0_2) := (blk_cell BK.out 2).trans rfl; have hcz3 : w1.cell? ⟨g1,3,none⟩ = some (.slice A0_3 l0_3.length c0_3) := (blk_cell BK.out 3).trans rfl))
  go_region_o
  all_goals (go_wp2; go_ret2; exact ⟨b10_4,b10_3⟩)

/-! ### impl_stateBehind: function 28 -/
def impl_stateBehind.f (a0 : Int) (a1 : ByteArray) : Option (Int) := (impl_disparity.f a1).bind fun t296 => (if t296 > 0 then (some 1) else (if t296 < 0 then (some (-1)) else (some a0)))
set_option maxHeartbeats 8000000 in
set_option maxRecDepth 100000 in
theorem impl_stateBehind.calls (a0 : Int) (a1 : ByteArray) (r : Int) (w : World) (h : impl_stateBehind.f a0 a1 = some r) :
  Calls Tryd.prog 28 #[.int .i64 a0,.string a1] w fun e w' => e = .returned (.int .i64 r) ∧ Drawn0 w w' := by
 have H : ((impl_disparity.f a1).bind fun t296 => (if t296 > 0 then (some 1) else (if t296 < 0 then (some (-1)) else (some a0)))) = some r := h
 clear h
 replace H := Option.bind_eq_some_iff.mp H
 obtain ⟨t296,A30,H⟩ := H
 replace H : (if t296 > 0 then (some 1) else (if t296 < 0 then (some (-1)) else (some a0))) = some r := H
 have A3 := Aside0.mk A30
 clear A30
 by_cases c4 : t296 > 0
 ·rw [if_pos c4] at H
  have c4b0 : decide (0 < t296) = true := decide_eq_true c4
  clear c4
  obtain rfl := Option.some.inj H
  go_enter Tryd.func28,Tryd.ntmps28
  go_wp2_with (first | ((with_reducible refine gate_callee (f := 31) rfl ?_); refine goesL_ (some 7) rfl rfl Tryd.func31 (by kernel_rfl) rfl #[.string a1] rfl b10_1 ?_; (with_reducible refine (impl_disparity.calls a1 t296 _ A3.out).mono ?_); rintro e w' ⟨rfl,⟨nd,rfl⟩⟩; refine ⟨_,rfl,?_⟩))
  go_ret
  exact ⟨b10_4,b10_7⟩
 ·rw [if_neg c4] at H
  have c4b0 : decide (0 < t296) = false := decide_eq_false c4
  clear c4
  by_cases c5 : t296 < 0
  ·rw [if_pos c5] at H
   have c5b0 : decide (t296 < 0) = true := decide_eq_true c5
   clear c5
   obtain rfl := Option.some.inj H
   go_enter Tryd.func28,Tryd.ntmps28
   go_wp2_with (first | ((with_reducible refine gate_callee (f := 31) rfl ?_); refine goesL_ (some 7) rfl rfl Tryd.func31 (by kernel_rfl) rfl #[.string a1] rfl b10_1 ?_; (with_reducible refine (impl_disparity.calls a1 t296 _ A3.out).mono ?_); rintro e w' ⟨rfl,⟨nd,rfl⟩⟩; refine ⟨_,rfl,?_⟩))
   go_ret
   exact ⟨b10_4,b10_7⟩
  ·rw [if_neg c5] at H
   have c5b0 : decide (t296 < 0) = false := decide_eq_false c5
   clear c5
   obtain rfl := Option.some.inj H
   go_enter Tryd.func28,Tryd.ntmps28
   go_wp2_with (first | ((with_reducible refine gate_callee (f := 31) rfl ?_); refine goesL_ (some 7) rfl rfl Tryd.func31 (by kernel_rfl) rfl #[.string a1] rfl b10_1 ?_; (with_reducible refine (impl_disparity.calls a1 t296 _ A3.out).mono ?_); rintro e w' ⟨rfl,⟨nd,rfl⟩⟩; refine ⟨_,rfl,?_⟩))
   go_ret
   exact ⟨b10_4,b10_7⟩

end Go.Proofs.YtegeaoiclepkkabDoor.QFnCommas
