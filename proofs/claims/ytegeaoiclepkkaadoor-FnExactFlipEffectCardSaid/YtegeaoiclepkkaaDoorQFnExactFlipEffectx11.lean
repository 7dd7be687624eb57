/-
Each Go function that this text names answers as the Lean function beside it says,wherever that one answers; conditions: the arguments lie in memory as each theorem states it.
-/
import Derived.Test.YtegeaoiclepkkaaDoorQFnExactFlipEffectx0
import Derived.Test.YtegeaoiclepkkaaDoorQFnExactFlipEffectx9
import Derived.Test.YtegeaoiclepkkaaDoorQFnExactFlipEffectx10
namespace Go.Proofs.YtegeaoiclepkkaaDoor.QFnExactFlipEffect
open Go.RowKit Go.Proofs.YtegeaoiclepkkaaDoorW.PrintWords Go.Proofs.YtegeaoiclepkkaaDoorW.PrintLast Go.Proofs.YtegeaoiclepkkaaDoorW.PrintMore
attribute [local go_sem] max2_int min2_int max_two min_two max_three min_three max_four min_four   -- for this text's walks alone
set_option linter.unusedVariables false
set_option linter.unusedSimpArgs false

/-! ### impl_DecodeBlocks: function 28 -/
mutual
def impl_DecodeBlocks.j0 : Nat → Int → ByteArray → Bool → Int → Int → List ByteArray → List ByteArray → Option (List Int × List Int × Int × Bool)
 | 0,_,_,_,_,_,_,_ => none
 | k + 1,x1,x2,x37,x258000,x258001,x258002,x258003 => if x37 = true then (some (([] : List Int),([] : List Int),0,false)) else (impl_DecodeBlocks.l0 k x2 (([] : List Int)) (([] : List Int)) x1 x258000 x258001 x258002 x258003)
def impl_DecodeBlocks.l0 : Nat → ByteArray → List Int → List Int → Int → Int → Int → List ByteArray → List ByteArray → Option (List Int × List Int × Int × Bool)
 | 0,_,_,_,_,_,_,_,_ => none
 | k + 1,x2,x10,x11,x12,x258000,x258001,x258002,x258003 => if (x2.size : Int) > 0 then (if 0 ≤ x258001 then (if x258001 ≤ (x2.size : Int) then (if x12 < 0 then ((impl_BlockCode_words_neg.f x258000 x258001 x258002 x258003 x12).bind fun _ => ((slices_Index_string_string.f k x258002 (x2.extract 0 (x258001 : Int).toNat)).bind fun t267 => (if t267 < 0 then (if x11.length < 17592186044416 then ((slices_Index_string_string.f k x258003 (x2.extract 0 (x258001 : Int).toNat)).bind fun t271 => (if x10.length < 17592186044416 then ((impl_stateBehind.f x12 (x2.extract 0 (x258001 : Int).toNat)).bind fun t275 => (impl_DecodeBlocks.l0 k (x2.extract (x258001 : Int).toNat x2.size) (x10 ++ [t271]) (x11 ++ [(x10.length : Int)]) t275 x258000 x258001 x258002 x258003)) else (none))) else (none)) else (if x10.length < 17592186044416 then ((impl_stateBehind.f x12 (x2.extract 0 (x258001 : Int).toNat)).bind fun t279 => (impl_DecodeBlocks.l0 k (x2.extract (x258001 : Int).toNat x2.size) (x10 ++ [t267]) x11 t279 x258000 x258001 x258002 x258003)) else (none))))) else ((impl_BlockCode_words_pos.f x258000 x258001 x258002 x258003 x12).bind fun _ => ((slices_Index_string_string.f k x258003 (x2.extract 0 (x258001 : Int).toNat)).bind fun t280 => (if t280 < 0 then (if x11.length < 17592186044416 then ((slices_Index_string_string.f k x258002 (x2.extract 0 (x258001 : Int).toNat)).bind fun t284 => (if x10.length < 17592186044416 then ((impl_stateBehind.f x12 (x2.extract 0 (x258001 : Int).toNat)).bind fun t288 => (impl_DecodeBlocks.l0 k (x2.extract (x258001 : Int).toNat x2.size) (x10 ++ [t284]) (x11 ++ [(x10.length : Int)]) t288 x258000 x258001 x258002 x258003)) else (none))) else (none)) else (if x10.length < 17592186044416 then ((impl_stateBehind.f x12 (x2.extract 0 (x258001 : Int).toNat)).bind fun t292 => (impl_DecodeBlocks.l0 k (x2.extract (x258001 : Int).toNat x2.size) (x10 ++ [t280]) x11 t292 x258000 x258001 x258002 x258003)) else (none)))))) else (none)) else (none)) else (some (x10,x11,x12,true))
end
def impl_DecodeBlocks.f (k : Nat) (a0_0 : Int) (a0_1 : Int) (l0_2 : List ByteArray) (l0_3 : List ByteArray) (a1 : Int) (a2 : ByteArray) : Option (List Int × List Int × Int × Bool) := (impl_ValidBlockCode.f k a0_0 a0_1 l0_2 l0_3).bind fun t258 => (if t258 = true then ((impl_isLineState.f a1).bind fun t259 => (if t259 = true then ((impl_IsBits.f a2).bind fun t260 => (if t260 = true then (if a0_1 = 0 then (none) else (impl_DecodeBlocks.j0 k a1 a2 (((a2.size : Int) % a0_1) != 0) a0_0 a0_1 l0_2 l0_3)) else (impl_DecodeBlocks.j0 k a1 a2 true a0_0 a0_1 l0_2 l0_3))) else (impl_DecodeBlocks.j0 k a1 a2 true a0_0 a0_1 l0_2 l0_3))) else (impl_DecodeBlocks.j0 k a1 a2 true a0_0 a0_1 l0_2 l0_3))
set_option maxHeartbeats 8000000 in
set_option maxRecDepth 100000 in
theorem impl_DecodeBlocks.calls (k : Nat) (a0_0 : Int) (a0_1 : Int) (A0_2 : Option Addr) (c0_2 : Nat) (l0_2 : List ByteArray) (A0_3 : Option Addr) (c0_3 : Nat) (l0_3 : List ByteArray) (a1 : Int) (a2 : ByteArray) (r1 : List Int) (r2 : List Int) (r3 : Int) (r4 : Bool) (w : World) (hr0_2 : Kd.C Kd.string w A0_2 l0_2.length l0_2) (hc0_2 : l0_2.length ≤ c0_2) (hr0_3 : Kd.C Kd.string w A0_3 l0_3.length l0_3) (hc0_3 : l0_3.length ≤ c0_3) (h : impl_DecodeBlocks.f k a0_0 a0_1 l0_2 l0_3 a1 a2 = some (r1,r2,r3,r4)) :
  Calls Tryd.prog 28 #[.agg #[.int .i64 a0_0,.int .i64 a0_1,.slice A0_2 l0_2.length c0_2,.slice A0_3 l0_3.length c0_3],.int .i64 a1,.string a2] w fun e w' => ∃ v0_ v1_ : Value,e = .returned (.tuple #[v0_,v1_,.int .i64 r3,.bool r4]) ∧ Kd.R (Kd.int .i64) 2 w' w.heap.size (fun k_ => some k_ ≠ (v1_ : Value).ownBlock) v0_ r1 ∧ Kd.R (Kd.int .i64) 2 w' w.heap.size (fun k_ => some k_ ≠ (v0_ : Value).ownBlock) v1_ r2 ∧ Below w.heap.size w w' := by
 have hu30 := Tryd.underlying30
 have HR0_2 := Aside0.mk hr0_2
 have HC0_2 := Aside0.mk hc0_2
 clear hr0_2 hc0_2
 have HR0_3 := Aside0.mk hr0_3
 have HC0_3 := Aside0.mk hc0_3
 clear hr0_3 hc0_3
 have HB := Aside0.mk (Below.refl w.heap.size w)
 have H : ((impl_ValidBlockCode.f k a0_0 a0_1 l0_2 l0_3).bind fun t258 => (if t258 = true then ((impl_isLineState.f a1).bind fun t259 => (if t259 = true then ((impl_IsBits.f a2).bind fun t260 => (if t260 = true then (if a0_1 = 0 then (none) else (impl_DecodeBlocks.j0 k a1 a2 (((a2.size : Int) % a0_1) != 0) a0_0 a0_1 l0_2 l0_3)) else (impl_DecodeBlocks.j0 k a1 a2 true a0_0 a0_1 l0_2 l0_3))) else (impl_DecodeBlocks.j0 k a1 a2 true a0_0 a0_1 l0_2 l0_3))) else (impl_DecodeBlocks.j0 k a1 a2 true a0_0 a0_1 l0_2 l0_3))) = some (r1,r2,r3,r4) := h
 clear h
 have HC4 := Aside0.mk H
 clear H
 go_enter Tryd.func28,Tryd.ntmps28
 go_upto_region 1 with (first | ((with_reducible refine gate_dst (N := 3) rfl ?_); (try (refine gate_guard (by rfl) ?_; dsimp only)); refine box_event ?hg (N := 3) ?hd (cs := #[.int .i64 a0_0,.int .i64 a0_1,.slice A0_2 l0_2.length c0_2,.slice A0_3 l0_3.length c0_3]) (t := 30) ?hr ?_; (case hd => rfl); (case hg => rfl); (case hr => first | (go_simp; done) | (go_simp; rfl)); intro gb257 hg w5 hbox hb; have n0_ := Aside0.mk (below_step (by repeat (first | (with_reducible first | exact HB.out | apply below_alloc | apply pw_below_drewN | apply below_drew1) | exact HB.out)) hb); have n1_ := Aside0.mk (hbox); have n2_ := Aside0.mk ((by rw [hg]; exact (below_size (by repeat (first | (with_reducible first | exact HB.out | apply below_alloc | apply pw_below_drewN | apply below_drew1) | exact HB.out))) : w.heap.size ≤ gb257)); have n3_ := Aside0.mk ((by rw [hg]; exact (below_size (by repeat (first | (with_reducible first | exact HB.out | apply below_alloc | apply pw_below_drewN | apply below_drew1) | exact HB.out))) : w.heap.size ≤ gb257)); clear HB; have HB := n0_; have BK257 := n1_; have GW257 := n2_; have GE257 := n3_; clear n0_ n1_ n2_ n3_; clear hb hbox hg))
 (try simp only [Act.put,List.setIfInBounds_toArray,List.set_cons_zero,List.set_cons_succ])
 go_cut [37] (fun v37 wc => ∃ (kq : Nat) (x37_3 : Bool),v37 = .bool x37_3 ∧ Aside0 (impl_DecodeBlocks.j0 kq a1 a2 x37_3 a0_0 a0_1 l0_2 l0_3 = some (r1,r2,r3,r4)) ∧ Aside0 (kq ≤ k) ∧ Aside0 (wc.heap[gb257]? = some (.cells #[.int .i64 a0_0,.int .i64 a0_1,(.slice A0_2 l0_2.length c0_2),(.slice A0_3 l0_3.length c0_3)] 30 (0,0))) ∧ Aside0 (Below w.heap.size w wc))
 case first =>
  have H := HC4.out
  clear HC4
  replace H := Option.bind_eq_some_iff.mp H
  obtain ⟨t258,A60,H⟩ := H
  replace H : (if t258 = true then ((impl_isLineState.f a1).bind fun t259 => (if t259 = true then ((impl_IsBits.f a2).bind fun t260 => (if t260 = true then (if a0_1 = 0 then (none) else (impl_DecodeBlocks.j0 k a1 a2 (((a2.size : Int) % a0_1) != 0) a0_0 a0_1 l0_2 l0_3)) else (impl_DecodeBlocks.j0 k a1 a2 true a0_0 a0_1 l0_2 l0_3))) else (impl_DecodeBlocks.j0 k a1 a2 true a0_0 a0_1 l0_2 l0_3))) else (impl_DecodeBlocks.j0 k a1 a2 true a0_0 a0_1 l0_2 l0_3)) = some (r1,r2,r3,r4) := H
  have A6 := Aside0.mk A60
  clear A60
  by_cases c7 : t258 = true
  ·subst c7
   have H1 : ((impl_isLineState.f a1).bind fun t259 => (if t259 = true then ((impl_IsBits.f a2).bind fun t260 => (if t260 = true then (if a0_1 = 0 then (none) else (impl_DecodeBlocks.j0 k a1 a2 (((a2.size : Int) % a0_1) != 0) a0_0 a0_1 l0_2 l0_3)) else (impl_DecodeBlocks.j0 k a1 a2 true a0_0 a0_1 l0_2 l0_3))) else (impl_DecodeBlocks.j0 k a1 a2 true a0_0 a0_1 l0_2 l0_3))) = some (r1,r2,r3,r4) := by rw [if_pos rfl] at H; exact H
   clear H
   have H := H1
   clear H1
   replace H := Option.bind_eq_some_iff.mp H
   obtain ⟨t259,A80,H⟩ := H
   replace H : (if t259 = true then ((impl_IsBits.f a2).bind fun t260 => (if t260 = true then (if a0_1 = 0 then (none) else (impl_DecodeBlocks.j0 k a1 a2 (((a2.size : Int) % a0_1) != 0) a0_0 a0_1 l0_2 l0_3)) else (impl_DecodeBlocks.j0 k a1 a2 true a0_0 a0_1 l0_2 l0_3))) else (impl_DecodeBlocks.j0 k a1 a2 true a0_0 a0_1 l0_2 l0_3)) = some (r1,r2,r3,r4) := H
   have A8 := Aside0.mk A80
   clear A80
   by_cases c9 : t259 = true
   ·subst c9
    have H1 : ((impl_IsBits.f a2).bind fun t260 => (if t260 = true then (if a0_1 = 0 then (none) else (impl_DecodeBlocks.j0 k a1 a2 (((a2.size : Int) % a0_1) != 0) a0_0 a0_1 l0_2 l0_3)) else (impl_DecodeBlocks.j0 k a1 a2 true a0_0 a0_1 l0_2 l0_3))) = some (r1,r2,r3,r4) := by rw [if_pos rfl] at H; exact H
    clear H
    have H := H1
    clear H1
    replace H := Option.bind_eq_some_iff.mp H
    obtain ⟨t260,A100,H⟩ := H
    replace H : (if t260 = true then (if a0_1 = 0 then (none) else (impl_DecodeBlocks.j0 k a1 a2 (((a2.size : Int) % a0_1) != 0) a0_0 a0_1 l0_2 l0_3)) else (impl_DecodeBlocks.j0 k a1 a2 true a0_0 a0_1 l0_2 l0_3)) = some (r1,r2,r3,r4) := H
    have A10 := Aside0.mk A100
    clear A100
    by_cases c11 : t260 = true
    ·subst c11
     have H1 : (if a0_1 = 0 then (none) else (impl_DecodeBlocks.j0 k a1 a2 (((a2.size : Int) % a0_1) != 0) a0_0 a0_1 l0_2 l0_3)) = some (r1,r2,r3,r4) := by rw [if_pos rfl] at H; exact H
     clear H
     have H := H1
     clear H1
     by_cases c12 : a0_1 = 0
     ·rw [if_pos c12] at H
      exact absurd H (by simp)
     ·rw [if_neg c12] at H
      have c12b0 : (a0_1 == 0) = false := beq_eq_false_iff_ne.mpr c12
      have c12b1 : (a0_1 != 0) = true := bne_iff_ne.mpr c12
      (first | rw [c12b0] | (simp only [i64_w,i32_w]; rw [c12b0]) | skip)
      have H' := Aside0.mk H
      clear H
      have hcz13_0 : w5.cell? ⟨gb257,0,none⟩ = some (.int .i64 a0_0) := (blk_cell BK257.out 0).trans rfl
      have hcz13_1 : w5.cell? ⟨gb257,1,none⟩ = some (.int .i64 a0_1) := (blk_cell BK257.out 1).trans rfl
      have hcz13_2 : w5.cell? ⟨gb257,2,none⟩ = some (.slice A0_2 l0_2.length c0_2) := (blk_cell BK257.out 2).trans rfl
      have hcz13_3 : w5.cell? ⟨gb257,3,none⟩ = some (.slice A0_3 l0_3.length c0_3) := (blk_cell BK257.out 3).trans rfl
      have hfz13_0 := blk_frozen BK257.out 0
      have hfz13_1 := blk_frozen BK257.out 1
      have hfz13_2 := blk_frozen BK257.out 2
      have hfz13_3 := blk_frozen BK257.out 3
      go_wp2_with (first | ((with_reducible refine gate_callee (f := 17) rfl ?_); refine goesL_ (some 18) rfl rfl Tryd.func17 (by kernel_rfl) rfl #[.agg #[.int .i64 a0_0,.int .i64 a0_1,.slice A0_2 l0_2.length c0_2,.slice A0_3 l0_3.length c0_3]] rfl (by (try simp only [List.map_toArray,List.map_cons,List.map_nil]); first | done | rfl | (simp only [List.length_drop,List.length_take]; rfl)) ?_; (with_reducible refine (impl_ValidBlockCode.calls k a0_0 a0_1 _ _ l0_2 _ _ l0_3 true _ ?side1 ?side2 ?side3 ?side4 A6.out).mono ?_); (case side1 => repeat (first | exact (Kd.C_below HR0_2.out HB.out) | (with_reducible refine Kd.C_alloc ?_ _) | (with_reducible refine Kd.C_drewN ?_ _) | (with_reducible refine Kd.C_drew ?_))); (case side2 => exact HC0_2.out); (case side3 => repeat (first | exact (Kd.C_below HR0_3.out HB.out) | (with_reducible refine Kd.C_alloc ?_ _) | (with_reducible refine Kd.C_drewN ?_ _) | (with_reducible refine Kd.C_drew ?_))); (case side4 => exact HC0_3.out); rintro e w14 ⟨rfl,hb⟩; refine ⟨_,rfl,?_⟩; have n0_ := Aside0.mk (blk_below (g := gb257) (o := .cells #[.int .i64 a0_0,.int .i64 a0_1,.slice A0_2 l0_2.length c0_2,.slice A0_3 l0_3.length c0_3] 30 (0,0)) (by (with_reducible repeat (first | refine blk_drewN ?_ _ | refine blk_drew ?_ | refine blk_alloc ?_ _)); exact BK257.out) hb); have n1_ := Aside0.mk (below_step (by repeat (first | (with_reducible first | exact HB.out | apply below_alloc | apply pw_below_drewN | apply below_drew1 | refine below_set ?_ GE257.out) | exact HB.out)) hb); clear BK257; clear HB; have BK257 := n0_; have HB := n1_; clear n0_ n1_; (try clear hb); (try clear hb2); (try clear hk); (try clear hi)) | (go_at_call 61; (with_reducible refine (impl_isLineState.calls a1 true _ A8.out).mono ?_); rintro e w' ⟨rfl,⟨nd,rfl⟩⟩) | (go_at_call 43; (with_reducible refine (impl_IsBits.calls a2 true _ A10.out).mono ?_); rintro e w15 ⟨rfl,hb⟩; have n0_ := Aside0.mk (blk_below (g := gb257) (o := .cells #[.int .i64 a0_0,.int .i64 a0_1,.slice A0_2 l0_2.length c0_2,.slice A0_3 l0_3.length c0_3] 30 (0,0)) (by (with_reducible repeat (first | refine blk_drewN ?_ _ | refine blk_drew ?_ | refine blk_alloc ?_ _)); exact BK257.out) hb); have n1_ := Aside0.mk (below_step (by repeat (first | (with_reducible first | exact HB.out | apply below_alloc | apply pw_below_drewN | apply below_drew1 | refine below_set ?_ GE257.out) | exact HB.out)) hb); clear BK257; clear HB; have BK257 := n0_; have HB := n1_; clear n0_ n1_; (try clear hb); (try clear hb2); (try clear hk); (try clear hi); have hcz16_0 : w15.cell? ⟨gb257,0,none⟩ = some (.int .i64 a0_0) := (blk_cell BK257.out 0).trans rfl; have hcz16_1 : w15.cell? ⟨gb257,1,none⟩ = some (.int .i64 a0_1) := (blk_cell BK257.out 1).trans rfl; have hcz16_2 : w15.cell? ⟨gb257,2,none⟩ = some (.slice A0_2 l0_2.length c0_2) := (blk_cell BK257.out 2).trans rfl; have hcz16_3 : w15.cell? ⟨gb257,3,none⟩ = some (.slice A0_3 l0_3.length c0_3) := (blk_cell BK257.out 3).trans rfl; have hfz16_0 := blk_frozen BK257.out 0; have hfz16_1 := blk_frozen BK257.out 1; have hfz16_2 := blk_frozen BK257.out 2; have hfz16_3 := blk_frozen BK257.out 3))
      go_meet
      case rel => exact ⟨_,((((a2.size : Int) % a0_1) != 0)),(by first | rfl | (simp; done) | (simp [*]; done)),H',⟨by first | omega | exact Nat.le_refl _⟩,⟨by (with_reducible repeat (first | refine blk_drewN ?_ _ | refine blk_drew ?_ | refine blk_alloc ?_ _)); exact BK257.out⟩,⟨by repeat (first | (with_reducible first | exact HB.out | apply below_alloc | apply pw_below_drewN | apply below_drew1 | refine below_set ?_ GE257.out) | exact HB.out)⟩⟩
    ·replace c11 := Bool.eq_false_iff.mpr c11
     subst c11
     have H1 : (impl_DecodeBlocks.j0 k a1 a2 true a0_0 a0_1 l0_2 l0_3) = some (r1,r2,r3,r4) := by rw [if_neg (show ¬ (false = true) by decide)] at H; exact H
     clear H
     have H := H1
     clear H1
     have H' := Aside0.mk H
     clear H
     have hcz17_0 : w5.cell? ⟨gb257,0,none⟩ = some (.int .i64 a0_0) := (blk_cell BK257.out 0).trans rfl
     have hcz17_1 : w5.cell? ⟨gb257,1,none⟩ = some (.int .i64 a0_1) := (blk_cell BK257.out 1).trans rfl
     have hcz17_2 : w5.cell? ⟨gb257,2,none⟩ = some (.slice A0_2 l0_2.length c0_2) := (blk_cell BK257.out 2).trans rfl
     have hcz17_3 : w5.cell? ⟨gb257,3,none⟩ = some (.slice A0_3 l0_3.length c0_3) := (blk_cell BK257.out 3).trans rfl
     have hfz17_0 := blk_frozen BK257.out 0
     have hfz17_1 := blk_frozen BK257.out 1
     have hfz17_2 := blk_frozen BK257.out 2
     have hfz17_3 := blk_frozen BK257.out 3
     go_wp2_with (first | ((with_reducible refine gate_callee (f := 17) rfl ?_); refine goesL_ (some 18) rfl rfl Tryd.func17 (by kernel_rfl) rfl #[.agg #[.int .i64 a0_0,.int .i64 a0_1,.slice A0_2 l0_2.length c0_2,.slice A0_3 l0_3.length c0_3]] rfl (by (try simp only [List.map_toArray,List.map_cons,List.map_nil]); first | done | rfl | (simp only [List.length_drop,List.length_take]; rfl)) ?_; (with_reducible refine (impl_ValidBlockCode.calls k a0_0 a0_1 _ _ l0_2 _ _ l0_3 true _ ?side1 ?side2 ?side3 ?side4 A6.out).mono ?_); (case side1 => repeat (first | exact (Kd.C_below HR0_2.out HB.out) | (with_reducible refine Kd.C_alloc ?_ _) | (with_reducible refine Kd.C_drewN ?_ _) | (with_reducible refine Kd.C_drew ?_))); (case side2 => exact HC0_2.out); (case side3 => repeat (first | exact (Kd.C_below HR0_3.out HB.out) | (with_reducible refine Kd.C_alloc ?_ _) | (with_reducible refine Kd.C_drewN ?_ _) | (with_reducible refine Kd.C_drew ?_))); (case side4 => exact HC0_3.out); rintro e w18 ⟨rfl,hb⟩; refine ⟨_,rfl,?_⟩; have n0_ := Aside0.mk (blk_below (g := gb257) (o := .cells #[.int .i64 a0_0,.int .i64 a0_1,.slice A0_2 l0_2.length c0_2,.slice A0_3 l0_3.length c0_3] 30 (0,0)) (by (with_reducible repeat (first | refine blk_drewN ?_ _ | refine blk_drew ?_ | refine blk_alloc ?_ _)); exact BK257.out) hb); have n1_ := Aside0.mk (below_step (by repeat (first | (with_reducible first | exact HB.out | apply below_alloc | apply pw_below_drewN | apply below_drew1 | refine below_set ?_ GE257.out) | exact HB.out)) hb); clear BK257; clear HB; have BK257 := n0_; have HB := n1_; clear n0_ n1_; (try clear hb); (try clear hb2); (try clear hk); (try clear hi)) | (go_at_call 61; (with_reducible refine (impl_isLineState.calls a1 true _ A8.out).mono ?_); rintro e w' ⟨rfl,⟨nd,rfl⟩⟩) | (go_at_call 43; (with_reducible refine (impl_IsBits.calls a2 false _ A10.out).mono ?_); rintro e w19 ⟨rfl,hb⟩; have n0_ := Aside0.mk (blk_below (g := gb257) (o := .cells #[.int .i64 a0_0,.int .i64 a0_1,.slice A0_2 l0_2.length c0_2,.slice A0_3 l0_3.length c0_3] 30 (0,0)) (by (with_reducible repeat (first | refine blk_drewN ?_ _ | refine blk_drew ?_ | refine blk_alloc ?_ _)); exact BK257.out) hb); have n1_ := Aside0.mk (below_step (by repeat (first | (with_reducible first | exact HB.out | apply below_alloc | apply pw_below_drewN | apply below_drew1 | refine below_set ?_ GE257.out) | exact HB.out)) hb); clear BK257; clear HB; have BK257 := n0_; have HB := n1_; clear n0_ n1_; (try clear hb); (try clear hb2); (try clear hk); (try clear hi)))
     go_meet
     case rel => exact ⟨_,(true),(by first | rfl | (simp; done) | (simp [*]; done)),H',⟨by first | omega | exact Nat.le_refl _⟩,⟨by (with_reducible repeat (first | refine blk_drewN ?_ _ | refine blk_drew ?_ | refine blk_alloc ?_ _)); exact BK257.out⟩,⟨by repeat (first | (with_reducible first | exact HB.out | apply below_alloc | apply pw_below_drewN | apply below_drew1 | refine below_set ?_ GE257.out) | exact HB.out)⟩⟩
   ·replace c9 := Bool.eq_false_iff.mpr c9
    subst c9
    have H1 : (impl_DecodeBlocks.j0 k a1 a2 true a0_0 a0_1 l0_2 l0_3) = some (r1,r2,r3,r4) := by rw [if_neg (show ¬ (false = true) by decide)] at H; exact H
    clear H
    have H := H1
    clear H1
    have H' := Aside0.mk H
    clear H
    have hcz20_0 : w5.cell? ⟨gb257,0,none⟩ = some (.int .i64 a0_0) := (blk_cell BK257.out 0).trans rfl
    have hcz20_1 : w5.cell? ⟨gb257,1,none⟩ = some (.int .i64 a0_1) := (blk_cell BK257.out 1).trans rfl
    have hcz20_2 : w5.cell? ⟨gb257,2,none⟩ = some (.slice A0_2 l0_2.length c0_2) := (blk_cell BK257.out 2).trans rfl
    have hcz20_3 : w5.cell? ⟨gb257,3,none⟩ = some (.slice A0_3 l0_3.length c0_3) := (blk_cell BK257.out 3).trans rfl
    have hfz20_0 := blk_frozen BK257.out 0
    have hfz20_1 := blk_frozen BK257.out 1
    have hfz20_2 := blk_frozen BK257.out 2
    have hfz20_3 := blk_frozen BK257.out 3
    go_wp2_with (first | ((with_reducible refine gate_callee (f := 17) rfl ?_); refine goesL_ (some 18) rfl rfl Tryd.func17 (by kernel_rfl) rfl #[.agg #[.int .i64 a0_0,.int .i64 a0_1,.slice A0_2 l0_2.length c0_2,.slice A0_3 l0_3.length c0_3]] rfl (by (try simp only [List.map_toArray,List.map_cons,List.map_nil]); first | done | rfl | (simp only [List.length_drop,List.length_take]; rfl)) ?_; (with_reducible refine (impl_ValidBlockCode.calls k a0_0 a0_1 _ _ l0_2 _ _ l0_3 true _ ?side1 ?side2 ?side3 ?side4 A6.out).mono ?_); (case side1 => repeat (first | exact (Kd.C_below HR0_2.out HB.out) | (with_reducible refine Kd.C_alloc ?_ _) | (with_reducible refine Kd.C_drewN ?_ _) | (with_reducible refine Kd.C_drew ?_))); (case side2 => exact HC0_2.out); (case side3 => repeat (first | exact (Kd.C_below HR0_3.out HB.out) | (with_reducible refine Kd.C_alloc ?_ _) | (with_reducible refine Kd.C_drewN ?_ _) | (with_reducible refine Kd.C_drew ?_))); (case side4 => exact HC0_3.out); rintro e w21 ⟨rfl,hb⟩; refine ⟨_,rfl,?_⟩; have n0_ := Aside0.mk (blk_below (g := gb257) (o := .cells #[.int .i64 a0_0,.int .i64 a0_1,.slice A0_2 l0_2.length c0_2,.slice A0_3 l0_3.length c0_3] 30 (0,0)) (by (with_reducible repeat (first | refine blk_drewN ?_ _ | refine blk_drew ?_ | refine blk_alloc ?_ _)); exact BK257.out) hb); have n1_ := Aside0.mk (below_step (by repeat (first | (with_reducible first | exact HB.out | apply below_alloc | apply pw_below_drewN | apply below_drew1 | refine below_set ?_ GE257.out) | exact HB.out)) hb); clear BK257; clear HB; have BK257 := n0_; have HB := n1_; clear n0_ n1_; (try clear hb); (try clear hb2); (try clear hk); (try clear hi)) | (go_at_call 61; (with_reducible refine (impl_isLineState.calls a1 false _ A8.out).mono ?_); rintro e w' ⟨rfl,⟨nd,rfl⟩⟩))
    go_meet
    case rel => exact ⟨_,(true),(by first | rfl | (simp; done) | (simp [*]; done)),H',⟨by first | omega | exact Nat.le_refl _⟩,⟨by (with_reducible repeat (first | refine blk_drewN ?_ _ | refine blk_drew ?_ | refine blk_alloc ?_ _)); exact BK257.out⟩,⟨by repeat (first | (with_reducible first | exact HB.out | apply below_alloc | apply pw_below_drewN | apply below_drew1 | refine below_set ?_ GE257.out) | exact HB.out)⟩⟩
  ·replace c7 := Bool.eq_false_iff.mpr c7
   subst c7
   have H1 : (impl_DecodeBlocks.j0 k a1 a2 true a0_0 a0_1 l0_2 l0_3) = some (r1,r2,r3,r4) := by rw [if_neg (show ¬ (false = true) by decide)] at H; exact H
   clear H
   have H := H1
   clear H1
   have H' := Aside0.mk H
   clear H
   have hcz22_0 : w5.cell? ⟨gb257,0,none⟩ = some (.int .i64 a0_0) := (blk_cell BK257.out 0).trans rfl
   have hcz22_1 : w5.cell? ⟨gb257,1,none⟩ = some (.int .i64 a0_1) := (blk_cell BK257.out 1).trans rfl
   have hcz22_2 : w5.cell? ⟨gb257,2,none⟩ = some (.slice A0_2 l0_2.length c0_2) := (blk_cell BK257.out 2).trans rfl
   have hcz22_3 : w5.cell? ⟨gb257,3,none⟩ = some (.slice A0_3 l0_3.length c0_3) := (blk_cell BK257.out 3).trans rfl
   have hfz22_0 := blk_frozen BK257.out 0
   have hfz22_1 := blk_frozen BK257.out 1
   have hfz22_2 := blk_frozen BK257.out 2
   have hfz22_3 := blk_frozen BK257.out 3
   go_wp2_with (first | ((with_reducible refine gate_callee (f := 17) rfl ?_); refine goesL_ (some 18) rfl rfl Tryd.func17 (by kernel_rfl) rfl #[.agg #[.int .i64 a0_0,.int .i64 a0_1,.slice A0_2 l0_2.length c0_2,.slice A0_3 l0_3.length c0_3]] rfl (by (try simp only [List.map_toArray,List.map_cons,List.map_nil]); first | done | rfl | (simp only [List.length_drop,List.length_take]; rfl)) ?_; (with_reducible refine (impl_ValidBlockCode.calls k a0_0 a0_1 _ _ l0_2 _ _ l0_3 false _ ?side1 ?side2 ?side3 ?side4 A6.out).mono ?_); (case side1 => repeat (first | exact (Kd.C_below HR0_2.out HB.out) | (with_reducible refine Kd.C_alloc ?_ _) | (with_reducible refine Kd.C_drewN ?_ _) | (with_reducible refine Kd.C_drew ?_))); (case side2 => exact HC0_2.out); (case side3 => repeat (first | exact (Kd.C_below HR0_3.out HB.out) | (with_reducible refine Kd.C_alloc ?_ _) | (with_reducible refine Kd.C_drewN ?_ _) | (with_reducible refine Kd.C_drew ?_))); (case side4 => exact HC0_3.out); rintro e w23 ⟨rfl,hb⟩; refine ⟨_,rfl,?_⟩; have n0_ := Aside0.mk (blk_below (g := gb257) (o := .cells #[.int .i64 a0_0,.int .i64 a0_1,.slice A0_2 l0_2.length c0_2,.slice A0_3 l0_3.length c0_3] 30 (0,0)) (by (with_reducible repeat (first | refine blk_drewN ?_ _ | refine blk_drew ?_ | refine blk_alloc ?_ _)); exact BK257.out) hb); have n1_ := Aside0.mk (below_step (by repeat (first | (with_reducible first | exact HB.out | apply below_alloc | apply pw_below_drewN | apply below_drew1 | refine below_set ?_ GE257.out) | exact HB.out)) hb); clear BK257; clear HB; have BK257 := n0_; have HB := n1_; clear n0_ n1_; (try clear hb); (try clear hb2); (try clear hk); (try clear hi)))
   go_meet
   case rel => exact ⟨_,(true),(by first | rfl | (simp; done) | (simp [*]; done)),H',⟨by first | omega | exact Nat.le_refl _⟩,⟨by (with_reducible repeat (first | refine blk_drewN ?_ _ | refine blk_drew ?_ | refine blk_alloc ?_ _)); exact BK257.out⟩,⟨by repeat (first | (with_reducible first | exact HB.out | apply below_alloc | apply pw_below_drewN | apply below_drew1 | refine below_set ?_ GE257.out) | exact HB.out)⟩⟩
 case rest =>
  clear HC4
  try clear c1
  try clear c2
  try clear p2
  try clear c7
  try clear c9
  try clear c11
  try clear c12
  try clear c12b0
  try clear c12b1
  try clear c17
  try clear hcz13_0
  try clear hcz13_1
  try clear hcz13_2
  try clear hcz13_3
  try clear hcz16_0
  try clear hcz16_1
  try clear hcz16_2
  try clear hcz16_3
  try clear hcz17_0
  try clear hcz17_1
  try clear hcz17_2
  try clear hcz17_3
  try clear hcz20_0
  try clear hcz20_1
  try clear hcz20_2
  try clear hcz20_3
  try clear hcz22_0
  try clear hcz22_1
  try clear hcz22_2
  try clear hcz22_3
  try clear hfz13_0
  try clear hfz13_1
  try clear hfz13_2
  try clear hfz13_3
  try clear hfz16_0
  try clear hfz16_1
  try clear hfz16_2
  try clear hfz16_3
  try clear hfz17_0
  try clear hfz17_1
  try clear hfz17_2
  try clear hfz17_3
  try clear hfz20_0
  try clear hfz20_1
  try clear hfz20_2
  try clear hfz20_3
  try clear hfz22_0
  try clear hfz22_1
  try clear hfz22_2
  try clear hfz22_3
  obtain ⟨kq,x37_3,rfl,HA,HJ3,BK257,HB⟩ := hcut
  cases kq with
  | zero => exact absurd HA.out (by simp [impl_DecodeBlocks.j0])
  | succ kj3 =>
   have H := HA.out
   clear HA
   simp only [impl_DecodeBlocks.j0] at H
   by_cases c24 : x37_3 = true
   ·subst c24
    have H1 : (some (([] : List Int),([] : List Int),0,false)) = some (r1,r2,r3,r4) := by rw [if_pos rfl] at H; exact H
    clear H
    have H := H1
    clear H1
    simp only [Option.some.injEq,Prod.mk.injEq] at H
    obtain ⟨rfl,rfl,rfl,rfl⟩ := H
    go_wp2
    refine bodyPost_ret (results_list (rs := [.tmp 6,.tmp 7,.tmp 8,.tmp 9]) rfl (by simp) (.tmp (.tmp (.tmp (.tmp .nil))))) rfl ?_
    exact ⟨_,_,by first | rfl | (simp [errW_none,errW_some] <;> rfl) | (simp [*,errW_none,errW_some] <;> rfl),by first | exact Kd.R_nil _ _ _ _ _ | exact Kd.N_nil _ _ _ _ _ | exact Kd.V_nil _ _ _ _ _ | exact Kd.Q_nil _ _ _ _ _ | exact Kd.S_nil _ _ _ _ _,by first | exact Kd.R_nil _ _ _ _ _ | exact Kd.N_nil _ _ _ _ _ | exact Kd.V_nil _ _ _ _ _ | exact Kd.Q_nil _ _ _ _ _ | exact Kd.S_nil _ _ _ _ _,by repeat (first | (with_reducible first | exact HB.out | apply below_alloc | apply pw_below_drewN | apply below_drew1 | refine below_set ?_ GE257.out) | exact HB.out)⟩
   ·replace c24 := Bool.eq_false_iff.mpr c24
    subst c24
    have H1 : (impl_DecodeBlocks.l0 kj3 a2 (([] : List Int)) (([] : List Int)) a1 a0_0 a0_1 l0_2 l0_3) = some (r1,r2,r3,r4) := by rw [if_neg (show ¬ (false = true) by decide)] at H; exact H
    clear H
    have H := H1
    clear H1
    obtain ⟨y261,hy261⟩ : ∃ y_ : List Int,y_ = (([] : List Int)) := ⟨_,rfl⟩
    replace H : (impl_DecodeBlocks.l0 kj3 a2 y261 (([] : List Int)) a1 a0_0 a0_1 l0_2 l0_3) = some (r1,r2,r3,r4) := by first | (rw [hy261]; with_reducible exact H) | (have H2_ := (Option.bind_some _ _).symm.trans H; rw [hy261]; with_reducible exact H2_) | (have H2_ := (Option.bind_some _ _).symm.trans H; with_reducible exact H2_) | with_reducible exact H | (rw [hy261]; exact H) | exact H
    have Ny261 := Aside0.mk hy261
    clear hy261
    obtain ⟨y264,hy264⟩ : ∃ y_ : List Int,y_ = (([] : List Int)) := ⟨_,rfl⟩
    replace H : (impl_DecodeBlocks.l0 kj3 a2 y261 y264 a1 a0_0 a0_1 l0_2 l0_3) = some (r1,r2,r3,r4) := by first | (rw [hy264]; with_reducible exact H) | (have H2_ := (Option.bind_some _ _).symm.trans H; rw [hy264]; with_reducible exact H2_) | (have H2_ := (Option.bind_some _ _).symm.trans H; with_reducible exact H2_) | with_reducible exact H | (rw [hy264]; exact H) | exact H
    have Ny264 := Aside0.mk hy264
    clear hy264
    have H' := Aside0.mk H
    clear H
    go_wp2_with (first | ((with_reducible refine gate_dst (N := 38) rfl ?_); (try (refine gate_guard (by rfl) ?_; dsimp only)); refine Kd.R_lit (Kd.int .i64) _ 2 ?hg (N := 38) ?hd (xs := ([] : List Int)) (inner := []) (ok := fun _ => True) (okp := fun _ => True) ?hr ?hp (fun _ hk => hk) trivial (Below.refl _ _) (Nat.le_refl _) (by simp) ?_; (case hd => rfl); (case hg => rfl); (case hr => first | (go_simp; done) | (go_simp; rfl)); (case hp => exact (Reps.none _ _)); intro v262 w25 ho26 hb hg_ hnew_; clear hg_ hnew_; (first | rw [← Ny261.out] at ho26 | (simp only [Int.reduceToNat] at ho26; rw [← Ny261.out] at ho26)); have n0_ := Aside0.mk (Kd.R_lower ho26 (below_size (by repeat (first | (with_reducible first | exact HB.out | apply below_alloc | apply pw_below_drewN | apply below_drew1 | refine below_set ?_ GE257.out) | exact HB.out)))); have n1_ := Aside0.mk (blk_below (g := gb257) (o := .cells #[.int .i64 a0_0,.int .i64 a0_1,.slice A0_2 l0_2.length c0_2,.slice A0_3 l0_3.length c0_3] 30 (0,0)) (by (with_reducible repeat (first | refine blk_drewN ?_ _ | refine blk_drew ?_ | refine blk_alloc ?_ _)); exact BK257.out) hb); have n2_ := Aside0.mk (below_step (by repeat (first | (with_reducible first | exact HB.out | apply below_alloc | apply pw_below_drewN | apply below_drew1 | refine below_set ?_ GE257.out) | exact HB.out)) hb); clear BK257; clear HB; have HO263 := n0_; have BK257 := n1_; have HB := n2_; clear n0_ n1_ n2_; clear hb ho26) | ((with_reducible refine gate_dst (N := 39) rfl ?_); (try (refine gate_guard (by rfl) ?_; dsimp only)); refine Kd.R_lit (Kd.int .i64) _ 2 ?hg (N := 39) ?hd (xs := ([] : List Int)) (inner := []) (ok := fun _ => True) (okp := fun _ => True) ?hr ?hp (fun _ hk => hk) trivial (Below.refl _ _) (Nat.le_refl _) (by simp) ?_; (case hd => rfl); (case hg => rfl); (case hr => first | (go_simp; done) | (go_simp; rfl)); (case hp => exact (Reps.none _ _)); intro v265 w27 ho28 hb hg_ hnew_; clear hg_ hnew_; (first | rw [← Ny264.out] at ho28 | (simp only [Int.reduceToNat] at ho28; rw [← Ny264.out] at ho28)); have n0_ := Aside0.mk (Kd.R_elder' (by (with_reducible repeat (first | apply Kd.R_alloc | apply Kd.R_drewN | apply Kd.R_drew)); exact HO263.out) (Kd.R_base ho28) hb); have n1_ := Aside0.mk (Kd.R_lower (Kd.R_new' ho28 (Kd.R_lt (by (with_reducible repeat (first | apply Kd.R_alloc | apply Kd.R_drewN | apply Kd.R_drew)); exact HO263.out))) (below_size (by repeat (first | (with_reducible first | exact HB.out | apply below_alloc | apply pw_below_drewN | apply below_drew1 | refine below_set ?_ GE257.out) | exact HB.out)))); have n2_ := Aside0.mk (blk_below (g := gb257) (o := .cells #[.int .i64 a0_0,.int .i64 a0_1,.slice A0_2 l0_2.length c0_2,.slice A0_3 l0_3.length c0_3] 30 (0,0)) (by (with_reducible repeat (first | refine blk_drewN ?_ _ | refine blk_drew ?_ | refine blk_alloc ?_ _)); exact BK257.out) hb); have n3_ := Aside0.mk (below_step (by repeat (first | (with_reducible first | exact HB.out | apply below_alloc | apply pw_below_drewN | apply below_drew1 | refine below_set ?_ GE257.out) | exact HB.out)) hb); clear HO263; clear BK257; clear HB; have HO263 := n0_; have HO266 := n1_; have BK257 := n2_; have HB := n3_; clear n0_ n1_ n2_ n3_; clear hb ho28))
    go_loopg [2,10,11,12] kj3 (fun kq v2 v10 v11 v12 w' => ∃ (x2_2 : ByteArray) (x10_2 : List Int) (x11_2 : List Int) (x12_2 : Int),v2 = .string x2_2 ∧ v12 = .int .i64 x12_2 ∧ Aside0 (impl_DecodeBlocks.l0 kq x2_2 x10_2 x11_2 x12_2 a0_0 a0_1 l0_2 l0_3 = some (r1,r2,r3,r4)) ∧ Aside0 (kq ≤ kj3) ∧ Aside0 (Kd.R (Kd.int .i64) 2 w' w.heap.size (fun k_ => some k_ ≠ (v11 : Value).ownBlock) v10 x10_2) ∧ Aside0 (Kd.R (Kd.int .i64) 2 w' w.heap.size (fun k_ => some k_ ≠ (v10 : Value).ownBlock) v11 x11_2) ∧ Aside0 (w'.heap[gb257]? = some (.cells #[.int .i64 a0_0,.int .i64 a0_1,(.slice A0_2 l0_2.length c0_2),(.slice A0_3 l0_3.length c0_3)] 30 (0,0))) ∧ Aside0 (Below w.heap.size w w'))
    case atStart => exact ⟨(a2),(y261),(y264),(a1),(by first | rfl | (simp; done) | (simp [*]; done)),(by first | rfl | (simp; done) | (simp [*]; done)),H',⟨Nat.le_refl _⟩,⟨by (with_reducible repeat (first | apply Kd.R_alloc | apply Kd.R_drewN | apply Kd.R_drew)); exact Kd.R_mono HO263.out (fun _ hk => hk.2)⟩,⟨by (with_reducible repeat (first | apply Kd.R_alloc | apply Kd.R_drewN | apply Kd.R_drew)); exact Kd.R_mono HO266.out (fun _ hk => hk.2)⟩,⟨by (with_reducible repeat (first | refine blk_drewN ?_ _ | refine blk_drew ?_ | refine blk_alloc ?_ _)); exact BK257.out⟩,⟨by repeat (first | (with_reducible first | exact HB.out | apply below_alloc | apply pw_below_drewN | apply below_drew1 | refine below_set ?_ GE257.out) | exact HB.out)⟩⟩
    case round =>
     clear H'
     try clear c1
     try clear c2
     try clear p2
     try clear c7
     try clear c9
     try clear c11
     try clear c12
     try clear c12b0
     try clear c12b1
     try clear c17
     try clear c24
     try clear c28
     try clear hcz13_0
     try clear hcz13_1
     try clear hcz13_2
     try clear hcz13_3
     try clear hcz16_0
     try clear hcz16_1
     try clear hcz16_2
     try clear hcz16_3
     try clear hcz17_0
     try clear hcz17_1
     try clear hcz17_2
     try clear hcz17_3
     try clear hcz20_0
     try clear hcz20_1
     try clear hcz20_2
     try clear hcz20_3
     try clear hcz22_0
     try clear hcz22_1
     try clear hcz22_2
     try clear hcz22_3
     try clear hfz13_0
     try clear hfz13_1
     try clear hfz13_2
     try clear hfz13_3
     try clear hfz16_0
     try clear hfz16_1
     try clear hfz16_2
     try clear hfz16_3
     try clear hfz17_0
     try clear hfz17_1
     try clear hfz17_2
     try clear hfz17_3
     try clear hfz20_0
     try clear hfz20_1
     try clear hfz20_2
     try clear hfz20_3
     try clear hfz22_0
     try clear hfz22_1
     try clear hfz22_2
     try clear hfz22_3
     try clear p2
     obtain ⟨x2_2,x10_2,x11_2,x12_2,rfl,rfl,HA,HK2,HO_10,HO_11,BK257,HB⟩ := hrel
     cases gk with
     | zero => exact absurd HA.out (by simp [impl_DecodeBlocks.l0])
     | succ k2 =>
      have H := HA.out
      clear HA
      simp only [impl_DecodeBlocks.l0] at H
      by_cases c29 : (x2_2.size : Int) > 0
      ·rw [if_pos c29] at H
       have c29b0 : decide (0 < (x2_2.size : Int)) = true := decide_eq_true c29
       have c29b1 : decide (0 < x2_2.size) = true := decide_eq_true (by omega)
       clear c29
       by_cases c30 : 0 ≤ a0_1
       ·rw [if_pos c30] at H
        have c30b0 := eq_true c30
        have c30b1 : decide (0 ≤ a0_1) = true := decide_eq_true c30
        clear c30
        by_cases c31 : a0_1 ≤ (x2_2.size : Int)
        ·rw [if_pos c31] at H
         have c31b0 := eq_true c31
         have c31b1 : decide (a0_1 ≤ (x2_2.size : Int)) = true := decide_eq_true c31
         clear c31
         have c32b0 := eq_true (of_decide_eq_true (by first | (with_reducible assumption) | assumption) : 0 ≤ a0_1)
         have c33b0 := eq_true (of_decide_eq_true (by first | (with_reducible assumption) | assumption) : a0_1 ≤ (x2_2.size : Int))
         by_cases c34 : x12_2 < 0
         ·rw [if_pos c34] at H
          have c34b0 : decide (x12_2 < 0) = true := decide_eq_true c34
          clear c34
          replace H := Option.bind_eq_some_iff.mp H
          obtain ⟨_,A350,H⟩ := H
          replace H : ((slices_Index_string_string.f k2 l0_2 (x2_2.extract 0 (a0_1 : Int).toNat)).bind fun t267 => (if t267 < 0 then (if x11_2.length < 17592186044416 then ((slices_Index_string_string.f k2 l0_3 (x2_2.extract 0 (a0_1 : Int).toNat)).bind fun t271 => (if x10_2.length < 17592186044416 then ((impl_stateBehind.f x12_2 (x2_2.extract 0 (a0_1 : Int).toNat)).bind fun t275 => (impl_DecodeBlocks.l0 k2 (x2_2.extract (a0_1 : Int).toNat x2_2.size) (x10_2 ++ [t271]) (x11_2 ++ [(x10_2.length : Int)]) t275 a0_0 a0_1 l0_2 l0_3)) else (none))) else (none)) else (if x10_2.length < 17592186044416 then ((impl_stateBehind.f x12_2 (x2_2.extract 0 (a0_1 : Int).toNat)).bind fun t279 => (impl_DecodeBlocks.l0 k2 (x2_2.extract (a0_1 : Int).toNat x2_2.size) (x10_2 ++ [t267]) x11_2 t279 a0_0 a0_1 l0_2 l0_3)) else (none)))) = some (r1,r2,r3,r4) := H
          have A35 := Aside0.mk A350
          clear A350
          replace H := Option.bind_eq_some_iff.mp H
          obtain ⟨t267,A360,H⟩ := H
          replace H : (if t267 < 0 then (if x11_2.length < 17592186044416 then ((slices_Index_string_string.f k2 l0_3 (x2_2.extract 0 (a0_1 : Int).toNat)).bind fun t271 => (if x10_2.length < 17592186044416 then ((impl_stateBehind.f x12_2 (x2_2.extract 0 (a0_1 : Int).toNat)).bind fun t275 => (impl_DecodeBlocks.l0 k2 (x2_2.extract (a0_1 : Int).toNat x2_2.size) (x10_2 ++ [t271]) (x11_2 ++ [(x10_2.length : Int)]) t275 a0_0 a0_1 l0_2 l0_3)) else (none))) else (none)) else (if x10_2.length < 17592186044416 then ((impl_stateBehind.f x12_2 (x2_2.extract 0 (a0_1 : Int).toNat)).bind fun t279 => (impl_DecodeBlocks.l0 k2 (x2_2.extract (a0_1 : Int).toNat x2_2.size) (x10_2 ++ [t267]) x11_2 t279 a0_0 a0_1 l0_2 l0_3)) else (none))) = some (r1,r2,r3,r4) := H
          have A36 := Aside0.mk A360
          clear A360
          by_cases c37 : t267 < 0
          ·rw [if_pos c37] at H
           have c37b0 : decide (t267 < 0) = true := decide_eq_true c37
           clear c37
           by_cases c38 : x11_2.length < 17592186044416
           ·rw [if_pos c38] at H
            have LMc38 := Aside0.mk c38
            clear c38
            obtain ⟨y268,hy268⟩ : ∃ y_ : List Int,y_ = (x11_2 ++ [(x10_2.length : Int)]) := ⟨_,rfl⟩
            replace H : ((slices_Index_string_string.f k2 l0_3 (x2_2.extract 0 (a0_1 : Int).toNat)).bind fun t271 => (if x10_2.length < 17592186044416 then ((impl_stateBehind.f x12_2 (x2_2.extract 0 (a0_1 : Int).toNat)).bind fun t275 => (impl_DecodeBlocks.l0 k2 (x2_2.extract (a0_1 : Int).toNat x2_2.size) (x10_2 ++ [t271]) y268 t275 a0_0 a0_1 l0_2 l0_3)) else (none))) = some (r1,r2,r3,r4) := by first | (rw [hy268]; with_reducible exact H) | (have H2_ := (Option.bind_some _ _).symm.trans H; rw [hy268]; with_reducible exact H2_) | (have H2_ := (Option.bind_some _ _).symm.trans H; with_reducible exact H2_) | with_reducible exact H | (rw [hy268]; exact H) | exact H
            have Ny268 := Aside0.mk hy268
            clear hy268
            replace H := Option.bind_eq_some_iff.mp H
            obtain ⟨t271,A390,H⟩ := H
            replace H : (if x10_2.length < 17592186044416 then ((impl_stateBehind.f x12_2 (x2_2.extract 0 (a0_1 : Int).toNat)).bind fun t275 => (impl_DecodeBlocks.l0 k2 (x2_2.extract (a0_1 : Int).toNat x2_2.size) (x10_2 ++ [t271]) y268 t275 a0_0 a0_1 l0_2 l0_3)) else (none)) = some (r1,r2,r3,r4) := H
            have A39 := Aside0.mk A390
            clear A390
            by_cases c40 : x10_2.length < 17592186044416
            ·rw [if_pos c40] at H
             have LMc40 := Aside0.mk c40
             clear c40
             obtain ⟨y272,hy272⟩ : ∃ y_ : List Int,y_ = (x10_2 ++ [t271]) := ⟨_,rfl⟩
             replace H : ((impl_stateBehind.f x12_2 (x2_2.extract 0 (a0_1 : Int).toNat)).bind fun t275 => (impl_DecodeBlocks.l0 k2 (x2_2.extract (a0_1 : Int).toNat x2_2.size) y272 y268 t275 a0_0 a0_1 l0_2 l0_3)) = some (r1,r2,r3,r4) := by first | (rw [hy272]; with_reducible exact H) | (have H2_ := (Option.bind_some _ _).symm.trans H; rw [hy272]; with_reducible exact H2_) | (have H2_ := (Option.bind_some _ _).symm.trans H; with_reducible exact H2_) | with_reducible exact H | (rw [hy272]; exact H) | exact H
             have Ny272 := Aside0.mk hy272
             clear hy272
             replace H := Option.bind_eq_some_iff.mp H
             obtain ⟨t275,A410,H⟩ := H
             replace H : (impl_DecodeBlocks.l0 k2 (x2_2.extract (a0_1 : Int).toNat x2_2.size) y272 y268 t275 a0_0 a0_1 l0_2 l0_3) = some (r1,r2,r3,r4) := H
             have A41 := Aside0.mk A410
             clear A410
             have H' := Aside0.mk H
             clear H
             have hcz42_0 : wr.cell? ⟨gb257,0,none⟩ = some (.int .i64 a0_0) := (blk_cell BK257.out 0).trans rfl
             have hcz42_1 : wr.cell? ⟨gb257,1,none⟩ = some (.int .i64 a0_1) := (blk_cell BK257.out 1).trans rfl
             have hcz42_2 : wr.cell? ⟨gb257,2,none⟩ = some (.slice A0_2 l0_2.length c0_2) := (blk_cell BK257.out 2).trans rfl
             have hcz42_3 : wr.cell? ⟨gb257,3,none⟩ = some (.slice A0_3 l0_3.length c0_3) := (blk_cell BK257.out 3).trans rfl
             have hfz42_0 := blk_frozen BK257.out 0
             have hfz42_1 := blk_frozen BK257.out 1
             have hfz42_2 := blk_frozen BK257.out 2
             have hfz42_3 := blk_frozen BK257.out 3
             go_wp2_with (first | ((with_reducible refine gate_callee (f := 55) rfl ?_); refine goesL_ (some 55) rfl rfl Tryd.func55 (by kernel_rfl) rfl #[.agg #[.int .i64 a0_0,.int .i64 a0_1,.slice A0_2 l0_2.length c0_2,.slice A0_3 l0_3.length c0_3],.int .i64 x12_2] rfl (by (try simp only [List.map_toArray,List.map_cons,List.map_nil]); first | done | rfl | (simp only [List.length_drop,List.length_take]; rfl)) ?_; (with_reducible refine (impl_BlockCode_words_neg.calls a0_0 a0_1 _ _ l0_2 _ _ l0_3 x12_2  _ ?side1 ?side2 ?side3 ?side4 A35.out).mono ?_); (case side1 => repeat (first | exact (Kd.C_below HR0_2.out HB.out) | (with_reducible refine Kd.C_alloc ?_ _) | (with_reducible refine Kd.C_drewN ?_ _) | (with_reducible refine Kd.C_drew ?_))); (case side2 => exact HC0_2.out); (case side3 => repeat (first | exact (Kd.C_below HR0_3.out HB.out) | (with_reducible refine Kd.C_alloc ?_ _) | (with_reducible refine Kd.C_drewN ?_ _) | (with_reducible refine Kd.C_drew ?_))); (case side4 => exact HC0_3.out); rintro e w43 ⟨rfl,hb⟩; refine ⟨_,rfl,?_⟩; have n0_ := Aside0.mk (Kd.R_below (by (with_reducible repeat (first | apply Kd.R_alloc | apply Kd.R_drewN | apply Kd.R_drew)); exact HO_10.out) hb); have n1_ := Aside0.mk (Kd.R_below (by (with_reducible repeat (first | apply Kd.R_alloc | apply Kd.R_drewN | apply Kd.R_drew)); exact HO_11.out) hb); have n2_ := Aside0.mk (blk_below (g := gb257) (o := .cells #[.int .i64 a0_0,.int .i64 a0_1,.slice A0_2 l0_2.length c0_2,.slice A0_3 l0_3.length c0_3] 30 (0,0)) (by (with_reducible repeat (first | refine blk_drewN ?_ _ | refine blk_drew ?_ | refine blk_alloc ?_ _)); exact BK257.out) hb); have n3_ := Aside0.mk (below_step (by repeat (first | (with_reducible first | exact HB.out | apply below_alloc | apply pw_below_drewN | apply below_drew1 | refine below_set ?_ GE257.out) | exact HB.out)) hb); clear HO_10; clear HO_11; clear BK257; clear HB; have HO_10 := n0_; have HO_11 := n1_; have BK257 := n2_; have HB := n3_; clear n0_ n1_ n2_ n3_; (try clear hb); (try clear hb2); (try clear hk); (try clear hi)) | ((with_reducible refine gate_callee (f := 51) rfl ?_); refine goesL_ (some 60) rfl rfl Tryd.func51 (by kernel_rfl) rfl #[.slice A0_2 l0_2.length c0_2,.string (x2_2.extract 0 (a0_1 : Int).toNat)] rfl (by (try simp only [List.map_toArray,List.map_cons,List.map_nil]); first | done | rfl | (simp only [List.length_drop,List.length_take]; rfl)) ?_; (with_reducible refine (slices_Index_string_string.calls k2 _ _ l0_2 (x2_2.extract 0 (a0_1 : Int).toNat) t267 _ ?side1 ?side2 A36.out).mono ?_); (case side1 => repeat (first | exact (Kd.C_below HR0_2.out HB.out) | (with_reducible refine Kd.C_alloc ?_ _) | (with_reducible refine Kd.C_drewN ?_ _) | (with_reducible refine Kd.C_drew ?_))); (case side2 => exact HC0_2.out); rintro e w' ⟨rfl,⟨nd,rfl⟩⟩; refine ⟨_,rfl,?_⟩; obtain ⟨Ao44,co44,eo44⟩ := Kd.R_slice HO_10.out; subst eo44) | ((with_reducible refine gate_builtin (b := .append) (xs := #[.tmp 63,.tmp 66]) rfl ?_); (try (refine gate_guard (by rfl) ?_; dsimp only)); at_builtin; refine Kd.R_append (Kd.int .i64) (w0 := w) w.heap.size rfl (.tmp 63) (.tmp 66) 38 2 (.int .i64 0) 8 rfl Tryd.underlying38 info2 rfl (by decide) (by omega) u11 x11_2 (x10_2.length : Int) [.int .i64 (x10_2.length : Int)] (fun k_ => some k_ ≠ (.slice Ao44 x10_2.length co44 : Value).ownBlock) (fun _ => False) rfl rfl ?aP (fun _ hk => hk.elim) ?aF ?aO ?aB ?aS ?aL ?_; (case aP => exact rfl); (case aB => exact (by repeat (first | (with_reducible first | exact HB.out | apply below_alloc | apply pw_below_drewN | apply below_drew1 | refine below_set ?_ GE257.out) | exact HB.out))); (case aF => exact (fun k_ hk => Kd.fresh' (Kd.R_lt (by (with_reducible repeat (first | apply Kd.R_alloc | apply Kd.R_drewN | apply Kd.R_drew)); exact HO_10.out)) k_ hk)); (case aO => exact (by (with_reducible repeat (first | apply Kd.R_alloc | apply Kd.R_drewN | apply Kd.R_drew)); exact HO_11.out)); (case aS => exact (below_size (by repeat (first | (with_reducible first | exact HB.out | apply below_alloc | apply pw_below_drewN | apply below_drew1 | refine below_set ?_ GE257.out) | exact HB.out)))); (case aL => have := LMc38.out; omega); intro v269 w45 ho hb hg hat; rw [← Ny268.out] at ho; have n0_ := Aside0.mk (Kd.R_after (ok := (fun _ => True)) (by (with_reducible repeat (first | apply Kd.R_alloc | apply Kd.R_drewN | apply Kd.R_drew)); exact Kd.R_mono HO_10.out (fun _ hk => ⟨trivial,hk⟩)) hg hat); have n1_ := Aside0.mk (blk_grown (g := gb257) (o := .cells #[.int .i64 a0_0,.int .i64 a0_1,.slice A0_2 l0_2.length c0_2,.slice A0_3 l0_3.length c0_3] 30 (0,0)) (by (with_reducible repeat (first | refine blk_drewN ?_ _ | refine blk_drew ?_ | refine blk_alloc ?_ _)); exact BK257.out) hg (Kd.R_ne HO_11.out BK257.out (by decide))); have n2_ := Aside0.mk (hb); have n3_ := Aside0.mk (ho); clear HO_10; clear BK257; clear HB; clear HO_11; have HO_10 := n0_; have BK257 := n1_; have HB := n2_; have HO270 := n3_; clear n0_ n1_ n2_ n3_; clear ho hb hg hat) | ((with_reducible refine gate_callee (f := 51) rfl ?_); refine goesL_ (some 70) rfl rfl Tryd.func51 (by kernel_rfl) rfl #[.slice A0_3 l0_3.length c0_3,.string (x2_2.extract 0 (a0_1 : Int).toNat)] rfl (by (try simp only [List.map_toArray,List.map_cons,List.map_nil]); first | done | rfl | (simp only [List.length_drop,List.length_take]; rfl)) ?_; (with_reducible refine (slices_Index_string_string.calls k2 _ _ l0_3 (x2_2.extract 0 (a0_1 : Int).toNat) t271 _ ?side1 ?side2 A39.out).mono ?_); (case side1 => repeat (first | exact (Kd.C_below HR0_3.out HB.out) | (with_reducible refine Kd.C_alloc ?_ _) | (with_reducible refine Kd.C_drewN ?_ _) | (with_reducible refine Kd.C_drew ?_))); (case side2 => exact HC0_3.out); rintro e w' ⟨rfl,⟨nd,rfl⟩⟩; refine ⟨_,rfl,?_⟩) | ((with_reducible refine gate_builtin (b := .append) (xs := #[.tmp 71,.tmp 73]) rfl ?_); (try (refine gate_guard (by rfl) ?_; dsimp only)); at_builtin; refine Kd.R_append (Kd.int .i64) (w0 := w) w.heap.size rfl (.tmp 71) (.tmp 73) 38 2 (.int .i64 0) 8 rfl Tryd.underlying38 info2 rfl (by decide) (by omega) (.slice Ao44 x10_2.length co44) x10_2 t271 [.int .i64 t271] (fun k_ => some k_ ≠ (v269 : Value).ownBlock) (fun _ => False) rfl rfl ?aP (fun _ hk => hk.elim) ?aF ?aO ?aB ?aS ?aL ?_; (case aP => exact rfl); (case aB => exact (by repeat (first | (with_reducible first | exact HB.out | apply below_alloc | apply pw_below_drewN | apply below_drew1 | refine below_set ?_ GE257.out) | exact HB.out))); (case aF => exact (fun k_ hk => Kd.fresh' (Kd.R_lt (by (with_reducible repeat (first | apply Kd.R_alloc | apply Kd.R_drewN | apply Kd.R_drew)); exact HO270.out)) k_ hk)); (case aO => exact (by (with_reducible repeat (first | apply Kd.R_alloc | apply Kd.R_drewN | apply Kd.R_drew)); exact Kd.R_mono HO_10.out (fun _ hk => hk.2))); (case aS => exact (below_size (by repeat (first | (with_reducible first | exact HB.out | apply below_alloc | apply pw_below_drewN | apply below_drew1 | refine below_set ?_ GE257.out) | exact HB.out)))); (case aL => have := LMc40.out; omega); intro v273 w46 ho hb hg hat; rw [← Ny272.out] at ho; have n0_ := Aside0.mk (blk_grown (g := gb257) (o := .cells #[.int .i64 a0_0,.int .i64 a0_1,.slice A0_2 l0_2.length c0_2,.slice A0_3 l0_3.length c0_3] 30 (0,0)) (by (with_reducible repeat (first | refine blk_drewN ?_ _ | refine blk_drew ?_ | refine blk_alloc ?_ _)); exact BK257.out) hg (Kd.R_ne HO_10.out BK257.out (by decide))); have n1_ := Aside0.mk (Kd.R_after (ok := (fun _ => True)) (by (with_reducible repeat (first | apply Kd.R_alloc | apply Kd.R_drewN | apply Kd.R_drew)); exact Kd.R_mono HO270.out (fun _ hk => ⟨trivial,hk⟩)) hg hat); have n2_ := Aside0.mk (hb); have n3_ := Aside0.mk (ho); clear BK257; clear HO270; clear HB; clear HO_10; have BK257 := n0_; have HO270 := n1_; have HB := n2_; have HO274 := n3_; clear n0_ n1_ n2_ n3_; clear ho hb hg hat) | ((with_reducible refine gate_callee (f := 63) rfl ?_); refine goesL_ (some 77) rfl rfl Tryd.func63 (by kernel_rfl) rfl #[.int .i64 x12_2,.string (x2_2.extract 0 (a0_1 : Int).toNat)] rfl (by (try simp only [List.map_toArray,List.map_cons,List.map_nil]); first | done | rfl | (simp only [List.length_drop,List.length_take]; rfl)) ?_; (with_reducible refine (impl_stateBehind.calls x12_2 (x2_2.extract 0 (a0_1 : Int).toNat) t275 _ A41.out).mono ?_); rintro e w' ⟨rfl,⟨nd,rfl⟩⟩; refine ⟨_,rfl,?_⟩))
             go_roundg k2
             case measure => have := HJ3.out; have := HK2.out; omega
             case rel => exact ⟨(x2_2.extract (a0_1 : Int).toNat x2_2.size),(y272),(y268),(t275),(by first | rfl | (simp; done) | (simp [*]; done)),(by first | rfl | (simp; done) | (simp [*]; done)),H',⟨by have := HJ3.out; have := HK2.out; omega⟩,⟨by (with_reducible repeat (first | apply Kd.R_alloc | apply Kd.R_drewN | apply Kd.R_drew)); exact HO274.out⟩,⟨by (with_reducible repeat (first | apply Kd.R_alloc | apply Kd.R_drewN | apply Kd.R_drew)); exact Kd.R_mono HO270.out (fun _ hk => hk.2)⟩,⟨by (with_reducible repeat (first | refine blk_drewN ?_ _ | refine blk_drew ?_ | refine blk_alloc ?_ _)); exact BK257.out⟩,⟨by repeat (first | (with_reducible first | exact HB.out | apply below_alloc | apply pw_below_drewN | apply below_drew1 | refine below_set ?_ GE257.out) | exact HB.out)⟩⟩
            ·rw [if_neg c40] at H
             exact absurd H (by simp)
           ·rw [if_neg c38] at H
            exact absurd H (by simp)
          ·rw [if_neg c37] at H
           have c37b0 : decide (t267 < 0) = false := decide_eq_false c37
           clear c37
           by_cases c47 : x10_2.length < 17592186044416
           ·rw [if_pos c47] at H
            have LMc47 := Aside0.mk c47
            clear c47
            obtain ⟨y276,hy276⟩ : ∃ y_ : List Int,y_ = (x10_2 ++ [t267]) := ⟨_,rfl⟩
            replace H : ((impl_stateBehind.f x12_2 (x2_2.extract 0 (a0_1 : Int).toNat)).bind fun t279 => (impl_DecodeBlocks.l0 k2 (x2_2.extract (a0_1 : Int).toNat x2_2.size) y276 x11_2 t279 a0_0 a0_1 l0_2 l0_3)) = some (r1,r2,r3,r4) := by first | (rw [hy276]; with_reducible exact H) | (have H2_ := (Option.bind_some _ _).symm.trans H; rw [hy276]; with_reducible exact H2_) | (have H2_ := (Option.bind_some _ _).symm.trans H; with_reducible exact H2_) | with_reducible exact H | (rw [hy276]; exact H) | exact H
            have Ny276 := Aside0.mk hy276
            clear hy276
            replace H := Option.bind_eq_some_iff.mp H
            obtain ⟨t279,A480,H⟩ := H
            replace H : (impl_DecodeBlocks.l0 k2 (x2_2.extract (a0_1 : Int).toNat x2_2.size) y276 x11_2 t279 a0_0 a0_1 l0_2 l0_3) = some (r1,r2,r3,r4) := H
            have A48 := Aside0.mk A480
            clear A480
            have H' := Aside0.mk H
            clear H
            have hcz49_0 : wr.cell? ⟨gb257,0,none⟩ = some (.int .i64 a0_0) := (blk_cell BK257.out 0).trans rfl
            have hcz49_1 : wr.cell? ⟨gb257,1,none⟩ = some (.int .i64 a0_1) := (blk_cell BK257.out 1).trans rfl
            have hcz49_2 : wr.cell? ⟨gb257,2,none⟩ = some (.slice A0_2 l0_2.length c0_2) := (blk_cell BK257.out 2).trans rfl
            have hcz49_3 : wr.cell? ⟨gb257,3,none⟩ = some (.slice A0_3 l0_3.length c0_3) := (blk_cell BK257.out 3).trans rfl
            have hfz49_0 := blk_frozen BK257.out 0
            have hfz49_1 := blk_frozen BK257.out 1
            have hfz49_2 := blk_frozen BK257.out 2
            have hfz49_3 := blk_frozen BK257.out 3
            go_wp2_with (first | ((with_reducible refine gate_callee (f := 55) rfl ?_); refine goesL_ (some 55) rfl rfl Tryd.func55 (by kernel_rfl) rfl #[.agg #[.int .i64 a0_0,.int .i64 a0_1,.slice A0_2 l0_2.length c0_2,.slice A0_3 l0_3.length c0_3],.int .i64 x12_2] rfl (by (try simp only [List.map_toArray,List.map_cons,List.map_nil]); first | done | rfl | (simp only [List.length_drop,List.length_take]; rfl)) ?_; (with_reducible refine (impl_BlockCode_words_neg.calls a0_0 a0_1 _ _ l0_2 _ _ l0_3 x12_2  _ ?side1 ?side2 ?side3 ?side4 A35.out).mono ?_); (case side1 => repeat (first | exact (Kd.C_below HR0_2.out HB.out) | (with_reducible refine Kd.C_alloc ?_ _) | (with_reducible refine Kd.C_drewN ?_ _) | (with_reducible refine Kd.C_drew ?_))); (case side2 => exact HC0_2.out); (case side3 => repeat (first | exact (Kd.C_below HR0_3.out HB.out) | (with_reducible refine Kd.C_alloc ?_ _) | (with_reducible refine Kd.C_drewN ?_ _) | (with_reducible refine Kd.C_drew ?_))); (case side4 => exact HC0_3.out); rintro e w50 ⟨rfl,hb⟩; refine ⟨_,rfl,?_⟩; have n0_ := Aside0.mk (Kd.R_below (by (with_reducible repeat (first | apply Kd.R_alloc | apply Kd.R_drewN | apply Kd.R_drew)); exact HO_10.out) hb); have n1_ := Aside0.mk (Kd.R_below (by (with_reducible repeat (first | apply Kd.R_alloc | apply Kd.R_drewN | apply Kd.R_drew)); exact HO_11.out) hb); have n2_ := Aside0.mk (blk_below (g := gb257) (o := .cells #[.int .i64 a0_0,.int .i64 a0_1,.slice A0_2 l0_2.length c0_2,.slice A0_3 l0_3.length c0_3] 30 (0,0)) (by (with_reducible repeat (first | refine blk_drewN ?_ _ | refine blk_drew ?_ | refine blk_alloc ?_ _)); exact BK257.out) hb); have n3_ := Aside0.mk (below_step (by repeat (first | (with_reducible first | exact HB.out | apply below_alloc | apply pw_below_drewN | apply below_drew1 | refine below_set ?_ GE257.out) | exact HB.out)) hb); clear HO_10; clear HO_11; clear BK257; clear HB; have HO_10 := n0_; have HO_11 := n1_; have BK257 := n2_; have HB := n3_; clear n0_ n1_ n2_ n3_; (try clear hb); (try clear hb2); (try clear hk); (try clear hi)) | ((with_reducible refine gate_callee (f := 51) rfl ?_); refine goesL_ (some 60) rfl rfl Tryd.func51 (by kernel_rfl) rfl #[.slice A0_2 l0_2.length c0_2,.string (x2_2.extract 0 (a0_1 : Int).toNat)] rfl (by (try simp only [List.map_toArray,List.map_cons,List.map_nil]); first | done | rfl | (simp only [List.length_drop,List.length_take]; rfl)) ?_; (with_reducible refine (slices_Index_string_string.calls k2 _ _ l0_2 (x2_2.extract 0 (a0_1 : Int).toNat) t267 _ ?side1 ?side2 A36.out).mono ?_); (case side1 => repeat (first | exact (Kd.C_below HR0_2.out HB.out) | (with_reducible refine Kd.C_alloc ?_ _) | (with_reducible refine Kd.C_drewN ?_ _) | (with_reducible refine Kd.C_drew ?_))); (case side2 => exact HC0_2.out); rintro e w' ⟨rfl,⟨nd,rfl⟩⟩; refine ⟨_,rfl,?_⟩) | ((with_reducible refine gate_builtin (b := .append) (xs := #[.tmp 71,.tmp 73]) rfl ?_); (try (refine gate_guard (by rfl) ?_; dsimp only)); at_builtin; refine Kd.R_append (Kd.int .i64) (w0 := w) w.heap.size rfl (.tmp 71) (.tmp 73) 38 2 (.int .i64 0) 8 rfl Tryd.underlying38 info2 rfl (by decide) (by omega) u10 x10_2 t267 [.int .i64 t267] (fun k_ => some k_ ≠ (u11 : Value).ownBlock) (fun _ => False) rfl rfl ?aP (fun _ hk => hk.elim) ?aF ?aO ?aB ?aS ?aL ?_; (case aP => exact rfl); (case aB => exact (by repeat (first | (with_reducible first | exact HB.out | apply below_alloc | apply pw_below_drewN | apply below_drew1 | refine below_set ?_ GE257.out) | exact HB.out))); (case aF => exact (fun k_ hk => Kd.fresh' (Kd.R_lt (by (with_reducible repeat (first | apply Kd.R_alloc | apply Kd.R_drewN | apply Kd.R_drew)); exact HO_11.out)) k_ hk)); (case aO => exact (by (with_reducible repeat (first | apply Kd.R_alloc | apply Kd.R_drewN | apply Kd.R_drew)); exact HO_10.out)); (case aS => exact (below_size (by repeat (first | (with_reducible first | exact HB.out | apply below_alloc | apply pw_below_drewN | apply below_drew1 | refine below_set ?_ GE257.out) | exact HB.out)))); (case aL => have := LMc47.out; omega); intro v277 w51 ho hb hg hat; rw [← Ny276.out] at ho; have n0_ := Aside0.mk (Kd.R_after (ok := (fun _ => True)) (by (with_reducible repeat (first | apply Kd.R_alloc | apply Kd.R_drewN | apply Kd.R_drew)); exact Kd.R_mono HO_11.out (fun _ hk => ⟨trivial,hk⟩)) hg hat); have n1_ := Aside0.mk (blk_grown (g := gb257) (o := .cells #[.int .i64 a0_0,.int .i64 a0_1,.slice A0_2 l0_2.length c0_2,.slice A0_3 l0_3.length c0_3] 30 (0,0)) (by (with_reducible repeat (first | refine blk_drewN ?_ _ | refine blk_drew ?_ | refine blk_alloc ?_ _)); exact BK257.out) hg (Kd.R_ne HO_10.out BK257.out (by decide))); have n2_ := Aside0.mk (hb); have n3_ := Aside0.mk (ho); clear HO_11; clear BK257; clear HB; clear HO_10; have HO_11 := n0_; have BK257 := n1_; have HB := n2_; have HO278 := n3_; clear n0_ n1_ n2_ n3_; clear ho hb hg hat) | ((with_reducible refine gate_callee (f := 63) rfl ?_); refine goesL_ (some 77) rfl rfl Tryd.func63 (by kernel_rfl) rfl #[.int .i64 x12_2,.string (x2_2.extract 0 (a0_1 : Int).toNat)] rfl (by (try simp only [List.map_toArray,List.map_cons,List.map_nil]); first | done | rfl | (simp only [List.length_drop,List.length_take]; rfl)) ?_; (with_reducible refine (impl_stateBehind.calls x12_2 (x2_2.extract 0 (a0_1 : Int).toNat) t279 _ A48.out).mono ?_); rintro e w' ⟨rfl,⟨nd,rfl⟩⟩; refine ⟨_,rfl,?_⟩))
            go_roundg k2
            case measure => have := HJ3.out; have := HK2.out; omega
            case rel => exact ⟨(x2_2.extract (a0_1 : Int).toNat x2_2.size),(y276),(x11_2),(t279),(by first | rfl | (simp; done) | (simp [*]; done)),(by first | rfl | (simp; done) | (simp [*]; done)),H',⟨by have := HJ3.out; have := HK2.out; omega⟩,⟨by (with_reducible repeat (first | apply Kd.R_alloc | apply Kd.R_drewN | apply Kd.R_drew)); exact HO278.out⟩,⟨by (with_reducible repeat (first | apply Kd.R_alloc | apply Kd.R_drewN | apply Kd.R_drew)); exact Kd.R_mono HO_11.out (fun _ hk => hk.2)⟩,⟨by (with_reducible repeat (first | refine blk_drewN ?_ _ | refine blk_drew ?_ | refine blk_alloc ?_ _)); exact BK257.out⟩,⟨by repeat (first | (with_reducible first | exact HB.out | apply below_alloc | apply pw_below_drewN | apply below_drew1 | refine below_set ?_ GE257.out) | exact HB.out)⟩⟩
           ·rw [if_neg c47] at H
            exact absurd H (by simp)
         ·rw [if_neg c34] at H
          have c34b0 : decide (x12_2 < 0) = false := decide_eq_false c34
          clear c34
          replace H := Option.bind_eq_some_iff.mp H
          obtain ⟨_,A520,H⟩ := H
          replace H : ((slices_Index_string_string.f k2 l0_3 (x2_2.extract 0 (a0_1 : Int).toNat)).bind fun t280 => (if t280 < 0 then (if x11_2.length < 17592186044416 then ((slices_Index_string_string.f k2 l0_2 (x2_2.extract 0 (a0_1 : Int).toNat)).bind fun t284 => (if x10_2.length < 17592186044416 then ((impl_stateBehind.f x12_2 (x2_2.extract 0 (a0_1 : Int).toNat)).bind fun t288 => (impl_DecodeBlocks.l0 k2 (x2_2.extract (a0_1 : Int).toNat x2_2.size) (x10_2 ++ [t284]) (x11_2 ++ [(x10_2.length : Int)]) t288 a0_0 a0_1 l0_2 l0_3)) else (none))) else (none)) else (if x10_2.length < 17592186044416 then ((impl_stateBehind.f x12_2 (x2_2.extract 0 (a0_1 : Int).toNat)).bind fun t292 => (impl_DecodeBlocks.l0 k2 (x2_2.extract (a0_1 : Int).toNat x2_2.size) (x10_2 ++ [t280]) x11_2 t292 a0_0 a0_1 l0_2 l0_3)) else (none)))) = some (r1,r2,r3,r4) := H
          have A52 := Aside0.mk A520
          clear A520
          replace H := Option.bind_eq_some_iff.mp H
          obtain ⟨t280,A530,H⟩ := H
          replace H : (if t280 < 0 then (if x11_2.length < 17592186044416 then ((slices_Index_string_string.f k2 l0_2 (x2_2.extract 0 (a0_1 : Int).toNat)).bind fun t284 => (if x10_2.length < 17592186044416 then ((impl_stateBehind.f x12_2 (x2_2.extract 0 (a0_1 : Int).toNat)).bind fun t288 => (impl_DecodeBlocks.l0 k2 (x2_2.extract (a0_1 : Int).toNat x2_2.size) (x10_2 ++ [t284]) (x11_2 ++ [(x10_2.length : Int)]) t288 a0_0 a0_1 l0_2 l0_3)) else (none))) else (none)) else (if x10_2.length < 17592186044416 then ((impl_stateBehind.f x12_2 (x2_2.extract 0 (a0_1 : Int).toNat)).bind fun t292 => (impl_DecodeBlocks.l0 k2 (x2_2.extract (a0_1 : Int).toNat x2_2.size) (x10_2 ++ [t280]) x11_2 t292 a0_0 a0_1 l0_2 l0_3)) else (none))) = some (r1,r2,r3,r4) := H
          have A53 := Aside0.mk A530
          clear A530
          by_cases c54 : t280 < 0
          ·rw [if_pos c54] at H
           have c54b0 : decide (t280 < 0) = true := decide_eq_true c54
           clear c54
           by_cases c55 : x11_2.length < 17592186044416
           ·rw [if_pos c55] at H
            have LMc55 := Aside0.mk c55
            clear c55
            obtain ⟨y281,hy281⟩ : ∃ y_ : List Int,y_ = (x11_2 ++ [(x10_2.length : Int)]) := ⟨_,rfl⟩
            replace H : ((slices_Index_string_string.f k2 l0_2 (x2_2.extract 0 (a0_1 : Int).toNat)).bind fun t284 => (if x10_2.length < 17592186044416 then ((impl_stateBehind.f x12_2 (x2_2.extract 0 (a0_1 : Int).toNat)).bind fun t288 => (impl_DecodeBlocks.l0 k2 (x2_2.extract (a0_1 : Int).toNat x2_2.size) (x10_2 ++ [t284]) y281 t288 a0_0 a0_1 l0_2 l0_3)) else (none))) = some (r1,r2,r3,r4) := by first | (rw [hy281]; with_reducible exact H) | (have H2_ := (Option.bind_some _ _).symm.trans H; rw [hy281]; with_reducible exact H2_) | (have H2_ := (Option.bind_some _ _).symm.trans H; with_reducible exact H2_) | with_reducible exact H | (rw [hy281]; exact H) | exact H
            have Ny281 := Aside0.mk hy281
            clear hy281
            replace H := Option.bind_eq_some_iff.mp H
            obtain ⟨t284,A560,H⟩ := H
            replace H : (if x10_2.length < 17592186044416 then ((impl_stateBehind.f x12_2 (x2_2.extract 0 (a0_1 : Int).toNat)).bind fun t288 => (impl_DecodeBlocks.l0 k2 (x2_2.extract (a0_1 : Int).toNat x2_2.size) (x10_2 ++ [t284]) y281 t288 a0_0 a0_1 l0_2 l0_3)) else (none)) = some (r1,r2,r3,r4) := H
            have A56 := Aside0.mk A560
            clear A560
            by_cases c57 : x10_2.length < 17592186044416
            ·rw [if_pos c57] at H
             have LMc57 := Aside0.mk c57
             clear c57
             obtain ⟨y285,hy285⟩ : ∃ y_ : List Int,y_ = (x10_2 ++ [t284]) := ⟨_,rfl⟩
             replace H : ((impl_stateBehind.f x12_2 (x2_2.extract 0 (a0_1 : Int).toNat)).bind fun t288 => (impl_DecodeBlocks.l0 k2 (x2_2.extract (a0_1 : Int).toNat x2_2.size) y285 y281 t288 a0_0 a0_1 l0_2 l0_3)) = some (r1,r2,r3,r4) := by first | (rw [hy285]; with_reducible exact H) | (have H2_ := (Option.bind_some _ _).symm.trans H; rw [hy285]; with_reducible exact H2_) | (have H2_ := (Option.bind_some _ _).symm.trans H; with_reducible exact H2_) | with_reducible exact H | (rw [hy285]; exact H) | exact H
             have Ny285 := Aside0.mk hy285
             clear hy285
             replace H := Option.bind_eq_some_iff.mp H
             obtain ⟨t288,A580,H⟩ := H
             replace H : (impl_DecodeBlocks.l0 k2 (x2_2.extract (a0_1 : Int).toNat x2_2.size) y285 y281 t288 a0_0 a0_1 l0_2 l0_3) = some (r1,r2,r3,r4) := H
             have A58 := Aside0.mk A580
             clear A580
             have H' := Aside0.mk H
             clear H
             have hcz59_0 : wr.cell? ⟨gb257,0,none⟩ = some (.int .i64 a0_0) := (blk_cell BK257.out 0).trans rfl
             have hcz59_1 : wr.cell? ⟨gb257,1,none⟩ = some (.int .i64 a0_1) := (blk_cell BK257.out 1).trans rfl
             have hcz59_2 : wr.cell? ⟨gb257,2,none⟩ = some (.slice A0_2 l0_2.length c0_2) := (blk_cell BK257.out 2).trans rfl
             have hcz59_3 : wr.cell? ⟨gb257,3,none⟩ = some (.slice A0_3 l0_3.length c0_3) := (blk_cell BK257.out 3).trans rfl
             have hfz59_0 := blk_frozen BK257.out 0
             have hfz59_1 := blk_frozen BK257.out 1
             have hfz59_2 := blk_frozen BK257.out 2
             have hfz59_3 := blk_frozen BK257.out 3
             go_wp2_with (first | ((with_reducible refine gate_callee (f := 55) rfl ?_); refine goesL_ (some 55) rfl rfl Tryd.func55 (by kernel_rfl) rfl #[.agg #[.int .i64 a0_0,.int .i64 a0_1,.slice A0_2 l0_2.length c0_2,.slice A0_3 l0_3.length c0_3],.int .i64 x12_2] rfl (by (try simp only [List.map_toArray,List.map_cons,List.map_nil]); first | done | rfl | (simp only [List.length_drop,List.length_take]; rfl)) ?_; (with_reducible refine (impl_BlockCode_words_pos.calls a0_0 a0_1 _ _ l0_2 _ _ l0_3 x12_2  _ ?side1 ?side2 ?side3 ?side4 A52.out).mono ?_); (case side1 => repeat (first | exact (Kd.C_below HR0_2.out HB.out) | (with_reducible refine Kd.C_alloc ?_ _) | (with_reducible refine Kd.C_drewN ?_ _) | (with_reducible refine Kd.C_drew ?_))); (case side2 => exact HC0_2.out); (case side3 => repeat (first | exact (Kd.C_below HR0_3.out HB.out) | (with_reducible refine Kd.C_alloc ?_ _) | (with_reducible refine Kd.C_drewN ?_ _) | (with_reducible refine Kd.C_drew ?_))); (case side4 => exact HC0_3.out); rintro e w60 ⟨rfl,hb⟩; refine ⟨_,rfl,?_⟩; have n0_ := Aside0.mk (Kd.R_below (by (with_reducible repeat (first | apply Kd.R_alloc | apply Kd.R_drewN | apply Kd.R_drew)); exact HO_10.out) hb); have n1_ := Aside0.mk (Kd.R_below (by (with_reducible repeat (first | apply Kd.R_alloc | apply Kd.R_drewN | apply Kd.R_drew)); exact HO_11.out) hb); have n2_ := Aside0.mk (blk_below (g := gb257) (o := .cells #[.int .i64 a0_0,.int .i64 a0_1,.slice A0_2 l0_2.length c0_2,.slice A0_3 l0_3.length c0_3] 30 (0,0)) (by (with_reducible repeat (first | refine blk_drewN ?_ _ | refine blk_drew ?_ | refine blk_alloc ?_ _)); exact BK257.out) hb); have n3_ := Aside0.mk (below_step (by repeat (first | (with_reducible first | exact HB.out | apply below_alloc | apply pw_below_drewN | apply below_drew1 | refine below_set ?_ GE257.out) | exact HB.out)) hb); clear HO_10; clear HO_11; clear BK257; clear HB; have HO_10 := n0_; have HO_11 := n1_; have BK257 := n2_; have HB := n3_; clear n0_ n1_ n2_ n3_; (try clear hb); (try clear hb2); (try clear hk); (try clear hi)) | ((with_reducible refine gate_callee (f := 51) rfl ?_); refine goesL_ (some 60) rfl rfl Tryd.func51 (by kernel_rfl) rfl #[.slice A0_3 l0_3.length c0_3,.string (x2_2.extract 0 (a0_1 : Int).toNat)] rfl (by (try simp only [List.map_toArray,List.map_cons,List.map_nil]); first | done | rfl | (simp only [List.length_drop,List.length_take]; rfl)) ?_; (with_reducible refine (slices_Index_string_string.calls k2 _ _ l0_3 (x2_2.extract 0 (a0_1 : Int).toNat) t280 _ ?side1 ?side2 A53.out).mono ?_); (case side1 => repeat (first | exact (Kd.C_below HR0_3.out HB.out) | (with_reducible refine Kd.C_alloc ?_ _) | (with_reducible refine Kd.C_drewN ?_ _) | (with_reducible refine Kd.C_drew ?_))); (case side2 => exact HC0_3.out); rintro e w' ⟨rfl,⟨nd,rfl⟩⟩; refine ⟨_,rfl,?_⟩; obtain ⟨Ao61,co61,eo61⟩ := Kd.R_slice HO_10.out; subst eo61) | ((with_reducible refine gate_builtin (b := .append) (xs := #[.tmp 63,.tmp 66]) rfl ?_); (try (refine gate_guard (by rfl) ?_; dsimp only)); at_builtin; refine Kd.R_append (Kd.int .i64) (w0 := w) w.heap.size rfl (.tmp 63) (.tmp 66) 38 2 (.int .i64 0) 8 rfl Tryd.underlying38 info2 rfl (by decide) (by omega) u11 x11_2 (x10_2.length : Int) [.int .i64 (x10_2.length : Int)] (fun k_ => some k_ ≠ (.slice Ao61 x10_2.length co61 : Value).ownBlock) (fun _ => False) rfl rfl ?aP (fun _ hk => hk.elim) ?aF ?aO ?aB ?aS ?aL ?_; (case aP => exact rfl); (case aB => exact (by repeat (first | (with_reducible first | exact HB.out | apply below_alloc | apply pw_below_drewN | apply below_drew1 | refine below_set ?_ GE257.out) | exact HB.out))); (case aF => exact (fun k_ hk => Kd.fresh' (Kd.R_lt (by (with_reducible repeat (first | apply Kd.R_alloc | apply Kd.R_drewN | apply Kd.R_drew)); exact HO_10.out)) k_ hk)); (case aO => exact (by (with_reducible repeat (first | apply Kd.R_alloc | apply Kd.R_drewN | apply Kd.R_drew)); exact HO_11.out)); (case aS => exact (below_size (by repeat (first | (with_reducible first | exact HB.out | apply below_alloc | apply pw_below_drewN | apply below_drew1 | refine below_set ?_ GE257.out) | exact HB.out)))); (case aL => have := LMc55.out; omega); intro v282 w62 ho hb hg hat; rw [← Ny281.out] at ho; have n0_ := Aside0.mk (Kd.R_after (ok := (fun _ => True)) (by (with_reducible repeat (first | apply Kd.R_alloc | apply Kd.R_drewN | apply Kd.R_drew)); exact Kd.R_mono HO_10.out (fun _ hk => ⟨trivial,hk⟩)) hg hat); have n1_ := Aside0.mk (blk_grown (g := gb257) (o := .cells #[.int .i64 a0_0,.int .i64 a0_1,.slice A0_2 l0_2.length c0_2,.slice A0_3 l0_3.length c0_3] 30 (0,0)) (by (with_reducible repeat (first | refine blk_drewN ?_ _ | refine blk_drew ?_ | refine blk_alloc ?_ _)); exact BK257.out) hg (Kd.R_ne HO_11.out BK257.out (by decide))); have n2_ := Aside0.mk (hb); have n3_ := Aside0.mk (ho); clear HO_10; clear BK257; clear HB; clear HO_11; have HO_10 := n0_; have BK257 := n1_; have HB := n2_; have HO283 := n3_; clear n0_ n1_ n2_ n3_; clear ho hb hg hat) | ((with_reducible refine gate_callee (f := 51) rfl ?_); refine goesL_ (some 70) rfl rfl Tryd.func51 (by kernel_rfl) rfl #[.slice A0_2 l0_2.length c0_2,.string (x2_2.extract 0 (a0_1 : Int).toNat)] rfl (by (try simp only [List.map_toArray,List.map_cons,List.map_nil]); first | done | rfl | (simp only [List.length_drop,List.length_take]; rfl)) ?_; (with_reducible refine (slices_Index_string_string.calls k2 _ _ l0_2 (x2_2.extract 0 (a0_1 : Int).toNat) t284 _ ?side1 ?side2 A56.out).mono ?_); (case side1 => repeat (first | exact (Kd.C_below HR0_2.out HB.out) | (with_reducible refine Kd.C_alloc ?_ _) | (with_reducible refine Kd.C_drewN ?_ _) | (with_reducible refine Kd.C_drew ?_))); (case side2 => exact HC0_2.out); rintro e w' ⟨rfl,⟨nd,rfl⟩⟩; refine ⟨_,rfl,?_⟩) | ((with_reducible refine gate_builtin (b := .append) (xs := #[.tmp 71,.tmp 73]) rfl ?_); (try (refine gate_guard (by rfl) ?_; dsimp only)); at_builtin; refine Kd.R_append (Kd.int .i64) (w0 := w) w.heap.size rfl (.tmp 71) (.tmp 73) 38 2 (.int .i64 0) 8 rfl Tryd.underlying38 info2 rfl (by decide) (by omega) (.slice Ao61 x10_2.length co61) x10_2 t284 [.int .i64 t284] (fun k_ => some k_ ≠ (v282 : Value).ownBlock) (fun _ => False) rfl rfl ?aP (fun _ hk => hk.elim) ?aF ?aO ?aB ?aS ?aL ?_; (case aP => exact rfl); (case aB => exact (by repeat (first | (with_reducible first | exact HB.out | apply below_alloc | apply pw_below_drewN | apply below_drew1 | refine below_set ?_ GE257.out) | exact HB.out))); (case aF => exact (fun k_ hk => Kd.fresh' (Kd.R_lt (by (with_reducible repeat (first | apply Kd.R_alloc | apply Kd.R_drewN | apply Kd.R_drew)); exact HO283.out)) k_ hk)); (case aO => exact (by (with_reducible repeat (first | apply Kd.R_alloc | apply Kd.R_drewN | apply Kd.R_drew)); exact Kd.R_mono HO_10.out (fun _ hk => hk.2))); (case aS => exact (below_size (by repeat (first | (with_reducible first | exact HB.out | apply below_alloc | apply pw_below_drewN | apply below_drew1 | refine below_set ?_ GE257.out) | exact HB.out)))); (case aL => have := LMc57.out; omega); intro v286 w63 ho hb hg hat; rw [← Ny285.out] at ho; have n0_ := Aside0.mk (blk_grown (g := gb257) (o := .cells #[.int .i64 a0_0,.int .i64 a0_1,.slice A0_2 l0_2.length c0_2,.slice A0_3 l0_3.length c0_3] 30 (0,0)) (by (with_reducible repeat (first | refine blk_drewN ?_ _ | refine blk_drew ?_ | refine blk_alloc ?_ _)); exact BK257.out) hg (Kd.R_ne HO_10.out BK257.out (by decide))); have n1_ := Aside0.mk (Kd.R_after (ok := (fun _ => True)) (by (with_reducible repeat (first | apply Kd.R_alloc | apply Kd.R_drewN | apply Kd.R_drew)); exact Kd.R_mono HO283.out (fun _ hk => ⟨trivial,hk⟩)) hg hat); have n2_ := Aside0.mk (hb); have n3_ := Aside0.mk (ho); clear BK257; clear HO283; clear HB; clear HO_10; have BK257 := n0_; have HO283 := n1_; have HB := n2_; have HO287 := n3_; clear n0_ n1_ n2_ n3_; clear ho hb hg hat) | ((with_reducible refine gate_callee (f := 63) rfl ?_); refine goesL_ (some 77) rfl rfl Tryd.func63 (by kernel_rfl) rfl #[.int .i64 x12_2,.string (x2_2.extract 0 (a0_1 : Int).toNat)] rfl (by (try simp only [List.map_toArray,List.map_cons,List.map_nil]); first | done | rfl | (simp only [List.length_drop,List.length_take]; rfl)) ?_; (with_reducible refine (impl_stateBehind.calls x12_2 (x2_2.extract 0 (a0_1 : Int).toNat) t288 _ A58.out).mono ?_); rintro e w' ⟨rfl,⟨nd,rfl⟩⟩; refine ⟨_,rfl,?_⟩))
             go_roundg k2
             case measure => have := HJ3.out; have := HK2.out; omega
             case rel => exact ⟨(x2_2.extract (a0_1 : Int).toNat x2_2.size),(y285),(y281),(t288),(by first | rfl | (simp; done) | (simp [*]; done)),(by first | rfl | (simp; done) | (simp [*]; done)),H',⟨by have := HJ3.out; have := HK2.out; omega⟩,⟨by (with_reducible repeat (first | apply Kd.R_alloc | apply Kd.R_drewN | apply Kd.R_drew)); exact HO287.out⟩,⟨by (with_reducible repeat (first | apply Kd.R_alloc | apply Kd.R_drewN | apply Kd.R_drew)); exact Kd.R_mono HO283.out (fun _ hk => hk.2)⟩,⟨by (with_reducible repeat (first | refine blk_drewN ?_ _ | refine blk_drew ?_ | refine blk_alloc ?_ _)); exact BK257.out⟩,⟨by repeat (first | (with_reducible first | exact HB.out | apply below_alloc | apply pw_below_drewN | apply below_drew1 | refine below_set ?_ GE257.out) | exact HB.out)⟩⟩
            ·rw [if_neg c57] at H
             exact absurd H (by simp)
           ·rw [if_neg c55] at H
            exact absurd H (by simp)
          ·rw [if_neg c54] at H
           have c54b0 : decide (t280 < 0) = false := decide_eq_false c54
           clear c54
           by_cases c64 : x10_2.length < 17592186044416
           ·rw [if_pos c64] at H
            have LMc64 := Aside0.mk c64
            clear c64
            obtain ⟨y289,hy289⟩ : ∃ y_ : List Int,y_ = (x10_2 ++ [t280]) := ⟨_,rfl⟩
            replace H : ((impl_stateBehind.f x12_2 (x2_2.extract 0 (a0_1 : Int).toNat)).bind fun t292 => (impl_DecodeBlocks.l0 k2 (x2_2.extract (a0_1 : Int).toNat x2_2.size) y289 x11_2 t292 a0_0 a0_1 l0_2 l0_3)) = some (r1,r2,r3,r4) := by first | (rw [hy289]; with_reducible exact H) | (have H2_ := (Option.bind_some _ _).symm.trans H; rw [hy289]; with_reducible exact H2_) | (have H2_ := (Option.bind_some _ _).symm.trans H; with_reducible exact H2_) | with_reducible exact H | (rw [hy289]; exact H) | exact H
            have Ny289 := Aside0.mk hy289
            clear hy289
            replace H := Option.bind_eq_some_iff.mp H
            obtain ⟨t292,A650,H⟩ := H
            replace H : (impl_DecodeBlocks.l0 k2 (x2_2.extract (a0_1 : Int).toNat x2_2.size) y289 x11_2 t292 a0_0 a0_1 l0_2 l0_3) = some (r1,r2,r3,r4) := H
            have A65 := Aside0.mk A650
            clear A650
            have H' := Aside0.mk H
            clear H
            have hcz66_0 : wr.cell? ⟨gb257,0,none⟩ = some (.int .i64 a0_0) := (blk_cell BK257.out 0).trans rfl
            have hcz66_1 : wr.cell? ⟨gb257,1,none⟩ = some (.int .i64 a0_1) := (blk_cell BK257.out 1).trans rfl
            have hcz66_2 : wr.cell? ⟨gb257,2,none⟩ = some (.slice A0_2 l0_2.length c0_2) := (blk_cell BK257.out 2).trans rfl
            have hcz66_3 : wr.cell? ⟨gb257,3,none⟩ = some (.slice A0_3 l0_3.length c0_3) := (blk_cell BK257.out 3).trans rfl
            have hfz66_0 := blk_frozen BK257.out 0
            have hfz66_1 := blk_frozen BK257.out 1
            have hfz66_2 := blk_frozen BK257.out 2
            have hfz66_3 := blk_frozen BK257.out 3
            go_wp2_with (first | ((with_reducible refine gate_callee (f := 55) rfl ?_); refine goesL_ (some 55) rfl rfl Tryd.func55 (by kernel_rfl) rfl #[.agg #[.int .i64 a0_0,.int .i64 a0_1,.slice A0_2 l0_2.length c0_2,.slice A0_3 l0_3.length c0_3],.int .i64 x12_2] rfl (by (try simp only [List.map_toArray,List.map_cons,List.map_nil]); first | done | rfl | (simp only [List.length_drop,List.length_take]; rfl)) ?_; (with_reducible refine (impl_BlockCode_words_pos.calls a0_0 a0_1 _ _ l0_2 _ _ l0_3 x12_2  _ ?side1 ?side2 ?side3 ?side4 A52.out).mono ?_); (case side1 => repeat (first | exact (Kd.C_below HR0_2.out HB.out) | (with_reducible refine Kd.C_alloc ?_ _) | (with_reducible refine Kd.C_drewN ?_ _) | (with_reducible refine Kd.C_drew ?_))); (case side2 => exact HC0_2.out); (case side3 => repeat (first | exact (Kd.C_below HR0_3.out HB.out) | (with_reducible refine Kd.C_alloc ?_ _) | (with_reducible refine Kd.C_drewN ?_ _) | (with_reducible refine Kd.C_drew ?_))); (case side4 => exact HC0_3.out); rintro e w67 ⟨rfl,hb⟩; refine ⟨_,rfl,?_⟩; have n0_ := Aside0.mk (Kd.R_below (by (with_reducible repeat (first | apply Kd.R_alloc | apply Kd.R_drewN | apply Kd.R_drew)); exact HO_10.out) hb); have n1_ := Aside0.mk (Kd.R_below (by (with_reducible repeat (first | apply Kd.R_alloc | apply Kd.R_drewN | apply Kd.R_drew)); exact HO_11.out) hb); have n2_ := Aside0.mk (blk_below (g := gb257) (o := .cells #[.int .i64 a0_0,.int .i64 a0_1,.slice A0_2 l0_2.length c0_2,.slice A0_3 l0_3.length c0_3] 30 (0,0)) (by (with_reducible repeat (first | refine blk_drewN ?_ _ | refine blk_drew ?_ | refine blk_alloc ?_ _)); exact BK257.out) hb); have n3_ := Aside0.mk (below_step (by repeat (first | (with_reducible first | exact HB.out | apply below_alloc | apply pw_below_drewN | apply below_drew1 | refine below_set ?_ GE257.out) | exact HB.out)) hb); clear HO_10; clear HO_11; clear BK257; clear HB; have HO_10 := n0_; have HO_11 := n1_; have BK257 := n2_; have HB := n3_; clear n0_ n1_ n2_ n3_; (try clear hb); (try clear hb2); (try clear hk); (try clear hi)) | ((with_reducible refine gate_callee (f := 51) rfl ?_); refine goesL_ (some 60) rfl rfl Tryd.func51 (by kernel_rfl) rfl #[.slice A0_3 l0_3.length c0_3,.string (x2_2.extract 0 (a0_1 : Int).toNat)] rfl (by (try simp only [List.map_toArray,List.map_cons,List.map_nil]); first | done | rfl | (simp only [List.length_drop,List.length_take]; rfl)) ?_; (with_reducible refine (slices_Index_string_string.calls k2 _ _ l0_3 (x2_2.extract 0 (a0_1 : Int).toNat) t280 _ ?side1 ?side2 A53.out).mono ?_); (case side1 => repeat (first | exact (Kd.C_below HR0_3.out HB.out) | (with_reducible refine Kd.C_alloc ?_ _) | (with_reducible refine Kd.C_drewN ?_ _) | (with_reducible refine Kd.C_drew ?_))); (case side2 => exact HC0_3.out); rintro e w' ⟨rfl,⟨nd,rfl⟩⟩; refine ⟨_,rfl,?_⟩) | ((with_reducible refine gate_builtin (b := .append) (xs := #[.tmp 71,.tmp 73]) rfl ?_); (try (refine gate_guard (by rfl) ?_; dsimp only)); at_builtin; refine Kd.R_append (Kd.int .i64) (w0 := w) w.heap.size rfl (.tmp 71) (.tmp 73) 38 2 (.int .i64 0) 8 rfl Tryd.underlying38 info2 rfl (by decide) (by omega) u10 x10_2 t280 [.int .i64 t280] (fun k_ => some k_ ≠ (u11 : Value).ownBlock) (fun _ => False) rfl rfl ?aP (fun _ hk => hk.elim) ?aF ?aO ?aB ?aS ?aL ?_; (case aP => exact rfl); (case aB => exact (by repeat (first | (with_reducible first | exact HB.out | apply below_alloc | apply pw_below_drewN | apply below_drew1 | refine below_set ?_ GE257.out) | exact HB.out))); (case aF => exact (fun k_ hk => Kd.fresh' (Kd.R_lt (by (with_reducible repeat (first | apply Kd.R_alloc | apply Kd.R_drewN | apply Kd.R_drew)); exact HO_11.out)) k_ hk)); (case aO => exact (by (with_reducible repeat (first | apply Kd.R_alloc | apply Kd.R_drewN | apply Kd.R_drew)); exact HO_10.out)); (case aS => exact (below_size (by repeat (first | (with_reducible first | exact HB.out | apply below_alloc | apply pw_below_drewN | apply below_drew1 | refine below_set ?_ GE257.out) | exact HB.out)))); (case aL => have := LMc64.out; omega); intro v290 w68 ho hb hg hat; rw [← Ny289.out] at ho; have n0_ := Aside0.mk (Kd.R_after (ok := (fun _ => True)) (by (with_reducible repeat (first | apply Kd.R_alloc | apply Kd.R_drewN | apply Kd.R_drew)); exact Kd.R_mono HO_11.out (fun _ hk => ⟨trivial,hk⟩)) hg hat); have n1_ := Aside0.mk (blk_grown (g := gb257) (o := .cells #[.int .i64 a0_0,.int .i64 a0_1,.slice A0_2 l0_2.length c0_2,.slice A0_3 l0_3.length c0_3] 30 (0,0)) (by (with_reducible repeat (first | refine blk_drewN ?_ _ | refine blk_drew ?_ | refine blk_alloc ?_ _)); exact BK257.out) hg (Kd.R_ne HO_10.out BK257.out (by decide))); have n2_ := Aside0.mk (hb); have n3_ := Aside0.mk (ho); clear HO_11; clear BK257; clear HB; clear HO_10; have HO_11 := n0_; have BK257 := n1_; have HB := n2_; have HO291 := n3_; clear n0_ n1_ n2_ n3_; clear ho hb hg hat) | ((with_reducible refine gate_callee (f := 63) rfl ?_); refine goesL_ (some 77) rfl rfl Tryd.func63 (by kernel_rfl) rfl #[.int .i64 x12_2,.string (x2_2.extract 0 (a0_1 : Int).toNat)] rfl (by (try simp only [List.map_toArray,List.map_cons,List.map_nil]); first | done | rfl | (simp only [List.length_drop,List.length_take]; rfl)) ?_; (with_reducible refine (impl_stateBehind.calls x12_2 (x2_2.extract 0 (a0_1 : Int).toNat) t292 _ A65.out).mono ?_); rintro e w' ⟨rfl,⟨nd,rfl⟩⟩; refine ⟨_,rfl,?_⟩))
            go_roundg k2
            case measure => have := HJ3.out; have := HK2.out; omega
            case rel => exact ⟨(x2_2.extract (a0_1 : Int).toNat x2_2.size),(y289),(x11_2),(t292),(by first | rfl | (simp; done) | (simp [*]; done)),(by first | rfl | (simp; done) | (simp [*]; done)),H',⟨by have := HJ3.out; have := HK2.out; omega⟩,⟨by (with_reducible repeat (first | apply Kd.R_alloc | apply Kd.R_drewN | apply Kd.R_drew)); exact HO291.out⟩,⟨by (with_reducible repeat (first | apply Kd.R_alloc | apply Kd.R_drewN | apply Kd.R_drew)); exact Kd.R_mono HO_11.out (fun _ hk => hk.2)⟩,⟨by (with_reducible repeat (first | refine blk_drewN ?_ _ | refine blk_drew ?_ | refine blk_alloc ?_ _)); exact BK257.out⟩,⟨by repeat (first | (with_reducible first | exact HB.out | apply below_alloc | apply pw_below_drewN | apply below_drew1 | refine below_set ?_ GE257.out) | exact HB.out)⟩⟩
           ·rw [if_neg c64] at H
            exact absurd H (by simp)
        ·rw [if_neg c31] at H
         exact absurd H (by simp)
       ·rw [if_neg c30] at H
        exact absurd H (by simp)
      ·rw [if_neg c29] at H
       have c29b0 : decide (0 < (x2_2.size : Int)) = false := decide_eq_false c29
       have c29b1 : decide (0 < x2_2.size) = false := decide_eq_false (by omega)
       clear c29
       simp only [Option.some.injEq,Prod.mk.injEq] at H
       obtain ⟨rfl,rfl,rfl,rfl⟩ := H
       go_wp2
       refine bodyPost_ret (results_list (rs := [.tmp 6,.tmp 7,.tmp 8,.tmp 9]) rfl (by simp) (.tmp (.tmp (.tmp (.tmp .nil))))) rfl ?_
       exact ⟨_,_,by first | rfl | (simp [errW_none,errW_some] <;> rfl) | (simp [*,errW_none,errW_some] <;> rfl),by (with_reducible repeat (first | apply Kd.R_alloc | apply Kd.R_drewN | apply Kd.R_drew)); exact HO_10.out,by (with_reducible repeat (first | apply Kd.R_alloc | apply Kd.R_drewN | apply Kd.R_drew)); exact HO_11.out,by repeat (first | (with_reducible first | exact HB.out | apply below_alloc | apply pw_below_drewN | apply below_drew1 | refine below_set ?_ GE257.out) | exact HB.out)⟩

/-! ### impl_bitOf: function 98 -/
def impl_bitOf.f (a0 : Bool) : Option (ByteArray) := if a0 = true then (some (⟨#[49]⟩ : ByteArray)) else (some (⟨#[48]⟩ : ByteArray))
set_option maxHeartbeats 8000000 in
set_option maxRecDepth 100000 in
theorem impl_bitOf.calls (a0 : Bool) (r : ByteArray) (w : World) (h : impl_bitOf.f a0 = some r) :
  Calls Tryd.prog 98 #[.bool a0] w fun e w' => e = .returned (.string r) ∧ Drawn0 w w' := by
 have H : (if a0 = true then (some (⟨#[49]⟩ : ByteArray)) else (some (⟨#[48]⟩ : ByteArray))) = some r := h
 clear h
 by_cases c2 : a0 = true
 ·subst c2
  have H1 : (some (⟨#[49]⟩ : ByteArray)) = some r := by rw [if_pos rfl] at H; exact H
  clear H
  have H := H1
  clear H1
  obtain rfl := Option.some.inj H
  go_enter Tryd.func98,Tryd.ntmps98
  go_wp2
  go_ret
  exact ⟨by first | rfl | (simp; done) | (simp [*]; done),by repeat (first | exact Drawn0.refl _ | apply Drawn0.step)⟩
 ·replace c2 := Bool.eq_false_iff.mpr c2
  subst c2
  have H1 : (some (⟨#[48]⟩ : ByteArray)) = some r := by rw [if_neg (show ¬ (false = true) by decide)] at H; exact H
  clear H
  have H := H1
  clear H1
  obtain rfl := Option.some.inj H
  go_enter Tryd.func98,Tryd.ntmps98
  go_wp2
  go_ret
  exact ⟨by first | rfl | (simp; done) | (simp [*]; done),by repeat (first | exact Drawn0.refl _ | apply Drawn0.step)⟩

/-! ### impl_xorBits: function 85 -/
/-!  -/
/-- The bits are told apart one by one,each told in one text. -/
def impl_xorBits.l0 : Nat → ByteArray → ByteArray → List UInt8 → Int → Option ByteArray
 | 0,_,_,_,_ => none
 | k + 1,a,b,l,x => if x < (a.size : Int) then (if 0 ≤ x then (if x < (b.size : Int) then ((impl_bitOf.f (bt a x != bt b x)).bind fun t => (if l.length + t.size ≤ 140737488355328 then impl_xorBits.l0 k a b (l ++ t.data.toList) (wrap64 (x + 1)) else none)) else none) else none) else some ⟨l.toArray⟩
def impl_xorBits.f (k : Nat) (a0 a1 : ByteArray) : Option ByteArray := impl_xorBits.l0 k a0 a1 [] 0
set_option maxHeartbeats 8000000 in
set_option maxRecDepth 100000 in
theorem impl_xorBits.calls (k : Nat) (a0 : ByteArray) (a1 : ByteArray) (r : ByteArray) (w : World) (h : impl_xorBits.f k a0 a1 = some r) :
  Calls Tryd.prog 85 #[.string a0,.string a1] w fun e w' => e = .returned (.string r) ∧ Below w.heap.size w w' := by
 have H' := Aside0.mk (show impl_xorBits.l0 k a0 a1 [] 0 = some r from h)
 clear h
 have u72 := run_underlying Tryd.underlying107
 have t72 := Tryd.underlying107
 go_enter Tryd.func85,Tryd.ntmps85
 go_wp2
 have HS := Aside0.mk (show Lib.IsBuilder 107 5 w.heap.size w.heap.size (Lib.byteCells []) (w.alloc (.cells #[.pointer none,.slice none 0 0] 107)) from Lib.fresh_isBuilder 107 5 w)
 have HB := Aside0.mk (below_alloc (Below.refl w.heap.size w) (.cells #[.pointer none,.slice none 0 0] 107))
 have HZ := Aside0.mk (show w.heap.size ≤ (w.alloc (.cells #[.pointer none,.slice none 0 0] 107)).heap.size from HB.out.size)
 go_loopg [10] k (fun kq v10 w' => ∃ (l : List UInt8) (x : Int),v10 = .int .i64 x ∧ Aside0 (impl_xorBits.l0 kq a0 a1 l x = some r) ∧ Aside0 (kq ≤ k) ∧ Aside0 (Lib.IsBuilder 107 5 w.heap.size w.heap.size (Lib.byteCells l) w') ∧ Aside0 (Below w.heap.size w w'))
 case atStart => exact ⟨[],0,rfl,H',⟨Nat.le_refl _⟩,HS,HB⟩
 case round =>
  clear H' HS HB HZ
  obtain ⟨l,x,rfl,HA,HK1,HS,HB⟩ := hrel
  cases gk with
  | zero => exact absurd HA.out (by simp [impl_xorBits.l0])
  | succ k1 =>
   have H := HA.out
   clear HA
   simp only [impl_xorBits.l0] at H
   by_cases c5 : x < (a0.size : Int)
   ·rw [if_pos c5] at H
    have c5b0 : decide (x < (a0.size : Int)) = true := decide_eq_true c5
    by_cases c6 : 0 ≤ x
    ·rw [if_pos c6] at H
     have c6b0 : decide (0 ≤ x) = true := decide_eq_true c6
     by_cases c8 : x < (a1.size : Int)
     ·rw [if_pos c8] at H
      have c8b0 : decide (x < (a1.size : Int)) = true := decide_eq_true c8
      obtain ⟨t,e1,H⟩ := Option.bind_eq_some_iff.mp H
      have A1 := Aside0.mk e1
      clear e1
      by_cases c9 : l.length + t.size ≤ 140737488355328
      ·rw [if_pos c9] at H
       have C9 := Aside0.mk c9
       have H' := Aside0.mk H
       clear H c9
       have p7 := eq_true c6
       have q7 := eq_true c5
       have q9 := eq_true c8
       have hx7 := bt_at a0 x
       have hx9 := bt_at a1 x
       clear c5 c6 c8
       try go_wp2
       have HS1 := Aside0.mk (show Lib.IsBuilder 107 5 w.heap.size w.heap.size (Lib.byteCells l) wr.drew from HS.out)
       have HB1 := Aside0.mk (show Below w.heap.size w wr.drew from below_drew1 HB.out)
       refine start_ (n := 9) (S := fun w' => True) (ds := []) #[false,false,false,false,false,false,false,false,false] (by kernel_rfl) rfl rfl trivial (fun hHeld => ?_)
       generalize wr.drew = w2 at HS1 HB1 hHeld ⊢
       refine pure_ (i := 0) (N := some 13) (v := ?_) (a' := ?_) #[true,false,false,false,false,false,false,false,false] rfl rfl (by kernel_rfl) (fun _ _ _ h => h) (Or.inl ⟨by rfl,?_⟩) ?_ ?_
       rotate_left
       ·intro w'
        go_simp
        with_reducible rfl
       rotate_left
       ·simp only [Act.put,List.setIfInBounds_toArray,List.set_cons_zero,List.set_cons_succ,i64_w,i32_w]
        rfl
       refine pure_ (i := 1) (N := some 14) (v := ?_) (a' := ?_) #[true,true,false,false,false,false,false,false,false] rfl rfl (by kernel_rfl) (fun _ _ _ h => h) (Or.inl ⟨by rfl,?_⟩) ?_ ?_
       rotate_left
       ·intro w'
        go_simp
        with_reducible rfl
       rotate_left
       ·simp only [Act.put,List.setIfInBounds_toArray,List.set_cons_zero,List.set_cons_succ,i64_w,i32_w]
        rfl
       refine take_ (i := 2) (N := some 15) (v := ?_) (a' := ?_) #[true,true,true,false,false,false,false,false,false] rfl rfl (by kernel_rfl) (fun _ _ _ h => h) (Or.inl ⟨by rfl,?_⟩) hHeld ?_ ?_
       rotate_left
       ·intro w' _
        go_simp
        with_reducible rfl
       rotate_left
       ·simp only [Act.put,List.setIfInBounds_toArray,List.set_cons_zero,List.set_cons_succ,i64_w,i32_w]
        rfl
       refine pure_ (i := 3) (N := some 16) (v := ?_) (a' := ?_) #[true,true,true,true,false,false,false,false,false] rfl rfl (by kernel_rfl) (fun _ _ _ h => h) (Or.inl ⟨by rfl,?_⟩) ?_ ?_
       rotate_left
       ·intro w'
        go_simp
        with_reducible rfl
       rotate_left
       ·simp only [Act.put,List.setIfInBounds_toArray,List.set_cons_zero,List.set_cons_succ,i64_w,i32_w]
        rfl
       refine pure_ (i := 4) (N := some 17) (v := ?_) (a' := ?_) #[true,true,true,true,true,false,false,false,false] rfl rfl (by kernel_rfl) (fun _ _ _ h => h) (Or.inl ⟨by rfl,?_⟩) ?_ ?_
       rotate_left
       ·intro w'
        go_simp
        with_reducible rfl
       rotate_left
       ·simp only [Act.put,List.setIfInBounds_toArray,List.set_cons_zero,List.set_cons_succ,i64_w,i32_w]
        rfl
       refine take_ (i := 5) (N := some 18) (v := ?_) (a' := ?_) #[true,true,true,true,true,true,false,false,false] rfl rfl (by kernel_rfl) (fun _ _ _ h => h) (Or.inl ⟨by rfl,?_⟩) hHeld ?_ ?_
       rotate_left
       ·intro w' _
        go_simp
        with_reducible rfl
       rotate_left
       ·simp only [Act.put,List.setIfInBounds_toArray,List.set_cons_zero,List.set_cons_succ,i64_w,i32_w]
        rfl
       refine pure_ (i := 6) (N := some 19) (v := ?_) (a' := ?_) #[true,true,true,true,true,true,true,false,false] rfl rfl (by kernel_rfl) (fun _ _ _ h => h) (Or.inl ⟨by rfl,?_⟩) ?_ ?_
       rotate_left
       ·intro w'
        go_simp
        with_reducible rfl
       rotate_left
       ·simp only [Act.put,List.setIfInBounds_toArray,List.set_cons_zero,List.set_cons_succ,i64_w,i32_w]
        rfl
       refine one_ (i := 7) (N := some 20) #[true,true,true,true,true,true,true,true,false] rfl rfl (by kernel_rfl) (by decide) (fun K hK => ?_)
       refine goes_ Tryd.func98 (by kernel_rfl) rfl #[.bool (bt a0 x != bt a1 x)] (by rfl) rfl rfl (by (try simp only [List.map_toArray,List.map_cons,List.map_nil]); first | done | rfl) ?_
       with_reducible refine (impl_bitOf.calls _ t _ A1.out).mono ?_
       rintro e w3 ⟨rfl,⟨nd,rfl⟩⟩
       refine ⟨_,rfl,?_⟩
       refine hK.out _ _ trivial (fun hHeld => ?_)
       clear hK K
       refine norm_ (a' := ?_) ?_ ?_
       rotate_left
       ·show Act.put _ (some 20) _ = _
        simp only [Act.put,List.setIfInBounds_toArray,List.set_cons_zero,List.set_cons_succ,i64_w,i32_w]
        rfl
       have HS2 := Aside0.mk (show Lib.IsBuilder 107 5 w.heap.size w.heap.size (Lib.byteCells l) (w2.drewN nd) from HS1.out)
       have HB2 := Aside0.mk (show Below w.heap.size w (w2.drewN nd) from pw_below_drewN HB1.out nd)
       generalize w2.drewN nd = w4 at HS2 HB2 ⊢
       refine one_ (i := 8) (N := some 21) #[true,true,true,true,true,true,true,true,true] rfl rfl (by kernel_rfl) (by decide) (fun K hK => ?_)
       refine goes_ Tryd.func97 (by kernel_rfl) rfl #[.pointer (some ⟨w.heap.size,0,none⟩),.string t] (by rfl) rfl rfl (by (try simp only [List.map_toArray,List.map_cons,List.map_nil]); first | done | rfl) ?_
       refine (Bld.WriteString w.heap.size w.heap.size (Lib.byteCells l) t w4 HS2.out (by rw [Lib.byteCells_length]; exact C9.out) HB2.out.size).mono ?_
       rintro e w5 ⟨rfl,hs,hb⟩
       refine ⟨_,rfl,?_⟩
       have HS := Aside0.mk (show Lib.IsBuilder 107 5 w.heap.size w.heap.size (Lib.byteCells (l ++ t.data.toList)) w5 from by rw [Lib.byteCells_append,← Lib.strCells_eq]; exact Or.inr hs)
       have HB := Aside0.mk (HB2.out.trans hb)
       refine hK.out _ _ trivial (fun hHeld => ?_)
       clear hK K
       refine norm_ (a' := ?_) ?_ ?_
       rotate_left
       ·show Act.put _ (some 21) _ = _
        simp only [Act.put,List.setIfInBounds_toArray,List.set_cons_zero,List.set_cons_succ,i64_w,i32_w]
        rfl
       refine done_ (by kernel_rfl) ?_
       go_wp2
       go_roundg k1
       case measure => have := HK1.out; omega
       case rel => exact ⟨l ++ t.data.toList,(wrap64 (x + 1)),(by first | rfl | (simp; done) | (simp [*]; done)),H',⟨by have := HK1.out; omega⟩,HS,HB⟩
      ·rw [if_neg c9] at H; cases H
     ·rw [if_neg c8] at H; cases H
    ·rw [if_neg c6] at H; cases H
   ·rw [if_neg c5] at H
    have c5b0 : decide (x < (a0.size : Int)) = false := decide_eq_false c5
    obtain rfl := Option.some.inj H
    go_wp2_with (go_at_call 99; refine (Tryd.Builder_String_any w.heap.size w.heap.size l _ HS.out HB.out.size).mono ?_; rintro e w' ⟨rfl,hb⟩; have HB := Aside0.mk (HB.out.trans hb))
    go_ret
    exact ⟨rfl,HB.out⟩


/-! ### strings_Repeat: function 86 -/
/-!  A text once. -/
def strings_Repeat.f (a0 : ByteArray) (a1 : Int) : Option ByteArray := if a1 = 1 then some a0 else none
set_option maxHeartbeats 8000000 in
set_option maxRecDepth 100000 in
theorem strings_Repeat.calls (a0 : ByteArray) (a1 : Int) (r : ByteArray) (w : World) (h : strings_Repeat.f a0 a1 = some r) :
  Calls Tryd.prog 86 #[.string a0,.int .i64 a1] w fun e w' => e = .returned (.string r) ∧ Drawn0 w w' := by
 unfold strings_Repeat.f at h
 by_cases c : a1 = 1
 ·subst c
  rw [if_pos rfl] at h
  obtain rfl := Option.some.inj h
  go_enter Tryd.func86,Tryd.ntmps86
  go_wp2
  go_ret
  exact ⟨rfl,⟨⟨0,rfl⟩⟩⟩
 ·rw [if_neg c] at h; cases h

/-! ### impl_opposite: function 77 -/
def impl_opposite.f (k : Nat) (a0 : ByteArray) : Option (ByteArray) := (strings_Repeat.f (⟨#[49]⟩ : ByteArray) (a0.size : Int)).bind fun t293 => ((impl_xorBits.f k a0 t293).bind fun t294 => (some t294))
set_option maxHeartbeats 8000000 in
set_option maxRecDepth 100000 in
theorem impl_opposite.calls (k : Nat) (a0 : ByteArray) (r : ByteArray) (w : World) (h : impl_opposite.f k a0 = some r) :
  Calls Tryd.prog 77 #[.string a0] w fun e w' => e = .returned (.string r) ∧ Below w.heap.size w w' := by
 have HB := Aside0.mk (Below.refl w.heap.size w)
 have H : ((strings_Repeat.f (⟨#[49]⟩ : ByteArray) (a0.size : Int)).bind fun t293 => ((impl_xorBits.f k a0 t293).bind fun t294 => (some t294))) = some r := h
 clear h
 replace H := Option.bind_eq_some_iff.mp H
 obtain ⟨t293,A20,H⟩ := H
 replace H : ((impl_xorBits.f k a0 t293).bind fun t294 => (some t294)) = some r := H
 have A2 := Aside0.mk A20
 clear A20
 replace H := Option.bind_eq_some_iff.mp H
 obtain ⟨t294,A30,H⟩ := H
 replace H : (some t294) = some r := H
 have A3 := Aside0.mk A30
 clear A30
 obtain rfl := Option.some.inj H
 go_enter Tryd.func77,Tryd.ntmps77
 go_wp2_with (first | ((with_reducible refine gate_callee (f := 86) rfl ?_); refine goesL_ (some 6) rfl rfl Tryd.func86 (by kernel_rfl) rfl #[.string (⟨#[49]⟩ : ByteArray),.int .i64 (a0.size : Int)] rfl (by (try simp only [List.map_toArray,List.map_cons,List.map_nil]); first | done | rfl | (simp only [List.length_drop,List.length_take]; rfl)) ?_; (with_reducible refine (strings_Repeat.calls (⟨#[49]⟩ : ByteArray) (a0.size : Int) t293 _ A2.out).mono ?_); rintro e w' ⟨rfl,⟨nd,rfl⟩⟩; refine ⟨_,rfl,?_⟩) | ((with_reducible refine gate_callee (f := 85) rfl ?_); refine goesL_ (some 7) rfl rfl Tryd.func85 (by kernel_rfl) rfl #[.string a0,.string t293] rfl (by (try simp only [List.map_toArray,List.map_cons,List.map_nil]); first | done | rfl | (simp only [List.length_drop,List.length_take]; rfl)) ?_; (with_reducible refine (impl_xorBits.calls k a0 t293 t294 _ A3.out).mono ?_); rintro e w4 ⟨rfl,hb⟩; refine ⟨_,rfl,?_⟩; have n0_ := Aside0.mk (below_step (by repeat (first | (with_reducible first | exact HB.out | apply below_alloc | apply pw_below_drewN | apply below_drew1) | exact HB.out)) hb); clear HB; have HB := n0_; clear n0_; (try clear hb); (try clear hb2); (try clear hk); (try clear hi)))
 go_ret
 exact ⟨by first | rfl | (simp [errW_none,errW_some] <;> rfl) | (simp [*,errW_none,errW_some] <;> rfl),by repeat (first | (with_reducible first | exact HB.out | apply below_alloc | apply pw_below_drewN | apply below_drew1) | exact HB.out)⟩

end Go.Proofs.YtegeaoiclepkkaaDoor.QFnExactFlipEffect
