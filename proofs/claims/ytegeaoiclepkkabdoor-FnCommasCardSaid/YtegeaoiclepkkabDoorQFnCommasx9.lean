/-
Each Go function that this text names answers as the Lean function beside it says,wherever that one answers; conditions: the arguments lie in memory as each theorem states it.
-/
import Derived.Test.YtegeaoiclepkkabDoorQFnCommasx0
import Derived.Test.YtegeaoiclepkkabDoorQFnCommasx3
import Derived.Test.YtegeaoiclepkkabDoorQFnCommasx7
import Derived.Test.YtegeaoiclepkkabDoorQFnCommasx8
namespace Go.Proofs.YtegeaoiclepkkabDoor.QFnCommas
open Go.RowKit Go.Proofs.YtegeaoiclepkkabDoorW.PrintWords Go.Proofs.YtegeaoiclepkkabDoorW.PrintLast Go.Proofs.YtegeaoiclepkkabDoorW.PrintMore
attribute [local go_sem] max2_int min2_int max_two min_two max_three min_three max_four min_four   -- for this text's walks alone
set_option linter.unusedVariables false
set_option linter.unusedSimpArgs false
theorem b9_0 {P : Prop} (h : P := by repeat (first | (with_reducible first | exact HB.out | apply below_alloc | apply pw_below_drewN | apply below_drew1) | exact HB.out)) : P := h
theorem b9_1 {P : Prop} (h : P := by repeat (first | (with_reducible first | exact HB.out | apply below_alloc | apply pw_below_drewN | apply below_drew1 | refine below_set ?_ GE278.out) | exact HB.out)) : P := h
theorem b9_2 {P : Prop} (h : P := by (try simp only [List.map_toArray,List.map_cons,List.map_nil]); first | done | rfl) : P := h
theorem b9_3 {P : Prop} (h : P := by (try simp only [List.map_toArray,List.map_cons,List.map_nil]); first | done | rfl | (simp only [List.length_drop,List.length_take]; rfl)) : P := h
theorem b9_4 {P : Prop} (h : P := by (with_reducible repeat (first | refine blk_drewN ?_ _ | refine blk_drew ?_ | refine blk_alloc ?_ _)); exact BK.out) : P := h
theorem b9_5 {P : Prop} (h : P := by first | rfl | (simp [errW_none,errW_some] <;> rfl) | (simp [*,errW_none,errW_some] <;> rfl)) : P := h
theorem b9_6 {P : Prop} (h : P := by first | rfl | (simp; done) | (simp [*]; done)) : P := h
theorem b9_7 {P : Prop} (h : P := by repeat (first | exact Drawn0.refl _ | apply Drawn0.step)) : P := h
theorem b9_8 {P : Prop} (h : P := by (with_reducible repeat (first | refine blk_drewN ?_ _ | refine blk_drew ?_ | refine blk_alloc ?_ _)); exact BK278.out) : P := h
theorem b9_9 {P : Prop} (h : P := by first | exact HS.out.drewN _ | exact HS.out) : P := h
theorem b9_10 {P : Prop} (h : P := by first | (with_reducible assumption) | assumption) : P := h
theorem b9_11 {P : Prop} (h : P := by show decide (s.data.toList ∈ s.data.toList :: seen) = true; simp) : P := h

/-! ### spec_EncodeBlocks: function 17 -/
def spec_EncodeBlocks.f (k : Nat) (a0_0 : Int) (a0_1 : Int) (l0_2 : List ByteArray) (l0_3 : List ByteArray) (a1 : Int) (l2 : List Int) : Option (ByteArray × Int × Bool) := (spec_l03Is.f k a0_0 a0_1 l0_2 l0_3).bind fun t279 => (if t279 = true then ((spec_l03State.f a1).bind fun t280 => (if t280 = true then ((spec_l03Encode.f k a0_0 a0_1 l0_2 l0_3 a1 l2).bind fun bt281 => (some (bt281.1,bt281.2.1,bt281.2.2))) else (some ((⟨#[]⟩ : ByteArray),0,false)))) else (some ((⟨#[]⟩ : ByteArray),0,false)))
set_option maxHeartbeats 8000000 in
set_option maxRecDepth 100000 in
theorem spec_EncodeBlocks.calls (k : Nat) (a0_0 : Int) (a0_1 : Int) (A0_2 : Option Addr) (c0_2 : Nat) (l0_2 : List ByteArray) (A0_3 : Option Addr) (c0_3 : Nat) (l0_3 : List ByteArray) (a1 : Int) (A2 : Option Addr) (c2 : Nat) (l2 : List Int) (r1 : ByteArray) (r2 : Int) (r3 : Bool) (w : World) (hr0_2 : Kd.C Kd.string w A0_2 l0_2.length l0_2) (hc0_2 : l0_2.length ≤ c0_2) (hr0_3 : Kd.C Kd.string w A0_3 l0_3.length l0_3) (hc0_3 : l0_3.length ≤ c0_3) (hr2 : Kd.C (Kd.int .i64) w A2 l2.length l2) (hc2 : l2.length ≤ c2) (h : spec_EncodeBlocks.f k a0_0 a0_1 l0_2 l0_3 a1 l2 = some (r1,r2,r3)) :
  Calls Tryd.prog 17 #[.agg #[.int .i64 a0_0,.int .i64 a0_1,.slice A0_2 l0_2.length c0_2,.slice A0_3 l0_3.length c0_3],.int .i64 a1,.slice A2 l2.length c2] w fun e w' => e = .returned (.tuple #[.string r1,.int .i64 r2,.bool r3]) ∧ Below w.heap.size w w' := by
 have hu26 := Tryd.underlying26
 have HR0_2 := Aside0.mk hr0_2
 have HC0_2 := Aside0.mk hc0_2
 clear hr0_2 hc0_2
 have HR0_3 := Aside0.mk hr0_3
 have HC0_3 := Aside0.mk hc0_3
 clear hr0_3 hc0_3
 have HR2 := Aside0.mk hr2
 have HC2 := Aside0.mk hc2
 clear hr2 hc2
 have HB := Aside0.mk (Below.refl w.heap.size w)
 have H : ((spec_l03Is.f k a0_0 a0_1 l0_2 l0_3).bind fun t279 => (if t279 = true then ((spec_l03State.f a1).bind fun t280 => (if t280 = true then ((spec_l03Encode.f k a0_0 a0_1 l0_2 l0_3 a1 l2).bind fun bt281 => (some (bt281.1,bt281.2.1,bt281.2.2))) else (some ((⟨#[]⟩ : ByteArray),0,false)))) else (some ((⟨#[]⟩ : ByteArray),0,false)))) = some (r1,r2,r3) := h
 clear h
 replace H := Option.bind_eq_some_iff.mp H
 obtain ⟨t279,A40,H⟩ := H
 replace H : (if t279 = true then ((spec_l03State.f a1).bind fun t280 => (if t280 = true then ((spec_l03Encode.f k a0_0 a0_1 l0_2 l0_3 a1 l2).bind fun bt281 => (some (bt281.1,bt281.2.1,bt281.2.2))) else (some ((⟨#[]⟩ : ByteArray),0,false)))) else (some ((⟨#[]⟩ : ByteArray),0,false))) = some (r1,r2,r3) := H
 have A4 := Aside0.mk A40
 clear A40
 by_cases c5 : t279 = true
 ·subst c5
  have H1 : ((spec_l03State.f a1).bind fun t280 => (if t280 = true then ((spec_l03Encode.f k a0_0 a0_1 l0_2 l0_3 a1 l2).bind fun bt281 => (some (bt281.1,bt281.2.1,bt281.2.2))) else (some ((⟨#[]⟩ : ByteArray),0,false)))) = some (r1,r2,r3) := by rw [if_pos rfl] at H; exact H
  clear H
  have H := H1
  clear H1
  replace H := Option.bind_eq_some_iff.mp H
  obtain ⟨t280,A60,H⟩ := H
  replace H : (if t280 = true then ((spec_l03Encode.f k a0_0 a0_1 l0_2 l0_3 a1 l2).bind fun bt281 => (some (bt281.1,bt281.2.1,bt281.2.2))) else (some ((⟨#[]⟩ : ByteArray),0,false))) = some (r1,r2,r3) := H
  have A6 := Aside0.mk A60
  clear A60
  by_cases c7 : t280 = true
  ·subst c7
   have H1 : ((spec_l03Encode.f k a0_0 a0_1 l0_2 l0_3 a1 l2).bind fun bt281 => (some (bt281.1,bt281.2.1,bt281.2.2))) = some (r1,r2,r3) := by rw [if_pos rfl] at H; exact H
   clear H
   have H := H1
   clear H1
   replace H := Option.bind_eq_some_iff.mp H
   obtain ⟨⟨t281,t282,t283⟩,A80,H⟩ := H
   replace H : (some (t281,t282,t283)) = some (r1,r2,r3) := H
   have A8 := Aside0.mk A80
   clear A80
   simp only [Option.some.injEq,Prod.mk.injEq] at H
   obtain ⟨rfl,rfl,rfl⟩ := H
   go_enter Tryd.func17,Tryd.ntmps17
   go_wp2_with (first | ((with_reducible refine gate_dst (N := 3) rfl ?_); refine box_event ?hg (N := 3) ?hd (cs := #[.int .i64 a0_0,.int .i64 a0_1,.slice A0_2 l0_2.length c0_2,.slice A0_3 l0_3.length c0_3]) (t := 26) ?hr ?_; (case hd => rfl); (case hg => rfl); (case hr => first | (go_simp; done) | (go_simp; rfl)); intro gb278 hg w9 hbox hb; have n0_ := Aside0.mk (below_step b9_0 hb); have n1_ := Aside0.mk (hbox); have n2_ := Aside0.mk ((by rw [hg]; exact (below_size b9_0) : w.heap.size ≤ gb278)); have n3_ := Aside0.mk ((by rw [hg]; exact (below_size b9_0) : w.heap.size ≤ gb278)); clear HB; have HB := n0_; have BK278 := n1_; have GW278 := n2_; have GE278 := n3_; clear n0_ n1_ n2_ n3_; clear hb hbox hg) | ((with_reducible refine gate_callee (f := 37) rfl ?_); refine goesL_ (some 9) rfl rfl Tryd.func37 (by kernel_rfl) rfl #[.pointer (some ⟨gb278,0,none⟩)] rfl b9_3 ?_; (with_reducible refine (spec_l03Is.calls k gb278 a0_0 a0_1 A0_2 c0_2 l0_2 A0_3 c0_3 l0_3 true _ ?side1 ?side2 ?side3 ?side4 ?side5 A4.out).mono ?_); (case side1 => exact by (with_reducible repeat (first | refine blk_drewN ?_ _ | refine blk_drew ?_ | refine blk_alloc ?_ _)); exact BK278.out); (case side2 => repeat (first | exact (Kd.C_below HR0_2.out HB.out) | (with_reducible refine Kd.C_alloc ?_ _) | (with_reducible refine Kd.C_drewN ?_ _) | (with_reducible refine Kd.C_drew ?_))); (case side3 => exact HC0_2.out); (case side4 => repeat (first | exact (Kd.C_below HR0_3.out HB.out) | (with_reducible refine Kd.C_alloc ?_ _) | (with_reducible refine Kd.C_drewN ?_ _) | (with_reducible refine Kd.C_drew ?_))); (case side5 => exact HC0_3.out); rintro e w10 ⟨rfl,hb⟩; refine ⟨_,rfl,?_⟩; have n0_ := Aside0.mk (blk_below (g := gb278) (o := .cells #[.int .i64 a0_0,.int .i64 a0_1,.slice A0_2 l0_2.length c0_2,.slice A0_3 l0_3.length c0_3] 26 (0,0)) b9_8 hb); have n1_ := Aside0.mk (below_step b9_1 hb); clear BK278; clear HB; have BK278 := n0_; have HB := n1_; clear n0_ n1_; (try clear hb); (try clear hb2); (try clear hk); (try clear hi)) | (go_at_call 38; (with_reducible refine (spec_l03State.calls a1 true _ A6.out).mono ?_); rintro e w' ⟨rfl,⟨nd,rfl⟩⟩) | ((with_reducible refine gate_callee (f := 39) rfl ?_); refine goesL_ (some 18) rfl rfl Tryd.func39 (by kernel_rfl) rfl #[.pointer (some ⟨gb278,0,none⟩),.int .i64 a1,.slice A2 l2.length c2] rfl b9_3 ?_; (with_reducible refine (spec_l03Encode.calls k gb278 a0_0 a0_1 A0_2 c0_2 l0_2 A0_3 c0_3 l0_3 a1 _ _ l2 t281 t282 t283 _ ?side1 ?side2 ?side3 ?side4 ?side5 ?side6 ?side7 A8.out).mono ?_); (case side1 => exact by (with_reducible repeat (first | refine blk_drewN ?_ _ | refine blk_drew ?_ | refine blk_alloc ?_ _)); exact BK278.out); (case side2 => repeat (first | exact (Kd.C_below HR0_2.out b9_1) | (with_reducible refine Kd.C_alloc ?_ _) | (with_reducible refine Kd.C_drewN ?_ _) | (with_reducible refine Kd.C_drew ?_))); (case side3 => exact HC0_2.out); (case side4 => repeat (first | exact (Kd.C_below HR0_3.out b9_1) | (with_reducible refine Kd.C_alloc ?_ _) | (with_reducible refine Kd.C_drewN ?_ _) | (with_reducible refine Kd.C_drew ?_))); (case side5 => exact HC0_3.out); (case side6 => repeat (first | exact (Kd.C_below HR2.out b9_1) | (with_reducible refine Kd.C_alloc ?_ _) | (with_reducible refine Kd.C_drewN ?_ _) | (with_reducible refine Kd.C_drew ?_))); (case side7 => exact HC2.out); rintro e w11 ⟨rfl,hb⟩; refine ⟨_,rfl,?_⟩; have n0_ := Aside0.mk (blk_below (g := gb278) (o := .cells #[.int .i64 a0_0,.int .i64 a0_1,.slice A0_2 l0_2.length c0_2,.slice A0_3 l0_3.length c0_3] 26 (0,0)) b9_8 hb); have n1_ := Aside0.mk (below_step b9_1 hb); clear BK278; clear HB; have BK278 := n0_; have HB := n1_; clear n0_ n1_; (try clear hb); (try clear hb2); (try clear hk); (try clear hi)))
   go_ret3
   exact ⟨b9_5,b9_1⟩
  ·replace c7 := Bool.eq_false_iff.mpr c7
   subst c7
   have H1 : (some ((⟨#[]⟩ : ByteArray),0,false)) = some (r1,r2,r3) := by rw [if_neg (show ¬ (false = true) by decide)] at H; exact H
   clear H
   have H := H1
   clear H1
   simp only [Option.some.injEq,Prod.mk.injEq] at H
   obtain ⟨rfl,rfl,rfl⟩ := H
   go_enter Tryd.func17,Tryd.ntmps17
   go_wp2_with (first | ((with_reducible refine gate_dst (N := 3) rfl ?_); refine box_event ?hg (N := 3) ?hd (cs := #[.int .i64 a0_0,.int .i64 a0_1,.slice A0_2 l0_2.length c0_2,.slice A0_3 l0_3.length c0_3]) (t := 26) ?hr ?_; (case hd => rfl); (case hg => rfl); (case hr => first | (go_simp; done) | (go_simp; rfl)); intro gb278 hg w12 hbox hb; have n0_ := Aside0.mk (below_step b9_0 hb); have n1_ := Aside0.mk (hbox); have n2_ := Aside0.mk ((by rw [hg]; exact (below_size b9_0) : w.heap.size ≤ gb278)); have n3_ := Aside0.mk ((by rw [hg]; exact (below_size b9_0) : w.heap.size ≤ gb278)); clear HB; have HB := n0_; have BK278 := n1_; have GW278 := n2_; have GE278 := n3_; clear n0_ n1_ n2_ n3_; clear hb hbox hg) | ((with_reducible refine gate_callee (f := 37) rfl ?_); refine goesL_ (some 9) rfl rfl Tryd.func37 (by kernel_rfl) rfl #[.pointer (some ⟨gb278,0,none⟩)] rfl b9_3 ?_; (with_reducible refine (spec_l03Is.calls k gb278 a0_0 a0_1 A0_2 c0_2 l0_2 A0_3 c0_3 l0_3 true _ ?side1 ?side2 ?side3 ?side4 ?side5 A4.out).mono ?_); (case side1 => exact by (with_reducible repeat (first | refine blk_drewN ?_ _ | refine blk_drew ?_ | refine blk_alloc ?_ _)); exact BK278.out); (case side2 => repeat (first | exact (Kd.C_below HR0_2.out HB.out) | (with_reducible refine Kd.C_alloc ?_ _) | (with_reducible refine Kd.C_drewN ?_ _) | (with_reducible refine Kd.C_drew ?_))); (case side3 => exact HC0_2.out); (case side4 => repeat (first | exact (Kd.C_below HR0_3.out HB.out) | (with_reducible refine Kd.C_alloc ?_ _) | (with_reducible refine Kd.C_drewN ?_ _) | (with_reducible refine Kd.C_drew ?_))); (case side5 => exact HC0_3.out); rintro e w13 ⟨rfl,hb⟩; refine ⟨_,rfl,?_⟩; have n0_ := Aside0.mk (blk_below (g := gb278) (o := .cells #[.int .i64 a0_0,.int .i64 a0_1,.slice A0_2 l0_2.length c0_2,.slice A0_3 l0_3.length c0_3] 26 (0,0)) b9_8 hb); have n1_ := Aside0.mk (below_step b9_1 hb); clear BK278; clear HB; have BK278 := n0_; have HB := n1_; clear n0_ n1_; (try clear hb); (try clear hb2); (try clear hk); (try clear hi)) | (go_at_call 38; (with_reducible refine (spec_l03State.calls a1 false _ A6.out).mono ?_); rintro e w' ⟨rfl,⟨nd,rfl⟩⟩))
   go_ret3
   exact ⟨b9_5,b9_1⟩
 ·replace c5 := Bool.eq_false_iff.mpr c5
  subst c5
  have H1 : (some ((⟨#[]⟩ : ByteArray),0,false)) = some (r1,r2,r3) := by rw [if_neg (show ¬ (false = true) by decide)] at H; exact H
  clear H
  have H := H1
  clear H1
  simp only [Option.some.injEq,Prod.mk.injEq] at H
  obtain ⟨rfl,rfl,rfl⟩ := H
  go_enter Tryd.func17,Tryd.ntmps17
  go_wp2_with (first | ((with_reducible refine gate_dst (N := 3) rfl ?_); refine box_event ?hg (N := 3) ?hd (cs := #[.int .i64 a0_0,.int .i64 a0_1,.slice A0_2 l0_2.length c0_2,.slice A0_3 l0_3.length c0_3]) (t := 26) ?hr ?_; (case hd => rfl); (case hg => rfl); (case hr => first | (go_simp; done) | (go_simp; rfl)); intro gb278 hg w14 hbox hb; have n0_ := Aside0.mk (below_step b9_0 hb); have n1_ := Aside0.mk (hbox); have n2_ := Aside0.mk ((by rw [hg]; exact (below_size b9_0) : w.heap.size ≤ gb278)); have n3_ := Aside0.mk ((by rw [hg]; exact (below_size b9_0) : w.heap.size ≤ gb278)); clear HB; have HB := n0_; have BK278 := n1_; have GW278 := n2_; have GE278 := n3_; clear n0_ n1_ n2_ n3_; clear hb hbox hg) | ((with_reducible refine gate_callee (f := 37) rfl ?_); refine goesL_ (some 9) rfl rfl Tryd.func37 (by kernel_rfl) rfl #[.pointer (some ⟨gb278,0,none⟩)] rfl b9_3 ?_; (with_reducible refine (spec_l03Is.calls k gb278 a0_0 a0_1 A0_2 c0_2 l0_2 A0_3 c0_3 l0_3 false _ ?side1 ?side2 ?side3 ?side4 ?side5 A4.out).mono ?_); (case side1 => exact by (with_reducible repeat (first | refine blk_drewN ?_ _ | refine blk_drew ?_ | refine blk_alloc ?_ _)); exact BK278.out); (case side2 => repeat (first | exact (Kd.C_below HR0_2.out HB.out) | (with_reducible refine Kd.C_alloc ?_ _) | (with_reducible refine Kd.C_drewN ?_ _) | (with_reducible refine Kd.C_drew ?_))); (case side3 => exact HC0_2.out); (case side4 => repeat (first | exact (Kd.C_below HR0_3.out HB.out) | (with_reducible refine Kd.C_alloc ?_ _) | (with_reducible refine Kd.C_drewN ?_ _) | (with_reducible refine Kd.C_drew ?_))); (case side5 => exact HC0_3.out); rintro e w15 ⟨rfl,hb⟩; refine ⟨_,rfl,?_⟩; have n0_ := Aside0.mk (blk_below (g := gb278) (o := .cells #[.int .i64 a0_0,.int .i64 a0_1,.slice A0_2 l0_2.length c0_2,.slice A0_3 l0_3.length c0_3] 26 (0,0)) b9_8 hb); have n1_ := Aside0.mk (below_step b9_1 hb); clear BK278; clear HB; have BK278 := n0_; have HB := n1_; clear n0_ n1_; (try clear hb); (try clear hb2); (try clear hk); (try clear hi)))
  go_ret3
  exact ⟨b9_5,b9_1⟩

/-! ### slices_Index_string_string: function 30 -/
def slices_Index_string_string.l0 : Nat → List ByteArray → ByteArray → Int → Int → Option (Int)
 | 0,_,_,_,_ => none
 | k + 1,x0,x1,x7,x8 => if x8 < x7 then (if 0 ≤ x8 then (if x8 < (x0.length : Int) then (if x1.toList = (rdOf ByteArray.empty x0 x8).toList then (some x8) else (slices_Index_string_string.l0 k x0 x1 x7 (wrap64 (x8 + 1)))) else (none)) else (none)) else (some (-1))
def slices_Index_string_string.f (k : Nat) (l0 : List ByteArray) (a1 : ByteArray) : Option (Int) := slices_Index_string_string.l0 k l0 a1 (l0.length : Int) 0
set_option maxHeartbeats 8000000 in
set_option maxRecDepth 100000 in
theorem slices_Index_string_string.calls (k : Nat) (A0 : Option Addr) (c0 : Nat) (l0 : List ByteArray) (a1 : ByteArray) (r : Int) (w : World) (hr0 : Kd.C Kd.string w A0 l0.length l0) (hc0 : l0.length ≤ c0) (h : slices_Index_string_string.f k l0 a1 = some r) :
  Calls Tryd.prog 30 #[.slice A0 l0.length c0,.string a1] w fun e w' => e = .returned (.int .i64 r) ∧ Drawn0 w w' := by
 have HR0 := Aside0.mk hr0
 have HC0 := Aside0.mk hc0
 clear hr0 hc0
 have H : (slices_Index_string_string.l0 k l0 a1 (l0.length : Int) 0) = some r := h
 clear h
 have H' := Aside0.mk H
 clear H
 go_enter Tryd.func30,Tryd.ntmps30
 go_wp2
 go_loopg [8] k (fun kq v8 w' => ∃ (x8_1 : Int),v8 = .int .i64 x8_1 ∧ Aside0 (slices_Index_string_string.l0 kq l0 a1 (l0.length : Int) x8_1 = some r) ∧ Aside0 (kq ≤ k) ∧ Drawn0 w w')
 case atStart => exact ⟨(0),b9_6,H',⟨Nat.le_refl _⟩,b9_7⟩
 case round =>
  clear H'
  (try clear p2)
  obtain ⟨x8_1,rfl,HA,HK1,⟨m1,rfl⟩⟩ := hrel
  cases gk with
  | zero => exact absurd HA.out (by simp [slices_Index_string_string.l0])
  | succ k1 =>
   have H := HA.out
   clear HA
   simp only [slices_Index_string_string.l0] at H
   by_cases c3 : x8_1 < (l0.length : Int)
   ·rw [if_pos c3] at H
    have c3b0 : decide (x8_1 < (l0.length : Int)) = true := decide_eq_true c3
    clear c3
    by_cases c4 : 0 ≤ x8_1
    ·rw [if_pos c4] at H
     have c4b0 : decide (0 ≤ x8_1) = true := decide_eq_true c4
     clear c4
     by_cases c5 : x8_1 < (l0.length : Int)
     ·rw [if_pos c5] at H
      have c5b0 : decide (x8_1 < (l0.length : Int)) = true := decide_eq_true c5
      clear c5
      by_cases c6 : a1.toList = (rdOf ByteArray.empty l0 x8_1).toList
      ·rw [if_pos c6] at H
       have c6b0 : (a1.toList == (rdOf ByteArray.empty l0 x8_1).toList) = true := beq_iff_eq.mpr c6
       have c6b1 : (a1.toList != (rdOf ByteArray.empty l0 x8_1).toList) = false := bne_eq_false_iff_eq.mpr c6
       clear c6
       obtain rfl := Option.some.inj H
       have p284 : 0 ≤ (x8_1 : Int) := of_decide_eq_true b9_10
       have q284 : x8_1 < (l0.length : Int) := of_decide_eq_true b9_10
       obtain ⟨ad284,e284,hx284_0⟩ := Kd.at_string HR0.out x8_1 p284 q284
       cases e284
       replace p284 := eq_true p284
       replace q284 := eq_true q284
       go_wp2
       go_ret
       exact ⟨b9_6,b9_7⟩
      ·rw [if_neg c6] at H
       have c6b0 : (a1.toList == (rdOf ByteArray.empty l0 x8_1).toList) = false := beq_eq_false_iff_ne.mpr c6
       have c6b1 : (a1.toList != (rdOf ByteArray.empty l0 x8_1).toList) = true := bne_iff_ne.mpr c6
       have H' := Aside0.mk H
       clear H
       have p284 : 0 ≤ (x8_1 : Int) := of_decide_eq_true b9_10
       have q284 : x8_1 < (l0.length : Int) := of_decide_eq_true b9_10
       obtain ⟨ad284,e284,hx284_0⟩ := Kd.at_string HR0.out x8_1 p284 q284
       cases e284
       replace p284 := eq_true p284
       replace q284 := eq_true q284
       go_wp2
       go_roundg k1
       case measure => have := HK1.out; omega
       case rel => exact ⟨(wrap64 (x8_1 + 1)),b9_6,H',⟨by have := HK1.out; omega⟩,b9_7⟩
     ·rw [if_neg c5] at H
      exact absurd H (by simp)
    ·rw [if_neg c4] at H
     exact absurd H (by simp)
   ·rw [if_neg c3] at H
    have c3b0 : decide (x8_1 < (l0.length : Int)) = false := decide_eq_false c3
    clear c3
    obtain rfl := Option.some.inj H
    go_wp2
    go_ret
    exact ⟨b9_6,b9_7⟩

/-! ### impl_within: function 40 -/
def impl_within.f (a0 : Int) (a1 : Int) (a2 : Int) : Option (Bool) := if a0 ≥ a1 then (some (decide (a0 ≤ a2))) else (some false)
set_option maxHeartbeats 8000000 in
set_option maxRecDepth 100000 in
theorem impl_within.calls (a0 : Int) (a1 : Int) (a2 : Int) (r : Bool) (w : World) (h : impl_within.f a0 a1 a2 = some r) :
  Calls Tryd.prog 40 #[.int .i64 a0,.int .i64 a1,.int .i64 a2] w fun e w' => e = .returned (.bool r) ∧ Drawn0 w w' := by
 have H : (if a0 ≥ a1 then (some (decide (a0 ≤ a2))) else (some false)) = some r := h
 clear h
 by_cases c4 : a0 ≥ a1
 ·rw [if_pos c4] at H
  have c4b0 : decide (a1 ≤ a0) = true := decide_eq_true c4
  clear c4
  obtain rfl := Option.some.inj H
  go_enter Tryd.func40,Tryd.ntmps40
  go_wp2
  go_ret
  exact ⟨b9_6,b9_7⟩
 ·rw [if_neg c4] at H
  have c4b0 : decide (a1 ≤ a0) = false := decide_eq_false c4
  clear c4
  obtain rfl := Option.some.inj H
  go_enter Tryd.func40,Tryd.ntmps40
  go_wp2
  go_ret
  exact ⟨b9_6,b9_7⟩

/-! ### impl_isData: function 34 -/
def impl_isData.f (a0 : Int) : Option (Bool) := (impl_within.f a0 1 6).bind fun t285 => (some t285)
set_option maxHeartbeats 8000000 in
set_option maxRecDepth 100000 in
theorem impl_isData.calls (a0 : Int) (r : Bool) (w : World) (h : impl_isData.f a0 = some r) :
  Calls Tryd.prog 34 #[.int .i64 a0] w fun e w' => e = .returned (.bool r) ∧ Drawn0 w w' := by
 have H : ((impl_within.f a0 1 6).bind fun t285 => (some t285)) = some r := h
 clear h
 replace H := Option.bind_eq_some_iff.mp H
 obtain ⟨t285,A20,H⟩ := H
 replace H : (some t285) = some r := H
 have A2 := Aside0.mk A20
 clear A20
 obtain rfl := Option.some.inj H
 go_enter Tryd.func34,Tryd.ntmps34
 go_wp2_with (first | ((with_reducible refine gate_callee (f := 40) rfl ?_); refine goesL_ (some 4) rfl rfl Tryd.func40 (by kernel_rfl) rfl #[.int .i64 a0,.int .i64 1,.int .i64 6] rfl b9_3 ?_; (with_reducible refine (impl_within.calls a0 1 6 t285 _ A2.out).mono ?_); rintro e w' ⟨rfl,⟨nd,rfl⟩⟩; refine ⟨_,rfl,?_⟩))
 go_ret
 exact ⟨b9_6,b9_7⟩

/-! ### impl_isWidth: function 35 -/
def impl_isWidth.f (a0 : Int) : Option (Bool) := (impl_within.f a0 2 12).bind fun t286 => (if t286 = true then (some ((Int.tmod a0 2) == 0)) else (some false))
set_option maxHeartbeats 8000000 in
set_option maxRecDepth 100000 in
theorem impl_isWidth.calls (a0 : Int) (r : Bool) (w : World) (h : impl_isWidth.f a0 = some r) :
  Calls Tryd.prog 35 #[.int .i64 a0] w fun e w' => e = .returned (.bool r) ∧ Drawn0 w w' := by
 have H : ((impl_within.f a0 2 12).bind fun t286 => (if t286 = true then (some ((Int.tmod a0 2) == 0)) else (some false))) = some r := h
 clear h
 replace H := Option.bind_eq_some_iff.mp H
 obtain ⟨t286,A20,H⟩ := H
 replace H : (if t286 = true then (some ((Int.tmod a0 2) == 0)) else (some false)) = some r := H
 have A2 := Aside0.mk A20
 clear A20
 by_cases c3 : t286 = true
 ·subst c3
  have H1 : (some ((Int.tmod a0 2) == 0)) = some r := by rw [if_pos rfl] at H; exact H
  clear H
  have H := H1
  clear H1
  obtain rfl := Option.some.inj H
  go_enter Tryd.func35,Tryd.ntmps35
  go_wp2_with (first | ((with_reducible refine gate_callee (f := 40) rfl ?_); refine goesL_ (some 4) rfl rfl Tryd.func40 (by kernel_rfl) rfl #[.int .i64 a0,.int .i64 2,.int .i64 12] rfl b9_3 ?_; (with_reducible refine (impl_within.calls a0 2 12 true _ A2.out).mono ?_); rintro e w' ⟨rfl,⟨nd,rfl⟩⟩; refine ⟨_,rfl,?_⟩))
  go_ret
  exact ⟨b9_6,b9_7⟩
 ·replace c3 := Bool.eq_false_iff.mpr c3
  subst c3
  have H1 : (some false) = some r := by rw [if_neg (show ¬ (false = true) by decide)] at H; exact H
  clear H
  have H := H1
  clear H1
  obtain rfl := Option.some.inj H
  go_enter Tryd.func35,Tryd.ntmps35
  go_wp2_with (first | ((with_reducible refine gate_callee (f := 40) rfl ?_); refine goesL_ (some 4) rfl rfl Tryd.func40 (by kernel_rfl) rfl #[.int .i64 a0,.int .i64 2,.int .i64 12] rfl b9_3 ?_; (with_reducible refine (impl_within.calls a0 2 12 false _ A2.out).mono ?_); rintro e w' ⟨rfl,⟨nd,rfl⟩⟩; refine ⟨_,rfl,?_⟩))
  go_ret
  exact ⟨b9_6,b9_7⟩

/-! ### strings_Count: function 51 -/
/-- Of the text "1": all that this program asks.  -/
def strings_Count.f (a0 : ByteArray) (a1 : ByteArray) : Option (Int) := if a1 = ⟨#[49]⟩ then some (Lib.countByte a0.data.toList 49) else none
theorem strings_Count.calls (a0 : ByteArray) (a1 : ByteArray) (r : Int) (w : World) (h : strings_Count.f a0 a1 = some r) :
  Calls Tryd.prog 51 #[.string a0,.string a1] w fun e w' => e = .returned (.int .i64 r) ∧ Drawn0 w w' := by
 unfold strings_Count.f at h
 by_cases c : a1 = ⟨#[49]⟩
 ·rw [if_pos c] at h
  obtain rfl := c
  obtain rfl := Option.some.inj h
  refine (Any.strings_Count_one Tryd.lays138 a0 49 w).mono ?_
  rintro e w' ⟨rfl,rfl⟩
  exact ⟨rfl,⟨⟨0,rfl⟩⟩⟩
 ·rw [if_neg c] at h; cases h

/-! ### impl_disparity: function 31 -/
def impl_disparity.f (a0 : ByteArray) : Option (Int) := (strings_Count.f a0 (⟨#[49]⟩ : ByteArray)).bind fun t287 => (some (wrap64 ((wrap64 (2 * t287)) - (a0.size : Int))))
set_option maxHeartbeats 8000000 in
set_option maxRecDepth 100000 in
theorem impl_disparity.calls (a0 : ByteArray) (r : Int) (w : World) (h : impl_disparity.f a0 = some r) :
  Calls Tryd.prog 31 #[.string a0] w fun e w' => e = .returned (.int .i64 r) ∧ Drawn0 w w' := by
 have H : ((strings_Count.f a0 (⟨#[49]⟩ : ByteArray)).bind fun t287 => (some (wrap64 ((wrap64 (2 * t287)) - (a0.size : Int))))) = some r := h
 clear h
 replace H := Option.bind_eq_some_iff.mp H
 obtain ⟨t287,A20,H⟩ := H
 replace H : (some (wrap64 ((wrap64 (2 * t287)) - (a0.size : Int)))) = some r := H
 have A2 := Aside0.mk A20
 clear A20
 obtain rfl := Option.some.inj H
 go_enter Tryd.func31,Tryd.ntmps31
 go_wp2_with (first | ((with_reducible refine gate_callee (f := 51) rfl ?_); refine goesL_ (some 4) rfl rfl Tryd.func51 (by kernel_rfl) rfl #[.string a0,.string (⟨#[49]⟩ : ByteArray)] rfl b9_3 ?_; (with_reducible refine (strings_Count.calls a0 (⟨#[49]⟩ : ByteArray) t287 _ A2.out).mono ?_); rintro e w' ⟨rfl,⟨nd,rfl⟩⟩; refine ⟨_,rfl,?_⟩))
 go_ret
 exact ⟨b9_6,b9_7⟩

/-! ### strings_Trim: function 56 -/
/-- The cutset "01": all that this program asks. -/
def strings_Trim.f (a0 : ByteArray) (a1 : ByteArray) : Option (ByteArray) := if a1 = ⟨#[48,49]⟩ ∧ a0.size ≤ 9223372036854775807 then some ⟨(Lib.trimS a0.data.toList [48,49]).toArray⟩ else none
theorem strings_Trim.calls (a0 : ByteArray) (a1 : ByteArray) (r : ByteArray) (w : World) (h : strings_Trim.f a0 a1 = some r) :
  Calls Tryd.prog 56 #[.string a0,.string a1] w fun e w' => e = .returned (.string r) ∧ Below w.heap.size w w' := by
 unfold strings_Trim.f at h
 by_cases c : a1 = ⟨#[48,49]⟩ ∧ a0.size ≤ 9223372036854775807
 ·rw [if_pos c] at h
  obtain ⟨rfl,hs⟩ := c
  obtain rfl := Option.some.inj h
  exact Any.strings_Trim_laid Tryd.lays160 (by kernel_rfl) a0 ⟨#[48,49]⟩ w hs (by decide) (ascii_of_all (by decide))
 ·rw [if_neg c] at h; cases h

/-! ### impl_areBits: function 45 -/
def impl_areBits.f (a0 : ByteArray) : Option (Bool) := (strings_Trim.f a0 (⟨#[48,49]⟩ : ByteArray)).bind fun t288 => (some (t288.toList == ([] : List UInt8)))
set_option maxHeartbeats 8000000 in
set_option maxRecDepth 100000 in
theorem impl_areBits.calls (a0 : ByteArray) (r : Bool) (w : World) (h : impl_areBits.f a0 = some r) :
  Calls Tryd.prog 45 #[.string a0] w fun e w' => e = .returned (.bool r) ∧ Below w.heap.size w w' := by
 have HB := Aside0.mk (Below.refl w.heap.size w)
 have H : ((strings_Trim.f a0 (⟨#[48,49]⟩ : ByteArray)).bind fun t288 => (some (t288.toList == ([] : List UInt8)))) = some r := h
 clear h
 replace H := Option.bind_eq_some_iff.mp H
 obtain ⟨t288,A20,H⟩ := H
 replace H : (some (t288.toList == ([] : List UInt8))) = some r := H
 have A2 := Aside0.mk A20
 clear A20
 obtain rfl := Option.some.inj H
 go_enter Tryd.func45,Tryd.ntmps45
 go_wp2_with (first | ((with_reducible refine gate_callee (f := 56) rfl ?_); refine goesL_ (some 4) rfl rfl Tryd.func56 (by kernel_rfl) rfl #[.string a0,.string (⟨#[48,49]⟩ : ByteArray)] rfl b9_3 ?_; (with_reducible refine (strings_Trim.calls a0 (⟨#[48,49]⟩ : ByteArray) t288 _ A2.out).mono ?_); rintro e w3 ⟨rfl,hb⟩; refine ⟨_,rfl,?_⟩; have n0_ := Aside0.mk (below_step b9_0 hb); clear HB; have HB := n0_; clear n0_; (try clear hb); (try clear hb2); (try clear hk); (try clear hi)))
 go_ret
 exact ⟨b9_5,b9_0⟩

/-! ### impl_BlockCode_areWords: function 36 -/
/-!  -/
/-- The words that have been seen,as a set of values. -/
def impl_BlockCode_areWords.inS (seen : List (List UInt8)) : Value → Bool
 | .string s => decide (s.data.toList ∈ seen)
 | _ => false
def impl_BlockCode_areWords.l0 : Nat → Int → List ByteArray → Int → List (List UInt8) → Int → Option Bool
 | 0,_,_,_,_,_ => none
 | k + 1,c1,ws,o,seen,x => if x < (ws.length : Int) then (if 0 ≤ x then (if (rdOf ByteArray.empty ws x).size ≤ 1048576 then ((impl_disparity.f (rdOf ByteArray.empty ws x)).bind fun d => (if ((rdOf ByteArray.empty ws x).size : Int) = c1 then ((impl_areBits.f (rdOf ByteArray.empty ws x)).bind fun b => (if b = true then (if d = 0 ∨ d = o then (if (rdOf ByteArray.empty ws x).data.toList ∈ seen then some false else (if seen.length < 1000000 then impl_BlockCode_areWords.l0 k c1 ws o ((rdOf ByteArray.empty ws x).data.toList :: seen) (wrap64 (x + 1)) else none)) else some false) else some false)) else some false)) else none) else none) else some true
def impl_BlockCode_areWords.f (k : Nat) (a0_0 a0_1 : Int) (l0_2 l0_3 : List ByteArray) (l1 : List ByteArray) (a2 : Int) : Option Bool := if 0 ≤ a0_0 then (if (l1.length : Int) = wrap64 (2 ^ min a0_0.toNat 64) then impl_BlockCode_areWords.l0 k a0_1 l1 a2 [] 0 else some false) else none
theorem impl_BlockCode_areWords.below_step_grown {w W W' : World} {g : Nat} (h : Below w.heap.size w W) (hg : W.grownBy W' (some g)) (hge : w.heap.size ≤ g) : Below w.heap.size w W' :=
 h.grown hg h.size (fun k hk => by injection hk with hk; omega)
theorem impl_BlockCode_areWords.set_go {seen : List (List UInt8)} {s : ByteArray} : ∀ u,u ≠ Value.string s → impl_BlockCode_areWords.inS (s.data.toList :: seen) u = impl_BlockCode_areWords.inS seen u := by
 intro u hu
 cases u <;> try rfl
 rename_i t
 have ht : t.data.toList ≠ s.data.toList := fun e => hu (by rw [ByteArray.ext (Array.toList_inj.1 e)])
 show decide (t.data.toList ∈ s.data.toList :: seen) = decide (t.data.toList ∈ seen)
 simp [ht]
set_option maxHeartbeats 8000000 in
set_option maxRecDepth 100000 in
theorem impl_BlockCode_areWords.calls (k : Nat) (a0_0 : Int) (a0_1 : Int) (A0_2 : Option Addr) (c0_2 : Nat) (l0_2 : List ByteArray) (A0_3 : Option Addr) (c0_3 : Nat) (l0_3 : List ByteArray) (A1 : Option Addr) (c1 : Nat) (l1 : List ByteArray) (a2 : Int) (r : Bool) (w : World) (hr0_2 : Kd.C Kd.string w A0_2 l0_2.length l0_2) (hc0_2 : l0_2.length ≤ c0_2) (hr0_3 : Kd.C Kd.string w A0_3 l0_3.length l0_3) (hc0_3 : l0_3.length ≤ c0_3) (hr1 : Kd.C Kd.string w A1 l1.length l1) (hc1 : l1.length ≤ c1) (h : impl_BlockCode_areWords.f k a0_0 a0_1 l0_2 l0_3 l1 a2 = some r) :
  Calls Tryd.prog 36 #[.agg #[.int .i64 a0_0,.int .i64 a0_1,.slice A0_2 l0_2.length c0_2,.slice A0_3 l0_3.length c0_3],.slice A1 l1.length c1,.int .i64 a2] w fun e w' => e = .returned (.bool r) ∧ Below w.heap.size w w' := by
 have HR1 := Aside0.mk hr1
 clear hr0_2 hc0_2 hr0_3 hc0_3 hr1
 have hu30 := Tryd.underlying26
 have hu69 := Tryd.underlying74
 have HB := Aside0.mk (Below.refl w.heap.size w)
 have hmm := @run_makeMap Tryd.prog
 unfold impl_BlockCode_areWords.f at h
 by_cases d0 : 0 ≤ a0_0
 ·rw [if_pos d0] at h
  have d0b : decide (0 ≤ a0_0) = true := decide_eq_true d0
  by_cases d1 : (l1.length : Int) = wrap64 (2 ^ min a0_0.toNat 64)
  ·rw [if_pos d1] at h
   have H' := Aside0.mk h
   clear h
   have d1b : ((l1.length : Int) != wrap64 (2 ^ min a0_0.toNat 64)) = false := by simp [d1]
   clear d1
   go_enter Tryd.func36,Tryd.ntmps36
   go_wp2_with (first | ((with_reducible refine gate_dst (N := 3) rfl ?_); refine box_event ?hg (N := 3) ?hd (cs := #[.int .i64 a0_0,.int .i64 a0_1,.slice A0_2 l0_2.length c0_2,.slice A0_3 l0_3.length c0_3]) (t := 26) ?hr ?_; (case hd => rfl); (case hg => rfl); (case hr => first | (go_simp; done) | (go_simp; rfl)); intro g1 hg w1 hbox hb; have n0_ := Aside0.mk (below_step b9_0 hb); clear HB; have HB := n0_; clear n0_ hb hg; have BK := Aside0.mk hbox; clear hbox; have hcz0 : w1.cell? ⟨g1,0,none⟩ = some (.int .i64 a0_0) := (blk_cell BK.out 0).trans rfl; have hcz1 : w1.cell? ⟨g1,1,none⟩ = some (.int .i64 a0_1) := (blk_cell BK.out 1).trans rfl; have hfz0 := blk_frozen BK.out 0))
   have GM := Aside0.mk (show w.heap.size ≤ w1.heap.size from HB.out.size)
   have GL := Aside0.mk (blk_lt BK.out)
   have e0 : inS [] = fun _ => false := by funext u; cases u <;> rfl
   have HS := Aside0.mk (show MSet.SetIs (w1.alloc (.map #[] 0)) Tryd.prog 9 4 w1.heap.size ([] : List (List UInt8)).length (inS []) from by rw [e0]; exact MSet.SetIs.made w1 Tryd.prog 9 4)
   have n0_ := Aside0.mk (below_alloc HB.out (.map #[] 0))
   have n1_ := Aside0.mk (show (w1.alloc (.map #[] 0)).heap[g1]? = some (.cells #[.int .i64 a0_0,.int .i64 a0_1,.slice A0_2 l0_2.length c0_2,.slice A0_3 l0_3.length c0_3] 26 (0,0)) from blk_alloc BK.out _)
   clear HB BK
   have HB := n0_
   have BK := n1_
   clear n0_ n1_ e0
   go_loopg [20] k (fun kq v20 w' => ∃ (seen : List (List UInt8)) (x : Int),v20 = .int .i64 x ∧ Aside0 (impl_BlockCode_areWords.l0 kq a0_1 l1 a2 seen x = some r) ∧ Aside0 (kq ≤ k) ∧ Aside0 (MSet.SetIs w' Tryd.prog 9 4 w1.heap.size seen.length (inS seen)) ∧ Aside0 (Below w.heap.size w w') ∧ Aside0 (w'.heap[g1]? = some (.cells #[.int .i64 a0_0,.int .i64 a0_1,.slice A0_2 l0_2.length c0_2,.slice A0_3 l0_3.length c0_3] 26 (0,0))))
   case atStart => exact ⟨[],0,rfl,H',⟨Nat.le_refl _⟩,HS,HB,BK⟩
   case round =>
    clear H' HS HB BK hcz0 hcz1 hfz0
    obtain ⟨seen,x,rfl,HA,HK1,HS,HB,BK⟩ := hrel
    cases gk with
    | zero => exact absurd HA.out (by simp [impl_BlockCode_areWords.l0])
    | succ k1 =>
     have H := HA.out
     clear HA
     simp only [impl_BlockCode_areWords.l0] at H
     by_cases c5 : x < (l1.length : Int)
     ·rw [if_pos c5] at H
      have c5b0 : decide (x < (l1.length : Int)) = true := decide_eq_true c5
      by_cases c6 : 0 ≤ x
      ·rw [if_pos c6] at H
       have c6b0 : decide (0 ≤ x) = true := decide_eq_true c6
       obtain ⟨ad1,e2,hx1⟩ := Kd.at_string (Kd.C_below HR1.out HB.out) x c6 c5
       cases e2
       generalize rdOf ByteArray.empty l1 x = s at H hx1
       have p7 := eq_true c6
       have q7 := eq_true c5
       clear c5 c6
       have hcz1 : wr.cell? ⟨g1,1,none⟩ = some (.int .i64 a0_1) := (blk_cell BK.out 1).trans rfl
       have hfz1 := blk_frozen BK.out 1
       by_cases c12 : s.size ≤ 1048576
       ·rw [if_pos c12] at H
        have SZ := Aside0.mk (show s.size ≤ maxLen by unfold maxLen; omega)
        clear c12
        obtain ⟨d,e1,H⟩ := Option.bind_eq_some_iff.mp H
        have AD := Aside0.mk e1
        clear e1
        by_cases c7 : (s.size : Int) = a0_1
        ·rw [if_pos c7] at H
         have c7b : ((s.size : Int) != a0_1) = false := by simp [c7]
         clear c7
         obtain ⟨b,e1,H⟩ := Option.bind_eq_some_iff.mp H
         have AB := Aside0.mk e1
         clear e1
         cases b with
         | false =>
          rw [if_neg (by decide)] at H
          obtain rfl := Option.some.inj H
          go_wp2_with (first | ((with_reducible refine gate_callee (f := 31) rfl ?_); refine goesL_ (some 25) rfl rfl Tryd.func31 (by kernel_rfl) rfl #[.string s] rfl b9_2 ?_; (with_reducible refine (impl_disparity.calls s d _ AD.out).mono ?_); rintro e w' ⟨rfl,⟨nd,rfl⟩⟩; refine ⟨_,rfl,?_⟩) | ((with_reducible refine gate_callee (f := 45) rfl ?_); refine gate_guard (by rfl) ?_; dsimp only; refine goesL_ (some 33) rfl rfl Tryd.func45 (by kernel_rfl) rfl #[.string s] rfl b9_2 ?_; (with_reducible refine (impl_areBits.calls s _ _ AB.out).mono ?_); rintro e w3 ⟨rfl,hb⟩; refine ⟨_,rfl,?_⟩; have n0_ := Aside0.mk (below_step b9_0 hb); have n1_ := Aside0.mk (blk_below (g := g1) (o := .cells #[.int .i64 a0_0,.int .i64 a0_1,.slice A0_2 l0_2.length c0_2,.slice A0_3 l0_3.length c0_3] 26 (0,0)) b9_4 hb); have n2_ := Aside0.mk (MSet.SetIs.below b9_9 hb); clear HB BK HS; have HB := n0_; have BK := n1_; have HS := n2_; clear n0_ n1_ n2_ hb))
          go_ret
          exact ⟨b9_5,b9_0⟩
         | true =>
          rw [if_pos rfl] at H
          by_cases c8 : d = 0 ∨ d = a2
          ·rw [if_pos c8] at H
           by_cases c9 : s.data.toList ∈ seen
           ·rw [if_pos c9] at H
            obtain rfl := Option.some.inj H
            have hseen : inS seen (.string s) = true := decide_eq_true c9
            clear c9
            rcases c8 with c8 | c8
            ·have e8 : (d != 0) = false := by simp [c8]
             clear c8
             go_wp2_with (first | ((with_reducible refine gate_callee (f := 31) rfl ?_); refine goesL_ (some 25) rfl rfl Tryd.func31 (by kernel_rfl) rfl #[.string s] rfl b9_2 ?_; (with_reducible refine (impl_disparity.calls s d _ AD.out).mono ?_); rintro e w' ⟨rfl,⟨nd,rfl⟩⟩; refine ⟨_,rfl,?_⟩) | ((with_reducible refine gate_callee (f := 45) rfl ?_); refine gate_guard (by rfl) ?_; dsimp only; refine goesL_ (some 33) rfl rfl Tryd.func45 (by kernel_rfl) rfl #[.string s] rfl b9_2 ?_; (with_reducible refine (impl_areBits.calls s _ _ AB.out).mono ?_); rintro e w3 ⟨rfl,hb⟩; refine ⟨_,rfl,?_⟩; have n0_ := Aside0.mk (below_step b9_0 hb); have n1_ := Aside0.mk (blk_below (g := g1) (o := .cells #[.int .i64 a0_0,.int .i64 a0_1,.slice A0_2 l0_2.length c0_2,.slice A0_3 l0_3.length c0_3] 26 (0,0)) b9_4 hb); have n2_ := Aside0.mk (MSet.SetIs.below b9_9 hb); clear HB BK HS; have HB := n0_; have BK := n1_; have HS := n2_; clear n0_ n1_ n2_ hb) | ((with_reducible refine gate_dst (N := 48) rfl ?_); refine gate_guard (by rfl) ?_; dsimp only; refine MSet.wpList_seen _ rfl (.tmp 46) (.tmp 47) 74 rfl 9 4 (Maps.string_keyed Tryd.underlying9) hu69 Tryd.underlying4 (Tryd.zeroValue4 _) w1.heap.size seen.length (inS seen) rfl HS.out (.string s) (.string s.data.toList) rfl (WideMaps.keyOf_string_mk Tryd.underlying9 SZ.out) ?_; rw [hseen]))
             go_ret
             exact ⟨b9_5,b9_0⟩
            ·by_cases c10 : d = 0
             ·have e8 : (d != 0) = false := by simp [c10]
              clear c8 c10
              go_wp2_with (first | ((with_reducible refine gate_callee (f := 31) rfl ?_); refine goesL_ (some 25) rfl rfl Tryd.func31 (by kernel_rfl) rfl #[.string s] rfl b9_2 ?_; (with_reducible refine (impl_disparity.calls s d _ AD.out).mono ?_); rintro e w' ⟨rfl,⟨nd,rfl⟩⟩; refine ⟨_,rfl,?_⟩) | ((with_reducible refine gate_callee (f := 45) rfl ?_); refine gate_guard (by rfl) ?_; dsimp only; refine goesL_ (some 33) rfl rfl Tryd.func45 (by kernel_rfl) rfl #[.string s] rfl b9_2 ?_; (with_reducible refine (impl_areBits.calls s _ _ AB.out).mono ?_); rintro e w3 ⟨rfl,hb⟩; refine ⟨_,rfl,?_⟩; have n0_ := Aside0.mk (below_step b9_0 hb); have n1_ := Aside0.mk (blk_below (g := g1) (o := .cells #[.int .i64 a0_0,.int .i64 a0_1,.slice A0_2 l0_2.length c0_2,.slice A0_3 l0_3.length c0_3] 26 (0,0)) b9_4 hb); have n2_ := Aside0.mk (MSet.SetIs.below b9_9 hb); clear HB BK HS; have HB := n0_; have BK := n1_; have HS := n2_; clear n0_ n1_ n2_ hb) | ((with_reducible refine gate_dst (N := 48) rfl ?_); refine gate_guard (by rfl) ?_; dsimp only; refine MSet.wpList_seen _ rfl (.tmp 46) (.tmp 47) 74 rfl 9 4 (Maps.string_keyed Tryd.underlying9) hu69 Tryd.underlying4 (Tryd.zeroValue4 _) w1.heap.size seen.length (inS seen) rfl HS.out (.string s) (.string s.data.toList) rfl (WideMaps.keyOf_string_mk Tryd.underlying9 SZ.out) ?_; rw [hseen]))
              go_ret
              exact ⟨b9_5,b9_0⟩
             ·have e8 : (d != 0) = true := by simp [c10]
              have e9 : (d != a2) = false := by simp [c8]
              clear c8 c10
              go_wp2_with (first | ((with_reducible refine gate_callee (f := 31) rfl ?_); refine goesL_ (some 25) rfl rfl Tryd.func31 (by kernel_rfl) rfl #[.string s] rfl b9_2 ?_; (with_reducible refine (impl_disparity.calls s d _ AD.out).mono ?_); rintro e w' ⟨rfl,⟨nd,rfl⟩⟩; refine ⟨_,rfl,?_⟩) | ((with_reducible refine gate_callee (f := 45) rfl ?_); refine gate_guard (by rfl) ?_; dsimp only; refine goesL_ (some 33) rfl rfl Tryd.func45 (by kernel_rfl) rfl #[.string s] rfl b9_2 ?_; (with_reducible refine (impl_areBits.calls s _ _ AB.out).mono ?_); rintro e w3 ⟨rfl,hb⟩; refine ⟨_,rfl,?_⟩; have n0_ := Aside0.mk (below_step b9_0 hb); have n1_ := Aside0.mk (blk_below (g := g1) (o := .cells #[.int .i64 a0_0,.int .i64 a0_1,.slice A0_2 l0_2.length c0_2,.slice A0_3 l0_3.length c0_3] 26 (0,0)) b9_4 hb); have n2_ := Aside0.mk (MSet.SetIs.below b9_9 hb); clear HB BK HS; have HB := n0_; have BK := n1_; have HS := n2_; clear n0_ n1_ n2_ hb) | ((with_reducible refine gate_dst (N := 48) rfl ?_); refine gate_guard (by rfl) ?_; dsimp only; refine MSet.wpList_seen _ rfl (.tmp 46) (.tmp 47) 74 rfl 9 4 (Maps.string_keyed Tryd.underlying9) hu69 Tryd.underlying4 (Tryd.zeroValue4 _) w1.heap.size seen.length (inS seen) rfl HS.out (.string s) (.string s.data.toList) rfl (WideMaps.keyOf_string_mk Tryd.underlying9 SZ.out) ?_; rw [hseen]))
              go_ret
              exact ⟨b9_5,b9_0⟩
           ·rw [if_neg c9] at H
            by_cases c11 : seen.length < 1000000
            ·rw [if_pos c11] at H
             have HN := Aside0.mk (show seen.length < maxLen by unfold maxLen; omega)
             have H' := Aside0.mk H
             have hseen : inS seen (.string s) = false := decide_eq_false c9
             clear c9 c11 H
             rcases c8 with c8 | c8
             ·have e8 : (d != 0) = false := by simp [c8]
              clear c8
              go_wp2_with (first | ((with_reducible refine gate_callee (f := 31) rfl ?_); refine goesL_ (some 25) rfl rfl Tryd.func31 (by kernel_rfl) rfl #[.string s] rfl b9_2 ?_; (with_reducible refine (impl_disparity.calls s d _ AD.out).mono ?_); rintro e w' ⟨rfl,⟨nd,rfl⟩⟩; refine ⟨_,rfl,?_⟩) | ((with_reducible refine gate_callee (f := 45) rfl ?_); refine gate_guard (by rfl) ?_; dsimp only; refine goesL_ (some 33) rfl rfl Tryd.func45 (by kernel_rfl) rfl #[.string s] rfl b9_2 ?_; (with_reducible refine (impl_areBits.calls s _ _ AB.out).mono ?_); rintro e w3 ⟨rfl,hb⟩; refine ⟨_,rfl,?_⟩; have n0_ := Aside0.mk (below_step b9_0 hb); have n1_ := Aside0.mk (blk_below (g := g1) (o := .cells #[.int .i64 a0_0,.int .i64 a0_1,.slice A0_2 l0_2.length c0_2,.slice A0_3 l0_3.length c0_3] 26 (0,0)) b9_4 hb); have n2_ := Aside0.mk (MSet.SetIs.below b9_9 hb); clear HB BK HS; have HB := n0_; have BK := n1_; have HS := n2_; clear n0_ n1_ n2_ hb) | ((with_reducible refine gate_dst (N := 48) rfl ?_); refine gate_guard (by rfl) ?_; dsimp only; refine MSet.wpList_seen _ rfl (.tmp 46) (.tmp 47) 74 rfl 9 4 (Maps.string_keyed Tryd.underlying9) hu69 Tryd.underlying4 (Tryd.zeroValue4 _) w1.heap.size seen.length (inS seen) rfl HS.out (.string s) (.string s.data.toList) rfl (WideMaps.keyOf_string_mk Tryd.underlying9 SZ.out) ?_; rw [hseen]) | (refine MSet.wpList_see _ rfl (.tmp 50) (.tmp 51) (.const (.bool true)) 74 rfl 9 4 (Maps.string_keyed Tryd.underlying9) hu69 Tryd.underlying4 w1.heap.size seen.length (inS seen) rfl HS.out HN.out (.string s) (.string s.data.toList) rfl rfl (WideMaps.keyOf_string_mk Tryd.underlying9 SZ.out) (inS (s.data.toList :: seen)) b9_11 set_go ?_; intro w5 hs hg; have n0_ := Aside0.mk (below_step_grown HB.out hg GM.out); have n1_ := Aside0.mk ((hg.block g1 (blk_lt BK.out) (fun e => by have := GL.out; injection e with e; omega)).trans BK.out); have n2_ := Aside0.mk (show MSet.SetIs w5 Tryd.prog 9 4 w1.heap.size (s.data.toList :: seen).length (inS (s.data.toList :: seen)) from hs); clear HB BK HS; have HB := n0_; have BK := n1_; have HS := n2_; clear n0_ n1_ n2_ hs hg))
              go_roundg k1
              case measure => have := HK1.out; omega
              case rel => exact ⟨s.data.toList :: seen,(wrap64 (x + 1)),b9_6,H',⟨by have := HK1.out; omega⟩,HS,HB,BK⟩
             ·by_cases c10 : d = 0
              ·have e8 : (d != 0) = false := by simp [c10]
               clear c8 c10
               go_wp2_with (first | ((with_reducible refine gate_callee (f := 31) rfl ?_); refine goesL_ (some 25) rfl rfl Tryd.func31 (by kernel_rfl) rfl #[.string s] rfl b9_2 ?_; (with_reducible refine (impl_disparity.calls s d _ AD.out).mono ?_); rintro e w' ⟨rfl,⟨nd,rfl⟩⟩; refine ⟨_,rfl,?_⟩) | ((with_reducible refine gate_callee (f := 45) rfl ?_); refine gate_guard (by rfl) ?_; dsimp only; refine goesL_ (some 33) rfl rfl Tryd.func45 (by kernel_rfl) rfl #[.string s] rfl b9_2 ?_; (with_reducible refine (impl_areBits.calls s _ _ AB.out).mono ?_); rintro e w3 ⟨rfl,hb⟩; refine ⟨_,rfl,?_⟩; have n0_ := Aside0.mk (below_step b9_0 hb); have n1_ := Aside0.mk (blk_below (g := g1) (o := .cells #[.int .i64 a0_0,.int .i64 a0_1,.slice A0_2 l0_2.length c0_2,.slice A0_3 l0_3.length c0_3] 26 (0,0)) b9_4 hb); have n2_ := Aside0.mk (MSet.SetIs.below b9_9 hb); clear HB BK HS; have HB := n0_; have BK := n1_; have HS := n2_; clear n0_ n1_ n2_ hb) | ((with_reducible refine gate_dst (N := 48) rfl ?_); refine gate_guard (by rfl) ?_; dsimp only; refine MSet.wpList_seen _ rfl (.tmp 46) (.tmp 47) 74 rfl 9 4 (Maps.string_keyed Tryd.underlying9) hu69 Tryd.underlying4 (Tryd.zeroValue4 _) w1.heap.size seen.length (inS seen) rfl HS.out (.string s) (.string s.data.toList) rfl (WideMaps.keyOf_string_mk Tryd.underlying9 SZ.out) ?_; rw [hseen]) | (refine MSet.wpList_see _ rfl (.tmp 50) (.tmp 51) (.const (.bool true)) 74 rfl 9 4 (Maps.string_keyed Tryd.underlying9) hu69 Tryd.underlying4 w1.heap.size seen.length (inS seen) rfl HS.out HN.out (.string s) (.string s.data.toList) rfl rfl (WideMaps.keyOf_string_mk Tryd.underlying9 SZ.out) (inS (s.data.toList :: seen)) b9_11 set_go ?_; intro w5 hs hg; have n0_ := Aside0.mk (below_step_grown HB.out hg GM.out); have n1_ := Aside0.mk ((hg.block g1 (blk_lt BK.out) (fun e => by have := GL.out; injection e with e; omega)).trans BK.out); have n2_ := Aside0.mk (show MSet.SetIs w5 Tryd.prog 9 4 w1.heap.size (s.data.toList :: seen).length (inS (s.data.toList :: seen)) from hs); clear HB BK HS; have HB := n0_; have BK := n1_; have HS := n2_; clear n0_ n1_ n2_ hs hg))
               go_roundg k1
               case measure => have := HK1.out; omega
               case rel => exact ⟨s.data.toList :: seen,(wrap64 (x + 1)),b9_6,H',⟨by have := HK1.out; omega⟩,HS,HB,BK⟩
              ·have e8 : (d != 0) = true := by simp [c10]
               have e9 : (d != a2) = false := by simp [c8]
               clear c8 c10
               go_wp2_with (first | ((with_reducible refine gate_callee (f := 31) rfl ?_); refine goesL_ (some 25) rfl rfl Tryd.func31 (by kernel_rfl) rfl #[.string s] rfl b9_2 ?_; (with_reducible refine (impl_disparity.calls s d _ AD.out).mono ?_); rintro e w' ⟨rfl,⟨nd,rfl⟩⟩; refine ⟨_,rfl,?_⟩) | ((with_reducible refine gate_callee (f := 45) rfl ?_); refine gate_guard (by rfl) ?_; dsimp only; refine goesL_ (some 33) rfl rfl Tryd.func45 (by kernel_rfl) rfl #[.string s] rfl b9_2 ?_; (with_reducible refine (impl_areBits.calls s _ _ AB.out).mono ?_); rintro e w3 ⟨rfl,hb⟩; refine ⟨_,rfl,?_⟩; have n0_ := Aside0.mk (below_step b9_0 hb); have n1_ := Aside0.mk (blk_below (g := g1) (o := .cells #[.int .i64 a0_0,.int .i64 a0_1,.slice A0_2 l0_2.length c0_2,.slice A0_3 l0_3.length c0_3] 26 (0,0)) b9_4 hb); have n2_ := Aside0.mk (MSet.SetIs.below b9_9 hb); clear HB BK HS; have HB := n0_; have BK := n1_; have HS := n2_; clear n0_ n1_ n2_ hb) | ((with_reducible refine gate_dst (N := 48) rfl ?_); refine gate_guard (by rfl) ?_; dsimp only; refine MSet.wpList_seen _ rfl (.tmp 46) (.tmp 47) 74 rfl 9 4 (Maps.string_keyed Tryd.underlying9) hu69 Tryd.underlying4 (Tryd.zeroValue4 _) w1.heap.size seen.length (inS seen) rfl HS.out (.string s) (.string s.data.toList) rfl (WideMaps.keyOf_string_mk Tryd.underlying9 SZ.out) ?_; rw [hseen]) | (refine MSet.wpList_see _ rfl (.tmp 50) (.tmp 51) (.const (.bool true)) 74 rfl 9 4 (Maps.string_keyed Tryd.underlying9) hu69 Tryd.underlying4 w1.heap.size seen.length (inS seen) rfl HS.out HN.out (.string s) (.string s.data.toList) rfl rfl (WideMaps.keyOf_string_mk Tryd.underlying9 SZ.out) (inS (s.data.toList :: seen)) b9_11 set_go ?_; intro w5 hs hg; have n0_ := Aside0.mk (below_step_grown HB.out hg GM.out); have n1_ := Aside0.mk ((hg.block g1 (blk_lt BK.out) (fun e => by have := GL.out; injection e with e; omega)).trans BK.out); have n2_ := Aside0.mk (show MSet.SetIs w5 Tryd.prog 9 4 w1.heap.size (s.data.toList :: seen).length (inS (s.data.toList :: seen)) from hs); clear HB BK HS; have HB := n0_; have BK := n1_; have HS := n2_; clear n0_ n1_ n2_ hs hg))
               go_roundg k1
               case measure => have := HK1.out; omega
               case rel => exact ⟨s.data.toList :: seen,(wrap64 (x + 1)),b9_6,H',⟨by have := HK1.out; omega⟩,HS,HB,BK⟩
            ·rw [if_neg c11] at H; cases H
          ·rw [if_neg c8] at H
           obtain rfl := Option.some.inj H
           have e8 : (d != 0) = true := by simp; exact fun h => c8 (.inl h)
           have e9 : (d != a2) = true := by simp; exact fun h => c8 (.inr h)
           clear c8
           go_wp2_with (first | ((with_reducible refine gate_callee (f := 31) rfl ?_); refine goesL_ (some 25) rfl rfl Tryd.func31 (by kernel_rfl) rfl #[.string s] rfl b9_2 ?_; (with_reducible refine (impl_disparity.calls s d _ AD.out).mono ?_); rintro e w' ⟨rfl,⟨nd,rfl⟩⟩; refine ⟨_,rfl,?_⟩) | ((with_reducible refine gate_callee (f := 45) rfl ?_); refine gate_guard (by rfl) ?_; dsimp only; refine goesL_ (some 33) rfl rfl Tryd.func45 (by kernel_rfl) rfl #[.string s] rfl b9_2 ?_; (with_reducible refine (impl_areBits.calls s _ _ AB.out).mono ?_); rintro e w3 ⟨rfl,hb⟩; refine ⟨_,rfl,?_⟩; have n0_ := Aside0.mk (below_step b9_0 hb); have n1_ := Aside0.mk (blk_below (g := g1) (o := .cells #[.int .i64 a0_0,.int .i64 a0_1,.slice A0_2 l0_2.length c0_2,.slice A0_3 l0_3.length c0_3] 26 (0,0)) b9_4 hb); have n2_ := Aside0.mk (MSet.SetIs.below b9_9 hb); clear HB BK HS; have HB := n0_; have BK := n1_; have HS := n2_; clear n0_ n1_ n2_ hb))
           go_ret
           exact ⟨b9_5,b9_0⟩
        ·rw [if_neg c7] at H
         obtain rfl := Option.some.inj H
         have c7b : ((s.size : Int) != a0_1) = true := by simpa using c7
         clear c7
         go_wp2_with (first | ((with_reducible refine gate_callee (f := 31) rfl ?_); refine goesL_ (some 25) rfl rfl Tryd.func31 (by kernel_rfl) rfl #[.string s] rfl b9_2 ?_; (with_reducible refine (impl_disparity.calls s d _ AD.out).mono ?_); rintro e w' ⟨rfl,⟨nd,rfl⟩⟩; refine ⟨_,rfl,?_⟩) | ((with_reducible refine gate_callee (f := 45) rfl ?_); refine gate_guard (by rfl) ?_; dsimp only; refine goesL_ (some 33) rfl rfl Tryd.func45 (by kernel_rfl) rfl #[.string s] rfl b9_2 ?_; (with_reducible refine (impl_areBits.calls s _ _ AB.out).mono ?_); rintro e w3 ⟨rfl,hb⟩; refine ⟨_,rfl,?_⟩; have n0_ := Aside0.mk (below_step b9_0 hb); have n1_ := Aside0.mk (blk_below (g := g1) (o := .cells #[.int .i64 a0_0,.int .i64 a0_1,.slice A0_2 l0_2.length c0_2,.slice A0_3 l0_3.length c0_3] 26 (0,0)) b9_4 hb); have n2_ := Aside0.mk (MSet.SetIs.below b9_9 hb); clear HB BK HS; have HB := n0_; have BK := n1_; have HS := n2_; clear n0_ n1_ n2_ hb))
         go_ret
         exact ⟨b9_5,b9_0⟩
       ·rw [if_neg c12] at H; cases H
      ·rw [if_neg c6] at H; cases H
     ·rw [if_neg c5] at H
      have c5b0 : decide (x < (l1.length : Int)) = false := decide_eq_false c5
      obtain rfl := Option.some.inj H
      go_wp2
      go_ret
      exact ⟨rfl,HB.out⟩
  ·rw [if_neg d1] at h
   obtain rfl := Option.some.inj h
   have d1b : ((l1.length : Int) != wrap64 (2 ^ min a0_0.toNat 64)) = true := by simpa using d1
   clear d1
   go_enter Tryd.func36,Tryd.ntmps36
   go_wp2_with (first | ((with_reducible refine gate_dst (N := 3) rfl ?_); refine box_event ?hg (N := 3) ?hd (cs := #[.int .i64 a0_0,.int .i64 a0_1,.slice A0_2 l0_2.length c0_2,.slice A0_3 l0_3.length c0_3]) (t := 26) ?hr ?_; (case hd => rfl); (case hg => rfl); (case hr => first | (go_simp; done) | (go_simp; rfl)); intro g1 hg w1 hbox hb; have n0_ := Aside0.mk (below_step b9_0 hb); clear HB; have HB := n0_; clear n0_ hb hg; have BK := Aside0.mk hbox; clear hbox; have hcz0 : w1.cell? ⟨g1,0,none⟩ = some (.int .i64 a0_0) := (blk_cell BK.out 0).trans rfl; have hcz1 : w1.cell? ⟨g1,1,none⟩ = some (.int .i64 a0_1) := (blk_cell BK.out 1).trans rfl; have hfz0 := blk_frozen BK.out 0))
   go_ret
   exact ⟨b9_5,b9_0⟩
 ·rw [if_neg d0] at h; cases h

end Go.Proofs.YtegeaoiclepkkabDoor.QFnCommas
