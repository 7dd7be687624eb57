/-
Each Go function that this text names answers as the Lean function beside it says,wherever that one answers; conditions: the arguments lie in memory as each theorem states it.
-/
import Derived.Test.YtegeaoiclepkkabDoorQFnCommasx0
import Derived.Test.YtegeaoiclepkkabDoorQFnCommasx1
import Derived.Test.YtegeaoiclepkkabDoorQFnCommasx4
import Derived.Test.YtegeaoiclepkkabDoorQFnCommasx9
import Derived.Test.YtegeaoiclepkkabDoorQFnCommasx10
import Derived.Test.YtegeaoiclepkkabDoorQFnCommasx11
namespace Go.Proofs.YtegeaoiclepkkabDoor.QFnCommas
open Go.RowKit Go.Proofs.YtegeaoiclepkkabDoorW.PrintWords Go.Proofs.YtegeaoiclepkkabDoorW.PrintLast Go.Proofs.YtegeaoiclepkkabDoorW.PrintMore
attribute [local go_sem] max2_int min2_int max_two min_two max_three min_three max_four min_four   -- for this text's walks alone
set_option linter.unusedVariables false
set_option linter.unusedSimpArgs false
theorem b12_0 {P : Prop} (h : P := by repeat (first | (with_reducible first | exact HB.out | apply below_alloc | apply pw_below_drewN | apply below_drew1) | exact HB.out)) : P := h
theorem b12_1 {P : Prop} (h : P := by (try simp only [List.map_toArray,List.map_cons,List.map_nil]); first | done | rfl | (simp only [List.length_drop,List.length_take]; rfl)) : P := h
theorem b12_2 {P : Prop} (h : P := by (with_reducible repeat (first | refine blk_drewN ?_ _ | refine blk_drew ?_ | refine blk_alloc ?_ _)); exact BK.out) : P := h
theorem b12_3 {P : Prop} (h : P := by first | rfl | (simp; done) | (simp [*]; done)) : P := h
theorem b12_4 {P : Prop} (h : P := by (try simp only [List.map_toArray,List.map_cons,List.map_nil]); first | done | rfl) : P := h
theorem b12_5 {P : Prop} (h : P := by first | rfl | (simp [errW_none,errW_some] <;> rfl) | (simp [*,errW_none,errW_some] <;> rfl)) : P := h
theorem b12_6 {P : Prop} (h : P := by first | rfl | (simp [errW_none,errW_some] <;> rfl) | (simp only [← hji6,← hji8]; first | rfl | (simp [errW_none,errW_some] <;> rfl)) | (simp [*,errW_none,errW_some] <;> rfl)) : P := h
theorem b12_7 {P : Prop} (h : P := by repeat (first | exact Drawn0.refl _ | apply Drawn0.step)) : P := h

/-! ### spec_BitsOf: function 19 -/
def spec_BitsOf.f (k : Nat) (a0 : Int) (a1 : Int) : Option (ByteArray × Bool) := (spec_l00In.f a1 0 60).bind fun t314 => (if t314 = true then (if a0 < 0 then (some ((⟨#[]⟩ : ByteArray),false)) else (if 0 ≤ (IntKind.u64.wrap (a1)) then (if (shr .i64 a0 (IntKind.u64.wrap (a1))) = 0 then ((spec_l01Digits.f k a0 a1).bind fun t315 => (some (t315,true))) else (some ((⟨#[]⟩ : ByteArray),false))) else (none))) else (some ((⟨#[]⟩ : ByteArray),false)))
set_option maxHeartbeats 8000000 in
set_option maxRecDepth 100000 in
theorem spec_BitsOf.calls (k : Nat) (a0 : Int) (a1 : Int) (r1 : ByteArray) (r2 : Bool) (w : World) (h : spec_BitsOf.f k a0 a1 = some (r1,r2)) :
  Calls Tryd.prog 19 #[.int .i64 a0,.int .i64 a1] w fun e w' => e = .returned (.tuple #[.string r1,.bool r2]) ∧ Below w.heap.size w w' := by
 have HB := Aside0.mk (Below.refl w.heap.size w)
 have H : ((spec_l00In.f a1 0 60).bind fun t314 => (if t314 = true then (if a0 < 0 then (some ((⟨#[]⟩ : ByteArray),false)) else (if 0 ≤ (IntKind.u64.wrap (a1)) then (if (shr .i64 a0 (IntKind.u64.wrap (a1))) = 0 then ((spec_l01Digits.f k a0 a1).bind fun t315 => (some (t315,true))) else (some ((⟨#[]⟩ : ByteArray),false))) else (none))) else (some ((⟨#[]⟩ : ByteArray),false)))) = some (r1,r2) := h
 clear h
 replace H := Option.bind_eq_some_iff.mp H
 obtain ⟨t314,A30,H⟩ := H
 replace H : (if t314 = true then (if a0 < 0 then (some ((⟨#[]⟩ : ByteArray),false)) else (if 0 ≤ (IntKind.u64.wrap (a1)) then (if (shr .i64 a0 (IntKind.u64.wrap (a1))) = 0 then ((spec_l01Digits.f k a0 a1).bind fun t315 => (some (t315,true))) else (some ((⟨#[]⟩ : ByteArray),false))) else (none))) else (some ((⟨#[]⟩ : ByteArray),false))) = some (r1,r2) := H
 have A3 := Aside0.mk A30
 clear A30
 by_cases c4 : t314 = true
 ·subst c4
  have H1 : (if a0 < 0 then (some ((⟨#[]⟩ : ByteArray),false)) else (if 0 ≤ (IntKind.u64.wrap (a1)) then (if (shr .i64 a0 (IntKind.u64.wrap (a1))) = 0 then ((spec_l01Digits.f k a0 a1).bind fun t315 => (some (t315,true))) else (some ((⟨#[]⟩ : ByteArray),false))) else (none))) = some (r1,r2) := by rw [if_pos rfl] at H; exact H
  clear H
  have H := H1
  clear H1
  by_cases c5 : a0 < 0
  ·rw [if_pos c5] at H
   have c5b0 : decide (a0 < 0) = true := decide_eq_true c5
   clear c5
   simp only [Option.some.injEq,Prod.mk.injEq] at H
   obtain ⟨rfl,rfl⟩ := H
   go_enter Tryd.func19,Tryd.ntmps19
   go_wp2_with (first | ((with_reducible refine gate_callee (f := 43) rfl ?_); refine goesL_ (some 7) rfl rfl Tryd.func43 (by kernel_rfl) rfl #[.int .i64 a1,.int .i64 0,.int .i64 60] rfl b12_1 ?_; (with_reducible refine (spec_l00In.calls a1 0 60 true _ A3.out).mono ?_); rintro e w' ⟨rfl,⟨nd,rfl⟩⟩; refine ⟨_,rfl,?_⟩))
   go_ret2
   exact ⟨b12_5,b12_0⟩
  ·rw [if_neg c5] at H
   have c5b0 : decide (a0 < 0) = false := decide_eq_false c5
   clear c5
   obtain ⟨ji6,hji6⟩ : ∃ j_ : Int,(IntKind.u64.wrap (a1)) = j_ := ⟨_,rfl⟩
   replace H : (if 0 ≤ (ji6) then (if (shr .i64 a0 (ji6)) = 0 then ((spec_l01Digits.f k a0 a1).bind fun t315 => (some (t315,true))) else (some ((⟨#[]⟩ : ByteArray),false))) else (none)) = some (r1,r2) := by first | (rw [hji6] at H; exact H) | (simp only [hji6] at H ⊢; exact H)
   (try rw [hji6] at A3)
   by_cases c7 : 0 ≤ (ji6)
   ·rw [if_pos c7] at H
    have c7b0 := eq_true c7
    have c7b1 : decide (0 ≤ (ji6)) = true := decide_eq_true c7
    clear c7
    obtain ⟨ji8,hji8⟩ : ∃ j_ : Int,(shr .i64 a0 (ji6)) = j_ := ⟨_,rfl⟩
    replace H : (if (ji8) = 0 then ((spec_l01Digits.f k a0 a1).bind fun t315 => (some (t315,true))) else (some ((⟨#[]⟩ : ByteArray),false))) = some (r1,r2) := by first | (rw [hji8] at H; exact H) | (simp only [hji8] at H ⊢; exact H)
    (try rw [hji8] at A3)
    have hji8_ : (a0 / 2 ^ min (ji6).toNat 64) = ji8 := hji8
    have hji8z : (ji6) ≤ 64 → (a0 / 2 ^ (ji6).toNat) = ji8 := shr_small hji8
    by_cases c9 : (ji8) = 0
    ·rw [if_pos c9] at H
     have c9b0 : ((ji8) == 0) = true := beq_iff_eq.mpr c9
     have c9b1 : ((ji8) != 0) = false := bne_eq_false_iff_eq.mpr c9
     clear c9
     replace H := Option.bind_eq_some_iff.mp H
     obtain ⟨t315,A100,H⟩ := H
     replace H : (some (t315,true)) = some (r1,r2) := H
     have A10 := Aside0.mk A100
     clear A100
     simp only [Option.some.injEq,Prod.mk.injEq] at H
     obtain ⟨rfl,rfl⟩ := H
     go_enter Tryd.func19,Tryd.ntmps19
     go_wp2_with (first | ((with_reducible refine gate_callee (f := 43) rfl ?_); refine goesL_ (some 7) rfl rfl Tryd.func43 (by kernel_rfl) rfl #[.int .i64 a1,.int .i64 0,.int .i64 60] rfl b12_1 ?_; (with_reducible refine (spec_l00In.calls a1 0 60 true _ A3.out).mono ?_); rintro e w' ⟨rfl,⟨nd,rfl⟩⟩; refine ⟨_,rfl,?_⟩) | ((with_reducible refine gate_callee (f := 44) rfl ?_); refine goesL_ (some 22) rfl rfl Tryd.func44 (by kernel_rfl) rfl #[.int .i64 a0,.int .i64 a1] rfl b12_1 ?_; (with_reducible refine (spec_l01Digits.calls k a0 a1 t315 _ A10.out).mono ?_); rintro e w11 ⟨rfl,hb⟩; refine ⟨_,rfl,?_⟩; have n0_ := Aside0.mk (below_step b12_0 hb); clear HB; have HB := n0_; clear n0_; (try clear hb); (try clear hb2); (try clear hk); (try clear hi)))
     go_ret2
     exact ⟨b12_6,b12_0⟩
    ·rw [if_neg c9] at H
     have c9b0 : ((ji8) == 0) = false := beq_eq_false_iff_ne.mpr c9
     have c9b1 : ((ji8) != 0) = true := bne_iff_ne.mpr c9
     simp only [Option.some.injEq,Prod.mk.injEq] at H
     obtain ⟨rfl,rfl⟩ := H
     go_enter Tryd.func19,Tryd.ntmps19
     go_wp2_with (first | ((with_reducible refine gate_callee (f := 43) rfl ?_); refine goesL_ (some 7) rfl rfl Tryd.func43 (by kernel_rfl) rfl #[.int .i64 a1,.int .i64 0,.int .i64 60] rfl b12_1 ?_; (with_reducible refine (spec_l00In.calls a1 0 60 true _ A3.out).mono ?_); rintro e w' ⟨rfl,⟨nd,rfl⟩⟩; refine ⟨_,rfl,?_⟩))
     go_ret2
     exact ⟨b12_6,b12_0⟩
   ·rw [if_neg c7] at H
    exact absurd H (by simp)
 ·replace c4 := Bool.eq_false_iff.mpr c4
  subst c4
  have H1 : (some ((⟨#[]⟩ : ByteArray),false)) = some (r1,r2) := by rw [if_neg (show ¬ (false = true) by decide)] at H; exact H
  clear H
  have H := H1
  clear H1
  simp only [Option.some.injEq,Prod.mk.injEq] at H
  obtain ⟨rfl,rfl⟩ := H
  go_enter Tryd.func19,Tryd.ntmps19
  go_wp2_with (first | ((with_reducible refine gate_callee (f := 43) rfl ?_); refine goesL_ (some 7) rfl rfl Tryd.func43 (by kernel_rfl) rfl #[.int .i64 a1,.int .i64 0,.int .i64 60] rfl b12_1 ?_; (with_reducible refine (spec_l00In.calls a1 0 60 false _ A3.out).mono ?_); rintro e w' ⟨rfl,⟨nd,rfl⟩⟩; refine ⟨_,rfl,?_⟩))
  go_ret2
  exact ⟨b12_5,b12_0⟩

/-! ### impl_IsComma: function 20 -/
/-!  -/
def impl_IsComma.f (k : Nat) (a0_0 a0_1 : Int) (l0_2 l0_3 : List ByteArray) (a1 : ByteArray) : Option Bool := (impl_ValidBlockCode.f k a0_0 a0_1 l0_2 l0_3).bind fun v => if v = true then (if (a1.size : Int) < 1 then some false else (if (a1.size : Int) > wrap64 (a0_1 + 1) then some false else ((impl_areBits.f a1).bind fun b => if b = true then (if a1.size ≤ 1048576 then (impl_BlockCode_parts.f k a0_0 a0_1 l0_2 l0_3 (a1.size : Int)).bind fun z => some (!(decide (a1.data.toList ∈ z))) else none) else some false))) else some false
set_option maxHeartbeats 8000000 in
set_option maxRecDepth 100000 in
theorem impl_IsComma.calls (k : Nat) (a0_0 : Int) (a0_1 : Int) (A0_2 : Option Addr) (c0_2 : Nat) (l0_2 : List ByteArray) (A0_3 : Option Addr) (c0_3 : Nat) (l0_3 : List ByteArray) (a1 : ByteArray) (r : Bool) (w : World) (hr0_2 : Kd.C Kd.string w A0_2 l0_2.length l0_2) (hc0_2 : l0_2.length ≤ c0_2) (hr0_3 : Kd.C Kd.string w A0_3 l0_3.length l0_3) (hc0_3 : l0_3.length ≤ c0_3) (h : impl_IsComma.f k a0_0 a0_1 l0_2 l0_3 a1 = some r) :
  Calls Tryd.prog 20 #[.agg #[.int .i64 a0_0,.int .i64 a0_1,.slice A0_2 l0_2.length c0_2,.slice A0_3 l0_3.length c0_3],.string a1] w fun e w' => e = .returned (.bool r) ∧ Below w.heap.size w w' := by
 have HR2 := Aside0.mk hr0_2
 have HC2 := Aside0.mk hc0_2
 have HR3 := Aside0.mk hr0_3
 have HC3 := Aside0.mk hc0_3
 clear hr0_2 hc0_2 hr0_3 hc0_3
 have hu30 := Tryd.underlying26
 have hu69 := Tryd.underlying74
 have HB := Aside0.mk (Below.refl w.heap.size w)
 unfold impl_IsComma.f at h
 obtain ⟨v,e1,h⟩ := Option.bind_eq_some_iff.mp h
 have AV := Aside0.mk e1
 clear e1
 cases v with
 | false =>
  rw [if_neg Bool.false_ne_true] at h
  obtain rfl := Option.some.inj h
  go_enter Tryd.func20,Tryd.ntmps20
  go_wp2_with (first | ((with_reducible refine gate_dst (N := 2) rfl ?_); refine box_event ?hg (N := 2) ?hd (cs := #[.int .i64 a0_0,.int .i64 a0_1,.slice A0_2 l0_2.length c0_2,.slice A0_3 l0_3.length c0_3]) (t := 26) ?hr ?_; (case hd => rfl); (case hg => rfl); (case hr => first | (go_simp; done) | (go_simp; rfl)); intro g1 hg w1 hbox hb; have n0_ := Aside0.mk (below_step b12_0 hb); clear HB; have HB := n0_; clear n0_ hb hg; have BK := Aside0.mk hbox; clear hbox; have hcz0w1 : w1.cell? ⟨g1,0,none⟩ = some (.int .i64 a0_0) := (blk_cell BK.out 0).trans rfl; have hcz1w1 : w1.cell? ⟨g1,1,none⟩ = some (.int .i64 a0_1) := (blk_cell BK.out 1).trans rfl; have hcz2w1 : w1.cell? ⟨g1,2,none⟩ = some (.slice A0_2 l0_2.length c0_2) := (blk_cell BK.out 2).trans rfl; have hcz3w1 : w1.cell? ⟨g1,3,none⟩ = some (.slice A0_3 l0_3.length c0_3) := (blk_cell BK.out 3).trans rfl; have hfz0w1 := blk_frozen BK.out 0; have hfz1w1 := blk_frozen BK.out 1; have hfz2w1 := blk_frozen BK.out 2; have hfz3w1 := blk_frozen BK.out 3) | ((with_reducible refine gate_callee (f := 15) rfl ?_); refine goesL_ (some 6) rfl rfl Tryd.func15 (by kernel_rfl) rfl #[.agg #[.int .i64 a0_0,.int .i64 a0_1,.slice A0_2 l0_2.length c0_2,.slice A0_3 l0_3.length c0_3]] rfl b12_4 ?_; (with_reducible refine (impl_ValidBlockCode.calls k a0_0 a0_1 A0_2 c0_2 l0_2 A0_3 c0_3 l0_3 _ _ ?side1 ?side2 ?side3 ?side4 AV.out).mono ?_); (case side1 => exact Kd.C_below HR2.out b12_0); (case side2 => exact HC2.out); (case side3 => exact Kd.C_below HR3.out b12_0); (case side4 => exact HC3.out); rintro e w2 ⟨rfl,hb⟩; refine ⟨_,rfl,?_⟩; have n0_ := Aside0.mk (below_step b12_0 hb); have n1_ := Aside0.mk (blk_below (g := g1) (o := (.cells #[.int .i64 a0_0,.int .i64 a0_1,.slice A0_2 l0_2.length c0_2,.slice A0_3 l0_3.length c0_3] 26 (0,0))) b12_2 hb); clear HB BK; have HB := n0_; have BK := n1_; clear n0_ n1_ hb; have hcz0w2 : w2.cell? ⟨g1,0,none⟩ = some (.int .i64 a0_0) := (blk_cell BK.out 0).trans rfl; have hcz1w2 : w2.cell? ⟨g1,1,none⟩ = some (.int .i64 a0_1) := (blk_cell BK.out 1).trans rfl; have hcz2w2 : w2.cell? ⟨g1,2,none⟩ = some (.slice A0_2 l0_2.length c0_2) := (blk_cell BK.out 2).trans rfl; have hcz3w2 : w2.cell? ⟨g1,3,none⟩ = some (.slice A0_3 l0_3.length c0_3) := (blk_cell BK.out 3).trans rfl; have hfz0w2 := blk_frozen BK.out 0; have hfz1w2 := blk_frozen BK.out 1; have hfz2w2 := blk_frozen BK.out 2; have hfz3w2 := blk_frozen BK.out 3))
  go_ret
  exact ⟨b12_3,b12_0⟩
 | true =>
  rw [if_pos rfl] at h
  by_cases c1 : (a1.size : Int) < 1
  ·rw [if_pos c1] at h
   obtain rfl := Option.some.inj h
   have c1b : decide ((a1.size : Int) < 1) = true := decide_eq_true c1
   go_enter Tryd.func20,Tryd.ntmps20
   go_wp2_with (first | ((with_reducible refine gate_dst (N := 2) rfl ?_); refine box_event ?hg (N := 2) ?hd (cs := #[.int .i64 a0_0,.int .i64 a0_1,.slice A0_2 l0_2.length c0_2,.slice A0_3 l0_3.length c0_3]) (t := 26) ?hr ?_; (case hd => rfl); (case hg => rfl); (case hr => first | (go_simp; done) | (go_simp; rfl)); intro g1 hg w1 hbox hb; have n0_ := Aside0.mk (below_step b12_0 hb); clear HB; have HB := n0_; clear n0_ hb hg; have BK := Aside0.mk hbox; clear hbox; have hcz0w1 : w1.cell? ⟨g1,0,none⟩ = some (.int .i64 a0_0) := (blk_cell BK.out 0).trans rfl; have hcz1w1 : w1.cell? ⟨g1,1,none⟩ = some (.int .i64 a0_1) := (blk_cell BK.out 1).trans rfl; have hcz2w1 : w1.cell? ⟨g1,2,none⟩ = some (.slice A0_2 l0_2.length c0_2) := (blk_cell BK.out 2).trans rfl; have hcz3w1 : w1.cell? ⟨g1,3,none⟩ = some (.slice A0_3 l0_3.length c0_3) := (blk_cell BK.out 3).trans rfl; have hfz0w1 := blk_frozen BK.out 0; have hfz1w1 := blk_frozen BK.out 1; have hfz2w1 := blk_frozen BK.out 2; have hfz3w1 := blk_frozen BK.out 3) | ((with_reducible refine gate_callee (f := 15) rfl ?_); refine goesL_ (some 6) rfl rfl Tryd.func15 (by kernel_rfl) rfl #[.agg #[.int .i64 a0_0,.int .i64 a0_1,.slice A0_2 l0_2.length c0_2,.slice A0_3 l0_3.length c0_3]] rfl b12_4 ?_; (with_reducible refine (impl_ValidBlockCode.calls k a0_0 a0_1 A0_2 c0_2 l0_2 A0_3 c0_3 l0_3 _ _ ?side1 ?side2 ?side3 ?side4 AV.out).mono ?_); (case side1 => exact Kd.C_below HR2.out b12_0); (case side2 => exact HC2.out); (case side3 => exact Kd.C_below HR3.out b12_0); (case side4 => exact HC3.out); rintro e w2 ⟨rfl,hb⟩; refine ⟨_,rfl,?_⟩; have n0_ := Aside0.mk (below_step b12_0 hb); have n1_ := Aside0.mk (blk_below (g := g1) (o := (.cells #[.int .i64 a0_0,.int .i64 a0_1,.slice A0_2 l0_2.length c0_2,.slice A0_3 l0_3.length c0_3] 26 (0,0))) b12_2 hb); clear HB BK; have HB := n0_; have BK := n1_; clear n0_ n1_ hb; have hcz0w2 : w2.cell? ⟨g1,0,none⟩ = some (.int .i64 a0_0) := (blk_cell BK.out 0).trans rfl; have hcz1w2 : w2.cell? ⟨g1,1,none⟩ = some (.int .i64 a0_1) := (blk_cell BK.out 1).trans rfl; have hcz2w2 : w2.cell? ⟨g1,2,none⟩ = some (.slice A0_2 l0_2.length c0_2) := (blk_cell BK.out 2).trans rfl; have hcz3w2 : w2.cell? ⟨g1,3,none⟩ = some (.slice A0_3 l0_3.length c0_3) := (blk_cell BK.out 3).trans rfl; have hfz0w2 := blk_frozen BK.out 0; have hfz1w2 := blk_frozen BK.out 1; have hfz2w2 := blk_frozen BK.out 2; have hfz3w2 := blk_frozen BK.out 3))
   go_ret
   exact ⟨b12_3,b12_0⟩
  ·rw [if_neg c1] at h
   have c1b : decide ((a1.size : Int) < 1) = false := decide_eq_false c1
   clear c1
   by_cases c2 : (a1.size : Int) > wrap64 (a0_1 + 1)
   ·rw [if_pos c2] at h
    obtain rfl := Option.some.inj h
    have c2b : decide (wrap64 (a0_1 + 1) < (a1.size : Int)) = true := decide_eq_true c2
    go_enter Tryd.func20,Tryd.ntmps20
    go_wp2_with (first | ((with_reducible refine gate_dst (N := 2) rfl ?_); refine box_event ?hg (N := 2) ?hd (cs := #[.int .i64 a0_0,.int .i64 a0_1,.slice A0_2 l0_2.length c0_2,.slice A0_3 l0_3.length c0_3]) (t := 26) ?hr ?_; (case hd => rfl); (case hg => rfl); (case hr => first | (go_simp; done) | (go_simp; rfl)); intro g1 hg w1 hbox hb; have n0_ := Aside0.mk (below_step b12_0 hb); clear HB; have HB := n0_; clear n0_ hb hg; have BK := Aside0.mk hbox; clear hbox; have hcz0w1 : w1.cell? ⟨g1,0,none⟩ = some (.int .i64 a0_0) := (blk_cell BK.out 0).trans rfl; have hcz1w1 : w1.cell? ⟨g1,1,none⟩ = some (.int .i64 a0_1) := (blk_cell BK.out 1).trans rfl; have hcz2w1 : w1.cell? ⟨g1,2,none⟩ = some (.slice A0_2 l0_2.length c0_2) := (blk_cell BK.out 2).trans rfl; have hcz3w1 : w1.cell? ⟨g1,3,none⟩ = some (.slice A0_3 l0_3.length c0_3) := (blk_cell BK.out 3).trans rfl; have hfz0w1 := blk_frozen BK.out 0; have hfz1w1 := blk_frozen BK.out 1; have hfz2w1 := blk_frozen BK.out 2; have hfz3w1 := blk_frozen BK.out 3) | ((with_reducible refine gate_callee (f := 15) rfl ?_); refine goesL_ (some 6) rfl rfl Tryd.func15 (by kernel_rfl) rfl #[.agg #[.int .i64 a0_0,.int .i64 a0_1,.slice A0_2 l0_2.length c0_2,.slice A0_3 l0_3.length c0_3]] rfl b12_4 ?_; (with_reducible refine (impl_ValidBlockCode.calls k a0_0 a0_1 A0_2 c0_2 l0_2 A0_3 c0_3 l0_3 _ _ ?side1 ?side2 ?side3 ?side4 AV.out).mono ?_); (case side1 => exact Kd.C_below HR2.out b12_0); (case side2 => exact HC2.out); (case side3 => exact Kd.C_below HR3.out b12_0); (case side4 => exact HC3.out); rintro e w2 ⟨rfl,hb⟩; refine ⟨_,rfl,?_⟩; have n0_ := Aside0.mk (below_step b12_0 hb); have n1_ := Aside0.mk (blk_below (g := g1) (o := (.cells #[.int .i64 a0_0,.int .i64 a0_1,.slice A0_2 l0_2.length c0_2,.slice A0_3 l0_3.length c0_3] 26 (0,0))) b12_2 hb); clear HB BK; have HB := n0_; have BK := n1_; clear n0_ n1_ hb; have hcz0w2 : w2.cell? ⟨g1,0,none⟩ = some (.int .i64 a0_0) := (blk_cell BK.out 0).trans rfl; have hcz1w2 : w2.cell? ⟨g1,1,none⟩ = some (.int .i64 a0_1) := (blk_cell BK.out 1).trans rfl; have hcz2w2 : w2.cell? ⟨g1,2,none⟩ = some (.slice A0_2 l0_2.length c0_2) := (blk_cell BK.out 2).trans rfl; have hcz3w2 : w2.cell? ⟨g1,3,none⟩ = some (.slice A0_3 l0_3.length c0_3) := (blk_cell BK.out 3).trans rfl; have hfz0w2 := blk_frozen BK.out 0; have hfz1w2 := blk_frozen BK.out 1; have hfz2w2 := blk_frozen BK.out 2; have hfz3w2 := blk_frozen BK.out 3))
    go_ret
    exact ⟨b12_3,b12_0⟩
   ·rw [if_neg c2] at h
    have c2b : decide (wrap64 (a0_1 + 1) < (a1.size : Int)) = false := decide_eq_false c2
    clear c2
    obtain ⟨b,e1,h⟩ := Option.bind_eq_some_iff.mp h
    have AB := Aside0.mk e1
    clear e1
    cases b with
    | false =>
     rw [if_neg Bool.false_ne_true] at h
     obtain rfl := Option.some.inj h
     go_enter Tryd.func20,Tryd.ntmps20
     go_wp2_with (first | ((with_reducible refine gate_dst (N := 2) rfl ?_); refine box_event ?hg (N := 2) ?hd (cs := #[.int .i64 a0_0,.int .i64 a0_1,.slice A0_2 l0_2.length c0_2,.slice A0_3 l0_3.length c0_3]) (t := 26) ?hr ?_; (case hd => rfl); (case hg => rfl); (case hr => first | (go_simp; done) | (go_simp; rfl)); intro g1 hg w1 hbox hb; have n0_ := Aside0.mk (below_step b12_0 hb); clear HB; have HB := n0_; clear n0_ hb hg; have BK := Aside0.mk hbox; clear hbox; have hcz0w1 : w1.cell? ⟨g1,0,none⟩ = some (.int .i64 a0_0) := (blk_cell BK.out 0).trans rfl; have hcz1w1 : w1.cell? ⟨g1,1,none⟩ = some (.int .i64 a0_1) := (blk_cell BK.out 1).trans rfl; have hcz2w1 : w1.cell? ⟨g1,2,none⟩ = some (.slice A0_2 l0_2.length c0_2) := (blk_cell BK.out 2).trans rfl; have hcz3w1 : w1.cell? ⟨g1,3,none⟩ = some (.slice A0_3 l0_3.length c0_3) := (blk_cell BK.out 3).trans rfl; have hfz0w1 := blk_frozen BK.out 0; have hfz1w1 := blk_frozen BK.out 1; have hfz2w1 := blk_frozen BK.out 2; have hfz3w1 := blk_frozen BK.out 3) | ((with_reducible refine gate_callee (f := 15) rfl ?_); refine goesL_ (some 6) rfl rfl Tryd.func15 (by kernel_rfl) rfl #[.agg #[.int .i64 a0_0,.int .i64 a0_1,.slice A0_2 l0_2.length c0_2,.slice A0_3 l0_3.length c0_3]] rfl b12_4 ?_; (with_reducible refine (impl_ValidBlockCode.calls k a0_0 a0_1 A0_2 c0_2 l0_2 A0_3 c0_3 l0_3 _ _ ?side1 ?side2 ?side3 ?side4 AV.out).mono ?_); (case side1 => exact Kd.C_below HR2.out b12_0); (case side2 => exact HC2.out); (case side3 => exact Kd.C_below HR3.out b12_0); (case side4 => exact HC3.out); rintro e w2 ⟨rfl,hb⟩; refine ⟨_,rfl,?_⟩; have n0_ := Aside0.mk (below_step b12_0 hb); have n1_ := Aside0.mk (blk_below (g := g1) (o := (.cells #[.int .i64 a0_0,.int .i64 a0_1,.slice A0_2 l0_2.length c0_2,.slice A0_3 l0_3.length c0_3] 26 (0,0))) b12_2 hb); clear HB BK; have HB := n0_; have BK := n1_; clear n0_ n1_ hb; have hcz0w2 : w2.cell? ⟨g1,0,none⟩ = some (.int .i64 a0_0) := (blk_cell BK.out 0).trans rfl; have hcz1w2 : w2.cell? ⟨g1,1,none⟩ = some (.int .i64 a0_1) := (blk_cell BK.out 1).trans rfl; have hcz2w2 : w2.cell? ⟨g1,2,none⟩ = some (.slice A0_2 l0_2.length c0_2) := (blk_cell BK.out 2).trans rfl; have hcz3w2 : w2.cell? ⟨g1,3,none⟩ = some (.slice A0_3 l0_3.length c0_3) := (blk_cell BK.out 3).trans rfl; have hfz0w2 := blk_frozen BK.out 0; have hfz1w2 := blk_frozen BK.out 1; have hfz2w2 := blk_frozen BK.out 2; have hfz3w2 := blk_frozen BK.out 3) | ((with_reducible refine gate_callee (f := 45) rfl ?_); refine gate_guard (by rfl) ?_; dsimp only; refine goesL_ (some 23) rfl rfl Tryd.func45 (by kernel_rfl) rfl #[.string a1] rfl b12_4 ?_; (with_reducible refine (impl_areBits.calls a1 _ _ AB.out).mono ?_); rintro e w3 ⟨rfl,hb⟩; refine ⟨_,rfl,?_⟩; have n0_ := Aside0.mk (below_step b12_0 hb); have n1_ := Aside0.mk (blk_below (g := g1) (o := (.cells #[.int .i64 a0_0,.int .i64 a0_1,.slice A0_2 l0_2.length c0_2,.slice A0_3 l0_3.length c0_3] 26 (0,0))) b12_2 hb); clear HB BK; have HB := n0_; have BK := n1_; clear n0_ n1_ hb; have hcz0w3 : w3.cell? ⟨g1,0,none⟩ = some (.int .i64 a0_0) := (blk_cell BK.out 0).trans rfl; have hcz1w3 : w3.cell? ⟨g1,1,none⟩ = some (.int .i64 a0_1) := (blk_cell BK.out 1).trans rfl; have hcz2w3 : w3.cell? ⟨g1,2,none⟩ = some (.slice A0_2 l0_2.length c0_2) := (blk_cell BK.out 2).trans rfl; have hcz3w3 : w3.cell? ⟨g1,3,none⟩ = some (.slice A0_3 l0_3.length c0_3) := (blk_cell BK.out 3).trans rfl; have hfz0w3 := blk_frozen BK.out 0; have hfz1w3 := blk_frozen BK.out 1; have hfz2w3 := blk_frozen BK.out 2; have hfz3w3 := blk_frozen BK.out 3))
     go_ret
     exact ⟨b12_3,b12_0⟩
    | true =>
     rw [if_pos rfl] at h
     by_cases c3 : a1.size ≤ 1048576
     ·rw [if_pos c3] at h
      have SZ := Aside0.mk (show a1.size ≤ maxLen by unfold maxLen; omega)
      clear c3
      obtain ⟨z,e1,h⟩ := Option.bind_eq_some_iff.mp h
      have AP := Aside0.mk e1
      clear e1
      obtain rfl := Option.some.inj h
      have hin : impl_BlockCode_parts.inS z (.string a1) = decide (a1.data.toList ∈ z) := rfl
      go_enter Tryd.func20,Tryd.ntmps20
      go_wp2_with (first | ((with_reducible refine gate_dst (N := 2) rfl ?_); refine box_event ?hg (N := 2) ?hd (cs := #[.int .i64 a0_0,.int .i64 a0_1,.slice A0_2 l0_2.length c0_2,.slice A0_3 l0_3.length c0_3]) (t := 26) ?hr ?_; (case hd => rfl); (case hg => rfl); (case hr => first | (go_simp; done) | (go_simp; rfl)); intro g1 hg w1 hbox hb; have n0_ := Aside0.mk (below_step b12_0 hb); clear HB; have HB := n0_; clear n0_ hb hg; have BK := Aside0.mk hbox; clear hbox; have hcz0w1 : w1.cell? ⟨g1,0,none⟩ = some (.int .i64 a0_0) := (blk_cell BK.out 0).trans rfl; have hcz1w1 : w1.cell? ⟨g1,1,none⟩ = some (.int .i64 a0_1) := (blk_cell BK.out 1).trans rfl; have hcz2w1 : w1.cell? ⟨g1,2,none⟩ = some (.slice A0_2 l0_2.length c0_2) := (blk_cell BK.out 2).trans rfl; have hcz3w1 : w1.cell? ⟨g1,3,none⟩ = some (.slice A0_3 l0_3.length c0_3) := (blk_cell BK.out 3).trans rfl; have hfz0w1 := blk_frozen BK.out 0; have hfz1w1 := blk_frozen BK.out 1; have hfz2w1 := blk_frozen BK.out 2; have hfz3w1 := blk_frozen BK.out 3) | ((with_reducible refine gate_callee (f := 15) rfl ?_); refine goesL_ (some 6) rfl rfl Tryd.func15 (by kernel_rfl) rfl #[.agg #[.int .i64 a0_0,.int .i64 a0_1,.slice A0_2 l0_2.length c0_2,.slice A0_3 l0_3.length c0_3]] rfl b12_4 ?_; (with_reducible refine (impl_ValidBlockCode.calls k a0_0 a0_1 A0_2 c0_2 l0_2 A0_3 c0_3 l0_3 _ _ ?side1 ?side2 ?side3 ?side4 AV.out).mono ?_); (case side1 => exact Kd.C_below HR2.out b12_0); (case side2 => exact HC2.out); (case side3 => exact Kd.C_below HR3.out b12_0); (case side4 => exact HC3.out); rintro e w2 ⟨rfl,hb⟩; refine ⟨_,rfl,?_⟩; have n0_ := Aside0.mk (below_step b12_0 hb); have n1_ := Aside0.mk (blk_below (g := g1) (o := (.cells #[.int .i64 a0_0,.int .i64 a0_1,.slice A0_2 l0_2.length c0_2,.slice A0_3 l0_3.length c0_3] 26 (0,0))) b12_2 hb); clear HB BK; have HB := n0_; have BK := n1_; clear n0_ n1_ hb; have hcz0w2 : w2.cell? ⟨g1,0,none⟩ = some (.int .i64 a0_0) := (blk_cell BK.out 0).trans rfl; have hcz1w2 : w2.cell? ⟨g1,1,none⟩ = some (.int .i64 a0_1) := (blk_cell BK.out 1).trans rfl; have hcz2w2 : w2.cell? ⟨g1,2,none⟩ = some (.slice A0_2 l0_2.length c0_2) := (blk_cell BK.out 2).trans rfl; have hcz3w2 : w2.cell? ⟨g1,3,none⟩ = some (.slice A0_3 l0_3.length c0_3) := (blk_cell BK.out 3).trans rfl; have hfz0w2 := blk_frozen BK.out 0; have hfz1w2 := blk_frozen BK.out 1; have hfz2w2 := blk_frozen BK.out 2; have hfz3w2 := blk_frozen BK.out 3) | ((with_reducible refine gate_callee (f := 45) rfl ?_); refine gate_guard (by rfl) ?_; dsimp only; refine goesL_ (some 23) rfl rfl Tryd.func45 (by kernel_rfl) rfl #[.string a1] rfl b12_4 ?_; (with_reducible refine (impl_areBits.calls a1 _ _ AB.out).mono ?_); rintro e w3 ⟨rfl,hb⟩; refine ⟨_,rfl,?_⟩; have n0_ := Aside0.mk (below_step b12_0 hb); have n1_ := Aside0.mk (blk_below (g := g1) (o := (.cells #[.int .i64 a0_0,.int .i64 a0_1,.slice A0_2 l0_2.length c0_2,.slice A0_3 l0_3.length c0_3] 26 (0,0))) b12_2 hb); clear HB BK; have HB := n0_; have BK := n1_; clear n0_ n1_ hb; have hcz0w3 : w3.cell? ⟨g1,0,none⟩ = some (.int .i64 a0_0) := (blk_cell BK.out 0).trans rfl; have hcz1w3 : w3.cell? ⟨g1,1,none⟩ = some (.int .i64 a0_1) := (blk_cell BK.out 1).trans rfl; have hcz2w3 : w3.cell? ⟨g1,2,none⟩ = some (.slice A0_2 l0_2.length c0_2) := (blk_cell BK.out 2).trans rfl; have hcz3w3 : w3.cell? ⟨g1,3,none⟩ = some (.slice A0_3 l0_3.length c0_3) := (blk_cell BK.out 3).trans rfl; have hfz0w3 := blk_frozen BK.out 0; have hfz1w3 := blk_frozen BK.out 1; have hfz2w3 := blk_frozen BK.out 2; have hfz3w3 := blk_frozen BK.out 3) | ((with_reducible refine gate_callee (f := 41) rfl ?_); refine goesL_ (some 29) rfl rfl Tryd.func41 (by kernel_rfl) rfl #[.agg #[.int .i64 a0_0,.int .i64 a0_1,.slice A0_2 l0_2.length c0_2,.slice A0_3 l0_3.length c0_3],.int .i64 (a1.size : Int)] rfl b12_4 ?_; (with_reducible refine (impl_BlockCode_parts.calls k a0_0 a0_1 A0_2 c0_2 l0_2 A0_3 c0_3 l0_3 (a1.size : Int) z _ ?side1 ?side2 ?side3 ?side4 AP.out).mono ?_); (case side1 => exact Kd.C_below HR2.out b12_0); (case side2 => exact HC2.out); (case side3 => exact Kd.C_below HR3.out b12_0); (case side4 => exact HC3.out); rintro e w4 ⟨⟨mb,rfl,hs⟩,hb⟩; refine ⟨_,rfl,?_⟩; have HS := Aside0.mk hs; clear hs; have n0_ := Aside0.mk (below_step b12_0 hb); have n1_ := Aside0.mk (blk_below (g := g1) (o := (.cells #[.int .i64 a0_0,.int .i64 a0_1,.slice A0_2 l0_2.length c0_2,.slice A0_3 l0_3.length c0_3] 26 (0,0))) b12_2 hb); clear HB BK; have HB := n0_; have BK := n1_; clear n0_ n1_ hb) | ((with_reducible refine gate_dst (N := 31) rfl ?_); refine MSet.wpList_seen _ rfl (.tmp 29) (.tmp 30) 74 rfl 9 4 (Maps.string_keyed Tryd.underlying9) hu69 Tryd.underlying4 (Tryd.zeroValue4 _) _ z.length (impl_BlockCode_parts.inS z) rfl HS.out (.string a1) (.string a1.data.toList) rfl (WideMaps.keyOf_string_mk Tryd.underlying9 SZ.out) ?_))
      go_ret
      exact ⟨b12_3,b12_0⟩
     ·rw [if_neg c3] at h; cases h

/-! ### impl_IsBits: function 29 -/
def impl_IsBits.f (a0 : ByteArray) : Option (Bool) := if (a0.size : Int) ≤ 400 then ((impl_areBits.f a0).bind fun t316 => (some t316)) else (some false)
set_option maxHeartbeats 8000000 in
set_option maxRecDepth 100000 in
theorem impl_IsBits.calls (a0 : ByteArray) (r : Bool) (w : World) (h : impl_IsBits.f a0 = some r) :
  Calls Tryd.prog 29 #[.string a0] w fun e w' => e = .returned (.bool r) ∧ Below w.heap.size w w' := by
 have HB := Aside0.mk (Below.refl w.heap.size w)
 have H : (if (a0.size : Int) ≤ 400 then ((impl_areBits.f a0).bind fun t316 => (some t316)) else (some false)) = some r := h
 clear h
 by_cases c2 : (a0.size : Int) ≤ 400
 ·rw [if_pos c2] at H
  have c2b0 : decide ((a0.size : Int) ≤ 400) = true := decide_eq_true c2
  have c2b1 : decide (a0.size ≤ 400) = true := decide_eq_true (by omega)
  clear c2
  replace H := Option.bind_eq_some_iff.mp H
  obtain ⟨t316,A30,H⟩ := H
  replace H : (some t316) = some r := H
  have A3 := Aside0.mk A30
  clear A30
  obtain rfl := Option.some.inj H
  go_enter Tryd.func29,Tryd.ntmps29
  go_wp2_with (first | (go_at_call 45; (with_reducible refine (impl_areBits.calls a0 t316 _ A3.out).mono ?_); rintro e w4 ⟨rfl,hb⟩; have n0_ := Aside0.mk (below_step b12_0 hb); clear HB; have HB := n0_; clear n0_; (try clear hb); (try clear hb2); (try clear hk); (try clear hi)))
  go_ret
  exact ⟨b12_5,b12_0⟩
 ·rw [if_neg c2] at H
  have c2b0 : decide ((a0.size : Int) ≤ 400) = false := decide_eq_false c2
  have c2b1 : decide (a0.size ≤ 400) = false := decide_eq_false (by omega)
  clear c2
  obtain rfl := Option.some.inj H
  go_enter Tryd.func29,Tryd.ntmps29
  go_wp2
  go_ret
  exact ⟨b12_5,b12_0⟩

/-! ### stringslite_HasPrefix: function 57 -/
def stringslite_HasPrefix.f (a0 : ByteArray) (a1 : ByteArray) : Option (Bool) := if (a0.size : Int) ≥ (a1.size : Int) then (if 0 ≤ (a1.size : Int) then (if (a1.size : Int) ≤ (a0.size : Int) then (some ((a0.extract 0 ((a1.size : Int) : Int).toNat).toList == a1.toList)) else (none)) else (none)) else (some false)
set_option maxHeartbeats 8000000 in
set_option maxRecDepth 100000 in
theorem stringslite_HasPrefix.calls (a0 : ByteArray) (a1 : ByteArray) (r : Bool) (w : World) (h : stringslite_HasPrefix.f a0 a1 = some r) :
  Calls Tryd.prog 57 #[.string a0,.string a1] w fun e w' => e = .returned (.bool r) ∧ Drawn0 w w' := by
 have H : (if (a0.size : Int) ≥ (a1.size : Int) then (if 0 ≤ (a1.size : Int) then (if (a1.size : Int) ≤ (a0.size : Int) then (some ((a0.extract 0 ((a1.size : Int) : Int).toNat).toList == a1.toList)) else (none)) else (none)) else (some false)) = some r := h
 clear h
 by_cases c3 : (a0.size : Int) ≥ (a1.size : Int)
 ·rw [if_pos c3] at H
  have c3b0 : decide ((a1.size : Int) ≤ (a0.size : Int)) = true := decide_eq_true c3
  have c3b1 : decide (a1.size ≤ a0.size) = true := decide_eq_true (Int.ofNat_le.mp c3)
  clear c3
  by_cases c4 : 0 ≤ (a1.size : Int)
  ·rw [if_pos c4] at H
   have c4b0 := eq_true c4
   have c4b1 : decide (0 ≤ (a1.size : Int)) = true := decide_eq_true c4
   clear c4
   by_cases c5 : (a1.size : Int) ≤ (a0.size : Int)
   ·rw [if_pos c5] at H
    have c5b0 := eq_true c5
    have c5b1 : decide ((a1.size : Int) ≤ (a0.size : Int)) = true := decide_eq_true c5
    clear c5
    obtain rfl := Option.some.inj H
    go_enter Tryd.func57,Tryd.ntmps57
    go_wp2
    go_ret
    exact ⟨b12_3,b12_7⟩
   ·rw [if_neg c5] at H
    exact absurd H (by simp)
  ·rw [if_neg c4] at H
   exact absurd H (by simp)
 ·rw [if_neg c3] at H
  have c3b0 : decide ((a1.size : Int) ≤ (a0.size : Int)) = false := decide_eq_false c3
  have c3b1 : decide (a1.size ≤ a0.size) = false := decide_eq_false (fun h => c3 (Int.ofNat_le.mpr h))
  clear c3
  obtain rfl := Option.some.inj H
  go_enter Tryd.func57,Tryd.ntmps57
  go_wp2
  go_ret
  exact ⟨b12_3,b12_7⟩

/-! ### strings_HasPrefix: function 46 -/
def strings_HasPrefix.f (a0 : ByteArray) (a1 : ByteArray) : Option (Bool) := (stringslite_HasPrefix.f a0 a1).bind fun t317 => (some t317)
set_option maxHeartbeats 8000000 in
set_option maxRecDepth 100000 in
theorem strings_HasPrefix.calls (a0 : ByteArray) (a1 : ByteArray) (r : Bool) (w : World) (h : strings_HasPrefix.f a0 a1 = some r) :
  Calls Tryd.prog 46 #[.string a0,.string a1] w fun e w' => e = .returned (.bool r) ∧ Drawn0 w w' := by
 have H : ((stringslite_HasPrefix.f a0 a1).bind fun t317 => (some t317)) = some r := h
 clear h
 replace H := Option.bind_eq_some_iff.mp H
 obtain ⟨t317,A30,H⟩ := H
 replace H : (some t317) = some r := H
 have A3 := Aside0.mk A30
 clear A30
 obtain rfl := Option.some.inj H
 go_enter Tryd.func46,Tryd.ntmps46
 go_wp2_with (first | ((with_reducible refine gate_callee (f := 57) rfl ?_); refine goesL_ (some 7) rfl rfl Tryd.func57 (by kernel_rfl) rfl #[.string a0,.string a1] rfl b12_1 ?_; (with_reducible refine (stringslite_HasPrefix.calls a0 a1 t317 _ A3.out).mono ?_); rintro e w' ⟨rfl,⟨nd,rfl⟩⟩; refine ⟨_,rfl,?_⟩))
 go_ret
 exact ⟨b12_3,b12_7⟩

/-! ### impl_CountBits: function 21 -/
mutual
def impl_CountBits.j0 : Nat → ByteArray → ByteArray → Bool → Option (Int × Bool)
 | 0,_,_,_ => none
 | k + 1,x0,x1,x19 => if x19 = true then (some (0,false)) else (impl_CountBits.l0 k x0 x1 0 (x0.size : Int) 0)
def impl_CountBits.l0 : Nat → ByteArray → ByteArray → Int → Int → Int → Option (Int × Bool)
 | 0,_,_,_,_,_ => none
 | k + 1,x0,x1,x6,x21,x22 => if x22 < x21 then (if 0 ≤ x22 then (if x22 ≤ (x0.size : Int) then ((strings_HasPrefix.f (x0.extract (x22 : Int).toNat x0.size) x1).bind fun t320 => (if t320 = true then (impl_CountBits.l0 k x0 x1 (wrap64 (x6 + 1)) x21 (wrap64 (x22 + 1))) else (impl_CountBits.l0 k x0 x1 x6 x21 (wrap64 (x22 + 1))))) else (none)) else (none)) else (some (x6,true))
end
def impl_CountBits.f (k : Nat) (a0 : ByteArray) (a1 : ByteArray) : Option (Int × Bool) := (impl_IsBits.f a0).bind fun t318 => (if t318 = true then ((impl_IsBits.f a1).bind fun t319 => (if t319 = true then (impl_CountBits.j0 k a0 a1 (a1.toList == ([] : List UInt8))) else (impl_CountBits.j0 k a0 a1 true))) else (impl_CountBits.j0 k a0 a1 true))
set_option maxHeartbeats 8000000 in
set_option maxRecDepth 100000 in
theorem impl_CountBits.calls (k : Nat) (a0 : ByteArray) (a1 : ByteArray) (r1 : Int) (r2 : Bool) (w : World) (h : impl_CountBits.f k a0 a1 = some (r1,r2)) :
  Calls Tryd.prog 21 #[.string a0,.string a1] w fun e w' => e = .returned (.tuple #[.int .i64 r1,.bool r2]) ∧ Below w.heap.size w w' := by
 have HB := Aside0.mk (Below.refl w.heap.size w)
 have H : ((impl_IsBits.f a0).bind fun t318 => (if t318 = true then ((impl_IsBits.f a1).bind fun t319 => (if t319 = true then (impl_CountBits.j0 k a0 a1 (a1.toList == ([] : List UInt8))) else (impl_CountBits.j0 k a0 a1 true))) else (impl_CountBits.j0 k a0 a1 true))) = some (r1,r2) := h
 clear h
 have HC3 := Aside0.mk H
 clear H
 go_enter Tryd.func21,Tryd.ntmps21
 go_upto_region 1 with (fail)
 go_cut [19] (fun v19 wc => ∃ (kq : Nat) (x19_2 : Bool),v19 = .bool x19_2 ∧ Aside0 (impl_CountBits.j0 kq a0 a1 x19_2 = some (r1,r2)) ∧ Aside0 (kq ≤ k) ∧ Aside0 (Below w.heap.size w wc))
 case first =>
  have H := HC3.out
  clear HC3
  replace H := Option.bind_eq_some_iff.mp H
  obtain ⟨t318,A40,H⟩ := H
  replace H : (if t318 = true then ((impl_IsBits.f a1).bind fun t319 => (if t319 = true then (impl_CountBits.j0 k a0 a1 (a1.toList == ([] : List UInt8))) else (impl_CountBits.j0 k a0 a1 true))) else (impl_CountBits.j0 k a0 a1 true)) = some (r1,r2) := H
  have A4 := Aside0.mk A40
  clear A40
  by_cases c5 : t318 = true
  ·subst c5
   have H1 : ((impl_IsBits.f a1).bind fun t319 => (if t319 = true then (impl_CountBits.j0 k a0 a1 (a1.toList == ([] : List UInt8))) else (impl_CountBits.j0 k a0 a1 true))) = some (r1,r2) := by rw [if_pos rfl] at H; exact H
   clear H
   have H := H1
   clear H1
   replace H := Option.bind_eq_some_iff.mp H
   obtain ⟨t319,A60,H⟩ := H
   replace H : (if t319 = true then (impl_CountBits.j0 k a0 a1 (a1.toList == ([] : List UInt8))) else (impl_CountBits.j0 k a0 a1 true)) = some (r1,r2) := H
   have A6 := Aside0.mk A60
   clear A60
   by_cases c7 : t319 = true
   ·subst c7
    have H1 : (impl_CountBits.j0 k a0 a1 (a1.toList == ([] : List UInt8))) = some (r1,r2) := by rw [if_pos rfl] at H; exact H
    clear H
    have H := H1
    clear H1
    have H' := Aside0.mk H
    clear H
    go_wp2_with (first | ((with_reducible refine gate_callee (f := 29) rfl ?_); refine goesL_ (some 9) rfl rfl Tryd.func29 (by kernel_rfl) rfl #[.string a0] rfl b12_1 ?_; (with_reducible refine (impl_IsBits.calls a0 true _ A4.out).mono ?_); rintro e w8 ⟨rfl,hb⟩; refine ⟨_,rfl,?_⟩; have n0_ := Aside0.mk (below_step b12_0 hb); clear HB; have HB := n0_; clear n0_; (try clear hb); (try clear hb2); (try clear hk); (try clear hi)) | (go_at_call 29; (with_reducible refine (impl_IsBits.calls a1 true _ A6.out).mono ?_); rintro e w9 ⟨rfl,hb⟩; have n0_ := Aside0.mk (below_step b12_0 hb); clear HB; have HB := n0_; clear n0_; (try clear hb); (try clear hb2); (try clear hk); (try clear hi)))
    go_meet
    case rel => exact ⟨_,((a1.toList == ([] : List UInt8))),b12_3,H',⟨by first | omega | exact Nat.le_refl _⟩,⟨b12_0⟩⟩
   ·replace c7 := Bool.eq_false_iff.mpr c7
    subst c7
    have H1 : (impl_CountBits.j0 k a0 a1 true) = some (r1,r2) := by rw [if_neg (show ¬ (false = true) by decide)] at H; exact H
    clear H
    have H := H1
    clear H1
    have H' := Aside0.mk H
    clear H
    go_wp2_with (first | ((with_reducible refine gate_callee (f := 29) rfl ?_); refine goesL_ (some 9) rfl rfl Tryd.func29 (by kernel_rfl) rfl #[.string a0] rfl b12_1 ?_; (with_reducible refine (impl_IsBits.calls a0 true _ A4.out).mono ?_); rintro e w10 ⟨rfl,hb⟩; refine ⟨_,rfl,?_⟩; have n0_ := Aside0.mk (below_step b12_0 hb); clear HB; have HB := n0_; clear n0_; (try clear hb); (try clear hb2); (try clear hk); (try clear hi)) | (go_at_call 29; (with_reducible refine (impl_IsBits.calls a1 false _ A6.out).mono ?_); rintro e w11 ⟨rfl,hb⟩; have n0_ := Aside0.mk (below_step b12_0 hb); clear HB; have HB := n0_; clear n0_; (try clear hb); (try clear hb2); (try clear hk); (try clear hi)))
    go_meet
    case rel => exact ⟨_,(true),b12_3,H',⟨by first | omega | exact Nat.le_refl _⟩,⟨b12_0⟩⟩
  ·replace c5 := Bool.eq_false_iff.mpr c5
   subst c5
   have H1 : (impl_CountBits.j0 k a0 a1 true) = some (r1,r2) := by rw [if_neg (show ¬ (false = true) by decide)] at H; exact H
   clear H
   have H := H1
   clear H1
   have H' := Aside0.mk H
   clear H
   go_wp2_with (first | ((with_reducible refine gate_callee (f := 29) rfl ?_); refine goesL_ (some 9) rfl rfl Tryd.func29 (by kernel_rfl) rfl #[.string a0] rfl b12_1 ?_; (with_reducible refine (impl_IsBits.calls a0 false _ A4.out).mono ?_); rintro e w12 ⟨rfl,hb⟩; refine ⟨_,rfl,?_⟩; have n0_ := Aside0.mk (below_step b12_0 hb); clear HB; have HB := n0_; clear n0_; (try clear hb); (try clear hb2); (try clear hk); (try clear hi)))
   go_meet
   case rel => exact ⟨_,(true),b12_3,H',⟨by first | omega | exact Nat.le_refl _⟩,⟨b12_0⟩⟩
 case rest =>
  clear HC3
  (try clear c2);(try clear p2);(try clear c5);(try clear c7)
  obtain ⟨kq,x19_2,rfl,HA,HJ2,HB⟩ := hcut
  cases kq with
  | zero => exact absurd HA.out (by simp [impl_CountBits.j0])
  | succ kj2 =>
   have H := HA.out
   clear HA
   simp only [impl_CountBits.j0] at H
   by_cases c13 : x19_2 = true
   ·subst c13
    have H1 : (some (0,false)) = some (r1,r2) := by rw [if_pos rfl] at H; exact H
    clear H
    have H := H1
    clear H1
    simp only [Option.some.injEq,Prod.mk.injEq] at H
    obtain ⟨rfl,rfl⟩ := H
    go_wp2
    go_ret2
    exact ⟨b12_5,b12_0⟩
   ·replace c13 := Bool.eq_false_iff.mpr c13
    subst c13
    have H1 : (impl_CountBits.l0 kj2 a0 a1 0 (a0.size : Int) 0) = some (r1,r2) := by rw [if_neg (show ¬ (false = true) by decide)] at H; exact H
    clear H
    have H := H1
    clear H1
    have H' := Aside0.mk H
    clear H
    go_wp2
    go_loopg [6,22] kj2 (fun kq v6 v22 w' => ∃ (x6_2 : Int) (x22_2 : Int),v6 = .int .i64 x6_2 ∧ v22 = .int .i64 x22_2 ∧ Aside0 (impl_CountBits.l0 kq a0 a1 x6_2 (a0.size : Int) x22_2 = some (r1,r2)) ∧ Aside0 (kq ≤ kj2) ∧ Aside0 (Below w.heap.size w w'))
    case atStart => exact ⟨(0),(0),b12_3,b12_3,H',⟨Nat.le_refl _⟩,⟨b12_0⟩⟩
    case round =>
     clear H'
     (try clear c1);(try clear c2);(try clear p2);(try clear c5);(try clear c7);(try clear c13);(try clear p2)
     obtain ⟨x6_2,x22_2,rfl,rfl,HA,HK2,HB⟩ := hrel
     cases gk with
     | zero => exact absurd HA.out (by simp [impl_CountBits.l0])
     | succ k2 =>
      have H := HA.out
      clear HA
      simp only [impl_CountBits.l0] at H
      by_cases c14 : x22_2 < (a0.size : Int)
      ·rw [if_pos c14] at H
       have c14b0 : decide (x22_2 < (a0.size : Int)) = true := decide_eq_true c14
       clear c14
       by_cases c15 : 0 ≤ x22_2
       ·rw [if_pos c15] at H
        have c15b0 := eq_true c15
        have c15b1 : decide (0 ≤ x22_2) = true := decide_eq_true c15
        clear c15
        by_cases c16 : x22_2 ≤ (a0.size : Int)
        ·rw [if_pos c16] at H
         have c16b0 := eq_true c16
         have c16b1 : decide (x22_2 ≤ (a0.size : Int)) = true := decide_eq_true c16
         clear c16
         replace H := Option.bind_eq_some_iff.mp H
         obtain ⟨t320,A170,H⟩ := H
         replace H : (if t320 = true then (impl_CountBits.l0 k2 a0 a1 (wrap64 (x6_2 + 1)) (a0.size : Int) (wrap64 (x22_2 + 1))) else (impl_CountBits.l0 k2 a0 a1 x6_2 (a0.size : Int) (wrap64 (x22_2 + 1)))) = some (r1,r2) := H
         have A17 := Aside0.mk A170
         clear A170
         by_cases c18 : t320 = true
         ·subst c18
          have H1 : (impl_CountBits.l0 k2 a0 a1 (wrap64 (x6_2 + 1)) (a0.size : Int) (wrap64 (x22_2 + 1))) = some (r1,r2) := by rw [if_pos rfl] at H; exact H
          clear H
          have H := H1
          clear H1
          have H' := Aside0.mk H
          clear H
          go_wp2_with (first | ((with_reducible refine gate_callee (f := 46) rfl ?_); refine goesL_ (some 29) rfl rfl Tryd.func46 (by kernel_rfl) rfl #[.string (a0.extract (x22_2 : Int).toNat a0.size),.string a1] rfl b12_1 ?_; (with_reducible refine (strings_HasPrefix.calls (a0.extract (x22_2 : Int).toNat a0.size) a1 true _ A17.out).mono ?_); rintro e w' ⟨rfl,⟨nd,rfl⟩⟩; refine ⟨_,rfl,?_⟩))
          go_roundg k2
          case measure => have := HJ2.out; have := HK2.out; omega
          case rel => exact ⟨(wrap64 (x6_2 + 1)),(wrap64 (x22_2 + 1)),b12_3,b12_3,H',⟨by have := HJ2.out; have := HK2.out; omega⟩,⟨b12_0⟩⟩
         ·replace c18 := Bool.eq_false_iff.mpr c18
          subst c18
          have H1 : (impl_CountBits.l0 k2 a0 a1 x6_2 (a0.size : Int) (wrap64 (x22_2 + 1))) = some (r1,r2) := by rw [if_neg (show ¬ (false = true) by decide)] at H; exact H
          clear H
          have H := H1
          clear H1
          have H' := Aside0.mk H
          clear H
          go_wp2_with (first | ((with_reducible refine gate_callee (f := 46) rfl ?_); refine goesL_ (some 29) rfl rfl Tryd.func46 (by kernel_rfl) rfl #[.string (a0.extract (x22_2 : Int).toNat a0.size),.string a1] rfl b12_1 ?_; (with_reducible refine (strings_HasPrefix.calls (a0.extract (x22_2 : Int).toNat a0.size) a1 false _ A17.out).mono ?_); rintro e w' ⟨rfl,⟨nd,rfl⟩⟩; refine ⟨_,rfl,?_⟩))
          go_roundg k2
          case measure => have := HJ2.out; have := HK2.out; omega
          case rel => exact ⟨(x6_2),(wrap64 (x22_2 + 1)),b12_3,b12_3,H',⟨by have := HJ2.out; have := HK2.out; omega⟩,⟨b12_0⟩⟩
        ·rw [if_neg c16] at H
         exact absurd H (by simp)
       ·rw [if_neg c15] at H
        exact absurd H (by simp)
      ·rw [if_neg c14] at H
       have c14b0 : decide (x22_2 < (a0.size : Int)) = false := decide_eq_false c14
       clear c14
       simp only [Option.some.injEq,Prod.mk.injEq] at H
       obtain ⟨rfl,rfl⟩ := H
       go_wp2
       go_ret2
       exact ⟨b12_5,b12_0⟩

end Go.Proofs.YtegeaoiclepkkabDoor.QFnCommas
