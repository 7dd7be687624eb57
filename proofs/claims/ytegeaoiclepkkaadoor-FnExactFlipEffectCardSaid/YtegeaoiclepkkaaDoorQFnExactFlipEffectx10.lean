/-
Each Go function that this text names answers as the Lean function beside it says,wherever that one answers; conditions: the arguments lie in memory as each theorem states it.
-/
import Derived.Test.YtegeaoiclepkkaaDoorQFnExactFlipEffectx0
import Derived.Test.YtegeaoiclepkkaaDoorQFnExactFlipEffectx8
import Derived.Test.YtegeaoiclepkkaaDoorQFnExactFlipEffectx9
namespace Go.Proofs.YtegeaoiclepkkaaDoor.QFnExactFlipEffect
open Go.RowKit Go.Proofs.YtegeaoiclepkkaaDoorW.PrintWords Go.Proofs.YtegeaoiclepkkaaDoorW.PrintLast Go.Proofs.YtegeaoiclepkkaaDoorW.PrintMore
attribute [local go_sem] max2_int min2_int max_two min_two max_three min_three max_four min_four   -- for this text's walks alone
set_option linter.unusedVariables false
set_option linter.unusedSimpArgs false

/-! ### impl_isLineState: function 61 -/
def impl_isLineState.f (a0 : Int) : Option (Bool) := if a0 = (-1) then (some true) else (some (a0 == 1))
set_option maxHeartbeats 8000000 in
set_option maxRecDepth 100000 in
theorem impl_isLineState.calls (a0 : Int) (r : Bool) (w : World) (h : impl_isLineState.f a0 = some r) :
  Calls Tryd.prog 61 #[.int .i64 a0] w fun e w' => e = .returned (.bool r) ∧ Drawn0 w w' := by
 have H : (if a0 = (-1) then (some true) else (some (a0 == 1))) = some r := h
 clear h
 by_cases c2 : a0 = (-1)
 ·rw [if_pos c2] at H
  have c2b0 : (a0 == (-1)) = true := beq_iff_eq.mpr c2
  have c2b1 : (a0 != (-1)) = false := bne_eq_false_iff_eq.mpr c2
  clear c2
  obtain rfl := Option.some.inj H
  go_enter Tryd.func61,Tryd.ntmps61
  go_wp2
  go_ret
  exact ⟨by first | rfl | (simp; done) | (simp [*]; done),by repeat (first | exact Drawn0.refl _ | apply Drawn0.step)⟩
 ·rw [if_neg c2] at H
  have c2b0 : (a0 == (-1)) = false := beq_eq_false_iff_ne.mpr c2
  have c2b1 : (a0 != (-1)) = true := bne_iff_ne.mpr c2
  obtain rfl := Option.some.inj H
  go_enter Tryd.func61,Tryd.ntmps61
  go_wp2
  go_ret
  exact ⟨by first | rfl | (simp; done) | (simp [*]; done),by repeat (first | exact Drawn0.refl _ | apply Drawn0.step)⟩

/-! ### impl_areIn: function 62 -/
def impl_areIn.l0 : Nat → Int → Int → List Int → Int → Int → Option (Bool)
 | 0,_,_,_,_,_ => none
 | k + 1,x1,x2,x9,x10,x11 => if x11 < x10 then (if 0 ≤ x11 then (if x11 < (x9.length : Int) then ((impl_within.f (rd x9 x11) x1 x2).bind fun t243 => (if t243 = true then (impl_areIn.l0 k x1 x2 x9 x10 (wrap64 (x11 + 1))) else (some false))) else (none)) else (none)) else (some true)
def impl_areIn.f (k : Nat) (l0 : List Int) (a1 : Int) (a2 : Int) : Option (Bool) := impl_areIn.l0 k a1 a2 l0 (l0.length : Int) 0
set_option maxHeartbeats 8000000 in
set_option maxRecDepth 100000 in
theorem impl_areIn.calls (k : Nat) (A0 : Option Addr) (c0 : Nat) (l0 : List Int) (a1 : Int) (a2 : Int) (r : Bool) (w : World) (hr0 : Kd.C (Kd.int .i64) w A0 l0.length l0) (hc0 : l0.length ≤ c0) (h : impl_areIn.f k l0 a1 a2 = some r) :
  Calls Tryd.prog 62 #[.slice A0 l0.length c0,.int .i64 a1,.int .i64 a2] w fun e w' => e = .returned (.bool r) ∧ Drawn0 w w' := by
 have HR0 := Aside0.mk hr0
 have HC0 := Aside0.mk hc0
 clear hr0 hc0
 have H : (impl_areIn.l0 k a1 a2 l0 (l0.length : Int) 0) = some r := h
 clear h
 have H' := Aside0.mk H
 clear H
 go_enter Tryd.func62,Tryd.ntmps62
 go_wp2
 go_loopg [11] k (fun kq v11 w' => ∃ (x11_1 : Int),v11 = .int .i64 x11_1 ∧ Aside0 (impl_areIn.l0 kq a1 a2 l0 (l0.length : Int) x11_1 = some r) ∧ Aside0 (kq ≤ k) ∧ Drawn0 w w')
 case atStart => exact ⟨(0),(by first | rfl | (simp; done) | (simp [*]; done)),H',⟨Nat.le_refl _⟩,by repeat (first | exact Drawn0.refl _ | apply Drawn0.step)⟩
 case round =>
  clear H'
  try clear p2
  obtain ⟨x11_1,rfl,HA,HK1,⟨m1,rfl⟩⟩ := hrel
  cases gk with
  | zero => exact absurd HA.out (by simp [impl_areIn.l0])
  | succ k1 =>
   have H := HA.out
   clear HA
   simp only [impl_areIn.l0] at H
   by_cases c4 : x11_1 < (l0.length : Int)
   ·rw [if_pos c4] at H
    have c4b0 : decide (x11_1 < (l0.length : Int)) = true := decide_eq_true c4
    clear c4
    by_cases c5 : 0 ≤ x11_1
    ·rw [if_pos c5] at H
     have c5b0 : decide (0 ≤ x11_1) = true := decide_eq_true c5
     clear c5
     by_cases c6 : x11_1 < (l0.length : Int)
     ·rw [if_pos c6] at H
      have c6b0 : decide (x11_1 < (l0.length : Int)) = true := decide_eq_true c6
      clear c6
      replace H := Option.bind_eq_some_iff.mp H
      obtain ⟨t243,A70,H⟩ := H
      replace H : (if t243 = true then (impl_areIn.l0 k1 a1 a2 l0 (l0.length : Int) (wrap64 (x11_1 + 1))) else (some false)) = some r := H
      have A7 := Aside0.mk A70
      clear A70
      by_cases c8 : t243 = true
      ·subst c8
       have H1 : (impl_areIn.l0 k1 a1 a2 l0 (l0.length : Int) (wrap64 (x11_1 + 1))) = some r := by rw [if_pos rfl] at H; exact H
       clear H
       have H := H1
       clear H1
       have H' := Aside0.mk H
       clear H
       have p242 : 0 ≤ (x11_1 : Int) := of_decide_eq_true (by first | (with_reducible assumption) | assumption)
       have q242 : x11_1 < (l0.length : Int) := of_decide_eq_true (by first | (with_reducible assumption) | assumption)
       obtain ⟨ad242,e242,hx242_0⟩ := Kd.at_int HR0.out x11_1 p242 q242
       cases e242
       replace p242 := eq_true p242
       replace q242 := eq_true q242
       go_wp2_with (first | ((with_reducible refine gate_callee (f := 73) rfl ?_); refine goesL_ (some 18) rfl rfl Tryd.func73 (by kernel_rfl) rfl #[.int .i64 (rd l0 x11_1),.int .i64 a1,.int .i64 a2] rfl (by (try simp only [List.map_toArray,List.map_cons,List.map_nil]); first | done | rfl | (simp only [List.length_drop,List.length_take]; rfl)) ?_; (with_reducible refine (impl_within.calls (rd l0 x11_1) a1 a2 true _ A7.out).mono ?_); rintro e w' ⟨rfl,⟨nd,rfl⟩⟩; refine ⟨_,rfl,?_⟩))
       go_roundg k1
       case measure => have := HK1.out; omega
       case rel => exact ⟨(wrap64 (x11_1 + 1)),(by first | rfl | (simp; done) | (simp [*]; done)),H',⟨by have := HK1.out; omega⟩,by repeat (first | exact Drawn0.refl _ | apply Drawn0.step)⟩
      ·replace c8 := Bool.eq_false_iff.mpr c8
       subst c8
       have H1 : (some false) = some r := by rw [if_neg (show ¬ (false = true) by decide)] at H; exact H
       clear H
       have H := H1
       clear H1
       obtain rfl := Option.some.inj H
       have p242 : 0 ≤ (x11_1 : Int) := of_decide_eq_true (by first | (with_reducible assumption) | assumption)
       have q242 : x11_1 < (l0.length : Int) := of_decide_eq_true (by first | (with_reducible assumption) | assumption)
       obtain ⟨ad242,e242,hx242_0⟩ := Kd.at_int HR0.out x11_1 p242 q242
       cases e242
       replace p242 := eq_true p242
       replace q242 := eq_true q242
       go_wp2_with (first | ((with_reducible refine gate_callee (f := 73) rfl ?_); refine goesL_ (some 18) rfl rfl Tryd.func73 (by kernel_rfl) rfl #[.int .i64 (rd l0 x11_1),.int .i64 a1,.int .i64 a2] rfl (by (try simp only [List.map_toArray,List.map_cons,List.map_nil]); first | done | rfl | (simp only [List.length_drop,List.length_take]; rfl)) ?_; (with_reducible refine (impl_within.calls (rd l0 x11_1) a1 a2 false _ A7.out).mono ?_); rintro e w' ⟨rfl,⟨nd,rfl⟩⟩; refine ⟨_,rfl,?_⟩))
       go_ret
       exact ⟨by first | rfl | (simp; done) | (simp [*]; done),by repeat (first | exact Drawn0.refl _ | apply Drawn0.step)⟩
     ·rw [if_neg c6] at H
      exact absurd H (by simp)
    ·rw [if_neg c5] at H
     exact absurd H (by simp)
   ·rw [if_neg c4] at H
    have c4b0 : decide (x11_1 < (l0.length : Int)) = false := decide_eq_false c4
    clear c4
    obtain rfl := Option.some.inj H
    go_wp2
    go_ret
    exact ⟨by first | rfl | (simp; done) | (simp [*]; done),by repeat (first | exact Drawn0.refl _ | apply Drawn0.step)⟩

/-! ### impl_stateBehind: function 63 -/
def impl_stateBehind.f (a0 : Int) (a1 : ByteArray) : Option (Int) := (impl_disparity.f a1).bind fun t244 => (if t244 > 0 then (some 1) else (if t244 < 0 then (some (-1)) else (some a0)))
set_option maxHeartbeats 8000000 in
set_option maxRecDepth 100000 in
theorem impl_stateBehind.calls (a0 : Int) (a1 : ByteArray) (r : Int) (w : World) (h : impl_stateBehind.f a0 a1 = some r) :
  Calls Tryd.prog 63 #[.int .i64 a0,.string a1] w fun e w' => e = .returned (.int .i64 r) ∧ Drawn0 w w' := by
 have H : ((impl_disparity.f a1).bind fun t244 => (if t244 > 0 then (some 1) else (if t244 < 0 then (some (-1)) else (some a0)))) = some r := h
 clear h
 replace H := Option.bind_eq_some_iff.mp H
 obtain ⟨t244,A30,H⟩ := H
 replace H : (if t244 > 0 then (some 1) else (if t244 < 0 then (some (-1)) else (some a0))) = some r := H
 have A3 := Aside0.mk A30
 clear A30
 by_cases c4 : t244 > 0
 ·rw [if_pos c4] at H
  have c4b0 : decide (0 < t244) = true := decide_eq_true c4
  clear c4
  obtain rfl := Option.some.inj H
  go_enter Tryd.func63,Tryd.ntmps63
  go_wp2_with (first | ((with_reducible refine gate_callee (f := 44) rfl ?_); refine goesL_ (some 7) rfl rfl Tryd.func44 (by kernel_rfl) rfl #[.string a1] rfl (by (try simp only [List.map_toArray,List.map_cons,List.map_nil]); first | done | rfl | (simp only [List.length_drop,List.length_take]; rfl)) ?_; (with_reducible refine (impl_disparity.calls a1 t244 _ A3.out).mono ?_); rintro e w' ⟨rfl,⟨nd,rfl⟩⟩; refine ⟨_,rfl,?_⟩))
  go_ret
  exact ⟨by first | rfl | (simp; done) | (simp [*]; done),by repeat (first | exact Drawn0.refl _ | apply Drawn0.step)⟩
 ·rw [if_neg c4] at H
  have c4b0 : decide (0 < t244) = false := decide_eq_false c4
  clear c4
  by_cases c5 : t244 < 0
  ·rw [if_pos c5] at H
   have c5b0 : decide (t244 < 0) = true := decide_eq_true c5
   clear c5
   obtain rfl := Option.some.inj H
   go_enter Tryd.func63,Tryd.ntmps63
   go_wp2_with (first | ((with_reducible refine gate_callee (f := 44) rfl ?_); refine goesL_ (some 7) rfl rfl Tryd.func44 (by kernel_rfl) rfl #[.string a1] rfl (by (try simp only [List.map_toArray,List.map_cons,List.map_nil]); first | done | rfl | (simp only [List.length_drop,List.length_take]; rfl)) ?_; (with_reducible refine (impl_disparity.calls a1 t244 _ A3.out).mono ?_); rintro e w' ⟨rfl,⟨nd,rfl⟩⟩; refine ⟨_,rfl,?_⟩))
   go_ret
   exact ⟨by first | rfl | (simp; done) | (simp [*]; done),by repeat (first | exact Drawn0.refl _ | apply Drawn0.step)⟩
  ·rw [if_neg c5] at H
   have c5b0 : decide (t244 < 0) = false := decide_eq_false c5
   clear c5
   obtain rfl := Option.some.inj H
   go_enter Tryd.func63,Tryd.ntmps63
   go_wp2_with (first | ((with_reducible refine gate_callee (f := 44) rfl ?_); refine goesL_ (some 7) rfl rfl Tryd.func44 (by kernel_rfl) rfl #[.string a1] rfl (by (try simp only [List.map_toArray,List.map_cons,List.map_nil]); first | done | rfl | (simp only [List.length_drop,List.length_take]; rfl)) ?_; (with_reducible refine (impl_disparity.calls a1 t244 _ A3.out).mono ?_); rintro e w' ⟨rfl,⟨nd,rfl⟩⟩; refine ⟨_,rfl,?_⟩))
   go_ret
   exact ⟨by first | rfl | (simp; done) | (simp [*]; done),by repeat (first | exact Drawn0.refl _ | apply Drawn0.step)⟩

/-! ### impl_EncodeBlocks: function 25 -/
mutual
def impl_EncodeBlocks.j0 : Nat → Int → List Int → Bool → Int → Int → List ByteArray → List ByteArray → Option (ByteArray × Int × Bool)
 | 0,_,_,_,_,_,_,_ => none
 | k + 1,x1,x2,x39,x246000,x246001,x246002,x246003 => if x39 = true then (some ((⟨#[]⟩ : ByteArray),0,false)) else (impl_EncodeBlocks.l0 k (⟨#[]⟩ : ByteArray) x1 x2 (x2.length : Int) 0 x246000 x246001 x246002 x246003)
def impl_EncodeBlocks.l0 : Nat → ByteArray → Int → List Int → Int → Int → Int → Int → List ByteArray → List ByteArray → Option (ByteArray × Int × Bool)
 | 0,_,_,_,_,_,_,_,_,_ => none
 | k + 1,x9,x10,x41,x42,x43,x246000,x246001,x246002,x246003 => if x43 < x42 then (if 0 ≤ x43 then (if x43 < (x41.length : Int) then (if x10 < 0 then ((impl_BlockCode_words_neg.f x246000 x246001 x246002 x246003 x10).bind fun _ => (if 0 ≤ (rd x41 x43) then (if (rd x41 x43) < (x246002.length : Int) then (if x9.size + (rdOf ByteArray.empty x246002 (rd x41 x43)).size ≤ 9223372036854775807 then ((impl_stateBehind.f x10 (rdOf ByteArray.empty x246002 (rd x41 x43))).bind fun t252 => (impl_EncodeBlocks.l0 k (x9 ++ (rdOf ByteArray.empty x246002 (rd x41 x43))) t252 x41 x42 (wrap64 (x43 + 1)) x246000 x246001 x246002 x246003)) else (none)) else (none)) else (none))) else ((impl_BlockCode_words_pos.f x246000 x246001 x246002 x246003 x10).bind fun _ => (if 0 ≤ (rd x41 x43) then (if (rd x41 x43) < (x246003.length : Int) then (if x9.size + (rdOf ByteArray.empty x246003 (rd x41 x43)).size ≤ 9223372036854775807 then ((impl_stateBehind.f x10 (rdOf ByteArray.empty x246003 (rd x41 x43))).bind fun t255 => (impl_EncodeBlocks.l0 k (x9 ++ (rdOf ByteArray.empty x246003 (rd x41 x43))) t255 x41 x42 (wrap64 (x43 + 1)) x246000 x246001 x246002 x246003)) else (none)) else (none)) else (none)))) else (none)) else (none)) else (some (x9,x10,true))
end
def impl_EncodeBlocks.f (k : Nat) (a0_0 : Int) (a0_1 : Int) (l0_2 : List ByteArray) (l0_3 : List ByteArray) (a1 : Int) (l2 : List Int) : Option (ByteArray × Int × Bool) := (impl_ValidBlockCode.f k a0_0 a0_1 l0_2 l0_3).bind fun t246 => (if t246 = true then ((impl_isLineState.f a1).bind fun t247 => (if t247 = true then (if 0 ≤ a0_0 then ((impl_areIn.f k l2 0 (wrap64 ((shl .i64 1 a0_0) - 1))).bind fun t248 => (if t248 = true then (if a0_1 = 0 then (none) else (impl_EncodeBlocks.j0 k a1 l2 (decide ((l2.length : Int) > (wrap64 (Int.tdiv (400 : Int) a0_1)))) a0_0 a0_1 l0_2 l0_3)) else (impl_EncodeBlocks.j0 k a1 l2 true a0_0 a0_1 l0_2 l0_3))) else (none)) else (impl_EncodeBlocks.j0 k a1 l2 true a0_0 a0_1 l0_2 l0_3))) else (impl_EncodeBlocks.j0 k a1 l2 true a0_0 a0_1 l0_2 l0_3))
set_option maxHeartbeats 8000000 in
set_option maxRecDepth 100000 in
theorem impl_EncodeBlocks.calls (k : Nat) (a0_0 : Int) (a0_1 : Int) (A0_2 : Option Addr) (c0_2 : Nat) (l0_2 : List ByteArray) (A0_3 : Option Addr) (c0_3 : Nat) (l0_3 : List ByteArray) (a1 : Int) (A2 : Option Addr) (c2 : Nat) (l2 : List Int) (r1 : ByteArray) (r2 : Int) (r3 : Bool) (w : World) (hr0_2 : Kd.C Kd.string w A0_2 l0_2.length l0_2) (hc0_2 : l0_2.length ≤ c0_2) (hr0_3 : Kd.C Kd.string w A0_3 l0_3.length l0_3) (hc0_3 : l0_3.length ≤ c0_3) (hr2 : Kd.C (Kd.int .i64) w A2 l2.length l2) (hc2 : l2.length ≤ c2) (h : impl_EncodeBlocks.f k a0_0 a0_1 l0_2 l0_3 a1 l2 = some (r1,r2,r3)) :
  Calls Tryd.prog 25 #[.agg #[.int .i64 a0_0,.int .i64 a0_1,.slice A0_2 l0_2.length c0_2,.slice A0_3 l0_3.length c0_3],.int .i64 a1,.slice A2 l2.length c2] w fun e w' => e = .returned (.tuple #[.string r1,.int .i64 r2,.bool r3]) ∧ Below w.heap.size w w' := by
 have hu30 := Tryd.underlying30
 have HR0_2 := Aside0.mk hr0_2
 have HC0_2 := Aside0.mk hc0_2
 clear hr0_2 hc0_2
 have HR0_3 := Aside0.mk hr0_3
 have HC0_3 := Aside0.mk hc0_3
 clear hr0_3 hc0_3
 have HR2 := Aside0.mk hr2
 have HC2 := Aside0.mk hc2
 clear hr2 hc2
 have HB := Aside0.mk (Below.refl w.heap.size w)
 have H : ((impl_ValidBlockCode.f k a0_0 a0_1 l0_2 l0_3).bind fun t246 => (if t246 = true then ((impl_isLineState.f a1).bind fun t247 => (if t247 = true then (if 0 ≤ a0_0 then ((impl_areIn.f k l2 0 (wrap64 ((shl .i64 1 a0_0) - 1))).bind fun t248 => (if t248 = true then (if a0_1 = 0 then (none) else (impl_EncodeBlocks.j0 k a1 l2 (decide ((l2.length : Int) > (wrap64 (Int.tdiv (400 : Int) a0_1)))) a0_0 a0_1 l0_2 l0_3)) else (impl_EncodeBlocks.j0 k a1 l2 true a0_0 a0_1 l0_2 l0_3))) else (none)) else (impl_EncodeBlocks.j0 k a1 l2 true a0_0 a0_1 l0_2 l0_3))) else (impl_EncodeBlocks.j0 k a1 l2 true a0_0 a0_1 l0_2 l0_3))) = some (r1,r2,r3) := h
 clear h
 have HC4 := Aside0.mk H
 clear H
 go_enter Tryd.func25,Tryd.ntmps25
 go_upto_region 1 with (first | ((with_reducible refine gate_dst (N := 3) rfl ?_); (try (refine gate_guard (by rfl) ?_; dsimp only)); refine box_event ?hg (N := 3) ?hd (cs := #[.int .i64 a0_0,.int .i64 a0_1,.slice A0_2 l0_2.length c0_2,.slice A0_3 l0_3.length c0_3]) (t := 30) ?hr ?_; (case hd => rfl); (case hg => rfl); (case hr => first | (go_simp; done) | (go_simp; rfl)); intro gb245 hg w5 hbox hb; have n0_ := Aside0.mk (below_step (by repeat (first | (with_reducible first | exact HB.out | apply below_alloc | apply pw_below_drewN | apply below_drew1) | exact HB.out)) hb); have n1_ := Aside0.mk (hbox); have n2_ := Aside0.mk ((by rw [hg]; exact (below_size (by repeat (first | (with_reducible first | exact HB.out | apply below_alloc | apply pw_below_drewN | apply below_drew1) | exact HB.out))) : w.heap.size ≤ gb245)); have n3_ := Aside0.mk ((by rw [hg]; exact (below_size (by repeat (first | (with_reducible first | exact HB.out | apply below_alloc | apply pw_below_drewN | apply below_drew1) | exact HB.out))) : w.heap.size ≤ gb245)); clear HB; have HB := n0_; have BK245 := n1_; have GW245 := n2_; have GE245 := n3_; clear n0_ n1_ n2_ n3_; clear hb hbox hg))
 (try simp only [Act.put,List.setIfInBounds_toArray,List.set_cons_zero,List.set_cons_succ])
 go_cut [39] (fun v39 wc => ∃ (kq : Nat) (x39_3 : Bool),v39 = .bool x39_3 ∧ Aside0 (impl_EncodeBlocks.j0 kq a1 l2 x39_3 a0_0 a0_1 l0_2 l0_3 = some (r1,r2,r3)) ∧ Aside0 (kq ≤ k) ∧ Aside0 (wc.heap[gb245]? = some (.cells #[.int .i64 a0_0,.int .i64 a0_1,(.slice A0_2 l0_2.length c0_2),(.slice A0_3 l0_3.length c0_3)] 30 (0,0))) ∧ Aside0 (Below w.heap.size w wc))
 case first =>
  have H := HC4.out
  clear HC4
  replace H := Option.bind_eq_some_iff.mp H
  obtain ⟨t246,A60,H⟩ := H
  replace H : (if t246 = true then ((impl_isLineState.f a1).bind fun t247 => (if t247 = true then (if 0 ≤ a0_0 then ((impl_areIn.f k l2 0 (wrap64 ((shl .i64 1 a0_0) - 1))).bind fun t248 => (if t248 = true then (if a0_1 = 0 then (none) else (impl_EncodeBlocks.j0 k a1 l2 (decide ((l2.length : Int) > (wrap64 (Int.tdiv (400 : Int) a0_1)))) a0_0 a0_1 l0_2 l0_3)) else (impl_EncodeBlocks.j0 k a1 l2 true a0_0 a0_1 l0_2 l0_3))) else (none)) else (impl_EncodeBlocks.j0 k a1 l2 true a0_0 a0_1 l0_2 l0_3))) else (impl_EncodeBlocks.j0 k a1 l2 true a0_0 a0_1 l0_2 l0_3)) = some (r1,r2,r3) := H
  have A6 := Aside0.mk A60
  clear A60
  by_cases c7 : t246 = true
  ·subst c7
   have H1 : ((impl_isLineState.f a1).bind fun t247 => (if t247 = true then (if 0 ≤ a0_0 then ((impl_areIn.f k l2 0 (wrap64 ((shl .i64 1 a0_0) - 1))).bind fun t248 => (if t248 = true then (if a0_1 = 0 then (none) else (impl_EncodeBlocks.j0 k a1 l2 (decide ((l2.length : Int) > (wrap64 (Int.tdiv (400 : Int) a0_1)))) a0_0 a0_1 l0_2 l0_3)) else (impl_EncodeBlocks.j0 k a1 l2 true a0_0 a0_1 l0_2 l0_3))) else (none)) else (impl_EncodeBlocks.j0 k a1 l2 true a0_0 a0_1 l0_2 l0_3))) = some (r1,r2,r3) := by rw [if_pos rfl] at H; exact H
   clear H
   have H := H1
   clear H1
   replace H := Option.bind_eq_some_iff.mp H
   obtain ⟨t247,A80,H⟩ := H
   replace H : (if t247 = true then (if 0 ≤ a0_0 then ((impl_areIn.f k l2 0 (wrap64 ((shl .i64 1 a0_0) - 1))).bind fun t248 => (if t248 = true then (if a0_1 = 0 then (none) else (impl_EncodeBlocks.j0 k a1 l2 (decide ((l2.length : Int) > (wrap64 (Int.tdiv (400 : Int) a0_1)))) a0_0 a0_1 l0_2 l0_3)) else (impl_EncodeBlocks.j0 k a1 l2 true a0_0 a0_1 l0_2 l0_3))) else (none)) else (impl_EncodeBlocks.j0 k a1 l2 true a0_0 a0_1 l0_2 l0_3)) = some (r1,r2,r3) := H
   have A8 := Aside0.mk A80
   clear A80
   by_cases c9 : t247 = true
   ·subst c9
    have H1 : (if 0 ≤ a0_0 then ((impl_areIn.f k l2 0 (wrap64 ((shl .i64 1 a0_0) - 1))).bind fun t248 => (if t248 = true then (if a0_1 = 0 then (none) else (impl_EncodeBlocks.j0 k a1 l2 (decide ((l2.length : Int) > (wrap64 (Int.tdiv (400 : Int) a0_1)))) a0_0 a0_1 l0_2 l0_3)) else (impl_EncodeBlocks.j0 k a1 l2 true a0_0 a0_1 l0_2 l0_3))) else (none)) = some (r1,r2,r3) := by rw [if_pos rfl] at H; exact H
    clear H
    have H := H1
    clear H1
    by_cases c10 : 0 ≤ a0_0
    ·rw [if_pos c10] at H
     have c10b0 := eq_true c10
     have c10b1 : decide (0 ≤ a0_0) = true := decide_eq_true c10
     clear c10
     obtain ⟨ji11,hji11⟩ : ∃ j_ : Int,(shl .i64 1 a0_0) = j_ := ⟨_,rfl⟩
     replace H : ((impl_areIn.f k l2 0 (wrap64 ((ji11) - 1))).bind fun t248 => (if t248 = true then (if a0_1 = 0 then (none) else (impl_EncodeBlocks.j0 k a1 l2 (decide ((l2.length : Int) > (wrap64 (Int.tdiv (400 : Int) a0_1)))) a0_0 a0_1 l0_2 l0_3)) else (impl_EncodeBlocks.j0 k a1 l2 true a0_0 a0_1 l0_2 l0_3))) = some (r1,r2,r3) := by first | (rw [hji11] at H; exact H) | (simp only [hji11] at H ⊢; exact H)
     (try rw [hji11] at A6)
     (try rw [hji11] at A8)
     have hji11_ : (IntKind.i64.wrap (1 * 2 ^ min a0_0.toNat 64)) = ji11 := hji11
     have hji11z : a0_0 ≤ 64 → (IntKind.i64.wrap (1 * 2 ^ a0_0.toNat)) = ji11 := shl_small hji11
     have hji11u : (IntKind.i64.wrap (2 ^ min a0_0.toNat 64)) = ji11 := by have h_ := hji11_; rw [Int.one_mul] at h_; exact h_
     have hji11v : a0_0 ≤ 64 → (IntKind.i64.wrap (2 ^ a0_0.toNat)) = ji11 := fun hle_ => by have h_ := hji11z hle_; rw [Int.one_mul] at h_; exact h_
     have hji11y : (wrap64 (1 * 2 ^ min a0_0.toNat 64)) = ji11 := (i64_w _).symm.trans hji11_
     have hji11x : a0_0 ≤ 64 → (wrap64 (1 * 2 ^ a0_0.toNat)) = ji11 := fun h_ => (i64_w _).symm.trans (hji11z h_)
     replace H := Option.bind_eq_some_iff.mp H
     obtain ⟨t248,A120,H⟩ := H
     replace H : (if t248 = true then (if a0_1 = 0 then (none) else (impl_EncodeBlocks.j0 k a1 l2 (decide ((l2.length : Int) > (wrap64 (Int.tdiv (400 : Int) a0_1)))) a0_0 a0_1 l0_2 l0_3)) else (impl_EncodeBlocks.j0 k a1 l2 true a0_0 a0_1 l0_2 l0_3)) = some (r1,r2,r3) := H
     have A12 := Aside0.mk A120
     clear A120
     by_cases c13 : t248 = true
     ·subst c13
      have H1 : (if a0_1 = 0 then (none) else (impl_EncodeBlocks.j0 k a1 l2 (decide ((l2.length : Int) > (wrap64 (Int.tdiv (400 : Int) a0_1)))) a0_0 a0_1 l0_2 l0_3)) = some (r1,r2,r3) := by rw [if_pos rfl] at H; exact H
      clear H
      have H := H1
      clear H1
      by_cases c14 : a0_1 = 0
      ·rw [if_pos c14] at H
       exact absurd H (by simp)
      ·rw [if_neg c14] at H
       have c14b0 : (a0_1 == 0) = false := beq_eq_false_iff_ne.mpr c14
       have c14b1 : (a0_1 != 0) = true := bne_iff_ne.mpr c14
       (first | rw [c14b0] | (simp only [i64_w,i32_w]; rw [c14b0]) | skip)
       have H' := Aside0.mk H
       clear H
       have hcz15_0 : w5.cell? ⟨gb245,0,none⟩ = some (.int .i64 a0_0) := (blk_cell BK245.out 0).trans rfl
       have hcz15_1 : w5.cell? ⟨gb245,1,none⟩ = some (.int .i64 a0_1) := (blk_cell BK245.out 1).trans rfl
       have hcz15_2 : w5.cell? ⟨gb245,2,none⟩ = some (.slice A0_2 l0_2.length c0_2) := (blk_cell BK245.out 2).trans rfl
       have hcz15_3 : w5.cell? ⟨gb245,3,none⟩ = some (.slice A0_3 l0_3.length c0_3) := (blk_cell BK245.out 3).trans rfl
       have hfz15_0 := blk_frozen BK245.out 0
       have hfz15_1 := blk_frozen BK245.out 1
       have hfz15_2 := blk_frozen BK245.out 2
       have hfz15_3 := blk_frozen BK245.out 3
       go_wp2_with (first | ((with_reducible refine gate_callee (f := 17) rfl ?_); refine goesL_ (some 16) rfl rfl Tryd.func17 (by kernel_rfl) rfl #[.agg #[.int .i64 a0_0,.int .i64 a0_1,.slice A0_2 l0_2.length c0_2,.slice A0_3 l0_3.length c0_3]] rfl (by (try simp only [List.map_toArray,List.map_cons,List.map_nil]); first | done | rfl | (simp only [List.length_drop,List.length_take]; rfl)) ?_; (with_reducible refine (impl_ValidBlockCode.calls k a0_0 a0_1 _ _ l0_2 _ _ l0_3 true _ ?side1 ?side2 ?side3 ?side4 A6.out).mono ?_); (case side1 => repeat (first | exact (Kd.C_below HR0_2.out HB.out) | (with_reducible refine Kd.C_alloc ?_ _) | (with_reducible refine Kd.C_drewN ?_ _) | (with_reducible refine Kd.C_drew ?_))); (case side2 => exact HC0_2.out); (case side3 => repeat (first | exact (Kd.C_below HR0_3.out HB.out) | (with_reducible refine Kd.C_alloc ?_ _) | (with_reducible refine Kd.C_drewN ?_ _) | (with_reducible refine Kd.C_drew ?_))); (case side4 => exact HC0_3.out); rintro e w16 ⟨rfl,hb⟩; refine ⟨_,rfl,?_⟩; have n0_ := Aside0.mk (blk_below (g := gb245) (o := .cells #[.int .i64 a0_0,.int .i64 a0_1,.slice A0_2 l0_2.length c0_2,.slice A0_3 l0_3.length c0_3] 30 (0,0)) (by (with_reducible repeat (first | refine blk_drewN ?_ _ | refine blk_drew ?_ | refine blk_alloc ?_ _)); exact BK245.out) hb); have n1_ := Aside0.mk (below_step (by repeat (first | (with_reducible first | exact HB.out | apply below_alloc | apply pw_below_drewN | apply below_drew1 | refine below_set ?_ GE245.out) | exact HB.out)) hb); clear BK245; clear HB; have BK245 := n0_; have HB := n1_; clear n0_ n1_; (try clear hb); (try clear hb2); (try clear hk); (try clear hi)) | (go_at_call 61; (with_reducible refine (impl_isLineState.calls a1 true _ A8.out).mono ?_); rintro e w' ⟨rfl,⟨nd,rfl⟩⟩; have hcz17_0 : w16.cell? ⟨gb245,0,none⟩ = some (.int .i64 a0_0) := (blk_cell BK245.out 0).trans rfl; have hcz17_1 : w16.cell? ⟨gb245,1,none⟩ = some (.int .i64 a0_1) := (blk_cell BK245.out 1).trans rfl; have hcz17_2 : w16.cell? ⟨gb245,2,none⟩ = some (.slice A0_2 l0_2.length c0_2) := (blk_cell BK245.out 2).trans rfl; have hcz17_3 : w16.cell? ⟨gb245,3,none⟩ = some (.slice A0_3 l0_3.length c0_3) := (blk_cell BK245.out 3).trans rfl; have hfz17_0 := blk_frozen BK245.out 0; have hfz17_1 := blk_frozen BK245.out 1; have hfz17_2 := blk_frozen BK245.out 2; have hfz17_3 := blk_frozen BK245.out 3) | (go_at_call 62; (with_reducible refine (impl_areIn.calls k _ _ l2 0 (wrap64 ((ji11) - 1)) true _ ?side1 ?side2 A12.out).mono ?_); (case side1 => repeat (first | exact (Kd.C_below HR2.out (by repeat (first | (with_reducible first | exact HB.out | apply below_alloc | apply pw_below_drewN | apply below_drew1 | refine below_set ?_ GE245.out) | exact HB.out))) | (with_reducible refine Kd.C_alloc ?_ _) | (with_reducible refine Kd.C_drewN ?_ _) | (with_reducible refine Kd.C_drew ?_))); (case side2 => exact HC2.out); rintro e w' ⟨rfl,⟨nd,rfl⟩⟩))
       go_meet
       case rel => exact ⟨_,(decide ((l2.length : Int) > (wrap64 (Int.tdiv (400 : Int) a0_1)))),(by first | rfl | (simp; done) | (simp [*]; done)),H',⟨by first | omega | exact Nat.le_refl _⟩,⟨by (with_reducible repeat (first | refine blk_drewN ?_ _ | refine blk_drew ?_ | refine blk_alloc ?_ _)); exact BK245.out⟩,⟨by repeat (first | (with_reducible first | exact HB.out | apply below_alloc | apply pw_below_drewN | apply below_drew1 | refine below_set ?_ GE245.out) | exact HB.out)⟩⟩
     ·replace c13 := Bool.eq_false_iff.mpr c13
      subst c13
      have H1 : (impl_EncodeBlocks.j0 k a1 l2 true a0_0 a0_1 l0_2 l0_3) = some (r1,r2,r3) := by rw [if_neg (show ¬ (false = true) by decide)] at H; exact H
      clear H
      have H := H1
      clear H1
      have H' := Aside0.mk H
      clear H
      have hcz18_0 : w5.cell? ⟨gb245,0,none⟩ = some (.int .i64 a0_0) := (blk_cell BK245.out 0).trans rfl
      have hcz18_1 : w5.cell? ⟨gb245,1,none⟩ = some (.int .i64 a0_1) := (blk_cell BK245.out 1).trans rfl
      have hcz18_2 : w5.cell? ⟨gb245,2,none⟩ = some (.slice A0_2 l0_2.length c0_2) := (blk_cell BK245.out 2).trans rfl
      have hcz18_3 : w5.cell? ⟨gb245,3,none⟩ = some (.slice A0_3 l0_3.length c0_3) := (blk_cell BK245.out 3).trans rfl
      have hfz18_0 := blk_frozen BK245.out 0
      have hfz18_1 := blk_frozen BK245.out 1
      have hfz18_2 := blk_frozen BK245.out 2
      have hfz18_3 := blk_frozen BK245.out 3
      go_wp2_with (first | ((with_reducible refine gate_callee (f := 17) rfl ?_); refine goesL_ (some 16) rfl rfl Tryd.func17 (by kernel_rfl) rfl #[.agg #[.int .i64 a0_0,.int .i64 a0_1,.slice A0_2 l0_2.length c0_2,.slice A0_3 l0_3.length c0_3]] rfl (by (try simp only [List.map_toArray,List.map_cons,List.map_nil]); first | done | rfl | (simp only [List.length_drop,List.length_take]; rfl)) ?_; (with_reducible refine (impl_ValidBlockCode.calls k a0_0 a0_1 _ _ l0_2 _ _ l0_3 true _ ?side1 ?side2 ?side3 ?side4 A6.out).mono ?_); (case side1 => repeat (first | exact (Kd.C_below HR0_2.out HB.out) | (with_reducible refine Kd.C_alloc ?_ _) | (with_reducible refine Kd.C_drewN ?_ _) | (with_reducible refine Kd.C_drew ?_))); (case side2 => exact HC0_2.out); (case side3 => repeat (first | exact (Kd.C_below HR0_3.out HB.out) | (with_reducible refine Kd.C_alloc ?_ _) | (with_reducible refine Kd.C_drewN ?_ _) | (with_reducible refine Kd.C_drew ?_))); (case side4 => exact HC0_3.out); rintro e w19 ⟨rfl,hb⟩; refine ⟨_,rfl,?_⟩; have n0_ := Aside0.mk (blk_below (g := gb245) (o := .cells #[.int .i64 a0_0,.int .i64 a0_1,.slice A0_2 l0_2.length c0_2,.slice A0_3 l0_3.length c0_3] 30 (0,0)) (by (with_reducible repeat (first | refine blk_drewN ?_ _ | refine blk_drew ?_ | refine blk_alloc ?_ _)); exact BK245.out) hb); have n1_ := Aside0.mk (below_step (by repeat (first | (with_reducible first | exact HB.out | apply below_alloc | apply pw_below_drewN | apply below_drew1 | refine below_set ?_ GE245.out) | exact HB.out)) hb); clear BK245; clear HB; have BK245 := n0_; have HB := n1_; clear n0_ n1_; (try clear hb); (try clear hb2); (try clear hk); (try clear hi)) | (go_at_call 61; (with_reducible refine (impl_isLineState.calls a1 true _ A8.out).mono ?_); rintro e w' ⟨rfl,⟨nd,rfl⟩⟩; have hcz20_0 : w19.cell? ⟨gb245,0,none⟩ = some (.int .i64 a0_0) := (blk_cell BK245.out 0).trans rfl; have hcz20_1 : w19.cell? ⟨gb245,1,none⟩ = some (.int .i64 a0_1) := (blk_cell BK245.out 1).trans rfl; have hcz20_2 : w19.cell? ⟨gb245,2,none⟩ = some (.slice A0_2 l0_2.length c0_2) := (blk_cell BK245.out 2).trans rfl; have hcz20_3 : w19.cell? ⟨gb245,3,none⟩ = some (.slice A0_3 l0_3.length c0_3) := (blk_cell BK245.out 3).trans rfl; have hfz20_0 := blk_frozen BK245.out 0; have hfz20_1 := blk_frozen BK245.out 1; have hfz20_2 := blk_frozen BK245.out 2; have hfz20_3 := blk_frozen BK245.out 3) | (go_at_call 62; (with_reducible refine (impl_areIn.calls k _ _ l2 0 (wrap64 ((ji11) - 1)) false _ ?side1 ?side2 A12.out).mono ?_); (case side1 => repeat (first | exact (Kd.C_below HR2.out (by repeat (first | (with_reducible first | exact HB.out | apply below_alloc | apply pw_below_drewN | apply below_drew1 | refine below_set ?_ GE245.out) | exact HB.out))) | (with_reducible refine Kd.C_alloc ?_ _) | (with_reducible refine Kd.C_drewN ?_ _) | (with_reducible refine Kd.C_drew ?_))); (case side2 => exact HC2.out); rintro e w' ⟨rfl,⟨nd,rfl⟩⟩))
      go_meet
      case rel => exact ⟨_,(true),(by first | rfl | (simp; done) | (simp [*]; done)),H',⟨by first | omega | exact Nat.le_refl _⟩,⟨by (with_reducible repeat (first | refine blk_drewN ?_ _ | refine blk_drew ?_ | refine blk_alloc ?_ _)); exact BK245.out⟩,⟨by repeat (first | (with_reducible first | exact HB.out | apply below_alloc | apply pw_below_drewN | apply below_drew1 | refine below_set ?_ GE245.out) | exact HB.out)⟩⟩
    ·rw [if_neg c10] at H
     exact absurd H (by simp)
   ·replace c9 := Bool.eq_false_iff.mpr c9
    subst c9
    have H1 : (impl_EncodeBlocks.j0 k a1 l2 true a0_0 a0_1 l0_2 l0_3) = some (r1,r2,r3) := by rw [if_neg (show ¬ (false = true) by decide)] at H; exact H
    clear H
    have H := H1
    clear H1
    have H' := Aside0.mk H
    clear H
    have hcz21_0 : w5.cell? ⟨gb245,0,none⟩ = some (.int .i64 a0_0) := (blk_cell BK245.out 0).trans rfl
    have hcz21_1 : w5.cell? ⟨gb245,1,none⟩ = some (.int .i64 a0_1) := (blk_cell BK245.out 1).trans rfl
    have hcz21_2 : w5.cell? ⟨gb245,2,none⟩ = some (.slice A0_2 l0_2.length c0_2) := (blk_cell BK245.out 2).trans rfl
    have hcz21_3 : w5.cell? ⟨gb245,3,none⟩ = some (.slice A0_3 l0_3.length c0_3) := (blk_cell BK245.out 3).trans rfl
    have hfz21_0 := blk_frozen BK245.out 0
    have hfz21_1 := blk_frozen BK245.out 1
    have hfz21_2 := blk_frozen BK245.out 2
    have hfz21_3 := blk_frozen BK245.out 3
    go_wp2_with (first | ((with_reducible refine gate_callee (f := 17) rfl ?_); refine goesL_ (some 16) rfl rfl Tryd.func17 (by kernel_rfl) rfl #[.agg #[.int .i64 a0_0,.int .i64 a0_1,.slice A0_2 l0_2.length c0_2,.slice A0_3 l0_3.length c0_3]] rfl (by (try simp only [List.map_toArray,List.map_cons,List.map_nil]); first | done | rfl | (simp only [List.length_drop,List.length_take]; rfl)) ?_; (with_reducible refine (impl_ValidBlockCode.calls k a0_0 a0_1 _ _ l0_2 _ _ l0_3 true _ ?side1 ?side2 ?side3 ?side4 A6.out).mono ?_); (case side1 => repeat (first | exact (Kd.C_below HR0_2.out HB.out) | (with_reducible refine Kd.C_alloc ?_ _) | (with_reducible refine Kd.C_drewN ?_ _) | (with_reducible refine Kd.C_drew ?_))); (case side2 => exact HC0_2.out); (case side3 => repeat (first | exact (Kd.C_below HR0_3.out HB.out) | (with_reducible refine Kd.C_alloc ?_ _) | (with_reducible refine Kd.C_drewN ?_ _) | (with_reducible refine Kd.C_drew ?_))); (case side4 => exact HC0_3.out); rintro e w22 ⟨rfl,hb⟩; refine ⟨_,rfl,?_⟩; have n0_ := Aside0.mk (blk_below (g := gb245) (o := .cells #[.int .i64 a0_0,.int .i64 a0_1,.slice A0_2 l0_2.length c0_2,.slice A0_3 l0_3.length c0_3] 30 (0,0)) (by (with_reducible repeat (first | refine blk_drewN ?_ _ | refine blk_drew ?_ | refine blk_alloc ?_ _)); exact BK245.out) hb); have n1_ := Aside0.mk (below_step (by repeat (first | (with_reducible first | exact HB.out | apply below_alloc | apply pw_below_drewN | apply below_drew1 | refine below_set ?_ GE245.out) | exact HB.out)) hb); clear BK245; clear HB; have BK245 := n0_; have HB := n1_; clear n0_ n1_; (try clear hb); (try clear hb2); (try clear hk); (try clear hi)) | (go_at_call 61; (with_reducible refine (impl_isLineState.calls a1 false _ A8.out).mono ?_); rintro e w' ⟨rfl,⟨nd,rfl⟩⟩))
    go_meet
    case rel => exact ⟨_,(true),(by first | rfl | (simp; done) | (simp [*]; done)),H',⟨by first | omega | exact Nat.le_refl _⟩,⟨by (with_reducible repeat (first | refine blk_drewN ?_ _ | refine blk_drew ?_ | refine blk_alloc ?_ _)); exact BK245.out⟩,⟨by repeat (first | (with_reducible first | exact HB.out | apply below_alloc | apply pw_below_drewN | apply below_drew1 | refine below_set ?_ GE245.out) | exact HB.out)⟩⟩
  ·replace c7 := Bool.eq_false_iff.mpr c7
   subst c7
   have H1 : (impl_EncodeBlocks.j0 k a1 l2 true a0_0 a0_1 l0_2 l0_3) = some (r1,r2,r3) := by rw [if_neg (show ¬ (false = true) by decide)] at H; exact H
   clear H
   have H := H1
   clear H1
   have H' := Aside0.mk H
   clear H
   have hcz23_0 : w5.cell? ⟨gb245,0,none⟩ = some (.int .i64 a0_0) := (blk_cell BK245.out 0).trans rfl
   have hcz23_1 : w5.cell? ⟨gb245,1,none⟩ = some (.int .i64 a0_1) := (blk_cell BK245.out 1).trans rfl
   have hcz23_2 : w5.cell? ⟨gb245,2,none⟩ = some (.slice A0_2 l0_2.length c0_2) := (blk_cell BK245.out 2).trans rfl
   have hcz23_3 : w5.cell? ⟨gb245,3,none⟩ = some (.slice A0_3 l0_3.length c0_3) := (blk_cell BK245.out 3).trans rfl
   have hfz23_0 := blk_frozen BK245.out 0
   have hfz23_1 := blk_frozen BK245.out 1
   have hfz23_2 := blk_frozen BK245.out 2
   have hfz23_3 := blk_frozen BK245.out 3
   go_wp2_with (first | ((with_reducible refine gate_callee (f := 17) rfl ?_); refine goesL_ (some 16) rfl rfl Tryd.func17 (by kernel_rfl) rfl #[.agg #[.int .i64 a0_0,.int .i64 a0_1,.slice A0_2 l0_2.length c0_2,.slice A0_3 l0_3.length c0_3]] rfl (by (try simp only [List.map_toArray,List.map_cons,List.map_nil]); first | done | rfl | (simp only [List.length_drop,List.length_take]; rfl)) ?_; (with_reducible refine (impl_ValidBlockCode.calls k a0_0 a0_1 _ _ l0_2 _ _ l0_3 false _ ?side1 ?side2 ?side3 ?side4 A6.out).mono ?_); (case side1 => repeat (first | exact (Kd.C_below HR0_2.out HB.out) | (with_reducible refine Kd.C_alloc ?_ _) | (with_reducible refine Kd.C_drewN ?_ _) | (with_reducible refine Kd.C_drew ?_))); (case side2 => exact HC0_2.out); (case side3 => repeat (first | exact (Kd.C_below HR0_3.out HB.out) | (with_reducible refine Kd.C_alloc ?_ _) | (with_reducible refine Kd.C_drewN ?_ _) | (with_reducible refine Kd.C_drew ?_))); (case side4 => exact HC0_3.out); rintro e w24 ⟨rfl,hb⟩; refine ⟨_,rfl,?_⟩; have n0_ := Aside0.mk (blk_below (g := gb245) (o := .cells #[.int .i64 a0_0,.int .i64 a0_1,.slice A0_2 l0_2.length c0_2,.slice A0_3 l0_3.length c0_3] 30 (0,0)) (by (with_reducible repeat (first | refine blk_drewN ?_ _ | refine blk_drew ?_ | refine blk_alloc ?_ _)); exact BK245.out) hb); have n1_ := Aside0.mk (below_step (by repeat (first | (with_reducible first | exact HB.out | apply below_alloc | apply pw_below_drewN | apply below_drew1 | refine below_set ?_ GE245.out) | exact HB.out)) hb); clear BK245; clear HB; have BK245 := n0_; have HB := n1_; clear n0_ n1_; (try clear hb); (try clear hb2); (try clear hk); (try clear hi)))
   go_meet
   case rel => exact ⟨_,(true),(by first | rfl | (simp; done) | (simp [*]; done)),H',⟨by first | omega | exact Nat.le_refl _⟩,⟨by (with_reducible repeat (first | refine blk_drewN ?_ _ | refine blk_drew ?_ | refine blk_alloc ?_ _)); exact BK245.out⟩,⟨by repeat (first | (with_reducible first | exact HB.out | apply below_alloc | apply pw_below_drewN | apply below_drew1 | refine below_set ?_ GE245.out) | exact HB.out)⟩⟩
 case rest =>
  clear HC4
  try clear c1
  try clear c2
  try clear p2
  try clear p6
  try clear c7
  try clear c9
  try clear c10
  try clear c10b0
  try clear c10b1
  try clear c13
  try clear c14
  try clear c14b0
  try clear c14b1
  try clear c17
  try clear hcz15_0
  try clear hcz15_1
  try clear hcz15_2
  try clear hcz15_3
  try clear hcz17_0
  try clear hcz17_1
  try clear hcz17_2
  try clear hcz17_3
  try clear hcz18_0
  try clear hcz18_1
  try clear hcz18_2
  try clear hcz18_3
  try clear hcz20_0
  try clear hcz20_1
  try clear hcz20_2
  try clear hcz20_3
  try clear hcz21_0
  try clear hcz21_1
  try clear hcz21_2
  try clear hcz21_3
  try clear hcz23_0
  try clear hcz23_1
  try clear hcz23_2
  try clear hcz23_3
  try clear hfz15_0
  try clear hfz15_1
  try clear hfz15_2
  try clear hfz15_3
  try clear hfz17_0
  try clear hfz17_1
  try clear hfz17_2
  try clear hfz17_3
  try clear hfz18_0
  try clear hfz18_1
  try clear hfz18_2
  try clear hfz18_3
  try clear hfz20_0
  try clear hfz20_1
  try clear hfz20_2
  try clear hfz20_3
  try clear hfz21_0
  try clear hfz21_1
  try clear hfz21_2
  try clear hfz21_3
  try clear hfz23_0
  try clear hfz23_1
  try clear hfz23_2
  try clear hfz23_3
  obtain ⟨kq,x39_3,rfl,HA,HJ3,BK245,HB⟩ := hcut
  cases kq with
  | zero => exact absurd HA.out (by simp [impl_EncodeBlocks.j0])
  | succ kj3 =>
   have H := HA.out
   clear HA
   simp only [impl_EncodeBlocks.j0] at H
   by_cases c25 : x39_3 = true
   ·subst c25
    have H1 : (some ((⟨#[]⟩ : ByteArray),0,false)) = some (r1,r2,r3) := by rw [if_pos rfl] at H; exact H
    clear H
    have H := H1
    clear H1
    simp only [Option.some.injEq,Prod.mk.injEq] at H
    obtain ⟨rfl,rfl,rfl⟩ := H
    go_wp2
    go_ret3
    exact ⟨by first | rfl | (simp [errW_none,errW_some] <;> rfl) | (simp [*,errW_none,errW_some] <;> rfl),by repeat (first | (with_reducible first | exact HB.out | apply below_alloc | apply pw_below_drewN | apply below_drew1 | refine below_set ?_ GE245.out) | exact HB.out)⟩
   ·replace c25 := Bool.eq_false_iff.mpr c25
    subst c25
    have H1 : (impl_EncodeBlocks.l0 kj3 (⟨#[]⟩ : ByteArray) a1 l2 (l2.length : Int) 0 a0_0 a0_1 l0_2 l0_3) = some (r1,r2,r3) := by rw [if_neg (show ¬ (false = true) by decide)] at H; exact H
    clear H
    have H := H1
    clear H1
    have H' := Aside0.mk H
    clear H
    go_wp2
    go_loopg [9,10,43] kj3 (fun kq v9 v10 v43 w' => ∃ (x9_2 : ByteArray) (x10_2 : Int) (x43_2 : Int),v9 = .string x9_2 ∧ v10 = .int .i64 x10_2 ∧ v43 = .int .i64 x43_2 ∧ Aside0 (impl_EncodeBlocks.l0 kq x9_2 x10_2 l2 (l2.length : Int) x43_2 a0_0 a0_1 l0_2 l0_3 = some (r1,r2,r3)) ∧ Aside0 (kq ≤ kj3) ∧ Aside0 (w'.heap[gb245]? = some (.cells #[.int .i64 a0_0,.int .i64 a0_1,(.slice A0_2 l0_2.length c0_2),(.slice A0_3 l0_3.length c0_3)] 30 (0,0))) ∧ Aside0 (Below w.heap.size w w'))
    case atStart => exact ⟨((⟨#[]⟩ : ByteArray)),(a1),(0),(by first | rfl | (simp; done) | (simp [*]; done)),(by first | rfl | (simp; done) | (simp [*]; done)),(by first | rfl | (simp; done) | (simp [*]; done)),H',⟨Nat.le_refl _⟩,⟨by (with_reducible repeat (first | refine blk_drewN ?_ _ | refine blk_drew ?_ | refine blk_alloc ?_ _)); exact BK245.out⟩,⟨by repeat (first | (with_reducible first | exact HB.out | apply below_alloc | apply pw_below_drewN | apply below_drew1 | refine below_set ?_ GE245.out) | exact HB.out)⟩⟩
    case round =>
     clear H'
     try clear c1
     try clear c2
     try clear p2
     try clear p6
     try clear c7
     try clear c9
     try clear c10
     try clear c10b0
     try clear c10b1
     try clear c13
     try clear c14
     try clear c14b0
     try clear c14b1
     try clear c17
     try clear c25
     try clear hcz15_0
     try clear hcz15_1
     try clear hcz15_2
     try clear hcz15_3
     try clear hcz17_0
     try clear hcz17_1
     try clear hcz17_2
     try clear hcz17_3
     try clear hcz18_0
     try clear hcz18_1
     try clear hcz18_2
     try clear hcz18_3
     try clear hcz20_0
     try clear hcz20_1
     try clear hcz20_2
     try clear hcz20_3
     try clear hcz21_0
     try clear hcz21_1
     try clear hcz21_2
     try clear hcz21_3
     try clear hcz23_0
     try clear hcz23_1
     try clear hcz23_2
     try clear hcz23_3
     try clear hfz15_0
     try clear hfz15_1
     try clear hfz15_2
     try clear hfz15_3
     try clear hfz17_0
     try clear hfz17_1
     try clear hfz17_2
     try clear hfz17_3
     try clear hfz18_0
     try clear hfz18_1
     try clear hfz18_2
     try clear hfz18_3
     try clear hfz20_0
     try clear hfz20_1
     try clear hfz20_2
     try clear hfz20_3
     try clear hfz21_0
     try clear hfz21_1
     try clear hfz21_2
     try clear hfz21_3
     try clear hfz23_0
     try clear hfz23_1
     try clear hfz23_2
     try clear hfz23_3
     try clear p2
     try clear p6
     obtain ⟨x9_2,x10_2,x43_2,rfl,rfl,rfl,HA,HK2,BK245,HB⟩ := hrel
     cases gk with
     | zero => exact absurd HA.out (by simp [impl_EncodeBlocks.l0])
     | succ k2 =>
      have H := HA.out
      clear HA
      simp only [impl_EncodeBlocks.l0] at H
      by_cases c26 : x43_2 < (l2.length : Int)
      ·rw [if_pos c26] at H
       have c26b0 : decide (x43_2 < (l2.length : Int)) = true := decide_eq_true c26
       clear c26
       by_cases c27 : 0 ≤ x43_2
       ·rw [if_pos c27] at H
        have c27b0 : decide (0 ≤ x43_2) = true := decide_eq_true c27
        clear c27
        by_cases c28 : x43_2 < (l2.length : Int)
        ·rw [if_pos c28] at H
         have c28b0 : decide (x43_2 < (l2.length : Int)) = true := decide_eq_true c28
         clear c28
         by_cases c29 : x10_2 < 0
         ·rw [if_pos c29] at H
          have c29b0 : decide (x10_2 < 0) = true := decide_eq_true c29
          clear c29
          replace H := Option.bind_eq_some_iff.mp H
          obtain ⟨_,A300,H⟩ := H
          replace H : (if 0 ≤ (rd l2 x43_2) then (if (rd l2 x43_2) < (l0_2.length : Int) then (if x9_2.size + (rdOf ByteArray.empty l0_2 (rd l2 x43_2)).size ≤ 9223372036854775807 then ((impl_stateBehind.f x10_2 (rdOf ByteArray.empty l0_2 (rd l2 x43_2))).bind fun t252 => (impl_EncodeBlocks.l0 k2 (x9_2 ++ (rdOf ByteArray.empty l0_2 (rd l2 x43_2))) t252 l2 (l2.length : Int) (wrap64 (x43_2 + 1)) a0_0 a0_1 l0_2 l0_3)) else (none)) else (none)) else (none)) = some (r1,r2,r3) := H
          have A30 := Aside0.mk A300
          clear A300
          by_cases c31 : 0 ≤ (rd l2 x43_2)
          ·rw [if_pos c31] at H
           have c31b0 : decide (0 ≤ (rd l2 x43_2)) = true := decide_eq_true c31
           clear c31
           by_cases c32 : (rd l2 x43_2) < (l0_2.length : Int)
           ·rw [if_pos c32] at H
            have c32b0 : decide ((rd l2 x43_2) < (l0_2.length : Int)) = true := decide_eq_true c32
            clear c32
            by_cases c33 : x9_2.size + (rdOf ByteArray.empty l0_2 (rd l2 x43_2)).size ≤ 9223372036854775807
            ·rw [if_pos c33] at H
             have c33b0 := eq_true c33
             have c33b1 : decide (x9_2.size + (rdOf ByteArray.empty l0_2 (rd l2 x43_2)).size ≤ 9223372036854775807) = true := decide_eq_true c33
             try have c33b2 : (9223372036854775807 < x9_2.size + (rdOf ByteArray.empty l0_2 (rd l2 x43_2)).size) = False := eq_false (Nat.not_lt.2 c33)
             replace H := Option.bind_eq_some_iff.mp H
             obtain ⟨t252,A340,H⟩ := H
             replace H : (impl_EncodeBlocks.l0 k2 (x9_2 ++ (rdOf ByteArray.empty l0_2 (rd l2 x43_2))) t252 l2 (l2.length : Int) (wrap64 (x43_2 + 1)) a0_0 a0_1 l0_2 l0_3) = some (r1,r2,r3) := H
             have A34 := Aside0.mk A340
             clear A340
             have H' := Aside0.mk H
             clear H
             have p249 : 0 ≤ (x43_2 : Int) := of_decide_eq_true (by first | (with_reducible assumption) | assumption)
             have q249 : x43_2 < (l2.length : Int) := of_decide_eq_true (by first | (with_reducible assumption) | assumption)
             obtain ⟨ad249,e249,hx249_0⟩ := Kd.at_int HR2.out x43_2 p249 q249
             cases e249
             replace hx249_0 := (HB.out.cell (World.block_lt_of_cell? w _ hx249_0)).trans hx249_0
             replace p249 := eq_true p249
             replace q249 := eq_true q249
             have hcz35_0 : wr.cell? ⟨gb245,0,none⟩ = some (.int .i64 a0_0) := (blk_cell BK245.out 0).trans rfl
             have hcz35_1 : wr.cell? ⟨gb245,1,none⟩ = some (.int .i64 a0_1) := (blk_cell BK245.out 1).trans rfl
             have hcz35_2 : wr.cell? ⟨gb245,2,none⟩ = some (.slice A0_2 l0_2.length c0_2) := (blk_cell BK245.out 2).trans rfl
             have hcz35_3 : wr.cell? ⟨gb245,3,none⟩ = some (.slice A0_3 l0_3.length c0_3) := (blk_cell BK245.out 3).trans rfl
             have hfz35_0 := blk_frozen BK245.out 0
             have hfz35_1 := blk_frozen BK245.out 1
             have hfz35_2 := blk_frozen BK245.out 2
             have hfz35_3 := blk_frozen BK245.out 3
             go_wp2_with (first | ((with_reducible refine gate_callee (f := 55) rfl ?_); refine goesL_ (some 50) rfl rfl Tryd.func55 (by kernel_rfl) rfl #[.agg #[.int .i64 a0_0,.int .i64 a0_1,.slice A0_2 l0_2.length c0_2,.slice A0_3 l0_3.length c0_3],.int .i64 x10_2] rfl (by (try simp only [List.map_toArray,List.map_cons,List.map_nil]); first | done | rfl | (simp only [List.length_drop,List.length_take]; rfl)) ?_; (with_reducible refine (impl_BlockCode_words_neg.calls a0_0 a0_1 _ _ l0_2 _ _ l0_3 x10_2  _ ?side1 ?side2 ?side3 ?side4 A30.out).mono ?_); (case side1 => repeat (first | exact (Kd.C_below HR0_2.out HB.out) | (with_reducible refine Kd.C_alloc ?_ _) | (with_reducible refine Kd.C_drewN ?_ _) | (with_reducible refine Kd.C_drew ?_))); (case side2 => exact HC0_2.out); (case side3 => repeat (first | exact (Kd.C_below HR0_3.out HB.out) | (with_reducible refine Kd.C_alloc ?_ _) | (with_reducible refine Kd.C_drewN ?_ _) | (with_reducible refine Kd.C_drew ?_))); (case side4 => exact HC0_3.out); rintro e w36 ⟨rfl,hb⟩; refine ⟨_,rfl,?_⟩; have n0_ := Aside0.mk (blk_below (g := gb245) (o := .cells #[.int .i64 a0_0,.int .i64 a0_1,.slice A0_2 l0_2.length c0_2,.slice A0_3 l0_3.length c0_3] 30 (0,0)) (by (with_reducible repeat (first | refine blk_drewN ?_ _ | refine blk_drew ?_ | refine blk_alloc ?_ _)); exact BK245.out) hb); have n1_ := Aside0.mk (below_step (by repeat (first | (with_reducible first | exact HB.out | apply below_alloc | apply pw_below_drewN | apply below_drew1 | refine below_set ?_ GE245.out) | exact HB.out)) hb); clear BK245; clear HB; have BK245 := n0_; have HB := n1_; clear n0_ n1_; (try clear hb); (try clear hb2); (try clear hk); (try clear hi); have p250 : 0 ≤ ((rd l2 x43_2) : Int) := of_decide_eq_true (by first | (with_reducible assumption) | assumption); have q250 : (rd l2 x43_2) < (l0_2.length : Int) := of_decide_eq_true (by first | (with_reducible assumption) | assumption); obtain ⟨ad250,e250,hx250_0⟩ := Kd.at_string HR0_2.out (rd l2 x43_2) p250 q250; cases e250; replace hx250_0 := (HB.out.cell (World.block_lt_of_cell? w _ hx250_0)).trans hx250_0; replace p250 := eq_true p250; replace q250 := eq_true q250; have p251 : 0 ≤ ((rd l2 x43_2) : Int) := of_decide_eq_true (by first | (with_reducible assumption) | assumption); have q251 : (rd l2 x43_2) < (l0_2.length : Int) := of_decide_eq_true (by first | (with_reducible assumption) | assumption); obtain ⟨ad251,e251,hx251_0⟩ := Kd.at_string HR0_2.out (rd l2 x43_2) p251 q251; obtain rfl : ad250 = ad251 := (by injection e251); replace hx251_0 := (HB.out.cell (World.block_lt_of_cell? w _ hx251_0)).trans hx251_0; replace p251 := eq_true p251; replace q251 := eq_true q251) | ((with_reducible refine gate_callee (f := 63) rfl ?_); refine goesL_ (some 64) rfl rfl Tryd.func63 (by kernel_rfl) rfl #[.int .i64 x10_2,.string (rdOf ByteArray.empty l0_2 (rd l2 x43_2))] rfl (by (try simp only [List.map_toArray,List.map_cons,List.map_nil]); first | done | rfl | (simp only [List.length_drop,List.length_take]; rfl)) ?_; (with_reducible refine (impl_stateBehind.calls x10_2 (rdOf ByteArray.empty l0_2 (rd l2 x43_2)) t252 _ A34.out).mono ?_); rintro e w' ⟨rfl,⟨nd,rfl⟩⟩; refine ⟨_,rfl,?_⟩))
             go_roundg k2
             case measure => have := HJ3.out; have := HK2.out; omega
             case rel => exact ⟨(x9_2 ++ (rdOf ByteArray.empty l0_2 (rd l2 x43_2))),(t252),(wrap64 (x43_2 + 1)),(by first | rfl | (simp; done) | (simp [*]; done)),(by first | rfl | (simp; done) | (simp [*]; done)),(by first | rfl | (simp; done) | (simp [*]; done)),H',⟨by have := HJ3.out; have := HK2.out; omega⟩,⟨by (with_reducible repeat (first | refine blk_drewN ?_ _ | refine blk_drew ?_ | refine blk_alloc ?_ _)); exact BK245.out⟩,⟨by repeat (first | (with_reducible first | exact HB.out | apply below_alloc | apply pw_below_drewN | apply below_drew1 | refine below_set ?_ GE245.out) | exact HB.out)⟩⟩
            ·rw [if_neg c33] at H
             exact absurd H (by simp)
           ·rw [if_neg c32] at H
            exact absurd H (by simp)
          ·rw [if_neg c31] at H
           exact absurd H (by simp)
         ·rw [if_neg c29] at H
          have c29b0 : decide (x10_2 < 0) = false := decide_eq_false c29
          clear c29
          replace H := Option.bind_eq_some_iff.mp H
          obtain ⟨_,A370,H⟩ := H
          replace H : (if 0 ≤ (rd l2 x43_2) then (if (rd l2 x43_2) < (l0_3.length : Int) then (if x9_2.size + (rdOf ByteArray.empty l0_3 (rd l2 x43_2)).size ≤ 9223372036854775807 then ((impl_stateBehind.f x10_2 (rdOf ByteArray.empty l0_3 (rd l2 x43_2))).bind fun t255 => (impl_EncodeBlocks.l0 k2 (x9_2 ++ (rdOf ByteArray.empty l0_3 (rd l2 x43_2))) t255 l2 (l2.length : Int) (wrap64 (x43_2 + 1)) a0_0 a0_1 l0_2 l0_3)) else (none)) else (none)) else (none)) = some (r1,r2,r3) := H
          have A37 := Aside0.mk A370
          clear A370
          by_cases c38 : 0 ≤ (rd l2 x43_2)
          ·rw [if_pos c38] at H
           have c38b0 : decide (0 ≤ (rd l2 x43_2)) = true := decide_eq_true c38
           clear c38
           by_cases c39 : (rd l2 x43_2) < (l0_3.length : Int)
           ·rw [if_pos c39] at H
            have c39b0 : decide ((rd l2 x43_2) < (l0_3.length : Int)) = true := decide_eq_true c39
            clear c39
            by_cases c40 : x9_2.size + (rdOf ByteArray.empty l0_3 (rd l2 x43_2)).size ≤ 9223372036854775807
            ·rw [if_pos c40] at H
             have c40b0 := eq_true c40
             have c40b1 : decide (x9_2.size + (rdOf ByteArray.empty l0_3 (rd l2 x43_2)).size ≤ 9223372036854775807) = true := decide_eq_true c40
             try have c40b2 : (9223372036854775807 < x9_2.size + (rdOf ByteArray.empty l0_3 (rd l2 x43_2)).size) = False := eq_false (Nat.not_lt.2 c40)
             replace H := Option.bind_eq_some_iff.mp H
             obtain ⟨t255,A410,H⟩ := H
             replace H : (impl_EncodeBlocks.l0 k2 (x9_2 ++ (rdOf ByteArray.empty l0_3 (rd l2 x43_2))) t255 l2 (l2.length : Int) (wrap64 (x43_2 + 1)) a0_0 a0_1 l0_2 l0_3) = some (r1,r2,r3) := H
             have A41 := Aside0.mk A410
             clear A410
             have H' := Aside0.mk H
             clear H
             have p249 : 0 ≤ (x43_2 : Int) := of_decide_eq_true (by first | (with_reducible assumption) | assumption)
             have q249 : x43_2 < (l2.length : Int) := of_decide_eq_true (by first | (with_reducible assumption) | assumption)
             obtain ⟨ad249,e249,hx249_0⟩ := Kd.at_int HR2.out x43_2 p249 q249
             cases e249
             replace hx249_0 := (HB.out.cell (World.block_lt_of_cell? w _ hx249_0)).trans hx249_0
             replace p249 := eq_true p249
             replace q249 := eq_true q249
             have hcz42_0 : wr.cell? ⟨gb245,0,none⟩ = some (.int .i64 a0_0) := (blk_cell BK245.out 0).trans rfl
             have hcz42_1 : wr.cell? ⟨gb245,1,none⟩ = some (.int .i64 a0_1) := (blk_cell BK245.out 1).trans rfl
             have hcz42_2 : wr.cell? ⟨gb245,2,none⟩ = some (.slice A0_2 l0_2.length c0_2) := (blk_cell BK245.out 2).trans rfl
             have hcz42_3 : wr.cell? ⟨gb245,3,none⟩ = some (.slice A0_3 l0_3.length c0_3) := (blk_cell BK245.out 3).trans rfl
             have hfz42_0 := blk_frozen BK245.out 0
             have hfz42_1 := blk_frozen BK245.out 1
             have hfz42_2 := blk_frozen BK245.out 2
             have hfz42_3 := blk_frozen BK245.out 3
             go_wp2_with (first | ((with_reducible refine gate_callee (f := 55) rfl ?_); refine goesL_ (some 50) rfl rfl Tryd.func55 (by kernel_rfl) rfl #[.agg #[.int .i64 a0_0,.int .i64 a0_1,.slice A0_2 l0_2.length c0_2,.slice A0_3 l0_3.length c0_3],.int .i64 x10_2] rfl (by (try simp only [List.map_toArray,List.map_cons,List.map_nil]); first | done | rfl | (simp only [List.length_drop,List.length_take]; rfl)) ?_; (with_reducible refine (impl_BlockCode_words_pos.calls a0_0 a0_1 _ _ l0_2 _ _ l0_3 x10_2  _ ?side1 ?side2 ?side3 ?side4 A37.out).mono ?_); (case side1 => repeat (first | exact (Kd.C_below HR0_2.out HB.out) | (with_reducible refine Kd.C_alloc ?_ _) | (with_reducible refine Kd.C_drewN ?_ _) | (with_reducible refine Kd.C_drew ?_))); (case side2 => exact HC0_2.out); (case side3 => repeat (first | exact (Kd.C_below HR0_3.out HB.out) | (with_reducible refine Kd.C_alloc ?_ _) | (with_reducible refine Kd.C_drewN ?_ _) | (with_reducible refine Kd.C_drew ?_))); (case side4 => exact HC0_3.out); rintro e w43 ⟨rfl,hb⟩; refine ⟨_,rfl,?_⟩; have n0_ := Aside0.mk (blk_below (g := gb245) (o := .cells #[.int .i64 a0_0,.int .i64 a0_1,.slice A0_2 l0_2.length c0_2,.slice A0_3 l0_3.length c0_3] 30 (0,0)) (by (with_reducible repeat (first | refine blk_drewN ?_ _ | refine blk_drew ?_ | refine blk_alloc ?_ _)); exact BK245.out) hb); have n1_ := Aside0.mk (below_step (by repeat (first | (with_reducible first | exact HB.out | apply below_alloc | apply pw_below_drewN | apply below_drew1 | refine below_set ?_ GE245.out) | exact HB.out)) hb); clear BK245; clear HB; have BK245 := n0_; have HB := n1_; clear n0_ n1_; (try clear hb); (try clear hb2); (try clear hk); (try clear hi); have p253 : 0 ≤ ((rd l2 x43_2) : Int) := of_decide_eq_true (by first | (with_reducible assumption) | assumption); have q253 : (rd l2 x43_2) < (l0_3.length : Int) := of_decide_eq_true (by first | (with_reducible assumption) | assumption); obtain ⟨ad253,e253,hx253_0⟩ := Kd.at_string HR0_3.out (rd l2 x43_2) p253 q253; cases e253; replace hx253_0 := (HB.out.cell (World.block_lt_of_cell? w _ hx253_0)).trans hx253_0; replace p253 := eq_true p253; replace q253 := eq_true q253; have p254 : 0 ≤ ((rd l2 x43_2) : Int) := of_decide_eq_true (by first | (with_reducible assumption) | assumption); have q254 : (rd l2 x43_2) < (l0_3.length : Int) := of_decide_eq_true (by first | (with_reducible assumption) | assumption); obtain ⟨ad254,e254,hx254_0⟩ := Kd.at_string HR0_3.out (rd l2 x43_2) p254 q254; obtain rfl : ad253 = ad254 := (by injection e254); replace hx254_0 := (HB.out.cell (World.block_lt_of_cell? w _ hx254_0)).trans hx254_0; replace p254 := eq_true p254; replace q254 := eq_true q254) | ((with_reducible refine gate_callee (f := 63) rfl ?_); refine goesL_ (some 64) rfl rfl Tryd.func63 (by kernel_rfl) rfl #[.int .i64 x10_2,.string (rdOf ByteArray.empty l0_3 (rd l2 x43_2))] rfl (by (try simp only [List.map_toArray,List.map_cons,List.map_nil]); first | done | rfl | (simp only [List.length_drop,List.length_take]; rfl)) ?_; (with_reducible refine (impl_stateBehind.calls x10_2 (rdOf ByteArray.empty l0_3 (rd l2 x43_2)) t255 _ A41.out).mono ?_); rintro e w' ⟨rfl,⟨nd,rfl⟩⟩; refine ⟨_,rfl,?_⟩))
             go_roundg k2
             case measure => have := HJ3.out; have := HK2.out; omega
             case rel => exact ⟨(x9_2 ++ (rdOf ByteArray.empty l0_3 (rd l2 x43_2))),(t255),(wrap64 (x43_2 + 1)),(by first | rfl | (simp; done) | (simp [*]; done)),(by first | rfl | (simp; done) | (simp [*]; done)),(by first | rfl | (simp; done) | (simp [*]; done)),H',⟨by have := HJ3.out; have := HK2.out; omega⟩,⟨by (with_reducible repeat (first | refine blk_drewN ?_ _ | refine blk_drew ?_ | refine blk_alloc ?_ _)); exact BK245.out⟩,⟨by repeat (first | (with_reducible first | exact HB.out | apply below_alloc | apply pw_below_drewN | apply below_drew1 | refine below_set ?_ GE245.out) | exact HB.out)⟩⟩
            ·rw [if_neg c40] at H
             exact absurd H (by simp)
           ·rw [if_neg c39] at H
            exact absurd H (by simp)
          ·rw [if_neg c38] at H
           exact absurd H (by simp)
        ·rw [if_neg c28] at H
         exact absurd H (by simp)
       ·rw [if_neg c27] at H
        exact absurd H (by simp)
      ·rw [if_neg c26] at H
       have c26b0 : decide (x43_2 < (l2.length : Int)) = false := decide_eq_false c26
       clear c26
       simp only [Option.some.injEq,Prod.mk.injEq] at H
       obtain ⟨rfl,rfl,rfl⟩ := H
       go_wp2
       go_ret3
       exact ⟨by first | rfl | (simp [errW_none,errW_some] <;> rfl) | (simp [*,errW_none,errW_some] <;> rfl),by repeat (first | (with_reducible first | exact HB.out | apply below_alloc | apply pw_below_drewN | apply below_drew1 | refine below_set ?_ GE245.out) | exact HB.out)⟩

/-! ### impl_IsBits: function 43 -/
def impl_IsBits.f (a0 : ByteArray) : Option (Bool) := if (a0.size : Int) ≤ 400 then ((impl_areBits.f a0).bind fun t256 => (some t256)) else (some false)
set_option maxHeartbeats 8000000 in
set_option maxRecDepth 100000 in
theorem impl_IsBits.calls (a0 : ByteArray) (r : Bool) (w : World) (h : impl_IsBits.f a0 = some r) :
  Calls Tryd.prog 43 #[.string a0] w fun e w' => e = .returned (.bool r) ∧ Below w.heap.size w w' := by
 have HB := Aside0.mk (Below.refl w.heap.size w)
 have H : (if (a0.size : Int) ≤ 400 then ((impl_areBits.f a0).bind fun t256 => (some t256)) else (some false)) = some r := h
 clear h
 by_cases c2 : (a0.size : Int) ≤ 400
 ·rw [if_pos c2] at H
  have c2b0 : decide ((a0.size : Int) ≤ 400) = true := decide_eq_true c2
  have c2b1 : decide (a0.size ≤ 400) = true := decide_eq_true (by omega)
  clear c2
  replace H := Option.bind_eq_some_iff.mp H
  obtain ⟨t256,A30,H⟩ := H
  replace H : (some t256) = some r := H
  have A3 := Aside0.mk A30
  clear A30
  obtain rfl := Option.some.inj H
  go_enter Tryd.func43,Tryd.ntmps43
  go_wp2_with (first | (go_at_call 57; (with_reducible refine (impl_areBits.calls a0 t256 _ A3.out).mono ?_); rintro e w4 ⟨rfl,hb⟩; have n0_ := Aside0.mk (below_step (by repeat (first | (with_reducible first | exact HB.out | apply below_alloc | apply pw_below_drewN | apply below_drew1) | exact HB.out)) hb); clear HB; have HB := n0_; clear n0_; (try clear hb); (try clear hb2); (try clear hk); (try clear hi)))
  go_ret
  exact ⟨by first | rfl | (simp [errW_none,errW_some] <;> rfl) | (simp [*,errW_none,errW_some] <;> rfl),by repeat (first | (with_reducible first | exact HB.out | apply below_alloc | apply pw_below_drewN | apply below_drew1) | exact HB.out)⟩
 ·rw [if_neg c2] at H
  have c2b0 : decide ((a0.size : Int) ≤ 400) = false := decide_eq_false c2
  have c2b1 : decide (a0.size ≤ 400) = false := decide_eq_false (by omega)
  clear c2
  obtain rfl := Option.some.inj H
  go_enter Tryd.func43,Tryd.ntmps43
  go_wp2
  go_ret
  exact ⟨by first | rfl | (simp [errW_none,errW_some] <;> rfl) | (simp [*,errW_none,errW_some] <;> rfl),by repeat (first | (with_reducible first | exact HB.out | apply below_alloc | apply pw_below_drewN | apply below_drew1) | exact HB.out)⟩

end Go.Proofs.YtegeaoiclepkkaaDoor.QFnExactFlipEffect
