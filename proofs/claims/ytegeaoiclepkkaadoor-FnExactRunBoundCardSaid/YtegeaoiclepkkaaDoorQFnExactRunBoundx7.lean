/-
Each Go function that this text names answers as the Lean function beside it says,wherever that one answers; conditions: the arguments lie in memory as each theorem states it.
-/
import Derived.Test.YtegeaoiclepkkaaDoorQFnExactRunBoundx0
namespace Go.Proofs.YtegeaoiclepkkaaDoor.QFnExactRunBound
open Go.RowKit Go.Proofs.YtegeaoiclepkkaaDoorW.PrintWords Go.Proofs.YtegeaoiclepkkaaDoorW.PrintLast Go.Proofs.YtegeaoiclepkkaaDoorW.PrintMore
attribute [local go_sem] max2_int min2_int max_two min_two max_three min_three max_four min_four   -- for this text's walks alone
set_option linter.unusedVariables false
set_option linter.unusedSimpArgs false
theorem b7_0 {P : Prop} (h : P := by repeat (first | (with_reducible first | exact HB.out | apply below_alloc | apply pw_below_drewN | apply below_drew1 | refine below_set ?_ GE211.out) | exact HB.out)) : P := h
theorem b7_1 {P : Prop} (h : P := by repeat (first | (with_reducible first | exact HB.out | apply below_alloc | apply pw_below_drewN | apply below_drew1) | exact HB.out)) : P := h
theorem b7_2 {P : Prop} (h : P := by (try simp only [List.map_toArray,List.map_cons,List.map_nil]); first | done | rfl | (simp only [List.length_drop,List.length_take]; rfl)) : P := h
theorem b7_3 {P : Prop} (h : P := by (try simp only [List.map_toArray,List.map_cons,List.map_nil]); first | done | rfl) : P := h
theorem b7_4 {P : Prop} (h : P := by (with_reducible repeat (first | refine blk_drewN ?_ _ | refine blk_drew ?_ | refine blk_alloc ?_ _)); exact BK211.out) : P := h
theorem b7_5 {P : Prop} (h : P := by (with_reducible repeat (first | refine blk_drewN ?_ _ | refine blk_drew ?_ | refine blk_alloc ?_ _)); exact BK.out) : P := h
theorem b7_6 {P : Prop} (h : P := by first | rfl | (simp [errW_none,errW_some] <;> rfl) | (simp [*,errW_none,errW_some] <;> rfl)) : P := h
theorem b7_7 {P : Prop} (h : P := by first | rfl | (simp; done) | (simp [*]; done)) : P := h
theorem b7_8 {P : Prop} (h : P := by repeat (first | exact Drawn0.refl _ | apply Drawn0.step)) : P := h
theorem b7_9 {P : Prop} (h : P := by first | (with_reducible assumption) | assumption) : P := h
theorem b7_10 {P : Prop} (h : P := by first | exact HS.out.drewN _ | exact HS.out) : P := h
theorem b7_11 {P : Prop} (h : P := by show decide (s.data.toList ∈ s.data.toList :: seen) = true; simp) : P := h

/-! ### impl_within: function 73 -/
def impl_within.f (a0 : Int) (a1 : Int) (a2 : Int) : Option (Bool) := if a0 ≥ a1 then (some (decide (a0 ≤ a2))) else (some false)
set_option maxHeartbeats 8000000 in
set_option maxRecDepth 100000 in
theorem impl_within.calls (a0 : Int) (a1 : Int) (a2 : Int) (r : Bool) (w : World) (h : impl_within.f a0 a1 a2 = some r) :
  Calls Tryd.prog 73 #[.int .i64 a0,.int .i64 a1,.int .i64 a2] w fun e w' => e = .returned (.bool r) ∧ Drawn0 w w' := by
 have H : (if a0 ≥ a1 then (some (decide (a0 ≤ a2))) else (some false)) = some r := h
 clear h
 by_cases c4 : a0 ≥ a1
 ·rw [if_pos c4] at H
  have c4b0 : decide (a1 ≤ a0) = true := decide_eq_true c4
  clear c4
  obtain rfl := Option.some.inj H
  go_enter Tryd.func73,Tryd.ntmps73
  go_wp2
  go_ret
  exact ⟨b7_7,b7_8⟩
 ·rw [if_neg c4] at H
  have c4b0 : decide (a1 ≤ a0) = false := decide_eq_false c4
  clear c4
  obtain rfl := Option.some.inj H
  go_enter Tryd.func73,Tryd.ntmps73
  go_wp2
  go_ret
  exact ⟨b7_7,b7_8⟩

/-! ### impl_isData: function 48 -/
def impl_isData.f (a0 : Int) : Option (Bool) := (impl_within.f a0 1 6).bind fun t206 => (some t206)
set_option maxHeartbeats 8000000 in
set_option maxRecDepth 100000 in
theorem impl_isData.calls (a0 : Int) (r : Bool) (w : World) (h : impl_isData.f a0 = some r) :
  Calls Tryd.prog 48 #[.int .i64 a0] w fun e w' => e = .returned (.bool r) ∧ Drawn0 w w' := by
 have H : ((impl_within.f a0 1 6).bind fun t206 => (some t206)) = some r := h
 clear h
 replace H := Option.bind_eq_some_iff.mp H
 obtain ⟨t206,A20,H⟩ := H
 replace H : (some t206) = some r := H
 have A2 := Aside0.mk A20
 clear A20
 obtain rfl := Option.some.inj H
 go_enter Tryd.func48,Tryd.ntmps48
 go_wp2_with (first | ((with_reducible refine gate_callee (f := 73) rfl ?_); refine goesL_ (some 4) rfl rfl Tryd.func73 (by kernel_rfl) rfl #[.int .i64 a0,.int .i64 1,.int .i64 6] rfl b7_2 ?_; (with_reducible refine (impl_within.calls a0 1 6 t206 _ A2.out).mono ?_); rintro e w' ⟨rfl,⟨nd,rfl⟩⟩; refine ⟨_,rfl,?_⟩))
 go_ret
 exact ⟨b7_7,b7_8⟩

/-! ### impl_isWidth: function 49 -/
def impl_isWidth.f (a0 : Int) : Option (Bool) := (impl_within.f a0 2 12).bind fun t207 => (if t207 = true then (some ((Int.tmod a0 2) == 0)) else (some false))
set_option maxHeartbeats 8000000 in
set_option maxRecDepth 100000 in
theorem impl_isWidth.calls (a0 : Int) (r : Bool) (w : World) (h : impl_isWidth.f a0 = some r) :
  Calls Tryd.prog 49 #[.int .i64 a0] w fun e w' => e = .returned (.bool r) ∧ Drawn0 w w' := by
 have H : ((impl_within.f a0 2 12).bind fun t207 => (if t207 = true then (some ((Int.tmod a0 2) == 0)) else (some false))) = some r := h
 clear h
 replace H := Option.bind_eq_some_iff.mp H
 obtain ⟨t207,A20,H⟩ := H
 replace H : (if t207 = true then (some ((Int.tmod a0 2) == 0)) else (some false)) = some r := H
 have A2 := Aside0.mk A20
 clear A20
 by_cases c3 : t207 = true
 ·subst c3
  have H1 : (some ((Int.tmod a0 2) == 0)) = some r := by rw [if_pos rfl] at H; exact H
  clear H
  have H := H1
  clear H1
  obtain rfl := Option.some.inj H
  go_enter Tryd.func49,Tryd.ntmps49
  go_wp2_with (first | ((with_reducible refine gate_callee (f := 73) rfl ?_); refine goesL_ (some 4) rfl rfl Tryd.func73 (by kernel_rfl) rfl #[.int .i64 a0,.int .i64 2,.int .i64 12] rfl b7_2 ?_; (with_reducible refine (impl_within.calls a0 2 12 true _ A2.out).mono ?_); rintro e w' ⟨rfl,⟨nd,rfl⟩⟩; refine ⟨_,rfl,?_⟩))
  go_ret
  exact ⟨b7_7,b7_8⟩
 ·replace c3 := Bool.eq_false_iff.mpr c3
  subst c3
  have H1 : (some false) = some r := by rw [if_neg (show ¬ (false = true) by decide)] at H; exact H
  clear H
  have H := H1
  clear H1
  obtain rfl := Option.some.inj H
  go_enter Tryd.func49,Tryd.ntmps49
  go_wp2_with (first | ((with_reducible refine gate_callee (f := 73) rfl ?_); refine goesL_ (some 4) rfl rfl Tryd.func73 (by kernel_rfl) rfl #[.int .i64 a0,.int .i64 2,.int .i64 12] rfl b7_2 ?_; (with_reducible refine (impl_within.calls a0 2 12 false _ A2.out).mono ?_); rintro e w' ⟨rfl,⟨nd,rfl⟩⟩; refine ⟨_,rfl,?_⟩))
  go_ret
  exact ⟨b7_7,b7_8⟩

/-! ### strings_Count: function 79 -/
/-- Of the text "1": all that this program asks.  -/
def strings_Count.f (a0 : ByteArray) (a1 : ByteArray) : Option (Int) := if a1 = ⟨#[49]⟩ then some (Lib.countByte a0.data.toList 49) else none
theorem strings_Count.calls (a0 : ByteArray) (a1 : ByteArray) (r : Int) (w : World) (h : strings_Count.f a0 a1 = some r) :
  Calls Tryd.prog 79 #[.string a0,.string a1] w fun e w' => e = .returned (.int .i64 r) ∧ Drawn0 w w' := by
 unfold strings_Count.f at h
 by_cases c : a1 = ⟨#[49]⟩
 ·rw [if_pos c] at h
  obtain rfl := c
  obtain rfl := Option.some.inj h
  refine (Any.strings_Count_one Tryd.lays138 a0 49 w).mono ?_
  rintro e w' ⟨rfl,rfl⟩
  exact ⟨rfl,⟨⟨0,rfl⟩⟩⟩
 ·rw [if_neg c] at h; cases h

/-! ### impl_disparity: function 44 -/
def impl_disparity.f (a0 : ByteArray) : Option (Int) := (strings_Count.f a0 (⟨#[49]⟩ : ByteArray)).bind fun t208 => (some (wrap64 ((wrap64 (2 * t208)) - (a0.size : Int))))
set_option maxHeartbeats 8000000 in
set_option maxRecDepth 100000 in
theorem impl_disparity.calls (a0 : ByteArray) (r : Int) (w : World) (h : impl_disparity.f a0 = some r) :
  Calls Tryd.prog 44 #[.string a0] w fun e w' => e = .returned (.int .i64 r) ∧ Drawn0 w w' := by
 have H : ((strings_Count.f a0 (⟨#[49]⟩ : ByteArray)).bind fun t208 => (some (wrap64 ((wrap64 (2 * t208)) - (a0.size : Int))))) = some r := h
 clear h
 replace H := Option.bind_eq_some_iff.mp H
 obtain ⟨t208,A20,H⟩ := H
 replace H : (some (wrap64 ((wrap64 (2 * t208)) - (a0.size : Int)))) = some r := H
 have A2 := Aside0.mk A20
 clear A20
 obtain rfl := Option.some.inj H
 go_enter Tryd.func44,Tryd.ntmps44
 go_wp2_with (first | ((with_reducible refine gate_callee (f := 79) rfl ?_); refine goesL_ (some 4) rfl rfl Tryd.func79 (by kernel_rfl) rfl #[.string a0,.string (⟨#[49]⟩ : ByteArray)] rfl b7_2 ?_; (with_reducible refine (strings_Count.calls a0 (⟨#[49]⟩ : ByteArray) t208 _ A2.out).mono ?_); rintro e w' ⟨rfl,⟨nd,rfl⟩⟩; refine ⟨_,rfl,?_⟩))
 go_ret
 exact ⟨b7_7,b7_8⟩

/-! ### strings_Trim: function 83 -/
/-- The cutset "01": all that this program asks. -/
def strings_Trim.f (a0 : ByteArray) (a1 : ByteArray) : Option (ByteArray) := if a1 = ⟨#[48,49]⟩ ∧ a0.size ≤ 9223372036854775807 then some ⟨(Lib.trimS a0.data.toList [48,49]).toArray⟩ else none
theorem strings_Trim.calls (a0 : ByteArray) (a1 : ByteArray) (r : ByteArray) (w : World) (h : strings_Trim.f a0 a1 = some r) :
  Calls Tryd.prog 83 #[.string a0,.string a1] w fun e w' => e = .returned (.string r) ∧ Below w.heap.size w w' := by
 unfold strings_Trim.f at h
 by_cases c : a1 = ⟨#[48,49]⟩ ∧ a0.size ≤ 9223372036854775807
 ·rw [if_pos c] at h
  obtain ⟨rfl,hs⟩ := c
  obtain rfl := Option.some.inj h
  exact Any.strings_Trim_laid Tryd.lays160 (by kernel_rfl) a0 ⟨#[48,49]⟩ w hs (by decide) (ascii_of_all (by decide))
 ·rw [if_neg c] at h; cases h

/-! ### impl_areBits: function 57 -/
def impl_areBits.f (a0 : ByteArray) : Option (Bool) := (strings_Trim.f a0 (⟨#[48,49]⟩ : ByteArray)).bind fun t209 => (some (t209.toList == ([] : List UInt8)))
set_option maxHeartbeats 8000000 in
set_option maxRecDepth 100000 in
theorem impl_areBits.calls (a0 : ByteArray) (r : Bool) (w : World) (h : impl_areBits.f a0 = some r) :
  Calls Tryd.prog 57 #[.string a0] w fun e w' => e = .returned (.bool r) ∧ Below w.heap.size w w' := by
 have HB := Aside0.mk (Below.refl w.heap.size w)
 have H : ((strings_Trim.f a0 (⟨#[48,49]⟩ : ByteArray)).bind fun t209 => (some (t209.toList == ([] : List UInt8)))) = some r := h
 clear h
 replace H := Option.bind_eq_some_iff.mp H
 obtain ⟨t209,A20,H⟩ := H
 replace H : (some (t209.toList == ([] : List UInt8))) = some r := H
 have A2 := Aside0.mk A20
 clear A20
 obtain rfl := Option.some.inj H
 go_enter Tryd.func57,Tryd.ntmps57
 go_wp2_with (first | ((with_reducible refine gate_callee (f := 83) rfl ?_); refine goesL_ (some 4) rfl rfl Tryd.func83 (by kernel_rfl) rfl #[.string a0,.string (⟨#[48,49]⟩ : ByteArray)] rfl b7_2 ?_; (with_reducible refine (strings_Trim.calls a0 (⟨#[48,49]⟩ : ByteArray) t209 _ A2.out).mono ?_); rintro e w3 ⟨rfl,hb⟩; refine ⟨_,rfl,?_⟩; have n0_ := Aside0.mk (below_step b7_1 hb); clear HB; have HB := n0_; clear n0_; (try clear hb); (try clear hb2); (try clear hk); (try clear hi)))
 go_ret
 exact ⟨b7_6,b7_1⟩

/-! ### impl_BlockCode_areWords: function 50 -/
/-!  -/
/-- The words that have been seen,as a set of values. -/
def impl_BlockCode_areWords.inS (seen : List (List UInt8)) : Value → Bool
 | .string s => decide (s.data.toList ∈ seen)
 | _ => false
def impl_BlockCode_areWords.l0 : Nat → Int → List ByteArray → Int → List (List UInt8) → Int → Option Bool
 | 0,_,_,_,_,_ => none
 | k + 1,c1,ws,o,seen,x => if x < (ws.length : Int) then (if 0 ≤ x then (if (rdOf ByteArray.empty ws x).size ≤ 1048576 then ((impl_disparity.f (rdOf ByteArray.empty ws x)).bind fun d => (if ((rdOf ByteArray.empty ws x).size : Int) = c1 then ((impl_areBits.f (rdOf ByteArray.empty ws x)).bind fun b => (if b = true then (if d = 0 ∨ d = o then (if (rdOf ByteArray.empty ws x).data.toList ∈ seen then some false else (if seen.length < 1000000 then impl_BlockCode_areWords.l0 k c1 ws o ((rdOf ByteArray.empty ws x).data.toList :: seen) (wrap64 (x + 1)) else none)) else some false) else some false)) else some false)) else none) else none) else some true
def impl_BlockCode_areWords.f (k : Nat) (a0_0 a0_1 : Int) (l0_2 l0_3 : List ByteArray) (l1 : List ByteArray) (a2 : Int) : Option Bool := if 0 ≤ a0_0 then (if (l1.length : Int) = wrap64 (2 ^ min a0_0.toNat 64) then impl_BlockCode_areWords.l0 k a0_1 l1 a2 [] 0 else some false) else none
theorem impl_BlockCode_areWords.below_step_grown {w W W' : World} {g : Nat} (h : Below w.heap.size w W) (hg : W.grownBy W' (some g)) (hge : w.heap.size ≤ g) : Below w.heap.size w W' :=
 h.grown hg h.size (fun k hk => by injection hk with hk; omega)
theorem impl_BlockCode_areWords.set_go {seen : List (List UInt8)} {s : ByteArray} : ∀ u,u ≠ Value.string s → impl_BlockCode_areWords.inS (s.data.toList :: seen) u = impl_BlockCode_areWords.inS seen u := by
 intro u hu
 cases u <;> try rfl
 rename_i t
 have ht : t.data.toList ≠ s.data.toList := fun e => hu (by rw [ByteArray.ext (Array.toList_inj.1 e)])
 show decide (t.data.toList ∈ s.data.toList :: seen) = decide (t.data.toList ∈ seen)
 simp [ht]
set_option maxHeartbeats 8000000 in
set_option maxRecDepth 100000 in
theorem impl_BlockCode_areWords.calls (k : Nat) (a0_0 : Int) (a0_1 : Int) (A0_2 : Option Addr) (c0_2 : Nat) (l0_2 : List ByteArray) (A0_3 : Option Addr) (c0_3 : Nat) (l0_3 : List ByteArray) (A1 : Option Addr) (c1 : Nat) (l1 : List ByteArray) (a2 : Int) (r : Bool) (w : World) (hr0_2 : Kd.C Kd.string w A0_2 l0_2.length l0_2) (hc0_2 : l0_2.length ≤ c0_2) (hr0_3 : Kd.C Kd.string w A0_3 l0_3.length l0_3) (hc0_3 : l0_3.length ≤ c0_3) (hr1 : Kd.C Kd.string w A1 l1.length l1) (hc1 : l1.length ≤ c1) (h : impl_BlockCode_areWords.f k a0_0 a0_1 l0_2 l0_3 l1 a2 = some r) :
  Calls Tryd.prog 50 #[.agg #[.int .i64 a0_0,.int .i64 a0_1,.slice A0_2 l0_2.length c0_2,.slice A0_3 l0_3.length c0_3],.slice A1 l1.length c1,.int .i64 a2] w fun e w' => e = .returned (.bool r) ∧ Below w.heap.size w w' := by
 have HR1 := Aside0.mk hr1
 clear hr0_2 hc0_2 hr0_3 hc0_3 hr1
 have hu30 := Tryd.underlying30
 have hu69 := Tryd.underlying69
 have HB := Aside0.mk (Below.refl w.heap.size w)
 have hmm := @run_makeMap Tryd.prog
 unfold impl_BlockCode_areWords.f at h
 by_cases d0 : 0 ≤ a0_0
 ·rw [if_pos d0] at h
  have d0b : decide (0 ≤ a0_0) = true := decide_eq_true d0
  by_cases d1 : (l1.length : Int) = wrap64 (2 ^ min a0_0.toNat 64)
  ·rw [if_pos d1] at h
   have H' := Aside0.mk h
   clear h
   have d1b : ((l1.length : Int) != wrap64 (2 ^ min a0_0.toNat 64)) = false := by simp [d1]
   clear d1
   go_enter Tryd.func50,Tryd.ntmps50
   go_wp2_with (first | ((with_reducible refine gate_dst (N := 3) rfl ?_); refine box_event ?hg (N := 3) ?hd (cs := #[.int .i64 a0_0,.int .i64 a0_1,.slice A0_2 l0_2.length c0_2,.slice A0_3 l0_3.length c0_3]) (t := 30) ?hr ?_; (case hd => rfl); (case hg => rfl); (case hr => first | (go_simp; done) | (go_simp; rfl)); intro g1 hg w1 hbox hb; have n0_ := Aside0.mk (below_step b7_1 hb); clear HB; have HB := n0_; clear n0_ hb hg; have BK := Aside0.mk hbox; clear hbox; have hcz0 : w1.cell? ⟨g1,0,none⟩ = some (.int .i64 a0_0) := (blk_cell BK.out 0).trans rfl; have hcz1 : w1.cell? ⟨g1,1,none⟩ = some (.int .i64 a0_1) := (blk_cell BK.out 1).trans rfl; have hfz0 := blk_frozen BK.out 0))
   have GM := Aside0.mk (show w.heap.size ≤ w1.heap.size from HB.out.size)
   have GL := Aside0.mk (blk_lt BK.out)
   have e0 : inS [] = fun _ => false := by funext u; cases u <;> rfl
   have HS := Aside0.mk (show MSet.SetIs (w1.alloc (.map #[] 0)) Tryd.prog 9 4 w1.heap.size ([] : List (List UInt8)).length (inS []) from by rw [e0]; exact MSet.SetIs.made w1 Tryd.prog 9 4)
   have n0_ := Aside0.mk (below_alloc HB.out (.map #[] 0))
   have n1_ := Aside0.mk (show (w1.alloc (.map #[] 0)).heap[g1]? = some (.cells #[.int .i64 a0_0,.int .i64 a0_1,.slice A0_2 l0_2.length c0_2,.slice A0_3 l0_3.length c0_3] 30 (0,0)) from blk_alloc BK.out _)
   clear HB BK
   have HB := n0_
   have BK := n1_
   clear n0_ n1_ e0
   go_loopg [20] k (fun kq v20 w' => ∃ (seen : List (List UInt8)) (x : Int),v20 = .int .i64 x ∧ Aside0 (impl_BlockCode_areWords.l0 kq a0_1 l1 a2 seen x = some r) ∧ Aside0 (kq ≤ k) ∧ Aside0 (MSet.SetIs w' Tryd.prog 9 4 w1.heap.size seen.length (inS seen)) ∧ Aside0 (Below w.heap.size w w') ∧ Aside0 (w'.heap[g1]? = some (.cells #[.int .i64 a0_0,.int .i64 a0_1,.slice A0_2 l0_2.length c0_2,.slice A0_3 l0_3.length c0_3] 30 (0,0))))
   case atStart => exact ⟨[],0,rfl,H',⟨Nat.le_refl _⟩,HS,HB,BK⟩
   case round =>
    clear H' HS HB BK hcz0 hcz1 hfz0
    obtain ⟨seen,x,rfl,HA,HK1,HS,HB,BK⟩ := hrel
    cases gk with
    | zero => exact absurd HA.out (by simp [impl_BlockCode_areWords.l0])
    | succ k1 =>
     have H := HA.out
     clear HA
     simp only [impl_BlockCode_areWords.l0] at H
     by_cases c5 : x < (l1.length : Int)
     ·rw [if_pos c5] at H
      have c5b0 : decide (x < (l1.length : Int)) = true := decide_eq_true c5
      by_cases c6 : 0 ≤ x
      ·rw [if_pos c6] at H
       have c6b0 : decide (0 ≤ x) = true := decide_eq_true c6
       obtain ⟨ad1,e2,hx1⟩ := Kd.at_string (Kd.C_below HR1.out HB.out) x c6 c5
       cases e2
       generalize rdOf ByteArray.empty l1 x = s at H hx1
       have p7 := eq_true c6
       have q7 := eq_true c5
       clear c5 c6
       have hcz1 : wr.cell? ⟨g1,1,none⟩ = some (.int .i64 a0_1) := (blk_cell BK.out 1).trans rfl
       have hfz1 := blk_frozen BK.out 1
       by_cases c12 : s.size ≤ 1048576
       ·rw [if_pos c12] at H
        have SZ := Aside0.mk (show s.size ≤ maxLen by unfold maxLen; omega)
        clear c12
        obtain ⟨d,e1,H⟩ := Option.bind_eq_some_iff.mp H
        have AD := Aside0.mk e1
        clear e1
        by_cases c7 : (s.size : Int) = a0_1
        ·rw [if_pos c7] at H
         have c7b : ((s.size : Int) != a0_1) = false := by simp [c7]
         clear c7
         obtain ⟨b,e1,H⟩ := Option.bind_eq_some_iff.mp H
         have AB := Aside0.mk e1
         clear e1
         cases b with
         | false =>
          rw [if_neg (by decide)] at H
          obtain rfl := Option.some.inj H
          go_wp2_with (first | ((with_reducible refine gate_callee (f := 44) rfl ?_); refine goesL_ (some 25) rfl rfl Tryd.func44 (by kernel_rfl) rfl #[.string s] rfl b7_3 ?_; (with_reducible refine (impl_disparity.calls s d _ AD.out).mono ?_); rintro e w' ⟨rfl,⟨nd,rfl⟩⟩; refine ⟨_,rfl,?_⟩) | ((with_reducible refine gate_callee (f := 57) rfl ?_); refine gate_guard (by rfl) ?_; dsimp only; refine goesL_ (some 33) rfl rfl Tryd.func57 (by kernel_rfl) rfl #[.string s] rfl b7_3 ?_; (with_reducible refine (impl_areBits.calls s _ _ AB.out).mono ?_); rintro e w3 ⟨rfl,hb⟩; refine ⟨_,rfl,?_⟩; have n0_ := Aside0.mk (below_step b7_1 hb); have n1_ := Aside0.mk (blk_below (g := g1) (o := .cells #[.int .i64 a0_0,.int .i64 a0_1,.slice A0_2 l0_2.length c0_2,.slice A0_3 l0_3.length c0_3] 30 (0,0)) b7_5 hb); have n2_ := Aside0.mk (MSet.SetIs.below b7_10 hb); clear HB BK HS; have HB := n0_; have BK := n1_; have HS := n2_; clear n0_ n1_ n2_ hb))
          go_ret
          exact ⟨b7_6,b7_1⟩
         | true =>
          rw [if_pos rfl] at H
          by_cases c8 : d = 0 ∨ d = a2
          ·rw [if_pos c8] at H
           by_cases c9 : s.data.toList ∈ seen
           ·rw [if_pos c9] at H
            obtain rfl := Option.some.inj H
            have hseen : inS seen (.string s) = true := decide_eq_true c9
            clear c9
            rcases c8 with c8 | c8
            ·have e8 : (d != 0) = false := by simp [c8]
             clear c8
             go_wp2_with (first | ((with_reducible refine gate_callee (f := 44) rfl ?_); refine goesL_ (some 25) rfl rfl Tryd.func44 (by kernel_rfl) rfl #[.string s] rfl b7_3 ?_; (with_reducible refine (impl_disparity.calls s d _ AD.out).mono ?_); rintro e w' ⟨rfl,⟨nd,rfl⟩⟩; refine ⟨_,rfl,?_⟩) | ((with_reducible refine gate_callee (f := 57) rfl ?_); refine gate_guard (by rfl) ?_; dsimp only; refine goesL_ (some 33) rfl rfl Tryd.func57 (by kernel_rfl) rfl #[.string s] rfl b7_3 ?_; (with_reducible refine (impl_areBits.calls s _ _ AB.out).mono ?_); rintro e w3 ⟨rfl,hb⟩; refine ⟨_,rfl,?_⟩; have n0_ := Aside0.mk (below_step b7_1 hb); have n1_ := Aside0.mk (blk_below (g := g1) (o := .cells #[.int .i64 a0_0,.int .i64 a0_1,.slice A0_2 l0_2.length c0_2,.slice A0_3 l0_3.length c0_3] 30 (0,0)) b7_5 hb); have n2_ := Aside0.mk (MSet.SetIs.below b7_10 hb); clear HB BK HS; have HB := n0_; have BK := n1_; have HS := n2_; clear n0_ n1_ n2_ hb) | ((with_reducible refine gate_dst (N := 48) rfl ?_); refine gate_guard (by rfl) ?_; dsimp only; refine MSet.wpList_seen _ rfl (.tmp 46) (.tmp 47) 69 rfl 9 4 (Maps.string_keyed Tryd.underlying9) hu69 Tryd.underlying4 (Tryd.zeroValue4 _) w1.heap.size seen.length (inS seen) rfl HS.out (.string s) (.string s.data.toList) rfl (WideMaps.keyOf_string_mk Tryd.underlying9 SZ.out) ?_; rw [hseen]))
             go_ret
             exact ⟨b7_6,b7_1⟩
            ·by_cases c10 : d = 0
             ·have e8 : (d != 0) = false := by simp [c10]
              clear c8 c10
              go_wp2_with (first | ((with_reducible refine gate_callee (f := 44) rfl ?_); refine goesL_ (some 25) rfl rfl Tryd.func44 (by kernel_rfl) rfl #[.string s] rfl b7_3 ?_; (with_reducible refine (impl_disparity.calls s d _ AD.out).mono ?_); rintro e w' ⟨rfl,⟨nd,rfl⟩⟩; refine ⟨_,rfl,?_⟩) | ((with_reducible refine gate_callee (f := 57) rfl ?_); refine gate_guard (by rfl) ?_; dsimp only; refine goesL_ (some 33) rfl rfl Tryd.func57 (by kernel_rfl) rfl #[.string s] rfl b7_3 ?_; (with_reducible refine (impl_areBits.calls s _ _ AB.out).mono ?_); rintro e w3 ⟨rfl,hb⟩; refine ⟨_,rfl,?_⟩; have n0_ := Aside0.mk (below_step b7_1 hb); have n1_ := Aside0.mk (blk_below (g := g1) (o := .cells #[.int .i64 a0_0,.int .i64 a0_1,.slice A0_2 l0_2.length c0_2,.slice A0_3 l0_3.length c0_3] 30 (0,0)) b7_5 hb); have n2_ := Aside0.mk (MSet.SetIs.below b7_10 hb); clear HB BK HS; have HB := n0_; have BK := n1_; have HS := n2_; clear n0_ n1_ n2_ hb) | ((with_reducible refine gate_dst (N := 48) rfl ?_); refine gate_guard (by rfl) ?_; dsimp only; refine MSet.wpList_seen _ rfl (.tmp 46) (.tmp 47) 69 rfl 9 4 (Maps.string_keyed Tryd.underlying9) hu69 Tryd.underlying4 (Tryd.zeroValue4 _) w1.heap.size seen.length (inS seen) rfl HS.out (.string s) (.string s.data.toList) rfl (WideMaps.keyOf_string_mk Tryd.underlying9 SZ.out) ?_; rw [hseen]))
              go_ret
              exact ⟨b7_6,b7_1⟩
             ·have e8 : (d != 0) = true := by simp [c10]
              have e9 : (d != a2) = false := by simp [c8]
              clear c8 c10
              go_wp2_with (first | ((with_reducible refine gate_callee (f := 44) rfl ?_); refine goesL_ (some 25) rfl rfl Tryd.func44 (by kernel_rfl) rfl #[.string s] rfl b7_3 ?_; (with_reducible refine (impl_disparity.calls s d _ AD.out).mono ?_); rintro e w' ⟨rfl,⟨nd,rfl⟩⟩; refine ⟨_,rfl,?_⟩) | ((with_reducible refine gate_callee (f := 57) rfl ?_); refine gate_guard (by rfl) ?_; dsimp only; refine goesL_ (some 33) rfl rfl Tryd.func57 (by kernel_rfl) rfl #[.string s] rfl b7_3 ?_; (with_reducible refine (impl_areBits.calls s _ _ AB.out).mono ?_); rintro e w3 ⟨rfl,hb⟩; refine ⟨_,rfl,?_⟩; have n0_ := Aside0.mk (below_step b7_1 hb); have n1_ := Aside0.mk (blk_below (g := g1) (o := .cells #[.int .i64 a0_0,.int .i64 a0_1,.slice A0_2 l0_2.length c0_2,.slice A0_3 l0_3.length c0_3] 30 (0,0)) b7_5 hb); have n2_ := Aside0.mk (MSet.SetIs.below b7_10 hb); clear HB BK HS; have HB := n0_; have BK := n1_; have HS := n2_; clear n0_ n1_ n2_ hb) | ((with_reducible refine gate_dst (N := 48) rfl ?_); refine gate_guard (by rfl) ?_; dsimp only; refine MSet.wpList_seen _ rfl (.tmp 46) (.tmp 47) 69 rfl 9 4 (Maps.string_keyed Tryd.underlying9) hu69 Tryd.underlying4 (Tryd.zeroValue4 _) w1.heap.size seen.length (inS seen) rfl HS.out (.string s) (.string s.data.toList) rfl (WideMaps.keyOf_string_mk Tryd.underlying9 SZ.out) ?_; rw [hseen]))
              go_ret
              exact ⟨b7_6,b7_1⟩
           ·rw [if_neg c9] at H
            by_cases c11 : seen.length < 1000000
            ·rw [if_pos c11] at H
             have HN := Aside0.mk (show seen.length < maxLen by unfold maxLen; omega)
             have H' := Aside0.mk H
             have hseen : inS seen (.string s) = false := decide_eq_false c9
             clear c9 c11 H
             rcases c8 with c8 | c8
             ·have e8 : (d != 0) = false := by simp [c8]
              clear c8
              go_wp2_with (first | ((with_reducible refine gate_callee (f := 44) rfl ?_); refine goesL_ (some 25) rfl rfl Tryd.func44 (by kernel_rfl) rfl #[.string s] rfl b7_3 ?_; (with_reducible refine (impl_disparity.calls s d _ AD.out).mono ?_); rintro e w' ⟨rfl,⟨nd,rfl⟩⟩; refine ⟨_,rfl,?_⟩) | ((with_reducible refine gate_callee (f := 57) rfl ?_); refine gate_guard (by rfl) ?_; dsimp only; refine goesL_ (some 33) rfl rfl Tryd.func57 (by kernel_rfl) rfl #[.string s] rfl b7_3 ?_; (with_reducible refine (impl_areBits.calls s _ _ AB.out).mono ?_); rintro e w3 ⟨rfl,hb⟩; refine ⟨_,rfl,?_⟩; have n0_ := Aside0.mk (below_step b7_1 hb); have n1_ := Aside0.mk (blk_below (g := g1) (o := .cells #[.int .i64 a0_0,.int .i64 a0_1,.slice A0_2 l0_2.length c0_2,.slice A0_3 l0_3.length c0_3] 30 (0,0)) b7_5 hb); have n2_ := Aside0.mk (MSet.SetIs.below b7_10 hb); clear HB BK HS; have HB := n0_; have BK := n1_; have HS := n2_; clear n0_ n1_ n2_ hb) | ((with_reducible refine gate_dst (N := 48) rfl ?_); refine gate_guard (by rfl) ?_; dsimp only; refine MSet.wpList_seen _ rfl (.tmp 46) (.tmp 47) 69 rfl 9 4 (Maps.string_keyed Tryd.underlying9) hu69 Tryd.underlying4 (Tryd.zeroValue4 _) w1.heap.size seen.length (inS seen) rfl HS.out (.string s) (.string s.data.toList) rfl (WideMaps.keyOf_string_mk Tryd.underlying9 SZ.out) ?_; rw [hseen]) | (refine MSet.wpList_see _ rfl (.tmp 50) (.tmp 51) (.const (.bool true)) 69 rfl 9 4 (Maps.string_keyed Tryd.underlying9) hu69 Tryd.underlying4 w1.heap.size seen.length (inS seen) rfl HS.out HN.out (.string s) (.string s.data.toList) rfl rfl (WideMaps.keyOf_string_mk Tryd.underlying9 SZ.out) (inS (s.data.toList :: seen)) b7_11 set_go ?_; intro w5 hs hg; have n0_ := Aside0.mk (below_step_grown HB.out hg GM.out); have n1_ := Aside0.mk ((hg.block g1 (blk_lt BK.out) (fun e => by have := GL.out; injection e with e; omega)).trans BK.out); have n2_ := Aside0.mk (show MSet.SetIs w5 Tryd.prog 9 4 w1.heap.size (s.data.toList :: seen).length (inS (s.data.toList :: seen)) from hs); clear HB BK HS; have HB := n0_; have BK := n1_; have HS := n2_; clear n0_ n1_ n2_ hs hg))
              go_roundg k1
              case measure => have := HK1.out; omega
              case rel => exact ⟨s.data.toList :: seen,(wrap64 (x + 1)),b7_7,H',⟨by have := HK1.out; omega⟩,HS,HB,BK⟩
             ·by_cases c10 : d = 0
              ·have e8 : (d != 0) = false := by simp [c10]
               clear c8 c10
               go_wp2_with (first | ((with_reducible refine gate_callee (f := 44) rfl ?_); refine goesL_ (some 25) rfl rfl Tryd.func44 (by kernel_rfl) rfl #[.string s] rfl b7_3 ?_; (with_reducible refine (impl_disparity.calls s d _ AD.out).mono ?_); rintro e w' ⟨rfl,⟨nd,rfl⟩⟩; refine ⟨_,rfl,?_⟩) | ((with_reducible refine gate_callee (f := 57) rfl ?_); refine gate_guard (by rfl) ?_; dsimp only; refine goesL_ (some 33) rfl rfl Tryd.func57 (by kernel_rfl) rfl #[.string s] rfl b7_3 ?_; (with_reducible refine (impl_areBits.calls s _ _ AB.out).mono ?_); rintro e w3 ⟨rfl,hb⟩; refine ⟨_,rfl,?_⟩; have n0_ := Aside0.mk (below_step b7_1 hb); have n1_ := Aside0.mk (blk_below (g := g1) (o := .cells #[.int .i64 a0_0,.int .i64 a0_1,.slice A0_2 l0_2.length c0_2,.slice A0_3 l0_3.length c0_3] 30 (0,0)) b7_5 hb); have n2_ := Aside0.mk (MSet.SetIs.below b7_10 hb); clear HB BK HS; have HB := n0_; have BK := n1_; have HS := n2_; clear n0_ n1_ n2_ hb) | ((with_reducible refine gate_dst (N := 48) rfl ?_); refine gate_guard (by rfl) ?_; dsimp only; refine MSet.wpList_seen _ rfl (.tmp 46) (.tmp 47) 69 rfl 9 4 (Maps.string_keyed Tryd.underlying9) hu69 Tryd.underlying4 (Tryd.zeroValue4 _) w1.heap.size seen.length (inS seen) rfl HS.out (.string s) (.string s.data.toList) rfl (WideMaps.keyOf_string_mk Tryd.underlying9 SZ.out) ?_; rw [hseen]) | (refine MSet.wpList_see _ rfl (.tmp 50) (.tmp 51) (.const (.bool true)) 69 rfl 9 4 (Maps.string_keyed Tryd.underlying9) hu69 Tryd.underlying4 w1.heap.size seen.length (inS seen) rfl HS.out HN.out (.string s) (.string s.data.toList) rfl rfl (WideMaps.keyOf_string_mk Tryd.underlying9 SZ.out) (inS (s.data.toList :: seen)) b7_11 set_go ?_; intro w5 hs hg; have n0_ := Aside0.mk (below_step_grown HB.out hg GM.out); have n1_ := Aside0.mk ((hg.block g1 (blk_lt BK.out) (fun e => by have := GL.out; injection e with e; omega)).trans BK.out); have n2_ := Aside0.mk (show MSet.SetIs w5 Tryd.prog 9 4 w1.heap.size (s.data.toList :: seen).length (inS (s.data.toList :: seen)) from hs); clear HB BK HS; have HB := n0_; have BK := n1_; have HS := n2_; clear n0_ n1_ n2_ hs hg))
               go_roundg k1
               case measure => have := HK1.out; omega
               case rel => exact ⟨s.data.toList :: seen,(wrap64 (x + 1)),b7_7,H',⟨by have := HK1.out; omega⟩,HS,HB,BK⟩
              ·have e8 : (d != 0) = true := by simp [c10]
               have e9 : (d != a2) = false := by simp [c8]
               clear c8 c10
               go_wp2_with (first | ((with_reducible refine gate_callee (f := 44) rfl ?_); refine goesL_ (some 25) rfl rfl Tryd.func44 (by kernel_rfl) rfl #[.string s] rfl b7_3 ?_; (with_reducible refine (impl_disparity.calls s d _ AD.out).mono ?_); rintro e w' ⟨rfl,⟨nd,rfl⟩⟩; refine ⟨_,rfl,?_⟩) | ((with_reducible refine gate_callee (f := 57) rfl ?_); refine gate_guard (by rfl) ?_; dsimp only; refine goesL_ (some 33) rfl rfl Tryd.func57 (by kernel_rfl) rfl #[.string s] rfl b7_3 ?_; (with_reducible refine (impl_areBits.calls s _ _ AB.out).mono ?_); rintro e w3 ⟨rfl,hb⟩; refine ⟨_,rfl,?_⟩; have n0_ := Aside0.mk (below_step b7_1 hb); have n1_ := Aside0.mk (blk_below (g := g1) (o := .cells #[.int .i64 a0_0,.int .i64 a0_1,.slice A0_2 l0_2.length c0_2,.slice A0_3 l0_3.length c0_3] 30 (0,0)) b7_5 hb); have n2_ := Aside0.mk (MSet.SetIs.below b7_10 hb); clear HB BK HS; have HB := n0_; have BK := n1_; have HS := n2_; clear n0_ n1_ n2_ hb) | ((with_reducible refine gate_dst (N := 48) rfl ?_); refine gate_guard (by rfl) ?_; dsimp only; refine MSet.wpList_seen _ rfl (.tmp 46) (.tmp 47) 69 rfl 9 4 (Maps.string_keyed Tryd.underlying9) hu69 Tryd.underlying4 (Tryd.zeroValue4 _) w1.heap.size seen.length (inS seen) rfl HS.out (.string s) (.string s.data.toList) rfl (WideMaps.keyOf_string_mk Tryd.underlying9 SZ.out) ?_; rw [hseen]) | (refine MSet.wpList_see _ rfl (.tmp 50) (.tmp 51) (.const (.bool true)) 69 rfl 9 4 (Maps.string_keyed Tryd.underlying9) hu69 Tryd.underlying4 w1.heap.size seen.length (inS seen) rfl HS.out HN.out (.string s) (.string s.data.toList) rfl rfl (WideMaps.keyOf_string_mk Tryd.underlying9 SZ.out) (inS (s.data.toList :: seen)) b7_11 set_go ?_; intro w5 hs hg; have n0_ := Aside0.mk (below_step_grown HB.out hg GM.out); have n1_ := Aside0.mk ((hg.block g1 (blk_lt BK.out) (fun e => by have := GL.out; injection e with e; omega)).trans BK.out); have n2_ := Aside0.mk (show MSet.SetIs w5 Tryd.prog 9 4 w1.heap.size (s.data.toList :: seen).length (inS (s.data.toList :: seen)) from hs); clear HB BK HS; have HB := n0_; have BK := n1_; have HS := n2_; clear n0_ n1_ n2_ hs hg))
               go_roundg k1
               case measure => have := HK1.out; omega
               case rel => exact ⟨s.data.toList :: seen,(wrap64 (x + 1)),b7_7,H',⟨by have := HK1.out; omega⟩,HS,HB,BK⟩
            ·rw [if_neg c11] at H; cases H
          ·rw [if_neg c8] at H
           obtain rfl := Option.some.inj H
           have e8 : (d != 0) = true := by simp; exact fun h => c8 (.inl h)
           have e9 : (d != a2) = true := by simp; exact fun h => c8 (.inr h)
           clear c8
           go_wp2_with (first | ((with_reducible refine gate_callee (f := 44) rfl ?_); refine goesL_ (some 25) rfl rfl Tryd.func44 (by kernel_rfl) rfl #[.string s] rfl b7_3 ?_; (with_reducible refine (impl_disparity.calls s d _ AD.out).mono ?_); rintro e w' ⟨rfl,⟨nd,rfl⟩⟩; refine ⟨_,rfl,?_⟩) | ((with_reducible refine gate_callee (f := 57) rfl ?_); refine gate_guard (by rfl) ?_; dsimp only; refine goesL_ (some 33) rfl rfl Tryd.func57 (by kernel_rfl) rfl #[.string s] rfl b7_3 ?_; (with_reducible refine (impl_areBits.calls s _ _ AB.out).mono ?_); rintro e w3 ⟨rfl,hb⟩; refine ⟨_,rfl,?_⟩; have n0_ := Aside0.mk (below_step b7_1 hb); have n1_ := Aside0.mk (blk_below (g := g1) (o := .cells #[.int .i64 a0_0,.int .i64 a0_1,.slice A0_2 l0_2.length c0_2,.slice A0_3 l0_3.length c0_3] 30 (0,0)) b7_5 hb); have n2_ := Aside0.mk (MSet.SetIs.below b7_10 hb); clear HB BK HS; have HB := n0_; have BK := n1_; have HS := n2_; clear n0_ n1_ n2_ hb))
           go_ret
           exact ⟨b7_6,b7_1⟩
        ·rw [if_neg c7] at H
         obtain rfl := Option.some.inj H
         have c7b : ((s.size : Int) != a0_1) = true := by simpa using c7
         clear c7
         go_wp2_with (first | ((with_reducible refine gate_callee (f := 44) rfl ?_); refine goesL_ (some 25) rfl rfl Tryd.func44 (by kernel_rfl) rfl #[.string s] rfl b7_3 ?_; (with_reducible refine (impl_disparity.calls s d _ AD.out).mono ?_); rintro e w' ⟨rfl,⟨nd,rfl⟩⟩; refine ⟨_,rfl,?_⟩) | ((with_reducible refine gate_callee (f := 57) rfl ?_); refine gate_guard (by rfl) ?_; dsimp only; refine goesL_ (some 33) rfl rfl Tryd.func57 (by kernel_rfl) rfl #[.string s] rfl b7_3 ?_; (with_reducible refine (impl_areBits.calls s _ _ AB.out).mono ?_); rintro e w3 ⟨rfl,hb⟩; refine ⟨_,rfl,?_⟩; have n0_ := Aside0.mk (below_step b7_1 hb); have n1_ := Aside0.mk (blk_below (g := g1) (o := .cells #[.int .i64 a0_0,.int .i64 a0_1,.slice A0_2 l0_2.length c0_2,.slice A0_3 l0_3.length c0_3] 30 (0,0)) b7_5 hb); have n2_ := Aside0.mk (MSet.SetIs.below b7_10 hb); clear HB BK HS; have HB := n0_; have BK := n1_; have HS := n2_; clear n0_ n1_ n2_ hb))
         go_ret
         exact ⟨b7_6,b7_1⟩
       ·rw [if_neg c12] at H; cases H
      ·rw [if_neg c6] at H; cases H
     ·rw [if_neg c5] at H
      have c5b0 : decide (x < (l1.length : Int)) = false := decide_eq_false c5
      obtain rfl := Option.some.inj H
      go_wp2
      go_ret
      exact ⟨rfl,HB.out⟩
  ·rw [if_neg d1] at h
   obtain rfl := Option.some.inj h
   have d1b : ((l1.length : Int) != wrap64 (2 ^ min a0_0.toNat 64)) = true := by simpa using d1
   clear d1
   go_enter Tryd.func50,Tryd.ntmps50
   go_wp2_with (first | ((with_reducible refine gate_dst (N := 3) rfl ?_); refine box_event ?hg (N := 3) ?hd (cs := #[.int .i64 a0_0,.int .i64 a0_1,.slice A0_2 l0_2.length c0_2,.slice A0_3 l0_3.length c0_3]) (t := 30) ?hr ?_; (case hd => rfl); (case hg => rfl); (case hr => first | (go_simp; done) | (go_simp; rfl)); intro g1 hg w1 hbox hb; have n0_ := Aside0.mk (below_step b7_1 hb); clear HB; have HB := n0_; clear n0_ hb hg; have BK := Aside0.mk hbox; clear hbox; have hcz0 : w1.cell? ⟨g1,0,none⟩ = some (.int .i64 a0_0) := (blk_cell BK.out 0).trans rfl; have hcz1 : w1.cell? ⟨g1,1,none⟩ = some (.int .i64 a0_1) := (blk_cell BK.out 1).trans rfl; have hfz0 := blk_frozen BK.out 0))
   go_ret
   exact ⟨b7_6,b7_1⟩
 ·rw [if_neg d0] at h; cases h

/-! ### slices_Index_string_string: function 51 -/
def slices_Index_string_string.l0 : Nat → List ByteArray → ByteArray → Int → Int → Option (Int)
 | 0,_,_,_,_ => none
 | k + 1,x0,x1,x7,x8 => if x8 < x7 then (if 0 ≤ x8 then (if x8 < (x0.length : Int) then (if x1.toList = (rdOf ByteArray.empty x0 x8).toList then (some x8) else (slices_Index_string_string.l0 k x0 x1 x7 (wrap64 (x8 + 1)))) else (none)) else (none)) else (some (-1))
def slices_Index_string_string.f (k : Nat) (l0 : List ByteArray) (a1 : ByteArray) : Option (Int) := slices_Index_string_string.l0 k l0 a1 (l0.length : Int) 0
set_option maxHeartbeats 8000000 in
set_option maxRecDepth 100000 in
theorem slices_Index_string_string.calls (k : Nat) (A0 : Option Addr) (c0 : Nat) (l0 : List ByteArray) (a1 : ByteArray) (r : Int) (w : World) (hr0 : Kd.C Kd.string w A0 l0.length l0) (hc0 : l0.length ≤ c0) (h : slices_Index_string_string.f k l0 a1 = some r) :
  Calls Tryd.prog 51 #[.slice A0 l0.length c0,.string a1] w fun e w' => e = .returned (.int .i64 r) ∧ Drawn0 w w' := by
 have HR0 := Aside0.mk hr0
 have HC0 := Aside0.mk hc0
 clear hr0 hc0
 have H : (slices_Index_string_string.l0 k l0 a1 (l0.length : Int) 0) = some r := h
 clear h
 have H' := Aside0.mk H
 clear H
 go_enter Tryd.func51,Tryd.ntmps51
 go_wp2
 go_loopg [8] k (fun kq v8 w' => ∃ (x8_1 : Int),v8 = .int .i64 x8_1 ∧ Aside0 (slices_Index_string_string.l0 kq l0 a1 (l0.length : Int) x8_1 = some r) ∧ Aside0 (kq ≤ k) ∧ Drawn0 w w')
 case atStart => exact ⟨(0),b7_7,H',⟨Nat.le_refl _⟩,b7_8⟩
 case round =>
  clear H'
  (try clear p2)
  obtain ⟨x8_1,rfl,HA,HK1,⟨m1,rfl⟩⟩ := hrel
  cases gk with
  | zero => exact absurd HA.out (by simp [slices_Index_string_string.l0])
  | succ k1 =>
   have H := HA.out
   clear HA
   simp only [slices_Index_string_string.l0] at H
   by_cases c3 : x8_1 < (l0.length : Int)
   ·rw [if_pos c3] at H
    have c3b0 : decide (x8_1 < (l0.length : Int)) = true := decide_eq_true c3
    clear c3
    by_cases c4 : 0 ≤ x8_1
    ·rw [if_pos c4] at H
     have c4b0 : decide (0 ≤ x8_1) = true := decide_eq_true c4
     clear c4
     by_cases c5 : x8_1 < (l0.length : Int)
     ·rw [if_pos c5] at H
      have c5b0 : decide (x8_1 < (l0.length : Int)) = true := decide_eq_true c5
      clear c5
      by_cases c6 : a1.toList = (rdOf ByteArray.empty l0 x8_1).toList
      ·rw [if_pos c6] at H
       have c6b0 : (a1.toList == (rdOf ByteArray.empty l0 x8_1).toList) = true := beq_iff_eq.mpr c6
       have c6b1 : (a1.toList != (rdOf ByteArray.empty l0 x8_1).toList) = false := bne_eq_false_iff_eq.mpr c6
       clear c6
       obtain rfl := Option.some.inj H
       have p210 : 0 ≤ (x8_1 : Int) := of_decide_eq_true b7_9
       have q210 : x8_1 < (l0.length : Int) := of_decide_eq_true b7_9
       obtain ⟨ad210,e210,hx210_0⟩ := Kd.at_string HR0.out x8_1 p210 q210
       cases e210
       replace p210 := eq_true p210
       replace q210 := eq_true q210
       go_wp2
       go_ret
       exact ⟨b7_7,b7_8⟩
      ·rw [if_neg c6] at H
       have c6b0 : (a1.toList == (rdOf ByteArray.empty l0 x8_1).toList) = false := beq_eq_false_iff_ne.mpr c6
       have c6b1 : (a1.toList != (rdOf ByteArray.empty l0 x8_1).toList) = true := bne_iff_ne.mpr c6
       have H' := Aside0.mk H
       clear H
       have p210 : 0 ≤ (x8_1 : Int) := of_decide_eq_true b7_9
       have q210 : x8_1 < (l0.length : Int) := of_decide_eq_true b7_9
       obtain ⟨ad210,e210,hx210_0⟩ := Kd.at_string HR0.out x8_1 p210 q210
       cases e210
       replace p210 := eq_true p210
       replace q210 := eq_true q210
       go_wp2
       go_roundg k1
       case measure => have := HK1.out; omega
       case rel => exact ⟨(wrap64 (x8_1 + 1)),b7_7,H',⟨by have := HK1.out; omega⟩,b7_8⟩
     ·rw [if_neg c5] at H
      exact absurd H (by simp)
    ·rw [if_neg c4] at H
     exact absurd H (by simp)
   ·rw [if_neg c3] at H
    have c3b0 : decide (x8_1 < (l0.length : Int)) = false := decide_eq_false c3
    clear c3
    obtain rfl := Option.some.inj H
    go_wp2
    go_ret
    exact ⟨b7_7,b7_8⟩

/-! ### impl_ValidBlockCode: function 17 -/
mutual
def impl_ValidBlockCode.j0 : Nat → Bool → Int → Int → List ByteArray → List ByteArray → Option (Bool)
 | 0,_,_,_,_,_ => none
 | k + 1,x29,x212000,x212001,x212002,x212003 => if x29 = true then (some false) else (impl_ValidBlockCode.l0 k x212002 (x212002.length : Int) 0 x212000 x212001 x212002 x212003)
def impl_ValidBlockCode.l0 : Nat → List ByteArray → Int → Int → Int → Int → List ByteArray → List ByteArray → Option (Bool)
 | 0,_,_,_,_,_,_,_ => none
 | k + 1,x31,x32,x33,x212000,x212001,x212002,x212003 => if x33 < x32 then (if 0 ≤ x33 then (if x33 < (x31.length : Int) then ((slices_Index_string_string.f k x212003 (rdOf ByteArray.empty x31 x33)).bind fun t217 => (if t217 ≥ 0 then (if t217 = x33 then (impl_ValidBlockCode.l0 k x31 x32 (wrap64 (x33 + 1)) x212000 x212001 x212002 x212003) else (some false)) else (impl_ValidBlockCode.l0 k x31 x32 (wrap64 (x33 + 1)) x212000 x212001 x212002 x212003))) else (none)) else (none)) else (some true)
end
def impl_ValidBlockCode.f (k : Nat) (a0_0 : Int) (a0_1 : Int) (l0_2 : List ByteArray) (l0_3 : List ByteArray) : Option (Bool) := (impl_isData.f a0_0).bind fun t212 => (if t212 = true then ((impl_isWidth.f a0_1).bind fun t213 => (if t213 = true then ((impl_BlockCode_areWords.f k a0_0 a0_1 l0_2 l0_3 l0_2 2).bind fun t214 => (if t214 = true then ((impl_BlockCode_areWords.f k a0_0 a0_1 l0_2 l0_3 l0_3 (-2)).bind fun t215 => (impl_ValidBlockCode.j0 k (!t215) a0_0 a0_1 l0_2 l0_3)) else (impl_ValidBlockCode.j0 k true a0_0 a0_1 l0_2 l0_3))) else (impl_ValidBlockCode.j0 k true a0_0 a0_1 l0_2 l0_3))) else (impl_ValidBlockCode.j0 k true a0_0 a0_1 l0_2 l0_3))
set_option maxHeartbeats 8000000 in
set_option maxRecDepth 100000 in
theorem impl_ValidBlockCode.calls (k : Nat) (a0_0 : Int) (a0_1 : Int) (A0_2 : Option Addr) (c0_2 : Nat) (l0_2 : List ByteArray) (A0_3 : Option Addr) (c0_3 : Nat) (l0_3 : List ByteArray) (r : Bool) (w : World) (hr0_2 : Kd.C Kd.string w A0_2 l0_2.length l0_2) (hc0_2 : l0_2.length ≤ c0_2) (hr0_3 : Kd.C Kd.string w A0_3 l0_3.length l0_3) (hc0_3 : l0_3.length ≤ c0_3) (h : impl_ValidBlockCode.f k a0_0 a0_1 l0_2 l0_3 = some r) :
  Calls Tryd.prog 17 #[.agg #[.int .i64 a0_0,.int .i64 a0_1,.slice A0_2 l0_2.length c0_2,.slice A0_3 l0_3.length c0_3]] w fun e w' => e = .returned (.bool r) ∧ Below w.heap.size w w' := by
 have hu30 := Tryd.underlying30
 have HR0_2 := Aside0.mk hr0_2
 have HC0_2 := Aside0.mk hc0_2
 clear hr0_2 hc0_2
 have HR0_3 := Aside0.mk hr0_3
 have HC0_3 := Aside0.mk hc0_3
 clear hr0_3 hc0_3
 have HB := Aside0.mk (Below.refl w.heap.size w)
 have H : ((impl_isData.f a0_0).bind fun t212 => (if t212 = true then ((impl_isWidth.f a0_1).bind fun t213 => (if t213 = true then ((impl_BlockCode_areWords.f k a0_0 a0_1 l0_2 l0_3 l0_2 2).bind fun t214 => (if t214 = true then ((impl_BlockCode_areWords.f k a0_0 a0_1 l0_2 l0_3 l0_3 (-2)).bind fun t215 => (impl_ValidBlockCode.j0 k (!t215) a0_0 a0_1 l0_2 l0_3)) else (impl_ValidBlockCode.j0 k true a0_0 a0_1 l0_2 l0_3))) else (impl_ValidBlockCode.j0 k true a0_0 a0_1 l0_2 l0_3))) else (impl_ValidBlockCode.j0 k true a0_0 a0_1 l0_2 l0_3))) = some r := h
 clear h
 have HC2 := Aside0.mk H
 clear H
 go_enter Tryd.func17,Tryd.ntmps17
 go_upto_region 1 with (first | ((with_reducible refine gate_dst (N := 1) rfl ?_); refine box_event ?hg (N := 1) ?hd (cs := #[.int .i64 a0_0,.int .i64 a0_1,.slice A0_2 l0_2.length c0_2,.slice A0_3 l0_3.length c0_3]) (t := 30) ?hr ?_; (case hd => rfl); (case hg => rfl); (case hr => first | (go_simp; done) | (go_simp; rfl)); intro gb211 hg w3 hbox hb; have n0_ := Aside0.mk (below_step b7_1 hb); have n1_ := Aside0.mk (hbox); have n2_ := Aside0.mk ((by rw [hg]; exact (below_size b7_1) : w.heap.size ≤ gb211)); have n3_ := Aside0.mk ((by rw [hg]; exact (below_size b7_1) : w.heap.size ≤ gb211)); clear HB; have HB := n0_; have BK211 := n1_; have GW211 := n2_; have GE211 := n3_; clear n0_ n1_ n2_ n3_; clear hb hbox hg))
 (try simp only [Act.put,List.setIfInBounds_toArray,List.set_cons_zero,List.set_cons_succ])
 go_cut [29] (fun v29 wc => ∃ (kq : Nat) (x29_1 : Bool),v29 = .bool x29_1 ∧ Aside0 (impl_ValidBlockCode.j0 kq x29_1 a0_0 a0_1 l0_2 l0_3 = some r) ∧ Aside0 (kq ≤ k) ∧ Aside0 (wc.heap[gb211]? = some (.cells #[.int .i64 a0_0,.int .i64 a0_1,(.slice A0_2 l0_2.length c0_2),(.slice A0_3 l0_3.length c0_3)] 30 (0,0))) ∧ Aside0 (Below w.heap.size w wc))
 case first =>
  have H := HC2.out
  clear HC2
  replace H := Option.bind_eq_some_iff.mp H
  obtain ⟨t212,A40,H⟩ := H
  replace H : (if t212 = true then ((impl_isWidth.f a0_1).bind fun t213 => (if t213 = true then ((impl_BlockCode_areWords.f k a0_0 a0_1 l0_2 l0_3 l0_2 2).bind fun t214 => (if t214 = true then ((impl_BlockCode_areWords.f k a0_0 a0_1 l0_2 l0_3 l0_3 (-2)).bind fun t215 => (impl_ValidBlockCode.j0 k (!t215) a0_0 a0_1 l0_2 l0_3)) else (impl_ValidBlockCode.j0 k true a0_0 a0_1 l0_2 l0_3))) else (impl_ValidBlockCode.j0 k true a0_0 a0_1 l0_2 l0_3))) else (impl_ValidBlockCode.j0 k true a0_0 a0_1 l0_2 l0_3)) = some r := H
  have A4 := Aside0.mk A40
  clear A40
  by_cases c5 : t212 = true
  ·subst c5
   have H1 : ((impl_isWidth.f a0_1).bind fun t213 => (if t213 = true then ((impl_BlockCode_areWords.f k a0_0 a0_1 l0_2 l0_3 l0_2 2).bind fun t214 => (if t214 = true then ((impl_BlockCode_areWords.f k a0_0 a0_1 l0_2 l0_3 l0_3 (-2)).bind fun t215 => (impl_ValidBlockCode.j0 k (!t215) a0_0 a0_1 l0_2 l0_3)) else (impl_ValidBlockCode.j0 k true a0_0 a0_1 l0_2 l0_3))) else (impl_ValidBlockCode.j0 k true a0_0 a0_1 l0_2 l0_3))) = some r := by rw [if_pos rfl] at H; exact H
   clear H
   have H := H1
   clear H1
   replace H := Option.bind_eq_some_iff.mp H
   obtain ⟨t213,A60,H⟩ := H
   replace H : (if t213 = true then ((impl_BlockCode_areWords.f k a0_0 a0_1 l0_2 l0_3 l0_2 2).bind fun t214 => (if t214 = true then ((impl_BlockCode_areWords.f k a0_0 a0_1 l0_2 l0_3 l0_3 (-2)).bind fun t215 => (impl_ValidBlockCode.j0 k (!t215) a0_0 a0_1 l0_2 l0_3)) else (impl_ValidBlockCode.j0 k true a0_0 a0_1 l0_2 l0_3))) else (impl_ValidBlockCode.j0 k true a0_0 a0_1 l0_2 l0_3)) = some r := H
   have A6 := Aside0.mk A60
   clear A60
   by_cases c7 : t213 = true
   ·subst c7
    have H1 : ((impl_BlockCode_areWords.f k a0_0 a0_1 l0_2 l0_3 l0_2 2).bind fun t214 => (if t214 = true then ((impl_BlockCode_areWords.f k a0_0 a0_1 l0_2 l0_3 l0_3 (-2)).bind fun t215 => (impl_ValidBlockCode.j0 k (!t215) a0_0 a0_1 l0_2 l0_3)) else (impl_ValidBlockCode.j0 k true a0_0 a0_1 l0_2 l0_3))) = some r := by rw [if_pos rfl] at H; exact H
    clear H
    have H := H1
    clear H1
    replace H := Option.bind_eq_some_iff.mp H
    obtain ⟨t214,A80,H⟩ := H
    replace H : (if t214 = true then ((impl_BlockCode_areWords.f k a0_0 a0_1 l0_2 l0_3 l0_3 (-2)).bind fun t215 => (impl_ValidBlockCode.j0 k (!t215) a0_0 a0_1 l0_2 l0_3)) else (impl_ValidBlockCode.j0 k true a0_0 a0_1 l0_2 l0_3)) = some r := H
    have A8 := Aside0.mk A80
    clear A80
    by_cases c9 : t214 = true
    ·subst c9
     have H1 : ((impl_BlockCode_areWords.f k a0_0 a0_1 l0_2 l0_3 l0_3 (-2)).bind fun t215 => (impl_ValidBlockCode.j0 k (!t215) a0_0 a0_1 l0_2 l0_3)) = some r := by rw [if_pos rfl] at H; exact H
     clear H
     have H := H1
     clear H1
     replace H := Option.bind_eq_some_iff.mp H
     obtain ⟨t215,A100,H⟩ := H
     replace H : (impl_ValidBlockCode.j0 k (!t215) a0_0 a0_1 l0_2 l0_3) = some r := H
     have A10 := Aside0.mk A100
     clear A100
     have H' := Aside0.mk H
     clear H
     have hcz11_0 : w3.cell? ⟨gb211,0,none⟩ = some (.int .i64 a0_0) := (blk_cell BK211.out 0).trans rfl
     have hcz11_1 : w3.cell? ⟨gb211,1,none⟩ = some (.int .i64 a0_1) := (blk_cell BK211.out 1).trans rfl
     have hcz11_2 : w3.cell? ⟨gb211,2,none⟩ = some (.slice A0_2 l0_2.length c0_2) := (blk_cell BK211.out 2).trans rfl
     have hcz11_3 : w3.cell? ⟨gb211,3,none⟩ = some (.slice A0_3 l0_3.length c0_3) := (blk_cell BK211.out 3).trans rfl
     have hfz11_0 := blk_frozen BK211.out 0
     have hfz11_1 := blk_frozen BK211.out 1
     have hfz11_2 := blk_frozen BK211.out 2
     have hfz11_3 := blk_frozen BK211.out 3
     go_wp2_with (first | ((with_reducible refine gate_callee (f := 48) rfl ?_); refine goesL_ (some 8) rfl rfl Tryd.func48 (by kernel_rfl) rfl #[.int .i64 a0_0] rfl b7_2 ?_; (with_reducible refine (impl_isData.calls a0_0 true _ A4.out).mono ?_); rintro e w' ⟨rfl,⟨nd,rfl⟩⟩; refine ⟨_,rfl,?_⟩) | (go_at_call 49; (with_reducible refine (impl_isWidth.calls a0_1 true _ A6.out).mono ?_); rintro e w' ⟨rfl,⟨nd,rfl⟩⟩) | (go_at_call 50; (with_reducible refine (impl_BlockCode_areWords.calls k a0_0 a0_1 _ _ l0_2 _ _ l0_3 _ _ l0_2 2 true _ ?side1 ?side2 ?side3 ?side4 ?side5 ?side6 A8.out).mono ?_); (case side1 => repeat (first | exact (Kd.C_below HR0_2.out b7_0) | (with_reducible refine Kd.C_alloc ?_ _) | (with_reducible refine Kd.C_drewN ?_ _) | (with_reducible refine Kd.C_drew ?_))); (case side2 => exact HC0_2.out); (case side3 => repeat (first | exact (Kd.C_below HR0_3.out b7_0) | (with_reducible refine Kd.C_alloc ?_ _) | (with_reducible refine Kd.C_drewN ?_ _) | (with_reducible refine Kd.C_drew ?_))); (case side4 => exact HC0_3.out); (case side5 => repeat (first | exact (Kd.C_below HR0_2.out b7_0) | (with_reducible refine Kd.C_alloc ?_ _) | (with_reducible refine Kd.C_drewN ?_ _) | (with_reducible refine Kd.C_drew ?_))); (case side6 => exact HC0_2.out); rintro e w12 ⟨rfl,hb⟩; have n0_ := Aside0.mk (blk_below (g := gb211) (o := .cells #[.int .i64 a0_0,.int .i64 a0_1,.slice A0_2 l0_2.length c0_2,.slice A0_3 l0_3.length c0_3] 30 (0,0)) b7_4 hb); have n1_ := Aside0.mk (below_step b7_0 hb); clear BK211; clear HB; have BK211 := n0_; have HB := n1_; clear n0_ n1_; (try clear hb); (try clear hb2); (try clear hk); (try clear hi); have hcz13_0 : w12.cell? ⟨gb211,0,none⟩ = some (.int .i64 a0_0) := (blk_cell BK211.out 0).trans rfl; have hcz13_1 : w12.cell? ⟨gb211,1,none⟩ = some (.int .i64 a0_1) := (blk_cell BK211.out 1).trans rfl; have hcz13_2 : w12.cell? ⟨gb211,2,none⟩ = some (.slice A0_2 l0_2.length c0_2) := (blk_cell BK211.out 2).trans rfl; have hcz13_3 : w12.cell? ⟨gb211,3,none⟩ = some (.slice A0_3 l0_3.length c0_3) := (blk_cell BK211.out 3).trans rfl; have hfz13_0 := blk_frozen BK211.out 0; have hfz13_1 := blk_frozen BK211.out 1; have hfz13_2 := blk_frozen BK211.out 2; have hfz13_3 := blk_frozen BK211.out 3) | (go_at_call 50; (with_reducible refine (impl_BlockCode_areWords.calls k a0_0 a0_1 _ _ l0_2 _ _ l0_3 _ _ l0_3 (-2) t215 _ ?side1 ?side2 ?side3 ?side4 ?side5 ?side6 A10.out).mono ?_); (case side1 => repeat (first | exact (Kd.C_below HR0_2.out HB.out) | (with_reducible refine Kd.C_alloc ?_ _) | (with_reducible refine Kd.C_drewN ?_ _) | (with_reducible refine Kd.C_drew ?_))); (case side2 => exact HC0_2.out); (case side3 => repeat (first | exact (Kd.C_below HR0_3.out HB.out) | (with_reducible refine Kd.C_alloc ?_ _) | (with_reducible refine Kd.C_drewN ?_ _) | (with_reducible refine Kd.C_drew ?_))); (case side4 => exact HC0_3.out); (case side5 => repeat (first | exact (Kd.C_below HR0_3.out HB.out) | (with_reducible refine Kd.C_alloc ?_ _) | (with_reducible refine Kd.C_drewN ?_ _) | (with_reducible refine Kd.C_drew ?_))); (case side6 => exact HC0_3.out); rintro e w14 ⟨rfl,hb⟩; have n0_ := Aside0.mk (blk_below (g := gb211) (o := .cells #[.int .i64 a0_0,.int .i64 a0_1,.slice A0_2 l0_2.length c0_2,.slice A0_3 l0_3.length c0_3] 30 (0,0)) b7_4 hb); have n1_ := Aside0.mk (below_step b7_0 hb); clear BK211; clear HB; have BK211 := n0_; have HB := n1_; clear n0_ n1_; (try clear hb); (try clear hb2); (try clear hk); (try clear hi)))
     go_meet
     case rel => exact ⟨_,(!t215),b7_7,H',⟨by first | omega | exact Nat.le_refl _⟩,⟨b7_4⟩,⟨b7_0⟩⟩
    ·replace c9 := Bool.eq_false_iff.mpr c9
     subst c9
     have H1 : (impl_ValidBlockCode.j0 k true a0_0 a0_1 l0_2 l0_3) = some r := by rw [if_neg (show ¬ (false = true) by decide)] at H; exact H
     clear H
     have H := H1
     clear H1
     have H' := Aside0.mk H
     clear H
     have hcz15_0 : w3.cell? ⟨gb211,0,none⟩ = some (.int .i64 a0_0) := (blk_cell BK211.out 0).trans rfl
     have hcz15_1 : w3.cell? ⟨gb211,1,none⟩ = some (.int .i64 a0_1) := (blk_cell BK211.out 1).trans rfl
     have hcz15_2 : w3.cell? ⟨gb211,2,none⟩ = some (.slice A0_2 l0_2.length c0_2) := (blk_cell BK211.out 2).trans rfl
     have hcz15_3 : w3.cell? ⟨gb211,3,none⟩ = some (.slice A0_3 l0_3.length c0_3) := (blk_cell BK211.out 3).trans rfl
     have hfz15_0 := blk_frozen BK211.out 0
     have hfz15_1 := blk_frozen BK211.out 1
     have hfz15_2 := blk_frozen BK211.out 2
     have hfz15_3 := blk_frozen BK211.out 3
     go_wp2_with (first | ((with_reducible refine gate_callee (f := 48) rfl ?_); refine goesL_ (some 8) rfl rfl Tryd.func48 (by kernel_rfl) rfl #[.int .i64 a0_0] rfl b7_2 ?_; (with_reducible refine (impl_isData.calls a0_0 true _ A4.out).mono ?_); rintro e w' ⟨rfl,⟨nd,rfl⟩⟩; refine ⟨_,rfl,?_⟩) | (go_at_call 49; (with_reducible refine (impl_isWidth.calls a0_1 true _ A6.out).mono ?_); rintro e w' ⟨rfl,⟨nd,rfl⟩⟩) | (go_at_call 50; (with_reducible refine (impl_BlockCode_areWords.calls k a0_0 a0_1 _ _ l0_2 _ _ l0_3 _ _ l0_2 2 false _ ?side1 ?side2 ?side3 ?side4 ?side5 ?side6 A8.out).mono ?_); (case side1 => repeat (first | exact (Kd.C_below HR0_2.out b7_0) | (with_reducible refine Kd.C_alloc ?_ _) | (with_reducible refine Kd.C_drewN ?_ _) | (with_reducible refine Kd.C_drew ?_))); (case side2 => exact HC0_2.out); (case side3 => repeat (first | exact (Kd.C_below HR0_3.out b7_0) | (with_reducible refine Kd.C_alloc ?_ _) | (with_reducible refine Kd.C_drewN ?_ _) | (with_reducible refine Kd.C_drew ?_))); (case side4 => exact HC0_3.out); (case side5 => repeat (first | exact (Kd.C_below HR0_2.out b7_0) | (with_reducible refine Kd.C_alloc ?_ _) | (with_reducible refine Kd.C_drewN ?_ _) | (with_reducible refine Kd.C_drew ?_))); (case side6 => exact HC0_2.out); rintro e w16 ⟨rfl,hb⟩; have n0_ := Aside0.mk (blk_below (g := gb211) (o := .cells #[.int .i64 a0_0,.int .i64 a0_1,.slice A0_2 l0_2.length c0_2,.slice A0_3 l0_3.length c0_3] 30 (0,0)) b7_4 hb); have n1_ := Aside0.mk (below_step b7_0 hb); clear BK211; clear HB; have BK211 := n0_; have HB := n1_; clear n0_ n1_; (try clear hb); (try clear hb2); (try clear hk); (try clear hi)))
     go_meet
     case rel => exact ⟨_,(true),b7_7,H',⟨by first | omega | exact Nat.le_refl _⟩,⟨b7_4⟩,⟨b7_0⟩⟩
   ·replace c7 := Bool.eq_false_iff.mpr c7
    subst c7
    have H1 : (impl_ValidBlockCode.j0 k true a0_0 a0_1 l0_2 l0_3) = some r := by rw [if_neg (show ¬ (false = true) by decide)] at H; exact H
    clear H
    have H := H1
    clear H1
    have H' := Aside0.mk H
    clear H
    have hcz17_0 : w3.cell? ⟨gb211,0,none⟩ = some (.int .i64 a0_0) := (blk_cell BK211.out 0).trans rfl
    have hcz17_1 : w3.cell? ⟨gb211,1,none⟩ = some (.int .i64 a0_1) := (blk_cell BK211.out 1).trans rfl
    have hcz17_2 : w3.cell? ⟨gb211,2,none⟩ = some (.slice A0_2 l0_2.length c0_2) := (blk_cell BK211.out 2).trans rfl
    have hcz17_3 : w3.cell? ⟨gb211,3,none⟩ = some (.slice A0_3 l0_3.length c0_3) := (blk_cell BK211.out 3).trans rfl
    have hfz17_0 := blk_frozen BK211.out 0
    have hfz17_1 := blk_frozen BK211.out 1
    have hfz17_2 := blk_frozen BK211.out 2
    have hfz17_3 := blk_frozen BK211.out 3
    go_wp2_with (first | ((with_reducible refine gate_callee (f := 48) rfl ?_); refine goesL_ (some 8) rfl rfl Tryd.func48 (by kernel_rfl) rfl #[.int .i64 a0_0] rfl b7_2 ?_; (with_reducible refine (impl_isData.calls a0_0 true _ A4.out).mono ?_); rintro e w' ⟨rfl,⟨nd,rfl⟩⟩; refine ⟨_,rfl,?_⟩) | (go_at_call 49; (with_reducible refine (impl_isWidth.calls a0_1 false _ A6.out).mono ?_); rintro e w' ⟨rfl,⟨nd,rfl⟩⟩))
    go_meet
    case rel => exact ⟨_,(true),b7_7,H',⟨by first | omega | exact Nat.le_refl _⟩,⟨b7_4⟩,⟨b7_0⟩⟩
  ·replace c5 := Bool.eq_false_iff.mpr c5
   subst c5
   have H1 : (impl_ValidBlockCode.j0 k true a0_0 a0_1 l0_2 l0_3) = some r := by rw [if_neg (show ¬ (false = true) by decide)] at H; exact H
   clear H
   have H := H1
   clear H1
   have H' := Aside0.mk H
   clear H
   have hcz18_0 : w3.cell? ⟨gb211,0,none⟩ = some (.int .i64 a0_0) := (blk_cell BK211.out 0).trans rfl
   have hcz18_1 : w3.cell? ⟨gb211,1,none⟩ = some (.int .i64 a0_1) := (blk_cell BK211.out 1).trans rfl
   have hcz18_2 : w3.cell? ⟨gb211,2,none⟩ = some (.slice A0_2 l0_2.length c0_2) := (blk_cell BK211.out 2).trans rfl
   have hcz18_3 : w3.cell? ⟨gb211,3,none⟩ = some (.slice A0_3 l0_3.length c0_3) := (blk_cell BK211.out 3).trans rfl
   have hfz18_0 := blk_frozen BK211.out 0
   have hfz18_1 := blk_frozen BK211.out 1
   have hfz18_2 := blk_frozen BK211.out 2
   have hfz18_3 := blk_frozen BK211.out 3
   go_wp2_with (first | ((with_reducible refine gate_callee (f := 48) rfl ?_); refine goesL_ (some 8) rfl rfl Tryd.func48 (by kernel_rfl) rfl #[.int .i64 a0_0] rfl b7_2 ?_; (with_reducible refine (impl_isData.calls a0_0 false _ A4.out).mono ?_); rintro e w' ⟨rfl,⟨nd,rfl⟩⟩; refine ⟨_,rfl,?_⟩))
   go_meet
   case rel => exact ⟨_,(true),b7_7,H',⟨by first | omega | exact Nat.le_refl _⟩,⟨b7_4⟩,⟨b7_0⟩⟩
 case rest =>
  clear HC2
  (try clear c1);(try clear p2);(try clear c4);(try clear c5);(try clear c7);(try clear c9);(try clear c17);(try clear hcz11_0);(try clear hcz11_1);(try clear hcz11_2);(try clear hcz11_3);(try clear hcz13_0);(try clear hcz13_1);(try clear hcz13_2);(try clear hcz13_3);(try clear hcz15_0);(try clear hcz15_1);(try clear hcz15_2);(try clear hcz15_3);(try clear hcz17_0);(try clear hcz17_1);(try clear hcz17_2);(try clear hcz17_3);(try clear hcz18_0);(try clear hcz18_1);(try clear hcz18_2);(try clear hcz18_3);(try clear hfz11_0);(try clear hfz11_1);(try clear hfz11_2);(try clear hfz11_3);(try clear hfz13_0);(try clear hfz13_1);(try clear hfz13_2);(try clear hfz13_3);(try clear hfz15_0);(try clear hfz15_1);(try clear hfz15_2);(try clear hfz15_3);(try clear hfz17_0);(try clear hfz17_1);(try clear hfz17_2);(try clear hfz17_3);(try clear hfz18_0);(try clear hfz18_1);(try clear hfz18_2);(try clear hfz18_3)
  obtain ⟨kq,x29_1,rfl,HA,HJ1,BK211,HB⟩ := hcut
  cases kq with
  | zero => exact absurd HA.out (by simp [impl_ValidBlockCode.j0])
  | succ kj1 =>
   have H := HA.out
   clear HA
   simp only [impl_ValidBlockCode.j0] at H
   by_cases c19 : x29_1 = true
   ·subst c19
    have H1 : (some false) = some r := by rw [if_pos rfl] at H; exact H
    clear H
    have H := H1
    clear H1
    obtain rfl := Option.some.inj H
    go_wp2
    go_ret
    exact ⟨b7_6,b7_0⟩
   ·replace c19 := Bool.eq_false_iff.mpr c19
    subst c19
    have H1 : (impl_ValidBlockCode.l0 kj1 l0_2 (l0_2.length : Int) 0 a0_0 a0_1 l0_2 l0_3) = some r := by rw [if_neg (show ¬ (false = true) by decide)] at H; exact H
    clear H
    have H := H1
    clear H1
    have H' := Aside0.mk H
    clear H
    have hcz20_0 : wc.cell? ⟨gb211,0,none⟩ = some (.int .i64 a0_0) := (blk_cell BK211.out 0).trans rfl
    have hcz20_1 : wc.cell? ⟨gb211,1,none⟩ = some (.int .i64 a0_1) := (blk_cell BK211.out 1).trans rfl
    have hcz20_2 : wc.cell? ⟨gb211,2,none⟩ = some (.slice A0_2 l0_2.length c0_2) := (blk_cell BK211.out 2).trans rfl
    have hcz20_3 : wc.cell? ⟨gb211,3,none⟩ = some (.slice A0_3 l0_3.length c0_3) := (blk_cell BK211.out 3).trans rfl
    have hfz20_0 := blk_frozen BK211.out 0
    have hfz20_1 := blk_frozen BK211.out 1
    have hfz20_2 := blk_frozen BK211.out 2
    have hfz20_3 := blk_frozen BK211.out 3
    go_wp2
    go_loopg [33] kj1 (fun kq v33 w' => ∃ (x33_2 : Int),v33 = .int .i64 x33_2 ∧ Aside0 (impl_ValidBlockCode.l0 kq l0_2 (l0_2.length : Int) x33_2 a0_0 a0_1 l0_2 l0_3 = some r) ∧ Aside0 (kq ≤ kj1) ∧ Aside0 (w'.heap[gb211]? = some (.cells #[.int .i64 a0_0,.int .i64 a0_1,(.slice A0_2 l0_2.length c0_2),(.slice A0_3 l0_3.length c0_3)] 30 (0,0))) ∧ Aside0 (Below w.heap.size w w'))
    case atStart => exact ⟨(0),b7_7,H',⟨Nat.le_refl _⟩,⟨b7_4⟩,⟨b7_0⟩⟩
    case round =>
     clear H'
     (try clear c1);(try clear p2);(try clear c4);(try clear c5);(try clear c7);(try clear c9);(try clear c17);(try clear c19);(try clear hcz11_0);(try clear hcz11_1);(try clear hcz11_2);(try clear hcz11_3);(try clear hcz13_0);(try clear hcz13_1);(try clear hcz13_2);(try clear hcz13_3);(try clear hcz15_0);(try clear hcz15_1);(try clear hcz15_2);(try clear hcz15_3);(try clear hcz17_0);(try clear hcz17_1);(try clear hcz17_2);(try clear hcz17_3);(try clear hcz18_0);(try clear hcz18_1);(try clear hcz18_2);(try clear hcz18_3);(try clear hcz20_0);(try clear hcz20_1);(try clear hcz20_2);(try clear hcz20_3);(try clear hfz11_0);(try clear hfz11_1);(try clear hfz11_2);(try clear hfz11_3);(try clear hfz13_0);(try clear hfz13_1);(try clear hfz13_2);(try clear hfz13_3);(try clear hfz15_0);(try clear hfz15_1);(try clear hfz15_2);(try clear hfz15_3);(try clear hfz17_0);(try clear hfz17_1);(try clear hfz17_2);(try clear hfz17_3);(try clear hfz18_0);(try clear hfz18_1);(try clear hfz18_2);(try clear hfz18_3);(try clear hfz20_0);(try clear hfz20_1);(try clear hfz20_2);(try clear hfz20_3);(try clear p2)
     obtain ⟨x33_2,rfl,HA,HK2,BK211,HB⟩ := hrel
     cases gk with
     | zero => exact absurd HA.out (by simp [impl_ValidBlockCode.l0])
     | succ k2 =>
      have H := HA.out
      clear HA
      simp only [impl_ValidBlockCode.l0] at H
      by_cases c21 : x33_2 < (l0_2.length : Int)
      ·rw [if_pos c21] at H
       have c21b0 : decide (x33_2 < (l0_2.length : Int)) = true := decide_eq_true c21
       clear c21
       by_cases c22 : 0 ≤ x33_2
       ·rw [if_pos c22] at H
        have c22b0 : decide (0 ≤ x33_2) = true := decide_eq_true c22
        clear c22
        by_cases c23 : x33_2 < (l0_2.length : Int)
        ·rw [if_pos c23] at H
         have c23b0 : decide (x33_2 < (l0_2.length : Int)) = true := decide_eq_true c23
         clear c23
         replace H := Option.bind_eq_some_iff.mp H
         obtain ⟨t217,A240,H⟩ := H
         replace H : (if t217 ≥ 0 then (if t217 = x33_2 then (impl_ValidBlockCode.l0 k2 l0_2 (l0_2.length : Int) (wrap64 (x33_2 + 1)) a0_0 a0_1 l0_2 l0_3) else (some false)) else (impl_ValidBlockCode.l0 k2 l0_2 (l0_2.length : Int) (wrap64 (x33_2 + 1)) a0_0 a0_1 l0_2 l0_3)) = some r := H
         have A24 := Aside0.mk A240
         clear A240
         by_cases c25 : t217 ≥ 0
         ·rw [if_pos c25] at H
          have c25b0 : decide (0 ≤ t217) = true := decide_eq_true c25
          clear c25
          by_cases c26 : t217 = x33_2
          ·rw [if_pos c26] at H
           have c26b0 : (t217 == x33_2) = true := beq_iff_eq.mpr c26
           have c26b1 : (t217 != x33_2) = false := bne_eq_false_iff_eq.mpr c26
           clear c26
           have H' := Aside0.mk H
           clear H
           have p216 : 0 ≤ (x33_2 : Int) := of_decide_eq_true b7_9
           have q216 : x33_2 < (l0_2.length : Int) := of_decide_eq_true b7_9
           obtain ⟨ad216,e216,hx216_0⟩ := Kd.at_string HR0_2.out x33_2 p216 q216
           cases e216
           replace hx216_0 := (HB.out.cell (World.block_lt_of_cell? w _ hx216_0)).trans hx216_0
           replace p216 := eq_true p216
           replace q216 := eq_true q216
           have hcz27_0 : wr.cell? ⟨gb211,0,none⟩ = some (.int .i64 a0_0) := (blk_cell BK211.out 0).trans rfl
           have hcz27_1 : wr.cell? ⟨gb211,1,none⟩ = some (.int .i64 a0_1) := (blk_cell BK211.out 1).trans rfl
           have hcz27_2 : wr.cell? ⟨gb211,2,none⟩ = some (.slice (some ad216) l0_2.length c0_2) := (blk_cell BK211.out 2).trans rfl
           have hcz27_3 : wr.cell? ⟨gb211,3,none⟩ = some (.slice A0_3 l0_3.length c0_3) := (blk_cell BK211.out 3).trans rfl
           have hfz27_0 := blk_frozen BK211.out 0
           have hfz27_1 := blk_frozen BK211.out 1
           have hfz27_2 := blk_frozen BK211.out 2
           have hfz27_3 := blk_frozen BK211.out 3
           go_wp2_with (first | ((with_reducible refine gate_callee (f := 51) rfl ?_); refine goesL_ (some 41) rfl rfl Tryd.func51 (by kernel_rfl) rfl #[.slice A0_3 l0_3.length c0_3,.string (rdOf ByteArray.empty l0_2 x33_2)] rfl b7_2 ?_; (with_reducible refine (slices_Index_string_string.calls k2 _ _ l0_3 (rdOf ByteArray.empty l0_2 x33_2) t217 _ ?side1 ?side2 A24.out).mono ?_); (case side1 => repeat (first | exact (Kd.C_below HR0_3.out HB.out) | (with_reducible refine Kd.C_alloc ?_ _) | (with_reducible refine Kd.C_drewN ?_ _) | (with_reducible refine Kd.C_drew ?_))); (case side2 => exact HC0_3.out); rintro e w' ⟨rfl,⟨nd,rfl⟩⟩; refine ⟨_,rfl,?_⟩))
           go_roundg k2
           case measure => have := HJ1.out; have := HK2.out; omega
           case rel => exact ⟨(wrap64 (x33_2 + 1)),b7_7,H',⟨by have := HJ1.out; have := HK2.out; omega⟩,⟨b7_4⟩,⟨b7_0⟩⟩
          ·rw [if_neg c26] at H
           have c26b0 : (t217 == x33_2) = false := beq_eq_false_iff_ne.mpr c26
           have c26b1 : (t217 != x33_2) = true := bne_iff_ne.mpr c26
           obtain rfl := Option.some.inj H
           have p216 : 0 ≤ (x33_2 : Int) := of_decide_eq_true b7_9
           have q216 : x33_2 < (l0_2.length : Int) := of_decide_eq_true b7_9
           obtain ⟨ad216,e216,hx216_0⟩ := Kd.at_string HR0_2.out x33_2 p216 q216
           cases e216
           replace hx216_0 := (HB.out.cell (World.block_lt_of_cell? w _ hx216_0)).trans hx216_0
           replace p216 := eq_true p216
           replace q216 := eq_true q216
           have hcz28_0 : wr.cell? ⟨gb211,0,none⟩ = some (.int .i64 a0_0) := (blk_cell BK211.out 0).trans rfl
           have hcz28_1 : wr.cell? ⟨gb211,1,none⟩ = some (.int .i64 a0_1) := (blk_cell BK211.out 1).trans rfl
           have hcz28_2 : wr.cell? ⟨gb211,2,none⟩ = some (.slice (some ad216) l0_2.length c0_2) := (blk_cell BK211.out 2).trans rfl
           have hcz28_3 : wr.cell? ⟨gb211,3,none⟩ = some (.slice A0_3 l0_3.length c0_3) := (blk_cell BK211.out 3).trans rfl
           have hfz28_0 := blk_frozen BK211.out 0
           have hfz28_1 := blk_frozen BK211.out 1
           have hfz28_2 := blk_frozen BK211.out 2
           have hfz28_3 := blk_frozen BK211.out 3
           go_wp2_with (first | ((with_reducible refine gate_callee (f := 51) rfl ?_); refine goesL_ (some 41) rfl rfl Tryd.func51 (by kernel_rfl) rfl #[.slice A0_3 l0_3.length c0_3,.string (rdOf ByteArray.empty l0_2 x33_2)] rfl b7_2 ?_; (with_reducible refine (slices_Index_string_string.calls k2 _ _ l0_3 (rdOf ByteArray.empty l0_2 x33_2) t217 _ ?side1 ?side2 A24.out).mono ?_); (case side1 => repeat (first | exact (Kd.C_below HR0_3.out HB.out) | (with_reducible refine Kd.C_alloc ?_ _) | (with_reducible refine Kd.C_drewN ?_ _) | (with_reducible refine Kd.C_drew ?_))); (case side2 => exact HC0_3.out); rintro e w' ⟨rfl,⟨nd,rfl⟩⟩; refine ⟨_,rfl,?_⟩))
           go_ret
           exact ⟨b7_6,b7_0⟩
         ·rw [if_neg c25] at H
          have c25b0 : decide (0 ≤ t217) = false := decide_eq_false c25
          clear c25
          have H' := Aside0.mk H
          clear H
          have p216 : 0 ≤ (x33_2 : Int) := of_decide_eq_true b7_9
          have q216 : x33_2 < (l0_2.length : Int) := of_decide_eq_true b7_9
          obtain ⟨ad216,e216,hx216_0⟩ := Kd.at_string HR0_2.out x33_2 p216 q216
          cases e216
          replace hx216_0 := (HB.out.cell (World.block_lt_of_cell? w _ hx216_0)).trans hx216_0
          replace p216 := eq_true p216
          replace q216 := eq_true q216
          have hcz29_0 : wr.cell? ⟨gb211,0,none⟩ = some (.int .i64 a0_0) := (blk_cell BK211.out 0).trans rfl
          have hcz29_1 : wr.cell? ⟨gb211,1,none⟩ = some (.int .i64 a0_1) := (blk_cell BK211.out 1).trans rfl
          have hcz29_2 : wr.cell? ⟨gb211,2,none⟩ = some (.slice (some ad216) l0_2.length c0_2) := (blk_cell BK211.out 2).trans rfl
          have hcz29_3 : wr.cell? ⟨gb211,3,none⟩ = some (.slice A0_3 l0_3.length c0_3) := (blk_cell BK211.out 3).trans rfl
          have hfz29_0 := blk_frozen BK211.out 0
          have hfz29_1 := blk_frozen BK211.out 1
          have hfz29_2 := blk_frozen BK211.out 2
          have hfz29_3 := blk_frozen BK211.out 3
          go_wp2_with (first | ((with_reducible refine gate_callee (f := 51) rfl ?_); refine goesL_ (some 41) rfl rfl Tryd.func51 (by kernel_rfl) rfl #[.slice A0_3 l0_3.length c0_3,.string (rdOf ByteArray.empty l0_2 x33_2)] rfl b7_2 ?_; (with_reducible refine (slices_Index_string_string.calls k2 _ _ l0_3 (rdOf ByteArray.empty l0_2 x33_2) t217 _ ?side1 ?side2 A24.out).mono ?_); (case side1 => repeat (first | exact (Kd.C_below HR0_3.out HB.out) | (with_reducible refine Kd.C_alloc ?_ _) | (with_reducible refine Kd.C_drewN ?_ _) | (with_reducible refine Kd.C_drew ?_))); (case side2 => exact HC0_3.out); rintro e w' ⟨rfl,⟨nd,rfl⟩⟩; refine ⟨_,rfl,?_⟩))
          go_roundg k2
          case measure => have := HJ1.out; have := HK2.out; omega
          case rel => exact ⟨(wrap64 (x33_2 + 1)),b7_7,H',⟨by have := HJ1.out; have := HK2.out; omega⟩,⟨b7_4⟩,⟨b7_0⟩⟩
        ·rw [if_neg c23] at H
         exact absurd H (by simp)
       ·rw [if_neg c22] at H
        exact absurd H (by simp)
      ·rw [if_neg c21] at H
       have c21b0 : decide (x33_2 < (l0_2.length : Int)) = false := decide_eq_false c21
       clear c21
       obtain rfl := Option.some.inj H
       go_wp2
       go_ret
       exact ⟨b7_6,b7_0⟩

end Go.Proofs.YtegeaoiclepkkaaDoor.QFnExactRunBound
