/-
Each Go function that this text names answers as the Lean function beside it says,wherever that one answers; conditions: the arguments lie in memory as each theorem states it.
-/
import Derived.Test.YtegeaoiclepkkabDoorQFnCommasx0
import Derived.Test.YtegeaoiclepkkabDoorQFnCommasx9
import Derived.Test.YtegeaoiclepkkabDoorQFnCommasx10
namespace Go.Proofs.YtegeaoiclepkkabDoor.QFnCommas
open Go.RowKit Go.Proofs.YtegeaoiclepkkabDoorW.PrintWords Go.Proofs.YtegeaoiclepkkabDoorW.PrintLast Go.Proofs.YtegeaoiclepkkabDoorW.PrintMore
attribute [local go_sem] max2_int min2_int max_two min_two max_three min_three max_four min_four   -- for this text's walks alone
set_option linter.unusedVariables false
set_option linter.unusedSimpArgs false
theorem b11_0 {P : Prop} (h : P := by repeat (first | (with_reducible first | exact HB.out | apply below_alloc | apply pw_below_drewN | apply below_drew1) | exact HB.out)) : P := h
theorem b11_1 {P : Prop} (h : P := by repeat (first | (with_reducible first | exact HB.out | apply below_alloc | apply pw_below_drewN | apply below_drew1 | refine below_set ?_ GE303.out) | exact HB.out)) : P := h
theorem b11_2 {P : Prop} (h : P := by (with_reducible repeat (first | refine blk_drewN ?_ _ | refine blk_drew ?_ | refine blk_alloc ?_ _)); exact BK303.out) : P := h
theorem b11_3 {P : Prop} (h : P := by (with_reducible repeat (first | refine blk_drewN ?_ _ | refine blk_drew ?_ | refine blk_alloc ?_ _)); exact BK.out) : P := h
theorem b11_4 {P : Prop} (h : P := by first | exact HS.out | exact HS.out.drewN _ | exact HS.out.drew) : P := h
theorem b11_5 {P : Prop} (h : P := by (with_reducible repeat (first | apply Kd.R_alloc | apply Kd.R_drewN | apply Kd.R_drew)); exact HO.out) : P := h
theorem b11_6 {P : Prop} (h : P := by first | rfl | (simp; done) | (simp [*]; done)) : P := h
theorem b11_7 {P : Prop} (h : P := by (try simp only [List.map_toArray,List.map_cons,List.map_nil]); first | done | rfl | (simp only [List.length_drop,List.length_take]; rfl)) : P := h
theorem b11_8 {P : Prop} (h : P := by (with_reducible repeat (first | apply Kd.R_alloc | apply Kd.R_drewN | apply Kd.R_drew)); exact HO_7.out) : P := h
theorem b11_9 {P : Prop} (h : P := by first | rfl | (simp [errW_none,errW_some] <;> rfl) | (simp [*,errW_none,errW_some] <;> rfl)) : P := h
theorem b11_10 {P : Prop} (h : P := by (try simp only [List.map_toArray,List.map_cons,List.map_nil]); first | done | rfl) : P := h

/-! ### impl_BlockCode_parts: function 41 -/
/-!  -/
def impl_BlockCode_parts.inS (seen : List (List UInt8)) : Value → Bool
 | .string s => decide (s.data.toList ∈ seen)
 | _ => false
def impl_BlockCode_parts.pk (st : Int) (L2 L3 : List ByteArray) : List ByteArray := if st < 0 then L2 else L3
mutual
def impl_BlockCode_parts.l0 : Nat → List ByteArray → List ByteArray → Int → List Int → Int → List (List UInt8) → Option (List (List UInt8))
 | 0,_,_,_,_,_,_ => none
 | k + 1,L2,L3,n,y,x,seen => if x < (y.length : Int) then (if 0 ≤ x then impl_BlockCode_parts.l1 k L2 L3 n y x (rd y x) (impl_BlockCode_parts.pk (rd y x) L2 L3) 0 seen else none) else some seen
def impl_BlockCode_parts.l1 : Nat → List ByteArray → List ByteArray → Int → List Int → Int → Int → List ByteArray → Int → List (List UInt8) → Option (List (List UInt8))
 | 0,_,_,_,_,_,_,_,_,_ => none
 | k + 1,L2,L3,n,y,x,st,l,j,seen => if j < (l.length : Int) then (if 0 ≤ j then ((impl_stateBehind.f st (rdOf ByteArray.empty l j)).bind fun s2 => impl_BlockCode_parts.l2 k L2 L3 n y x st l j (rdOf ByteArray.empty l j) (impl_BlockCode_parts.pk s2 L2 L3) 0 seen) else none) else impl_BlockCode_parts.l0 k L2 L3 n y (wrap64 (x + 1)) seen
def impl_BlockCode_parts.l2 : Nat → List ByteArray → List ByteArray → Int → List Int → Int → Int → List ByteArray → Int → ByteArray → List ByteArray → Int → List (List UInt8) → Option (List (List UInt8))
 | 0,_,_,_,_,_,_,_,_,_,_,_,_ => none
 | k + 1,L2,L3,n,y,x,st,l,j,s,m,i,seen => if i < (m.length : Int) then (if 0 ≤ i then (if s.size + (rdOf ByteArray.empty m i).size ≤ 9223372036854775807 then impl_BlockCode_parts.l3 k L2 L3 n y x st l j s m i (s ++ rdOf ByteArray.empty m i) 0 seen else none) else none) else impl_BlockCode_parts.l1 k L2 L3 n y x st l (wrap64 (j + 1)) seen
def impl_BlockCode_parts.l3 : Nat → List ByteArray → List ByteArray → Int → List Int → Int → Int → List ByteArray → Int → ByteArray → List ByteArray → Int → ByteArray → Int → List (List UInt8) → Option (List (List UInt8))
 | 0,_,_,_,_,_,_,_,_,_,_,_,_,_,_ => none
 | k + 1,L2,L3,n,y,x,st,l,j,s,m,i,t,q,seen => if wrap64 (q + n) ≤ (t.size : Int) then (if q < (s.size : Int) then (if 0 ≤ q then (if q ≤ wrap64 (q + n) then (if (t.extract q.toNat (wrap64 (q + n)).toNat).size ≤ 1048576 then (if seen.length < 1000000 then impl_BlockCode_parts.l3 k L2 L3 n y x st l j s m i t (wrap64 (q + 1)) ((t.extract q.toNat (wrap64 (q + n)).toNat).data.toList :: seen) else none) else none) else none) else none) else impl_BlockCode_parts.l2 k L2 L3 n y x st l j s m (wrap64 (i + 1)) seen) else impl_BlockCode_parts.l2 k L2 L3 n y x st l j s m (wrap64 (i + 1)) seen
end
def impl_BlockCode_parts.f (k : Nat) (a0_0 a0_1 : Int) (l0_2 l0_3 : List ByteArray) (a1 : Int) : Option (List (List UInt8)) := impl_BlockCode_parts.l0 k l0_2 l0_3 a1 [-1,1] 0 []
def impl_BlockCode_parts.T9 : Bool × List (List Nat × List Nat) := (true,[([],[]),([],[]),([],[]),([1,2],[1,2]),([0,3,3],[0,3]),([4],[4]),([5],[5]),([5],[5]),([6,4,0,1,2,3,4,5,6],[6]),([7,8,0,1,2,3,4,5,6,7,8],[7])])
def impl_BlockCode_parts.B9 : List Nat := [0,0,0,6,15,31,63,63,127,511]
theorem impl_BlockCode_parts.tab9 : rtab .any (opsOf Tryd.f41 9) = impl_BlockCode_parts.T9 := by kernel_rfl
theorem impl_BlockCode_parts.bits9 : waitsOk impl_BlockCode_parts.T9.2 impl_BlockCode_parts.B9 = true := by kernel_rfl
theorem impl_BlockCode_parts.below_step_grown {w W W' : World} {g : Nat} (h : Below w.heap.size w W) (hg : W.grownBy W' (some g)) (hge : w.heap.size ≤ g) : Below w.heap.size w W' :=
 h.grown hg h.size (fun k hk => by injection hk with hk; omega)
theorem impl_BlockCode_parts.inS_nil : impl_BlockCode_parts.inS [] = fun _ => false := by funext u; cases u <;> rfl
theorem impl_BlockCode_parts.set_go {seen : List (List UInt8)} {s : ByteArray} : ∀ u,u ≠ Value.string s → impl_BlockCode_parts.inS (s.data.toList :: seen) u = impl_BlockCode_parts.inS seen u := by
 intro u hu
 cases u <;> try rfl
 rename_i t
 have ht : t.data.toList ≠ s.data.toList := fun e => hu (by rw [ByteArray.ext (Array.toList_inj.1 e)])
 show decide (t.data.toList ∈ s.data.toList :: seen) = decide (t.data.toList ∈ seen)
 simp [ht]
theorem impl_BlockCode_parts.rows (a0_0 : Int) (a0_1 : Int) (A0_2 : Option Addr) (c0_2 : Nat) (l0_2 : List ByteArray) (A0_3 : Option Addr) (c0_3 : Nat) (l0_3 : List ByteArray) (st : Int) (w : World) (hr0_2 : Kd.C Kd.string w A0_2 l0_2.length l0_2) (hc0_2 : l0_2.length ≤ c0_2) (hr0_3 : Kd.C Kd.string w A0_3 l0_3.length l0_3) (hc0_3 : l0_3.length ≤ c0_3) : ∃ (l : List ByteArray) (A : Option Addr) (c : Nat) (v : Value),l = impl_BlockCode_parts.pk st l0_2 l0_3 ∧ Kd.C Kd.string w A l.length l ∧ l.length ≤ c ∧ ∀ w',Below w.heap.size w w' → Calls Tryd.prog 27 #[.agg #[.int .i64 a0_0,.int .i64 a0_1,.slice A0_2 l0_2.length c0_2,.slice A0_3 l0_3.length c0_3],.int .i64 st] w' fun e w'' => e = .returned (.tuple #[.slice A l.length c,v]) ∧ Below w'.heap.size w' w'' := by
 unfold impl_BlockCode_parts.pk
 by_cases c : st < 0
 ·rw [if_pos c]; exact ⟨l0_2,A0_2,c0_2,.slice A0_3 l0_3.length c0_3,rfl,hr0_2,hc0_2,fun w' hb => impl_BlockCode_words_neg.calls a0_0 a0_1 A0_2 c0_2 l0_2 A0_3 c0_3 l0_3 st w' (Kd.C_below hr0_2 hb) hc0_2 (Kd.C_below hr0_3 hb) hc0_3 (if_pos c)⟩
 ·rw [if_neg c]; exact ⟨l0_3,A0_3,c0_3,.slice A0_2 l0_2.length c0_2,rfl,hr0_3,hc0_3,fun w' hb => impl_BlockCode_words_pos.calls a0_0 a0_1 A0_2 c0_2 l0_2 A0_3 c0_3 l0_3 st w' (Kd.C_below hr0_2 hb) hc0_2 (Kd.C_below hr0_3 hb) hc0_3 (if_pos c)⟩
set_option maxHeartbeats 8000000 in
set_option maxRecDepth 100000 in
theorem impl_BlockCode_parts.calls (k : Nat) (a0_0 : Int) (a0_1 : Int) (A0_2 : Option Addr) (c0_2 : Nat) (l0_2 : List ByteArray) (A0_3 : Option Addr) (c0_3 : Nat) (l0_3 : List ByteArray) (a1 : Int) (r : List (List UInt8)) (w : World) (hr0_2 : Kd.C Kd.string w A0_2 l0_2.length l0_2) (hc0_2 : l0_2.length ≤ c0_2) (hr0_3 : Kd.C Kd.string w A0_3 l0_3.length l0_3) (hc0_3 : l0_3.length ≤ c0_3) (h : impl_BlockCode_parts.f k a0_0 a0_1 l0_2 l0_3 a1 = some r) :
  Calls Tryd.prog 41 #[.agg #[.int .i64 a0_0,.int .i64 a0_1,.slice A0_2 l0_2.length c0_2,.slice A0_3 l0_3.length c0_3],.int .i64 a1] w fun e w' => (∃ b,e = .returned (.map (some b)) ∧ MSet.SetIs w' Tryd.prog 9 4 b r.length (impl_BlockCode_parts.inS r)) ∧ Below w.heap.size w w' := by
 have HR2 := Aside0.mk hr0_2
 have HC2 := Aside0.mk hc0_2
 have HR3 := Aside0.mk hr0_3
 have HC3 := Aside0.mk hc0_3
 clear hr0_2 hc0_2 hr0_3 hc0_3
 have hu30 := Tryd.underlying26
 have hu69 := Tryd.underlying74
 have HB := Aside0.mk (Below.refl w.heap.size w)
 have hmm := @run_makeMap Tryd.prog
 unfold impl_BlockCode_parts.f at h
 obtain ⟨y,hy⟩ : ∃ y_ : List Int,y_ = ([-1,1] : List Int) := ⟨_,rfl⟩
 rw [← hy] at h
 have NY := Aside0.mk hy
 clear hy
 have H' := Aside0.mk h
 clear h
 go_enter Tryd.func41,Tryd.ntmps41
 go_wp2_with (first | ((with_reducible refine gate_dst (N := 2) rfl ?_); refine box_event ?hg (N := 2) ?hd (cs := #[.int .i64 a0_0,.int .i64 a0_1,.slice A0_2 l0_2.length c0_2,.slice A0_3 l0_3.length c0_3]) (t := 26) ?hr ?_; (case hd => rfl); (case hg => rfl); (case hr => first | (go_simp; done) | (go_simp; rfl)); intro g1 hg w1 hbox hb; have n0_ := Aside0.mk (below_step b11_0 hb); clear HB; have HB := n0_; clear n0_ hb hg; have BK := Aside0.mk hbox; clear hbox) | ((with_reducible refine gate_dst (N := 19) rfl ?_); refine Kd.R_lit (Kd.int .i64) _ 2 ?hg (N := 19) ?hd (xs := ([(-1),1] : List Int)) (inner := [.int .i64 (-1),.int .i64 1]) (ok := fun _ => True) (okp := fun _ => True) ?hr ?hp (fun _ hk => hk) trivial (Below.refl _ _) (Nat.le_refl _) (by simp) ?_; (case hd => rfl); (case hg => rfl); (case hr => first | (go_simp; done) | (go_simp; rfl)); (case hp => exact (Reps.one (show Kd.M (Kd.int .i64) _ _ _ (-1) [.int .i64 (-1)] from rfl) (Reps.one (show Kd.M (Kd.int .i64) _ _ _ 1 [.int .i64 1] from rfl) (Reps.none _ _)))); intro vy w7 ho8 hb hg_ hnew_; clear hg_ hnew_; (first | rw [← NY.out] at ho8 | (simp only [Int.reduceToNat] at ho8; rw [← NY.out] at ho8)); have GM := Aside0.mk (show w.heap.size ≤ w1.heap.size from HB.out.size); have GL := Aside0.mk (blk_lt BK.out); have n0_ := Aside0.mk (show Kd.R (Kd.int .i64) 2 w7 (w1.alloc (.map #[] 0)).heap.size (fun k => w1.heap.size < k) vy y from Kd.R_mono (Kd.R_bound ho8) (fun k hk => Nat.lt_of_lt_of_le (by show w1.heap.size < (w1.heap.push _).size; rw [Array.size_push]; exact Nat.lt_succ_self _) hk.2.1)); have n1_ := Aside0.mk (blk_below (g := g1) (o := (.cells #[.int .i64 a0_0,.int .i64 a0_1,.slice A0_2 l0_2.length c0_2,.slice A0_3 l0_3.length c0_3] 26 (0,0))) b11_3 hb); have n2_ := Aside0.mk (below_step b11_0 hb); have n3_ := Aside0.mk (show MSet.SetIs w7 Tryd.prog 9 4 w1.heap.size ([] : List (List UInt8)).length (impl_BlockCode_parts.inS ([] : List (List UInt8))) from MSet.SetIs.below (w := w1.alloc (.map #[] 0)) (by rw [impl_BlockCode_parts.inS_nil]; exact MSet.SetIs.made w1 Tryd.prog 9 4) hb); clear HB BK; have HO := n0_; have BK := n1_; have HB := n2_; have HS := n3_; clear n0_ n1_ n2_ n3_; clear hb ho8; obtain ⟨Ay,cy,ey⟩ := Kd.R_slice HO.out; subst ey))
 go_loopg [21] k (fun kq v21 w' => ∃ (seen : List (List UInt8)) (x : Int),v21 = .int .i64 x ∧ Aside0 (impl_BlockCode_parts.l0 kq l0_2 l0_3 a1 y x seen = some r) ∧ Aside0 (kq ≤ k) ∧ Aside0 (Kd.R (Kd.int .i64) 2 w' (w1.alloc (.map #[] 0)).heap.size (fun k => w1.heap.size < k) (.slice Ay y.length cy) y) ∧ Aside0 (MSet.SetIs w' Tryd.prog 9 4 w1.heap.size seen.length (impl_BlockCode_parts.inS seen)) ∧ Aside0 (w'.heap[g1]? = some (.cells #[.int .i64 a0_0,.int .i64 a0_1,.slice A0_2 l0_2.length c0_2,.slice A0_3 l0_3.length c0_3] 26 (0,0))) ∧ Aside0 (Below w.heap.size w w'))
 case atStart => exact ⟨[],0,b11_6,H',⟨Nat.le_refl _⟩,⟨b11_5⟩,⟨b11_4⟩,⟨b11_3⟩,⟨b11_0⟩⟩
 case round =>
  clear H' HO HS BK HB
  obtain ⟨seen,x,rfl,HA,HK1,HO,HS,BK,HB⟩ := hrel
  cases gk with
  | zero => exact absurd HA.out (by simp [impl_BlockCode_parts.l0])
  | succ k1 =>
   have H := HA.out
   clear HA
   simp only [impl_BlockCode_parts.l0] at H
   by_cases c1 : x < (y.length : Int)
   ·rw [if_pos c1] at H
    have c1b0 : decide (x < (y.length : Int)) = true := decide_eq_true c1
    have c1e := eq_true c1
    by_cases c2 : 0 ≤ x
    ·rw [if_pos c2] at H
     have c2b0 : decide (0 ≤ x) = true := decide_eq_true c2
     have c2e := eq_true c2
     obtain ⟨ady,eady,hxy⟩ := Kd.at_int (Kd.R_reads' HO.out).2.2 x c2 c1
     cases eady
     obtain ⟨l,A,c,v,hl,hR,hC,hW⟩ := impl_BlockCode_parts.rows a0_0 a0_1 A0_2 c0_2 l0_2 A0_3 c0_3 l0_3 (rd y x) w HR2.out HC2.out HR3.out HC3.out
     rw [← hl] at H
     have HR := Aside0.mk hR
     have HC := Aside0.mk hC
     have HW := Aside0.mk hW
     clear hl hR hC hW c1 c2
     generalize rd y x = st at H hxy HW
     have H' := Aside0.mk H
     clear H
     have hcz0 : wr.cell? ⟨g1,0,none⟩ = some (.int .i64 a0_0) := (blk_cell BK.out 0).trans rfl
     have hcz1 : wr.cell? ⟨g1,1,none⟩ = some (.int .i64 a0_1) := (blk_cell BK.out 1).trans rfl
     have hcz2 : wr.cell? ⟨g1,2,none⟩ = some (.slice A0_2 l0_2.length c0_2) := (blk_cell BK.out 2).trans rfl
     have hcz3 : wr.cell? ⟨g1,3,none⟩ = some (.slice A0_3 l0_3.length c0_3) := (blk_cell BK.out 3).trans rfl
     have hfz0 := blk_frozen BK.out 0
     have hfz1 := blk_frozen BK.out 1
     have hfz2 := blk_frozen BK.out 2
     have hfz3 := blk_frozen BK.out 3
     go_wp2_with (go_at_call 27; refine (HW.out _ b11_0).mono ?_; rintro e w12 ⟨rfl,hb⟩; have n0_ := Aside0.mk (Kd.R_below b11_5 hb); have n1_ := Aside0.mk (blk_below (g := g1) (o := (.cells #[.int .i64 a0_0,.int .i64 a0_1,.slice A0_2 l0_2.length c0_2,.slice A0_3 l0_3.length c0_3] 26 (0,0))) b11_3 hb); have n2_ := Aside0.mk (below_step b11_0 hb); have n3_ := Aside0.mk (MSet.SetIs.below b11_4 hb); clear HO BK HB HS; have HO := n0_; have BK := n1_; have HB := n2_; have HS := n3_; clear n0_ n1_ n2_ n3_; (try clear hb))
     try clear hcz0 hcz1 hcz2 hcz3 hfz0 hfz1 hfz2 hfz3
     (try clear hxy)
     try clear c1b0 c1e c2b0 c2e
     go_loopg [33] k1 (fun kq v33 w' => ∃ (seen : List (List UInt8)) (j : Int),v33 = .int .i64 j ∧ Aside0 (impl_BlockCode_parts.l1 kq l0_2 l0_3 a1 y x st l j seen = some r) ∧ Aside0 (kq ≤ k1) ∧ Aside0 (Kd.R (Kd.int .i64) 2 w' (w1.alloc (.map #[] 0)).heap.size (fun k => w1.heap.size < k) (.slice (some ady) y.length cy) y) ∧ Aside0 (MSet.SetIs w' Tryd.prog 9 4 w1.heap.size seen.length (impl_BlockCode_parts.inS seen)) ∧ Aside0 (w'.heap[g1]? = some (.cells #[.int .i64 a0_0,.int .i64 a0_1,.slice A0_2 l0_2.length c0_2,.slice A0_3 l0_3.length c0_3] 26 (0,0))) ∧ Aside0 (Below w.heap.size w w'))
     case atStart => exact ⟨seen,0,b11_6,H',⟨Nat.le_refl _⟩,⟨b11_5⟩,⟨b11_4⟩,⟨b11_3⟩,⟨b11_0⟩⟩
     case round =>
      clear H' HO HS BK HB
      obtain ⟨seen,j,rfl,HA,HK2,HO,HS,BK,HB⟩ := hrel
      cases gk with
      | zero => exact absurd HA.out (by simp [impl_BlockCode_parts.l1])
      | succ k2 =>
       have H := HA.out
       clear HA
       simp only [impl_BlockCode_parts.l1] at H
       by_cases c3 : j < (l.length : Int)
       ·rw [if_pos c3] at H
        have c3b0 : decide (j < (l.length : Int)) = true := decide_eq_true c3
        have c3e := eq_true c3
        by_cases c4 : 0 ≤ j
        ·rw [if_pos c4] at H
         have c4b0 : decide (0 ≤ j) = true := decide_eq_true c4
         have c4e := eq_true c4
         obtain ⟨ad1,e2,hx1⟩ := Kd.at_string (Kd.C_below HR.out HB.out) j c4 c3
         cases e2
         obtain ⟨s2,A9,H⟩ := Option.bind_eq_some_iff.mp H
         have AS := Aside0.mk A9
         clear A9 c3 c4
         replace H : impl_BlockCode_parts.l2 k2 l0_2 l0_3 a1 y x st l j (rdOf ByteArray.empty l j) (impl_BlockCode_parts.pk s2 l0_2 l0_3) 0 seen = some r := H
         obtain ⟨m,A2,c2,v2,hl,hR,hC,hW⟩ := impl_BlockCode_parts.rows a0_0 a0_1 A0_2 c0_2 l0_2 A0_3 c0_3 l0_3 s2 w HR2.out HC2.out HR3.out HC3.out
         rw [← hl] at H
         have HRm := Aside0.mk hR
         have HCm := Aside0.mk hC
         have HWm := Aside0.mk hW
         clear hl hR hC hW
         generalize rdOf ByteArray.empty l j = s at H hx1 AS
         have H' := Aside0.mk H
         clear H
         try go_wp2
         have n0_ := Aside0.mk (Kd.R_drew HO.out)
         have n1_ := Aside0.mk (blk_drew BK.out)
         have n2_ := Aside0.mk (below_drew1 HB.out)
         have n3_ := Aside0.mk (MSet.SetIs.drew HS.out)
         clear HO BK HB HS
         have HO := n0_
         have BK := n1_
         have HB := n2_
         have HS := n3_
         clear n0_ n1_ n2_ n3_
         refine start_ (n := 10) (S := fun w' => w'.cell? ⟨g1,0,none⟩ = some (.int .i64 a0_0) ∧ w'.cell? ⟨g1,1,none⟩ = some (.int .i64 a0_1) ∧ w'.cell? ⟨g1,2,none⟩ = some (.slice A0_2 l0_2.length c0_2) ∧ w'.cell? ⟨g1,3,none⟩ = some (.slice A0_3 l0_3.length c0_3)) (ds := []) #[false,false,false,false,false,false,false,false,false,false] (by kernel_rfl) rfl rfl ⟨(blk_cell BK.out 0).trans rfl,(blk_cell BK.out 1).trans rfl,(blk_cell BK.out 2).trans rfl,(blk_cell BK.out 3).trans rfl⟩ (fun hHeld => ?_); refine with_tabW impl_BlockCode_parts.tab9 impl_BlockCode_parts.bits9 (fun HT_ HW_ => ?_)
         generalize wr.drew = w20 at HO BK HB HS hHeld ⊢
         refine pure_ (i := 1) (N := some 39) (v := ?_) (a' := ?_) #[false,true,false,false,false,false,false,false,false,false] rfl rfl (any_of HT_.out (by kernel_rfl)) (fun _ _ _ h => h) (Or.inl ⟨by rfl,?_⟩) ?_ ?_
         rotate_left
         ·intro w'
          go_simp
          with_reducible rfl
         rotate_left
         ·simp only [Act.put,List.setIfInBounds_toArray,List.set_cons_zero,List.set_cons_succ,i64_w,i32_w]
          rfl
         refine pure_ (i := 2) (N := some 40) (v := ?_) (a' := ?_) #[false,true,true,false,false,false,false,false,false,false] rfl rfl (any_of HT_.out (by kernel_rfl)) (fun _ _ _ h => h) (Or.inl ⟨by rfl,?_⟩) ?_ ?_
         rotate_left
         ·intro w'
          go_simp
          with_reducible rfl
         rotate_left
         ·simp only [Act.put,List.setIfInBounds_toArray,List.set_cons_zero,List.set_cons_succ,i64_w,i32_w]
          rfl
         refine take_ (i := 0) (N := some 38) (v := ?_) (a' := ?_) #[true,true,true,false,false,false,false,false,false,false] rfl rfl (take_ofW HT_.out HW_.out (by kernel_rfl)) (fun _ _ _ h => h) (Or.inl ⟨by rfl,?_⟩) hHeld ?_ ?_
         rotate_left
         ·rintro w' ⟨s0,s1,s2,s3⟩
          go_simp
          with_reducible rfl
         rotate_left
         ·simp only [Act.put,List.setIfInBounds_toArray,List.set_cons_zero,List.set_cons_succ,i64_w,i32_w]
          rfl
         refine one_ (i := 3) (N := some 41) #[true,true,true,true,false,false,false,false,false,false] rfl rfl (one_of HT_.out (by kernel_rfl)) (by decide) (fun K hK => ?_)
         refine goes_ Tryd.func28 (by kernel_rfl) rfl #[.int .i64 st,.string s] (by rfl) rfl rfl b11_10 ?_
         refine (impl_stateBehind.calls st s s2 _ AS.out).mono ?_
         rintro e w' ⟨rfl,⟨nd,rfl⟩⟩
         refine ⟨_,rfl,?_⟩
         refine hK.out _ _ ⟨(blk_cell BK.out 0).trans rfl,(blk_cell BK.out 1).trans rfl,(blk_cell BK.out 2).trans rfl,(blk_cell BK.out 3).trans rfl⟩ (fun hHeld => ?_)
         clear hK K
         refine norm_ (a' := ?_) ?_ ?_
         rotate_left
         ·show Act.put _ (some 41) _ = _
          simp only [Act.put,List.setIfInBounds_toArray,List.set_cons_zero,List.set_cons_succ,i64_w,i32_w]
          rfl
         refine one_ (i := 4) (N := some 42) #[true,true,true,true,true,false,false,false,false,false] rfl rfl (one_of HT_.out (by kernel_rfl)) (by decide) (fun K hK => ?_)
         refine goes_ Tryd.func27 (by kernel_rfl) rfl #[.agg #[.int .i64 a0_0,.int .i64 a0_1,.slice A0_2 l0_2.length c0_2,.slice A0_3 l0_3.length c0_3],.int .i64 s2] (by rfl) rfl rfl b11_10 ?_
         refine (HWm.out _ b11_0).mono ?_
         rintro e w21 ⟨rfl,hb⟩
         refine ⟨_,rfl,?_⟩
         (have n0_ := Aside0.mk (Kd.R_below b11_5 hb); have n1_ := Aside0.mk (blk_below (g := g1) (o := (.cells #[.int .i64 a0_0,.int .i64 a0_1,.slice A0_2 l0_2.length c0_2,.slice A0_3 l0_3.length c0_3] 26 (0,0))) b11_3 hb); have n2_ := Aside0.mk (below_step b11_0 hb); have n3_ := Aside0.mk (MSet.SetIs.below b11_4 hb); clear HO BK HB HS; have HO := n0_; have BK := n1_; have HB := n2_; have HS := n3_; clear n0_ n1_ n2_ n3_; (try clear hb))
         refine hK.out _ _ ⟨(blk_cell BK.out 0).trans rfl,(blk_cell BK.out 1).trans rfl,(blk_cell BK.out 2).trans rfl,(blk_cell BK.out 3).trans rfl⟩ (fun hHeld => ?_)
         clear hK K
         refine norm_ (a' := ?_) ?_ ?_
         rotate_left
         ·show Act.put _ (some 42) _ = _
          simp only [Act.put,List.setIfInBounds_toArray,List.set_cons_zero,List.set_cons_succ,i64_w,i32_w]
          rfl
         refine pure_ (i := 5) (N := some 37) (v := ?_) (a' := ?_) #[true,true,true,true,true,true,false,false,false,false] rfl rfl (any_of HT_.out (by kernel_rfl)) (fun _ _ _ h => h) (Or.inl ⟨by rfl,?_⟩) ?_ ?_
         rotate_left
         ·intro w'
          go_simp
          with_reducible rfl
         rotate_left
         ·simp only [Act.put,List.setIfInBounds_toArray,List.set_cons_zero,List.set_cons_succ,i64_w,i32_w]
          rfl
         refine pure_ (i := 6) (N := some 43) (v := ?_) (a' := ?_) #[true,true,true,true,true,true,true,false,false,false] rfl rfl (any_of HT_.out (by kernel_rfl)) (fun _ _ _ h => h) (Or.inl ⟨by rfl,?_⟩) ?_ ?_
         rotate_left
         ·intro w'
          go_simp
          with_reducible rfl
         rotate_left
         ·simp only [Act.put,List.setIfInBounds_toArray,List.set_cons_zero,List.set_cons_succ,i64_w,i32_w]
          rfl
         refine pure_ (i := 7) (N := some 44) (v := ?_) (a' := ?_) #[true,true,true,true,true,true,true,true,false,false] rfl rfl (any_of HT_.out (by kernel_rfl)) (fun _ _ _ h => h) (Or.inl ⟨by rfl,?_⟩) ?_ ?_
         rotate_left
         ·intro w'
          go_simp
          with_reducible rfl
         rotate_left
         ·simp only [Act.put,List.setIfInBounds_toArray,List.set_cons_zero,List.set_cons_succ,i64_w,i32_w]
          rfl
         refine pure_ (i := 8) (N := some 12) (v := ?_) (a' := ?_) #[true,true,true,true,true,true,true,true,true,false] rfl rfl (any_of HT_.out (by kernel_rfl)) (fun _ _ _ h => h) (Or.inl ⟨by rfl,?_⟩) ?_ ?_
         rotate_left
         ·intro w'
          go_simp
          with_reducible rfl
         rotate_left
         ·simp only [Act.put,List.setIfInBounds_toArray,List.set_cons_zero,List.set_cons_succ,i64_w,i32_w]
          rfl
         refine pure_ (i := 9) (N := some 13) (v := ?_) (a' := ?_) #[true,true,true,true,true,true,true,true,true,true] rfl rfl (any_of HT_.out (by kernel_rfl)) (fun _ _ _ h => h) (Or.inl ⟨by rfl,?_⟩) ?_ ?_
         rotate_left
         ·intro w'
          go_simp
          with_reducible rfl
         rotate_left
         ·simp only [Act.put,List.setIfInBounds_toArray,List.set_cons_zero,List.set_cons_succ,i64_w,i32_w]
          rfl
         refine done_ (done_of HT_.out (by kernel_rfl)) ?_
         try go_wp2
         (try clear hx1)
         try clear c3b0 c3e c4b0 c4e
         go_loopg [47] k2 (fun kq v47 w' => ∃ (seen : List (List UInt8)) (i : Int),v47 = .int .i64 i ∧ Aside0 (impl_BlockCode_parts.l2 kq l0_2 l0_3 a1 y x st l j s m i seen = some r) ∧ Aside0 (kq ≤ k2) ∧ Aside0 (Kd.R (Kd.int .i64) 2 w' (w1.alloc (.map #[] 0)).heap.size (fun k => w1.heap.size < k) (.slice (some ady) y.length cy) y) ∧ Aside0 (MSet.SetIs w' Tryd.prog 9 4 w1.heap.size seen.length (impl_BlockCode_parts.inS seen)) ∧ Aside0 (w'.heap[g1]? = some (.cells #[.int .i64 a0_0,.int .i64 a0_1,.slice A0_2 l0_2.length c0_2,.slice A0_3 l0_3.length c0_3] 26 (0,0))) ∧ Aside0 (Below w.heap.size w w'))
         case atStart => exact ⟨seen,0,b11_6,H',⟨Nat.le_refl _⟩,⟨b11_5⟩,⟨b11_4⟩,⟨b11_3⟩,⟨b11_0⟩⟩
         case round =>
          clear H' HO HS BK HB
          obtain ⟨seen,i,rfl,HA,HK3,HO,HS,BK,HB⟩ := hrel
          cases gk with
          | zero => exact absurd HA.out (by simp [impl_BlockCode_parts.l2])
          | succ k3 =>
           have H := HA.out
           clear HA
           simp only [impl_BlockCode_parts.l2] at H
           by_cases c5 : i < (m.length : Int)
           ·rw [if_pos c5] at H
            have c5b0 : decide (i < (m.length : Int)) = true := decide_eq_true c5
            have c5e := eq_true c5
            by_cases c6 : 0 ≤ i
            ·rw [if_pos c6] at H
             have c6b0 : decide (0 ≤ i) = true := decide_eq_true c6
             have c6e := eq_true c6
             obtain ⟨ad2,e3,hx2⟩ := Kd.at_string (Kd.C_below HRm.out HB.out) i c6 c5
             cases e3
             generalize rdOf ByteArray.empty m i = u at H hx2
             by_cases c7 : s.size + u.size ≤ 9223372036854775807
             ·rw [if_pos c7] at H
              have c7b0 : decide (s.size + u.size ≤ 9223372036854775807) = true := decide_eq_true c7
              have c7e := eq_true c7
              have c7n : (9223372036854775807 < s.size + u.size) = False := eq_false (Nat.not_lt.2 c7)
              clear c5 c6
              have H' := Aside0.mk H
              clear H
              go_wp2
              repeat (go_quiet (fail); try go_wp2)
              (try clear hx2)
              try clear c5b0 c5e c6b0 c6e
              try clear c7b0 c7e c7n c7
              generalize s ++ u = t at H' ⊢
              go_loopg [17] k3 (fun kq v17 w' => ∃ (seen : List (List UInt8)) (q : Int),v17 = .int .i64 q ∧ Aside0 (impl_BlockCode_parts.l3 kq l0_2 l0_3 a1 y x st l j s m i t q seen = some r) ∧ Aside0 (kq ≤ k3) ∧ Aside0 (Kd.R (Kd.int .i64) 2 w' (w1.alloc (.map #[] 0)).heap.size (fun k => w1.heap.size < k) (.slice (some ady) y.length cy) y) ∧ Aside0 (MSet.SetIs w' Tryd.prog 9 4 w1.heap.size seen.length (impl_BlockCode_parts.inS seen)) ∧ Aside0 (w'.heap[g1]? = some (.cells #[.int .i64 a0_0,.int .i64 a0_1,.slice A0_2 l0_2.length c0_2,.slice A0_3 l0_3.length c0_3] 26 (0,0))) ∧ Aside0 (Below w.heap.size w w'))
              case atStart => exact ⟨seen,0,b11_6,H',⟨Nat.le_refl _⟩,⟨b11_5⟩,⟨b11_4⟩,⟨b11_3⟩,⟨b11_0⟩⟩
              case round =>
               clear H' HO HS BK HB
               obtain ⟨seen,q,rfl,HA,HK4,HO,HS,BK,HB⟩ := hrel
               cases gk with
               | zero => exact absurd HA.out (by simp [impl_BlockCode_parts.l3])
               | succ k4 =>
                have H := HA.out
                clear HA
                simp only [impl_BlockCode_parts.l3] at H
                by_cases c8 : wrap64 (q + a1) ≤ (t.size : Int)
                ·rw [if_pos c8] at H
                 have c8b0 : decide (wrap64 (q + a1) ≤ (t.size : Int)) = true := decide_eq_true c8
                 have c8e := eq_true c8
                 by_cases c9 : q < (s.size : Int)
                 ·rw [if_pos c9] at H
                  have c9b0 : decide (q < (s.size : Int)) = true := decide_eq_true c9
                  have c9e := eq_true c9
                  by_cases c10 : 0 ≤ q
                  ·rw [if_pos c10] at H
                   have c10b0 : decide (0 ≤ q) = true := decide_eq_true c10
                   have c10e := eq_true c10
                   by_cases c11 : q ≤ wrap64 (q + a1)
                   ·rw [if_pos c11] at H
                    have c11b0 : decide (q ≤ wrap64 (q + a1)) = true := decide_eq_true c11
                    have c11e := eq_true c11
                    obtain ⟨z,hz⟩ : ∃ z,z = t.extract q.toNat (wrap64 (q + a1)).toNat := ⟨_,rfl⟩
                    rw [← hz] at H
                    by_cases c12 : z.size ≤ 1048576
                    ·rw [if_pos c12] at H
                     have SZ := Aside0.mk (show z.size ≤ maxLen by unfold maxLen; omega)
                     clear c12
                     by_cases c13 : seen.length < 1000000
                     ·rw [if_pos c13] at H
                      have HN := Aside0.mk (show seen.length < maxLen by unfold maxLen; omega)
                      clear c13
                      have H' := Aside0.mk H
                      clear H
                      have HZ := Aside0.mk hz
                      clear hz
                      go_wp2_with (refine MSet.wpList_see _ rfl (.tmp 68) (.tmp 74) (.const (.bool true)) 74 rfl 9 4 (Maps.string_keyed Tryd.underlying9) hu69 Tryd.underlying4 w1.heap.size seen.length (impl_BlockCode_parts.inS seen) rfl HS.out HN.out (.string z) (.string z.data.toList) (by rw [HZ.out]; rfl) rfl (WideMaps.keyOf_string_mk Tryd.underlying9 SZ.out) (impl_BlockCode_parts.inS (z.data.toList :: seen)) (by show decide (z.data.toList ∈ z.data.toList :: seen) = true; simp) impl_BlockCode_parts.set_go ?_; intro w5 hs hg; have n0_ := Aside0.mk (impl_BlockCode_parts.below_step_grown HB.out hg GM.out); have n1_ := Aside0.mk ((hg.block g1 (blk_lt BK.out) (fun e => by have := GL.out; injection e with e; omega)).trans BK.out); have n2_ := Aside0.mk (show MSet.SetIs w5 Tryd.prog 9 4 w1.heap.size (z.data.toList :: seen).length (impl_BlockCode_parts.inS (z.data.toList :: seen)) from hs); have n3_ := Aside0.mk (Kd.R_grown HO.out hg (fun k hk e => by injection e with e; omega)); clear HB BK HS HO; have HB := n0_; have BK := n1_; have HS := n2_; have HO := n3_; clear n0_ n1_ n2_ n3_ hs hg)
                      go_roundg k4
                      case measure => have := HK1.out; have := HK2.out; have := HK3.out; have := HK4.out; omega
                      case rel => exact ⟨(z.data.toList :: seen),(wrap64 (q + 1)),b11_6,H',⟨by have := HK1.out; have := HK2.out; have := HK3.out; have := HK4.out; omega⟩,⟨b11_5⟩,⟨b11_4⟩,⟨b11_3⟩,⟨b11_0⟩⟩
                     ·rw [if_neg c13] at H; cases H
                    ·rw [if_neg c12] at H; cases H
                   ·rw [if_neg c11] at H; cases H
                  ·rw [if_neg c10] at H; cases H
                 ·rw [if_neg c9] at H
                  have c9b0 : decide (q < (s.size : Int)) = false := decide_eq_false c9
                  have H' := Aside0.mk H
                  clear H
                  go_wp2
                  go_roundg k4
                  case measure => have := HK1.out; have := HK2.out; have := HK3.out; have := HK4.out; omega
                  case rel => exact ⟨seen,(wrap64 (i + 1)),b11_6,H',⟨by have := HK1.out; have := HK2.out; have := HK3.out; have := HK4.out; omega⟩,⟨b11_5⟩,⟨b11_4⟩,⟨b11_3⟩,⟨b11_0⟩⟩
                ·rw [if_neg c8] at H
                 have c8b0 : decide (wrap64 (q + a1) ≤ (t.size : Int)) = false := decide_eq_false c8
                 have H' := Aside0.mk H
                 clear H
                 go_wp2
                 go_roundg k4
                 case measure => have := HK1.out; have := HK2.out; have := HK3.out; have := HK4.out; omega
                 case rel => exact ⟨seen,(wrap64 (i + 1)),b11_6,H',⟨by have := HK1.out; have := HK2.out; have := HK3.out; have := HK4.out; omega⟩,⟨b11_5⟩,⟨b11_4⟩,⟨b11_3⟩,⟨b11_0⟩⟩
             ·rw [if_neg c7] at H; cases H
            ·rw [if_neg c6] at H; cases H
           ·rw [if_neg c5] at H
            have c5b0 : decide (i < (m.length : Int)) = false := decide_eq_false c5
            have H' := Aside0.mk H
            clear H
            go_wp2
            go_roundg k3
            case measure => have := HK1.out; have := HK2.out; have := HK3.out; omega
            case rel => exact ⟨seen,(wrap64 (j + 1)),b11_6,H',⟨by have := HK1.out; have := HK2.out; have := HK3.out; omega⟩,⟨b11_5⟩,⟨b11_4⟩,⟨b11_3⟩,⟨b11_0⟩⟩
        ·rw [if_neg c4] at H; cases H
       ·rw [if_neg c3] at H
        have c3b0 : decide (j < (l.length : Int)) = false := decide_eq_false c3
        have H' := Aside0.mk H
        clear H
        go_wp2
        go_roundg k2
        case measure => have := HK1.out; have := HK2.out; omega
        case rel => exact ⟨seen,(wrap64 (x + 1)),b11_6,H',⟨by have := HK1.out; have := HK2.out; omega⟩,⟨b11_5⟩,⟨b11_4⟩,⟨b11_3⟩,⟨b11_0⟩⟩
    ·rw [if_neg c2] at H; cases H
   ·rw [if_neg c1] at H
    have c1b0 : decide (x < (y.length : Int)) = false := decide_eq_false c1
    obtain rfl := Option.some.inj H
    go_wp2
    go_ret
    exact ⟨⟨_,rfl,HS.out⟩,HB.out⟩

/-! ### impl_digits: function 42 -/
def impl_digits.l0 : Nat → Int → List Int → Int → Option (ByteArray)
 | 0,_,_,_ => none
 | k + 1,x0,x5,x6 => if x6 ≥ 0 then (if 0 ≤ x6 then (if x5.length < 140737488355328 then (impl_digits.l0 k x0 (x5 ++ [(48 + (Go.bits .and .i64 (shr .i64 x0 x6) 1)) % 256]) (wrap64 (x6 - 1))) else (none)) else (none)) else (some (strOfNums x5))
def impl_digits.f (k : Nat) (a0 : Int) (a1 : Int) : Option (ByteArray) := impl_digits.l0 k a0 (([] : List Int)) (wrap64 (a1 - 1))
set_option maxHeartbeats 8000000 in
set_option maxRecDepth 100000 in
theorem impl_digits.calls (k : Nat) (a0 : Int) (a1 : Int) (r : ByteArray) (w : World) (h : impl_digits.f k a0 a1 = some r) :
  Calls Tryd.prog 42 #[.int .i64 a0,.int .i64 a1] w fun e w' => e = .returned (.string r) ∧ Below w.heap.size w w' := by
 have HB := Aside0.mk (Below.refl w.heap.size w)
 have H : (impl_digits.l0 k a0 (([] : List Int)) (wrap64 (a1 - 1))) = some r := h
 clear h
 obtain ⟨y297,hy297⟩ : ∃ y_ : List Int,y_ = (([] : List Int)) := ⟨_,rfl⟩
 replace H : (impl_digits.l0 k a0 y297 (wrap64 (a1 - 1))) = some r := by first | (rw [hy297]; with_reducible exact H) | (have H2_ := (Option.bind_some _ _).symm.trans H; rw [hy297]; with_reducible exact H2_) | (have H2_ := (Option.bind_some _ _).symm.trans H; with_reducible exact H2_) | with_reducible exact H | (rw [hy297]; exact H) | exact H
 have Ny297 := Aside0.mk hy297
 clear hy297
 have H' := Aside0.mk H
 clear H
 go_enter Tryd.func42,Tryd.ntmps42
 go_wp2_with (first | ((with_reducible refine gate_dst (N := 7) rfl ?_); refine Kd.R_lit (Kd.int .u8) _ 5 ?hg (N := 7) ?hd (xs := ([] : List Int)) (inner := []) (ok := fun _ => True) (okp := fun _ => True) ?hr ?hp (fun _ hk => hk) trivial (Below.refl _ _) (Nat.le_refl _) (by simp) ?_; (case hd => rfl); (case hg => rfl); (case hr => first | (go_simp; done) | (go_simp; rfl)); (case hp => exact (Reps.none _ _)); intro v298 w3 ho4 hb hg_ hnew_; clear hg_ hnew_; (first | rw [← Ny297.out] at ho4 | (simp only [Int.reduceToNat] at ho4; rw [← Ny297.out] at ho4)); have n0_ := Aside0.mk (Kd.R_lower ho4 (below_size b11_0)); have n1_ := Aside0.mk (below_step b11_0 hb); clear HB; have HO299 := n0_; have HB := n1_; clear n0_ n1_; clear hb ho4))
 go_loopg [5,6] k (fun kq v5 v6 w' => ∃ (x5_1 : List Int) (x6_1 : Int),v6 = .int .i64 x6_1 ∧ Aside0 (impl_digits.l0 kq a0 x5_1 x6_1 = some r) ∧ Aside0 (kq ≤ k) ∧ Aside0 (Kd.R (Kd.int .u8) 5 w' w.heap.size (fun _ => True) v5 x5_1) ∧ Aside0 (Below w.heap.size w w'))
 case atStart => exact ⟨(y297),(wrap64 (a1 - 1)),b11_6,H',⟨Nat.le_refl _⟩,⟨by (with_reducible repeat (first | apply Kd.R_alloc | apply Kd.R_drewN | apply Kd.R_drew)); exact HO299.out⟩,⟨b11_0⟩⟩
 case round =>
  clear H'
  (try clear p2);(try clear c4)
  obtain ⟨x5_1,x6_1,rfl,HA,HK1,HO_5,HB⟩ := hrel
  cases gk with
  | zero => exact absurd HA.out (by simp [impl_digits.l0])
  | succ k1 =>
   have H := HA.out
   clear HA
   simp only [impl_digits.l0] at H
   by_cases c5 : x6_1 ≥ 0
   ·rw [if_pos c5] at H
    have c5b0 : decide (0 ≤ x6_1) = true := decide_eq_true c5
    clear c5
    by_cases c6 : 0 ≤ x6_1
    ·rw [if_pos c6] at H
     have c6b0 := eq_true c6
     have c6b1 : decide (0 ≤ x6_1) = true := decide_eq_true c6
     clear c6
     obtain ⟨ji7,hji7⟩ : ∃ j_ : Int,(shr .i64 a0 x6_1) = j_ := ⟨_,rfl⟩
     replace H : (if x5_1.length < 140737488355328 then (impl_digits.l0 k1 a0 (x5_1 ++ [(48 + (Go.bits .and .i64 (ji7) 1)) % 256]) (wrap64 (x6_1 - 1))) else (none)) = some r := by first | (rw [hji7] at H; exact H) | (simp only [hji7] at H ⊢; exact H)
     have hji7_ : (a0 / 2 ^ min x6_1.toNat 64) = ji7 := hji7
     have hji7z : x6_1 ≤ 64 → (a0 / 2 ^ x6_1.toNat) = ji7 := shr_small hji7
     by_cases c8 : x5_1.length < 140737488355328
     ·rw [if_pos c8] at H
      have LMc8 := Aside0.mk c8
      clear c8
      obtain ⟨y300,hy300⟩ : ∃ y_ : List Int,y_ = (x5_1 ++ [(48 + (Go.bits .and .i64 (ji7) 1)) % 256]) := ⟨_,rfl⟩
      replace H : (impl_digits.l0 k1 a0 y300 (wrap64 (x6_1 - 1))) = some r := by first | (rw [hy300]; with_reducible exact H) | (have H2_ := (Option.bind_some _ _).symm.trans H; rw [hy300]; with_reducible exact H2_) | (have H2_ := (Option.bind_some _ _).symm.trans H; with_reducible exact H2_) | with_reducible exact H | (rw [hy300]; exact H) | exact H
      have Ny300 := Aside0.mk hy300
      clear hy300
      have H' := Aside0.mk H
      clear H
      go_wp2_with (first | ((with_reducible refine gate_builtin (b := .append) (xs := #[.tmp 14,.tmp 21]) rfl ?_); at_builtin; refine Kd.R_append (Kd.int .u8) (w0 := w) w.heap.size rfl (.tmp 14) (.tmp 21) 22 5 (.int .u8 0) 1 rfl Tryd.underlying22 info5 rfl (by decide) (by omega) u5 x5_1 ((48 + (Go.bits .and .i64 (ji7) 1)) % 256) [.int .u8 ((48 + (Go.bits .and .i64 (ji7) 1)) % 256)] (fun _ => True) (fun _ => False) rfl rfl ?aP (fun _ hk => hk.elim) ?aF ?aO ?aB ?aS ?aL ?_; (case aP => exact rfl); (case aB => exact b11_0); (case aF => exact (fun _ _ => trivial)); (case aO => exact (by (with_reducible repeat (first | apply Kd.R_alloc | apply Kd.R_drewN | apply Kd.R_drew)); exact HO_5.out)); (case aS => exact (below_size b11_0)); (case aL => have := LMc8.out; omega); intro v301 w9 ho hb hg hat; rw [← Ny300.out] at ho; have n0_ := Aside0.mk (hb); have n1_ := Aside0.mk (ho); clear HB; clear HO_5; have HB := n0_; have HO302 := n1_; clear n0_ n1_; clear ho hb hg hat))
      go_roundg k1
      case measure => have := HK1.out; omega
      case rel => exact ⟨(y300),(wrap64 (x6_1 - 1)),b11_6,H',⟨by have := HK1.out; omega⟩,⟨by (with_reducible repeat (first | apply Kd.R_alloc | apply Kd.R_drewN | apply Kd.R_drew)); exact HO302.out⟩,⟨b11_0⟩⟩
     ·rw [if_neg c8] at H
      exact absurd H (by simp)
    ·rw [if_neg c6] at H
     exact absurd H (by simp)
   ·rw [if_neg c5] at H
    have c5b0 : decide (0 ≤ x6_1) = false := decide_eq_false c5
    clear c5
    obtain rfl := Option.some.inj H
    have hcv10 := own_string (P := Tryd.prog) Tryd.underlying22 Tryd.underlying5 Tryd.underlying9 (Kd.own_of_R HO_5.out)
    go_wp2
    go_ret
    exact ⟨b11_9,b11_0⟩

/-! ### impl_CommasOf: function 18 -/
mutual
def impl_CommasOf.j0 : Nat → Int → Bool → Int → Int → List ByteArray → List ByteArray → Option (List ByteArray × Bool)
 | 0,_,_,_,_,_,_ => none
 | k + 1,x1,x21,x304000,x304001,x304002,x304003 => if x21 = true then (some (([] : List ByteArray),false)) else ((impl_BlockCode_parts.f k x304000 x304001 x304002 x304003 x1).bind fun t306 => (if 0 ≤ x1 then (impl_CommasOf.l0 k t306 x1 (([] : List ByteArray)) (shl .i64 1 x1) 0) else (none)))
def impl_CommasOf.l0 : Nat → List (List UInt8) → Int → List ByteArray → Int → Int → Option (List ByteArray × Bool)
 | 0,_,_,_,_,_ => none
 | k + 1,t306,x1,x7,x27,x28 => if x28 < x27 then ((impl_digits.f k x28 x1).bind fun t310 => (if t310.size ≤ 1048576 then (if (t310.data.toList ∈ t306) then (impl_CommasOf.l0 k t306 x1 x7 x27 (wrap64 (x28 + 1))) else (if x7.length < 8796093022208 then (impl_CommasOf.l0 k t306 x1 (x7 ++ [t310]) x27 (wrap64 (x28 + 1))) else (none))) else none)) else (some (x7,true))
end
def impl_CommasOf.f (k : Nat) (a0_0 : Int) (a0_1 : Int) (l0_2 : List ByteArray) (l0_3 : List ByteArray) (a1 : Int) : Option (List ByteArray × Bool) := (impl_ValidBlockCode.f k a0_0 a0_1 l0_2 l0_3).bind fun t304 => (if t304 = true then ((impl_within.f a1 1 (mn 8 (wrap64 (a0_1 + 1)))).bind fun t305 => (impl_CommasOf.j0 k a1 (!t305) a0_0 a0_1 l0_2 l0_3)) else (impl_CommasOf.j0 k a1 true a0_0 a0_1 l0_2 l0_3))
set_option maxHeartbeats 8000000 in
set_option maxRecDepth 100000 in
theorem impl_CommasOf.calls (k : Nat) (a0_0 : Int) (a0_1 : Int) (A0_2 : Option Addr) (c0_2 : Nat) (l0_2 : List ByteArray) (A0_3 : Option Addr) (c0_3 : Nat) (l0_3 : List ByteArray) (a1 : Int) (r1 : List ByteArray) (r2 : Bool) (w : World) (hr0_2 : Kd.C Kd.string w A0_2 l0_2.length l0_2) (hc0_2 : l0_2.length ≤ c0_2) (hr0_3 : Kd.C Kd.string w A0_3 l0_3.length l0_3) (hc0_3 : l0_3.length ≤ c0_3) (h : impl_CommasOf.f k a0_0 a0_1 l0_2 l0_3 a1 = some (r1,r2)) :
  Calls Tryd.prog 18 #[.agg #[.int .i64 a0_0,.int .i64 a0_1,.slice A0_2 l0_2.length c0_2,.slice A0_3 l0_3.length c0_3],.int .i64 a1] w fun e w' => ∃ v0_ : Value,e = .returned (.tuple #[v0_,.bool r2]) ∧ Kd.R Kd.string 9 w' w.heap.size (fun _ => True) v0_ r1 ∧ Below w.heap.size w w' := by
 have hu26 := Tryd.underlying26
 have HR0_2 := Aside0.mk hr0_2
 have HC0_2 := Aside0.mk hc0_2
 clear hr0_2 hc0_2
 have HR0_3 := Aside0.mk hr0_3
 have HC0_3 := Aside0.mk hc0_3
 clear hr0_3 hc0_3
 have HB := Aside0.mk (Below.refl w.heap.size w)
 have H : ((impl_ValidBlockCode.f k a0_0 a0_1 l0_2 l0_3).bind fun t304 => (if t304 = true then ((impl_within.f a1 1 (mn 8 (wrap64 (a0_1 + 1)))).bind fun t305 => (impl_CommasOf.j0 k a1 (!t305) a0_0 a0_1 l0_2 l0_3)) else (impl_CommasOf.j0 k a1 true a0_0 a0_1 l0_2 l0_3))) = some (r1,r2) := h
 clear h
 have HC3 := Aside0.mk H
 clear H
 have hu69 := Tryd.underlying74
 go_enter Tryd.func18,Tryd.ntmps18
 go_upto_region 1 with (first | ((with_reducible refine gate_dst (N := 2) rfl ?_); (try (refine gate_guard (by rfl) ?_; dsimp only)); refine box_event ?hg (N := 2) ?hd (cs := #[.int .i64 a0_0,.int .i64 a0_1,.slice A0_2 l0_2.length c0_2,.slice A0_3 l0_3.length c0_3]) (t := 26) ?hr ?_; (case hd => rfl); (case hg => rfl); (case hr => first | (go_simp; done) | (go_simp; rfl)); intro gb303 hg w4 hbox hb; have n0_ := Aside0.mk (below_step b11_0 hb); have n1_ := Aside0.mk (hbox); have n2_ := Aside0.mk ((by rw [hg]; exact (below_size b11_0) : w.heap.size ≤ gb303)); have n3_ := Aside0.mk ((by rw [hg]; exact (below_size b11_0) : w.heap.size ≤ gb303)); clear HB; have HB := n0_; have BK303 := n1_; have GW303 := n2_; have GE303 := n3_; clear n0_ n1_ n2_ n3_; clear hb hbox hg))
 (try simp only [Act.put,List.setIfInBounds_toArray,List.set_cons_zero,List.set_cons_succ])
 go_cut [21] (fun v21 wc => ∃ (kq : Nat) (x21_2 : Bool),v21 = .bool x21_2 ∧ Aside0 (impl_CommasOf.j0 kq a1 x21_2 a0_0 a0_1 l0_2 l0_3 = some (r1,r2)) ∧ Aside0 (kq ≤ k) ∧ Aside0 (wc.heap[gb303]? = some (.cells #[.int .i64 a0_0,.int .i64 a0_1,(.slice A0_2 l0_2.length c0_2),(.slice A0_3 l0_3.length c0_3)] 26 (0,0))) ∧ Aside0 (Below w.heap.size w wc))
 case first =>
  have H := HC3.out
  clear HC3
  replace H := Option.bind_eq_some_iff.mp H
  obtain ⟨t304,A50,H⟩ := H
  replace H : (if t304 = true then ((impl_within.f a1 1 (mn 8 (wrap64 (a0_1 + 1)))).bind fun t305 => (impl_CommasOf.j0 k a1 (!t305) a0_0 a0_1 l0_2 l0_3)) else (impl_CommasOf.j0 k a1 true a0_0 a0_1 l0_2 l0_3)) = some (r1,r2) := H
  have A5 := Aside0.mk A50
  clear A50
  by_cases c6 : t304 = true
  ·subst c6
   have H1 : ((impl_within.f a1 1 (mn 8 (wrap64 (a0_1 + 1)))).bind fun t305 => (impl_CommasOf.j0 k a1 (!t305) a0_0 a0_1 l0_2 l0_3)) = some (r1,r2) := by rw [if_pos rfl] at H; exact H
   clear H
   have H := H1
   clear H1
   obtain ⟨ji7,hji7⟩ : ∃ j_ : Int,(mn 8 (wrap64 (a0_1 + 1))) = j_ := ⟨_,rfl⟩
   replace H : ((impl_within.f a1 1 (ji7)).bind fun t305 => (impl_CommasOf.j0 k a1 (!t305) a0_0 a0_1 l0_2 l0_3)) = some (r1,r2) := by first | (rw [hji7] at H; exact H) | (simp only [hji7] at H ⊢; exact H)
   (try rw [hji7] at A5)
   (try (have hji7h : ji7 ≤ 8 := by (rw [← hji7]; unfold mn; (repeat' split) <;> omega)))
   (try (have hji7g : ji7 ≤ 64 := by omega))
   have hji7_ : (if (wrap64 (a0_1 + 1)) < 8 then (wrap64 (a0_1 + 1)) else 8) = ji7 := hji7
   replace H := Option.bind_eq_some_iff.mp H
   obtain ⟨t305,A80,H⟩ := H
   replace H : (impl_CommasOf.j0 k a1 (!t305) a0_0 a0_1 l0_2 l0_3) = some (r1,r2) := H
   have A8 := Aside0.mk A80
   clear A80
   have H' := Aside0.mk H
   clear H
   have hcz9_0 : w4.cell? ⟨gb303,0,none⟩ = some (.int .i64 a0_0) := (blk_cell BK303.out 0).trans rfl
   have hcz9_1 : w4.cell? ⟨gb303,1,none⟩ = some (.int .i64 a0_1) := (blk_cell BK303.out 1).trans rfl
   have hcz9_2 : w4.cell? ⟨gb303,2,none⟩ = some (.slice A0_2 l0_2.length c0_2) := (blk_cell BK303.out 2).trans rfl
   have hcz9_3 : w4.cell? ⟨gb303,3,none⟩ = some (.slice A0_3 l0_3.length c0_3) := (blk_cell BK303.out 3).trans rfl
   have hfz9_0 := blk_frozen BK303.out 0
   have hfz9_1 := blk_frozen BK303.out 1
   have hfz9_2 := blk_frozen BK303.out 2
   have hfz9_3 := blk_frozen BK303.out 3
   go_wp2_with (first | ((with_reducible refine gate_callee (f := 15) rfl ?_); refine goesL_ (some 11) rfl rfl Tryd.func15 (by kernel_rfl) rfl #[.agg #[.int .i64 a0_0,.int .i64 a0_1,.slice A0_2 l0_2.length c0_2,.slice A0_3 l0_3.length c0_3]] rfl b11_7 ?_; (with_reducible refine (impl_ValidBlockCode.calls k a0_0 a0_1 _ _ l0_2 _ _ l0_3 true _ ?side1 ?side2 ?side3 ?side4 A5.out).mono ?_); (case side1 => repeat (first | exact (Kd.C_below HR0_2.out HB.out) | (with_reducible refine Kd.C_alloc ?_ _) | (with_reducible refine Kd.C_drewN ?_ _) | (with_reducible refine Kd.C_drew ?_))); (case side2 => exact HC0_2.out); (case side3 => repeat (first | exact (Kd.C_below HR0_3.out HB.out) | (with_reducible refine Kd.C_alloc ?_ _) | (with_reducible refine Kd.C_drewN ?_ _) | (with_reducible refine Kd.C_drew ?_))); (case side4 => exact HC0_3.out); rintro e w10 ⟨rfl,hb⟩; refine ⟨_,rfl,?_⟩; have n0_ := Aside0.mk (blk_below (g := gb303) (o := .cells #[.int .i64 a0_0,.int .i64 a0_1,.slice A0_2 l0_2.length c0_2,.slice A0_3 l0_3.length c0_3] 26 (0,0)) b11_2 hb); have n1_ := Aside0.mk (below_step b11_1 hb); clear BK303; clear HB; have BK303 := n0_; have HB := n1_; clear n0_ n1_; (try clear hb); (try clear hb2); (try clear hk); (try clear hi); have hcz11_0 : w10.cell? ⟨gb303,0,none⟩ = some (.int .i64 a0_0) := (blk_cell BK303.out 0).trans rfl; have hcz11_1 : w10.cell? ⟨gb303,1,none⟩ = some (.int .i64 a0_1) := (blk_cell BK303.out 1).trans rfl; have hcz11_2 : w10.cell? ⟨gb303,2,none⟩ = some (.slice A0_2 l0_2.length c0_2) := (blk_cell BK303.out 2).trans rfl; have hcz11_3 : w10.cell? ⟨gb303,3,none⟩ = some (.slice A0_3 l0_3.length c0_3) := (blk_cell BK303.out 3).trans rfl; have hfz11_0 := blk_frozen BK303.out 0; have hfz11_1 := blk_frozen BK303.out 1; have hfz11_2 := blk_frozen BK303.out 2; have hfz11_3 := blk_frozen BK303.out 3) | (go_at_call 40; (with_reducible refine (impl_within.calls a1 1 ji7 t305 _ A8.out).mono ?_); rintro e w' ⟨rfl,⟨nd,rfl⟩⟩))
   go_meet
   case rel => exact ⟨_,(!t305),b11_6,H',⟨by first | omega | exact Nat.le_refl _⟩,⟨b11_2⟩,⟨b11_1⟩⟩
  ·replace c6 := Bool.eq_false_iff.mpr c6
   subst c6
   have H1 : (impl_CommasOf.j0 k a1 true a0_0 a0_1 l0_2 l0_3) = some (r1,r2) := by rw [if_neg (show ¬ (false = true) by decide)] at H; exact H
   clear H
   have H := H1
   clear H1
   have H' := Aside0.mk H
   clear H
   have hcz12_0 : w4.cell? ⟨gb303,0,none⟩ = some (.int .i64 a0_0) := (blk_cell BK303.out 0).trans rfl
   have hcz12_1 : w4.cell? ⟨gb303,1,none⟩ = some (.int .i64 a0_1) := (blk_cell BK303.out 1).trans rfl
   have hcz12_2 : w4.cell? ⟨gb303,2,none⟩ = some (.slice A0_2 l0_2.length c0_2) := (blk_cell BK303.out 2).trans rfl
   have hcz12_3 : w4.cell? ⟨gb303,3,none⟩ = some (.slice A0_3 l0_3.length c0_3) := (blk_cell BK303.out 3).trans rfl
   have hfz12_0 := blk_frozen BK303.out 0
   have hfz12_1 := blk_frozen BK303.out 1
   have hfz12_2 := blk_frozen BK303.out 2
   have hfz12_3 := blk_frozen BK303.out 3
   go_wp2_with (first | ((with_reducible refine gate_callee (f := 15) rfl ?_); refine goesL_ (some 11) rfl rfl Tryd.func15 (by kernel_rfl) rfl #[.agg #[.int .i64 a0_0,.int .i64 a0_1,.slice A0_2 l0_2.length c0_2,.slice A0_3 l0_3.length c0_3]] rfl b11_7 ?_; (with_reducible refine (impl_ValidBlockCode.calls k a0_0 a0_1 _ _ l0_2 _ _ l0_3 false _ ?side1 ?side2 ?side3 ?side4 A5.out).mono ?_); (case side1 => repeat (first | exact (Kd.C_below HR0_2.out HB.out) | (with_reducible refine Kd.C_alloc ?_ _) | (with_reducible refine Kd.C_drewN ?_ _) | (with_reducible refine Kd.C_drew ?_))); (case side2 => exact HC0_2.out); (case side3 => repeat (first | exact (Kd.C_below HR0_3.out HB.out) | (with_reducible refine Kd.C_alloc ?_ _) | (with_reducible refine Kd.C_drewN ?_ _) | (with_reducible refine Kd.C_drew ?_))); (case side4 => exact HC0_3.out); rintro e w13 ⟨rfl,hb⟩; refine ⟨_,rfl,?_⟩; have n0_ := Aside0.mk (blk_below (g := gb303) (o := .cells #[.int .i64 a0_0,.int .i64 a0_1,.slice A0_2 l0_2.length c0_2,.slice A0_3 l0_3.length c0_3] 26 (0,0)) b11_2 hb); have n1_ := Aside0.mk (below_step b11_1 hb); clear BK303; clear HB; have BK303 := n0_; have HB := n1_; clear n0_ n1_; (try clear hb); (try clear hb2); (try clear hk); (try clear hi)))
   go_meet
   case rel => exact ⟨_,(true),b11_6,H',⟨by first | omega | exact Nat.le_refl _⟩,⟨b11_2⟩,⟨b11_1⟩⟩
 case rest =>
  clear HC3
  (try clear c1);(try clear p2);(try clear c6);(try clear p6);(try clear hcz11_0);(try clear hcz11_1);(try clear hcz11_2);(try clear hcz11_3);(try clear hcz12_0);(try clear hcz12_1);(try clear hcz12_2);(try clear hcz12_3);(try clear hcz9_0);(try clear hcz9_1);(try clear hcz9_2);(try clear hcz9_3);(try clear hfz11_0);(try clear hfz11_1);(try clear hfz11_2);(try clear hfz11_3);(try clear hfz12_0);(try clear hfz12_1);(try clear hfz12_2);(try clear hfz12_3);(try clear hfz9_0);(try clear hfz9_1);(try clear hfz9_2);(try clear hfz9_3)
  obtain ⟨kq,x21_2,rfl,HA,HJ2,BK303,HB⟩ := hcut
  cases kq with
  | zero => exact absurd HA.out (by simp [impl_CommasOf.j0])
  | succ kj2 =>
   have H := HA.out
   clear HA
   simp only [impl_CommasOf.j0] at H
   by_cases c14 : x21_2 = true
   ·subst c14
    have H1 : (some (([] : List ByteArray),false)) = some (r1,r2) := by rw [if_pos rfl] at H; exact H
    clear H
    have H := H1
    clear H1
    simp only [Option.some.injEq,Prod.mk.injEq] at H
    obtain ⟨rfl,rfl⟩ := H
    go_wp2
    go_ret2
    exact ⟨_,b11_9,by first | exact Kd.R_nil _ _ _ _ _ | exact Kd.N_nil _ _ _ _ _ | exact Kd.V_nil _ _ _ _ _ | exact Kd.Q_nil _ _ _ _ _ | exact Kd.S_nil _ _ _ _ _,b11_1⟩
   ·replace c14 := Bool.eq_false_iff.mpr c14
    subst c14
    have H1 : ((impl_BlockCode_parts.f kj2 a0_0 a0_1 l0_2 l0_3 a1).bind fun t306 => (if 0 ≤ a1 then (impl_CommasOf.l0 kj2 t306 a1 (([] : List ByteArray)) (shl .i64 1 a1) 0) else (none))) = some (r1,r2) := by rw [if_neg (show ¬ (false = true) by decide)] at H; exact H
    clear H
    have H := H1
    clear H1
    replace H := Option.bind_eq_some_iff.mp H
    obtain ⟨t306,A150,H⟩ := H
    replace H : (if 0 ≤ a1 then (impl_CommasOf.l0 kj2 t306 a1 (([] : List ByteArray)) (shl .i64 1 a1) 0) else (none)) = some (r1,r2) := H
    have A15 := Aside0.mk A150
    clear A150
    obtain ⟨y307,hy307⟩ : ∃ y_ : List ByteArray,y_ = (([] : List ByteArray)) := ⟨_,rfl⟩
    replace H : (if 0 ≤ a1 then (impl_CommasOf.l0 kj2 t306 a1 y307 (shl .i64 1 a1) 0) else (none)) = some (r1,r2) := by first | (rw [hy307]; with_reducible exact H) | (have H2_ := (Option.bind_some _ _).symm.trans H; rw [hy307]; with_reducible exact H2_) | (have H2_ := (Option.bind_some _ _).symm.trans H; with_reducible exact H2_) | with_reducible exact H | (rw [hy307]; exact H) | exact H
    have Ny307 := Aside0.mk hy307
    clear hy307
    by_cases c16 : 0 ≤ a1
    ·rw [if_pos c16] at H
     have c16b0 := eq_true c16
     have c16b1 : decide (0 ≤ a1) = true := decide_eq_true c16
     clear c16
     obtain ⟨ji17,hji17⟩ : ∃ j_ : Int,(shl .i64 1 a1) = j_ := ⟨_,rfl⟩
     replace H : (impl_CommasOf.l0 kj2 t306 a1 y307 ji17 0) = some (r1,r2) := by first | (rw [hji17] at H; exact H) | (simp only [hji17] at H ⊢; exact H)
     (try rw [hji17] at A15)
     have hji17_ : (IntKind.i64.wrap (1 * 2 ^ min a1.toNat 64)) = ji17 := hji17
     have hji17z : a1 ≤ 64 → (IntKind.i64.wrap (1 * 2 ^ a1.toNat)) = ji17 := shl_small hji17
     have hji17u : (IntKind.i64.wrap (2 ^ min a1.toNat 64)) = ji17 := by have h_ := hji17_; rw [Int.one_mul] at h_; exact h_
     have hji17v : a1 ≤ 64 → (IntKind.i64.wrap (2 ^ a1.toNat)) = ji17 := fun hle_ => by have h_ := hji17z hle_; rw [Int.one_mul] at h_; exact h_
     have hji17y : (wrap64 (1 * 2 ^ min a1.toNat 64)) = ji17 := (i64_w _).symm.trans hji17_
     have hji17x : a1 ≤ 64 → (wrap64 (1 * 2 ^ a1.toNat)) = ji17 := fun h_ => (i64_w _).symm.trans (hji17z h_)
     have H' := Aside0.mk H
     clear H
     have hcz18_0 : wc.cell? ⟨gb303,0,none⟩ = some (.int .i64 a0_0) := (blk_cell BK303.out 0).trans rfl
     have hcz18_1 : wc.cell? ⟨gb303,1,none⟩ = some (.int .i64 a0_1) := (blk_cell BK303.out 1).trans rfl
     have hcz18_2 : wc.cell? ⟨gb303,2,none⟩ = some (.slice A0_2 l0_2.length c0_2) := (blk_cell BK303.out 2).trans rfl
     have hcz18_3 : wc.cell? ⟨gb303,3,none⟩ = some (.slice A0_3 l0_3.length c0_3) := (blk_cell BK303.out 3).trans rfl
     have hfz18_0 := blk_frozen BK303.out 0
     have hfz18_1 := blk_frozen BK303.out 1
     have hfz18_2 := blk_frozen BK303.out 2
     have hfz18_3 := blk_frozen BK303.out 3
     go_wp2_with (first | ((with_reducible refine gate_callee (f := 41) rfl ?_); refine goesL_ (some 24) rfl rfl Tryd.func41 (by kernel_rfl) rfl #[.agg #[.int .i64 a0_0,.int .i64 a0_1,.slice A0_2 l0_2.length c0_2,.slice A0_3 l0_3.length c0_3],.int .i64 a1] rfl b11_7 ?_; (with_reducible refine (impl_BlockCode_parts.calls kj2 a0_0 a0_1 _ _ l0_2 _ _ l0_3 a1 t306 _ ?side1 ?side2 ?side3 ?side4 A15.out).mono ?_); (case side1 => repeat (first | exact (Kd.C_below HR0_2.out HB.out) | (with_reducible refine Kd.C_alloc ?_ _) | (with_reducible refine Kd.C_drewN ?_ _) | (with_reducible refine Kd.C_drew ?_))); (case side2 => exact HC0_2.out); (case side3 => repeat (first | exact (Kd.C_below HR0_3.out HB.out) | (with_reducible refine Kd.C_alloc ?_ _) | (with_reducible refine Kd.C_drewN ?_ _) | (with_reducible refine Kd.C_drew ?_))); (case side4 => exact HC0_3.out); rintro e w19 ⟨⟨mb,rfl,hs⟩,hb⟩; refine ⟨_,rfl,?_⟩; have HS := Aside0.mk hs; clear hs; have n0_ := Aside0.mk (blk_below (g := gb303) (o := .cells #[.int .i64 a0_0,.int .i64 a0_1,.slice A0_2 l0_2.length c0_2,.slice A0_3 l0_3.length c0_3] 26 (0,0)) b11_2 hb); have n1_ := Aside0.mk (below_step b11_1 hb); clear BK303; clear HB; have BK303 := n0_; have HB := n1_; clear n0_ n1_; (try clear hb); (try clear hb2); (try clear hk); (try clear hi)) | ((with_reducible refine gate_dst (N := 25) rfl ?_); (try (refine gate_guard (by rfl) ?_; dsimp only)); refine Kd.R_lit Kd.string _ 9 ?hg (N := 25) ?hd (xs := ([] : List ByteArray)) (inner := []) (ok := fun _ => True) (okp := fun _ => True) ?hr ?hp (fun _ hk => hk) trivial (Below.refl _ _) (Nat.le_refl _) (by simp) ?_; (case hd => rfl); (case hg => rfl); (case hr => first | (go_simp; done) | (go_simp; rfl)); (case hp => exact (Reps.none _ _)); intro v308 w20 ho21 hb hg_ hnew_; clear hg_ hnew_; (first | rw [← Ny307.out] at ho21 | (simp only [Int.reduceToNat] at ho21; rw [← Ny307.out] at ho21)); have n0_ := Aside0.mk (Kd.R_lower (Kd.R_mono (Kd.R_bound ho21) (fun k hk => (fun e => by have := HS.out.lt; have := hk.2.1; omega : k ≠ mb))) (below_size b11_1)); have n1_ := Aside0.mk (blk_below (g := gb303) (o := .cells #[.int .i64 a0_0,.int .i64 a0_1,.slice A0_2 l0_2.length c0_2,.slice A0_3 l0_3.length c0_3] 26 (0,0)) b11_2 hb); have n2_ := Aside0.mk (below_step b11_1 hb); clear BK303; clear HB; have HO309 := n0_; have BK303 := n1_; have HB := n2_; have n3_ := Aside0.mk (MSet.SetIs.below b11_4 hb); clear HS; have HS := n3_; clear n3_; clear n0_ n1_ n2_; clear hb ho21))
     go_loopg [7,28] kj2 (fun kq v7 v28 w' => ∃ (x7_2 : List ByteArray) (x28_2 : Int),v28 = .int .i64 x28_2 ∧ Aside0 (impl_CommasOf.l0 kq t306 a1 x7_2 ji17 x28_2 = some (r1,r2)) ∧ Aside0 (kq ≤ kj2) ∧ Aside0 (Kd.R Kd.string 9 w' w.heap.size (fun k => k ≠ mb) v7 x7_2) ∧ Aside0 (MSet.SetIs w' Tryd.prog 9 4 mb t306.length (impl_BlockCode_parts.inS t306)) ∧ Aside0 (w'.heap[gb303]? = some (.cells #[.int .i64 a0_0,.int .i64 a0_1,(.slice A0_2 l0_2.length c0_2),(.slice A0_3 l0_3.length c0_3)] 26 (0,0))) ∧ Aside0 (Below w.heap.size w w'))
     case atStart => exact ⟨(y307),(0),b11_6,H',⟨Nat.le_refl _⟩,⟨by (with_reducible repeat (first | apply Kd.R_alloc | apply Kd.R_drewN | apply Kd.R_drew)); exact HO309.out⟩,⟨b11_4⟩,⟨b11_2⟩,⟨b11_1⟩⟩
     case round =>
      clear H' HS
      (try clear c1);(try clear p2);(try clear c4);(try clear c6);(try clear p6);(try clear c14);(try clear c15);(try clear c16);(try clear c16b0);(try clear c16b1);(try clear c18);(try clear hcz11_0);(try clear hcz11_1);(try clear hcz11_2);(try clear hcz11_3);(try clear hcz12_0);(try clear hcz12_1);(try clear hcz12_2);(try clear hcz12_3);(try clear hcz18_0);(try clear hcz18_1);(try clear hcz18_2);(try clear hcz18_3);(try clear hcz9_0);(try clear hcz9_1);(try clear hcz9_2);(try clear hcz9_3);(try clear hfz11_0);(try clear hfz11_1);(try clear hfz11_2);(try clear hfz11_3);(try clear hfz12_0);(try clear hfz12_1);(try clear hfz12_2);(try clear hfz12_3);(try clear hfz18_0);(try clear hfz18_1);(try clear hfz18_2);(try clear hfz18_3);(try clear hfz9_0);(try clear hfz9_1);(try clear hfz9_2);(try clear hfz9_3);(try clear p2);(try clear p6)
      obtain ⟨x7_2,x28_2,rfl,HA,HK2,HO_7,HS,BK303,HB⟩ := hrel
      cases gk with
      | zero => exact absurd HA.out (by simp [impl_CommasOf.l0])
      | succ k2 =>
       have H := HA.out
       clear HA
       simp only [impl_CommasOf.l0] at H
       by_cases c22 : x28_2 < ji17
       ·rw [if_pos c22] at H
        have c22b0 : decide (x28_2 < ji17) = true := decide_eq_true c22
        clear c22
        replace H := Option.bind_eq_some_iff.mp H
        obtain ⟨t310,A230,H⟩ := H
        replace H : (if t310.size ≤ 1048576 then (if (t310.data.toList ∈ t306) then (impl_CommasOf.l0 k2 t306 a1 x7_2 ji17 (wrap64 (x28_2 + 1))) else (if x7_2.length < 8796093022208 then (impl_CommasOf.l0 k2 t306 a1 (x7_2 ++ [t310]) ji17 (wrap64 (x28_2 + 1))) else (none))) else none) = some (r1,r2) := H
        have A23 := Aside0.mk A230
        clear A230
        have cz : t310.size ≤ 1048576 := by
         by_cases cz : t310.size ≤ 1048576
         ·exact cz
         ·rw [if_neg cz] at H; cases H
        rw [if_pos cz] at H
        have SZ := Aside0.mk (show t310.size ≤ maxLen by unfold maxLen; omega)
        clear cz
        by_cases c24 : (t310.data.toList ∈ t306)
        ·rw [if_pos c24] at H
         have hseen : impl_BlockCode_parts.inS t306 (.string t310) = true := decide_eq_true c24
         clear c24
         have H' := Aside0.mk H
         clear H
         go_wp2_with (first | ((with_reducible refine gate_dst (N := 36) rfl ?_); refine MSet.wpList_seen _ rfl (.tmp 34) (.tmp 35) 74 rfl 9 4 (Maps.string_keyed Tryd.underlying9) hu69 Tryd.underlying4 (Tryd.zeroValue4 _) mb t306.length (impl_BlockCode_parts.inS t306) rfl HS.out (.string t310) (.string t310.data.toList) rfl (WideMaps.keyOf_string_mk Tryd.underlying9 SZ.out) ?_; rw [hseen]) | ((with_reducible refine gate_callee (f := 42) rfl ?_); refine goesL_ (some 33) rfl rfl Tryd.func42 (by kernel_rfl) rfl #[.int .i64 x28_2,.int .i64 a1] rfl b11_7 ?_; (with_reducible refine (impl_digits.calls k2 x28_2 a1 t310 _ A23.out).mono ?_); rintro e w25 ⟨rfl,hb⟩; refine ⟨_,rfl,?_⟩; have n3_ := Aside0.mk (MSet.SetIs.below b11_4 hb); clear HS; have HS := n3_; clear n3_; have n0_ := Aside0.mk (Kd.R_below b11_8 hb); have n1_ := Aside0.mk (blk_below (g := gb303) (o := .cells #[.int .i64 a0_0,.int .i64 a0_1,.slice A0_2 l0_2.length c0_2,.slice A0_3 l0_3.length c0_3] 26 (0,0)) b11_2 hb); have n2_ := Aside0.mk (below_step b11_1 hb); clear HO_7; clear BK303; clear HB; have HO_7 := n0_; have BK303 := n1_; have HB := n2_; clear n0_ n1_ n2_; (try clear hb); (try clear hb2); (try clear hk); (try clear hi)))
         go_roundg k2
         case measure => have := HJ2.out; have := HK2.out; omega
         case rel => exact ⟨(x7_2),(wrap64 (x28_2 + 1)),b11_6,H',⟨by have := HJ2.out; have := HK2.out; omega⟩,⟨b11_8⟩,⟨b11_4⟩,⟨b11_2⟩,⟨b11_1⟩⟩
        ·rw [if_neg c24] at H
         have hseen : impl_BlockCode_parts.inS t306 (.string t310) = false := decide_eq_false c24
         by_cases c26 : x7_2.length < 8796093022208
         ·rw [if_pos c26] at H
          have LMc26 := Aside0.mk c26
          clear c26
          obtain ⟨y311,hy311⟩ : ∃ y_ : List ByteArray,y_ = (x7_2 ++ [t310]) := ⟨_,rfl⟩
          replace H : (impl_CommasOf.l0 k2 t306 a1 y311 ji17 (wrap64 (x28_2 + 1))) = some (r1,r2) := by first | (rw [hy311]; with_reducible exact H) | (have H2_ := (Option.bind_some _ _).symm.trans H; rw [hy311]; with_reducible exact H2_) | (have H2_ := (Option.bind_some _ _).symm.trans H; with_reducible exact H2_) | with_reducible exact H | (rw [hy311]; exact H) | exact H
          have Ny311 := Aside0.mk hy311
          clear hy311
          have H' := Aside0.mk H
          clear H
          go_wp2_with (first | ((with_reducible refine gate_dst (N := 36) rfl ?_); refine MSet.wpList_seen _ rfl (.tmp 34) (.tmp 35) 74 rfl 9 4 (Maps.string_keyed Tryd.underlying9) hu69 Tryd.underlying4 (Tryd.zeroValue4 _) mb t306.length (impl_BlockCode_parts.inS t306) rfl HS.out (.string t310) (.string t310.data.toList) rfl (WideMaps.keyOf_string_mk Tryd.underlying9 SZ.out) ?_; rw [hseen]) | ((with_reducible refine gate_callee (f := 42) rfl ?_); refine goesL_ (some 33) rfl rfl Tryd.func42 (by kernel_rfl) rfl #[.int .i64 x28_2,.int .i64 a1] rfl b11_7 ?_; (with_reducible refine (impl_digits.calls k2 x28_2 a1 t310 _ A23.out).mono ?_); rintro e w27 ⟨rfl,hb⟩; refine ⟨_,rfl,?_⟩; have n3_ := Aside0.mk (MSet.SetIs.below b11_4 hb); clear HS; have HS := n3_; clear n3_; have n0_ := Aside0.mk (Kd.R_below b11_8 hb); have n1_ := Aside0.mk (blk_below (g := gb303) (o := .cells #[.int .i64 a0_0,.int .i64 a0_1,.slice A0_2 l0_2.length c0_2,.slice A0_3 l0_3.length c0_3] 26 (0,0)) b11_2 hb); have n2_ := Aside0.mk (below_step b11_1 hb); clear HO_7; clear BK303; clear HB; have HO_7 := n0_; have BK303 := n1_; have HB := n2_; clear n0_ n1_ n2_; (try clear hb); (try clear hb2); (try clear hk); (try clear hi)) | ((with_reducible refine gate_builtin (b := .append) (xs := #[.tmp 38,.tmp 40]) rfl ?_); (try (refine gate_guard (by rfl) ?_; dsimp only)); at_builtin; refine Kd.R_append Kd.string (w0 := w) w.heap.size rfl (.tmp 38) (.tmp 40) 24 9 (.string ⟨#[]⟩) 16 rfl Tryd.underlying24 info9 rfl (by decide) (by omega) u7 x7_2 t310 [.string t310] (fun k => k ≠ mb) (fun _ => False) rfl rfl ?aP (fun _ hk => hk.elim) ?aF ?aO ?aB ?aS ?aL ?_; (case aP => exact rfl); (case aB => exact b11_1); (case aF => exact (fun k hk e => by have := HS.out.lt; omega)); (case aO => exact b11_8); (case aS => exact (below_size b11_1)); (case aL => have := LMc26.out; omega); intro v312 w28 ho hb hg hat; have n3_ := Aside0.mk (MSet.SetIs.kept b11_4 hg (Kd.R_away HO_7.out (fun k hk => hk))); clear HS; have HS := n3_; clear n3_; rw [← Ny311.out] at ho; have n0_ := Aside0.mk (blk_grown (g := gb303) (o := .cells #[.int .i64 a0_0,.int .i64 a0_1,.slice A0_2 l0_2.length c0_2,.slice A0_3 l0_3.length c0_3] 26 (0,0)) b11_2 hg (Kd.R_ne HO_7.out BK303.out (by decide))); have n1_ := Aside0.mk (hb); have n2_ := Aside0.mk (ho); clear BK303; clear HB; clear HO_7; have BK303 := n0_; have HB := n1_; have HO313 := n2_; clear n0_ n1_ n2_; clear ho hb hg hat))
          go_roundg k2
          case measure => have := HJ2.out; have := HK2.out; omega
          case rel => exact ⟨(y311),(wrap64 (x28_2 + 1)),b11_6,H',⟨by have := HJ2.out; have := HK2.out; omega⟩,⟨by (with_reducible repeat (first | apply Kd.R_alloc | apply Kd.R_drewN | apply Kd.R_drew)); exact HO313.out⟩,⟨b11_4⟩,⟨b11_2⟩,⟨b11_1⟩⟩
         ·rw [if_neg c26] at H
          exact absurd H (by simp)
       ·rw [if_neg c22] at H
        have c22b0 : decide (x28_2 < ji17) = false := decide_eq_false c22
        clear c22
        simp only [Option.some.injEq,Prod.mk.injEq] at H
        obtain ⟨rfl,rfl⟩ := H
        go_wp2
        go_ret2
        exact ⟨_,by first | rfl | (simp [errW_none,errW_some] <;> rfl) | (simp only [← hji17]; first | rfl | (simp [errW_none,errW_some] <;> rfl)) | (simp [*,errW_none,errW_some] <;> rfl),Kd.R_mono b11_8 (fun _ _ => trivial),b11_1⟩
    ·rw [if_neg c16] at H
     exact absurd H (by simp)

end Go.Proofs.YtegeaoiclepkkabDoor.QFnCommas
