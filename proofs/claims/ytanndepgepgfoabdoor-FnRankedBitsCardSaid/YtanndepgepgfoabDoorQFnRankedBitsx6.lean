/-
Each Go function that this text names answers as the Lean function beside it says, wherever that one answers; conditions: the arguments lie in memory as each theorem states it.
-/
import Derived.Test.YtanndepgepgfoabDoorQFnRankedBitsx0
import Derived.Test.YtanndepgepgfoabDoorQFnRankedBitsx1
import Derived.Test.YtanndepgepgfoabDoorQFnRankedBitsx2
import Derived.Test.YtanndepgepgfoabDoorQFnRankedBitsx5
namespace Go.Proofs.YtanndepgepgfoabDoor.QFnRankedBits
open Go.RowKit Go.Proofs.YtanndepgepgfoabDoorW.PrintWords Go.Proofs.YtanndepgepgfoabDoorW.PrintLast Go.Proofs.YtanndepgepgfoabDoorW.PrintMore
attribute [local go_sem] max2_int min2_int max_two min_two max_three min_three max_four min_four   -- for this text's walks alone
set_option linter.unusedVariables false
set_option linter.unusedSimpArgs false

/-! ### impl_BitsAt: function 28 -/
mutual
def impl_BitsAt.j0 : Nat → Int → Int → Int → Bool → List (List Int) → Option (ByteArray × Bool)
  | 0, _, _, _, _, _ => none
  | k + 1, x1, x2, x3, x33, x331000 => if x33 = true then (some ((⟨#[]⟩ : ByteArray), false)) else ((impl_Graph_counts.f k x331000 x2).bind fun t334 => (impl_BitsAt.l0 k x3 t334 (([] : List Int)) x1 (wrap64 (x2 - 1)) x331000))
def impl_BitsAt.l0 : Nat → Int → List (List Int) → List Int → Int → Int → List (List Int) → Option (ByteArray × Bool)
  | 0, _, _, _, _, _, _ => none
  | k + 1, x3, x12, x13, x14, x15, x331000 => if x15 ≥ 0 then (if 0 ≤ x14 then (if x14 < (x331000.length : Int) then (if 0 < ((rd_L1 x331000 x14).length : Int) then (if (rd (rd_L1 x331000 x14) 0) < 0 then (if x13.length < 140737488355328 then (if 1 < ((rd_L1 x331000 x14).length : Int) then (impl_BitsAt.l0 k x3 x12 (x13 ++ [49]) (rd (rd_L1 x331000 x14) 1) (wrap64 (x15 - 1)) x331000) else (none)) else (none)) else (if 0 ≤ x15 then (if x15 < (x12.length : Int) then (if 0 ≤ (rd (rd_L1 x331000 x14) 0) then (if (rd (rd_L1 x331000 x14) 0) < ((rd_L1 x12 x15).length : Int) then (if x3 ≥ (rd (rd_L1 x12 x15) (rd (rd_L1 x331000 x14) 0)) then (if x13.length < 140737488355328 then (if 1 < ((rd_L1 x331000 x14).length : Int) then (impl_BitsAt.l0 k (wrap64 (x3 - (rd (rd_L1 x12 x15) (rd (rd_L1 x331000 x14) 0)))) x12 (x13 ++ [49]) (rd (rd_L1 x331000 x14) 1) (wrap64 (x15 - 1)) x331000) else (none)) else (none)) else (if x13.length < 140737488355328 then (impl_BitsAt.l0 k x3 x12 (x13 ++ [48]) (rd (rd_L1 x331000 x14) 0) (wrap64 (x15 - 1)) x331000) else (none))) else (none)) else (none)) else (none)) else (none))) else (none)) else (none)) else (none)) else (some (strOfNums x13, true))
end
def impl_BitsAt.f (k : Nat) (l0_0 : List (List Int)) (a1 : Int) (a2 : Int) (a3 : Int) : Option (ByteArray × Bool) := (impl_CountAllowed.f k l0_0 a1 a2).bind fun bt331 => (if bt331.2 = true then ((impl_within.f a3 0 (wrap64 (bt331.1 - 1))).bind fun t333 => (impl_BitsAt.j0 k a1 a2 a3 (!t333) l0_0)) else (impl_BitsAt.j0 k a1 a2 a3 true l0_0))
theorem impl_BitsAt.mono_l : ∀ k, (∀ y0 y1 y2 y3 y4, LeO (impl_BitsAt.j0 k y0 y1 y2 y3 y4) (impl_BitsAt.j0 (k + 1) y0 y1 y2 y3 y4)) ∧ (∀ y0 y1 y2 y3 y4 y5, LeO (impl_BitsAt.l0 k y0 y1 y2 y3 y4 y5) (impl_BitsAt.l0 (k + 1) y0 y1 y2 y3 y4 y5))
  | 0 => ⟨fun _ _ _ _ _ r h => by simp [impl_BitsAt.j0] at h, fun _ _ _ _ _ _ r h => by simp [impl_BitsAt.l0] at h⟩
  | k + 1 => by
    obtain ⟨ih0, ih1⟩ := impl_BitsAt.mono_l k
    refine ⟨?_, ?_⟩
    · intro y0 y1 y2 y3 y4
      unfold impl_BitsAt.j0
      repeat' first
      | (with_reducible exact ih0 _ _ _ _ _)
      | (with_reducible exact ih1 _ _ _ _ _ _)
      | (with_reducible exact impl_CountAllowed.mono _ _ _ _)
      | (with_reducible exact impl_Graph_counts.mono _ _ _)
      | (with_reducible exact LeO.refl _)
      | (with_reducible exact LeO.none _)
      | (with_reducible refine LeO.ite ?_ ?_)
      | (with_reducible refine LeO.bind ?_ (fun _ => ?_))
      | exact ih0 _ _ _ _ _
      | exact ih1 _ _ _ _ _ _
      | exact impl_CountAllowed.mono _ _ _ _
      | exact impl_Graph_counts.mono _ _ _
      | exact LeO.none _
      | refine LeO.ite ?_ ?_
      | refine LeO.bind ?_ (fun _ => ?_)
    · intro y0 y1 y2 y3 y4 y5
      unfold impl_BitsAt.l0
      repeat' first
      | (with_reducible exact ih0 _ _ _ _ _)
      | (with_reducible exact ih1 _ _ _ _ _ _)
      | (with_reducible exact impl_CountAllowed.mono _ _ _ _)
      | (with_reducible exact impl_Graph_counts.mono _ _ _)
      | (with_reducible exact LeO.refl _)
      | (with_reducible exact LeO.none _)
      | (with_reducible refine LeO.ite ?_ ?_)
      | (with_reducible refine LeO.bind ?_ (fun _ => ?_))
      | exact ih0 _ _ _ _ _
      | exact ih1 _ _ _ _ _ _
      | exact impl_CountAllowed.mono _ _ _ _
      | exact impl_Graph_counts.mono _ _ _
      | exact LeO.none _
      | refine LeO.ite ?_ ?_
      | refine LeO.bind ?_ (fun _ => ?_)
theorem impl_BitsAt.mono : ∀ a0 a1 a2 a3 k, LeO (impl_BitsAt.f k a0 a1 a2 a3) (impl_BitsAt.f (k + 1) a0 a1 a2 a3) := by
  intro a0 a1 a2 a3 k
  obtain ⟨ih0, ih1⟩ := impl_BitsAt.mono_l k
  unfold impl_BitsAt.f
  repeat' first
      | (with_reducible exact ih0 _ _ _ _ _)
      | (with_reducible exact ih1 _ _ _ _ _ _)
      | (with_reducible exact impl_CountAllowed.mono _ _ _ _)
      | (with_reducible exact impl_Graph_counts.mono _ _ _)
      | (with_reducible exact LeO.refl _)
      | (with_reducible exact LeO.none _)
      | (with_reducible refine LeO.ite ?_ ?_)
      | (with_reducible refine LeO.bind ?_ (fun _ => ?_))
      | exact ih0 _ _ _ _ _
      | exact ih1 _ _ _ _ _ _
      | exact impl_CountAllowed.mono _ _ _ _
      | exact impl_Graph_counts.mono _ _ _
      | exact LeO.none _
      | refine LeO.ite ?_ ?_
      | refine LeO.bind ?_ (fun _ => ?_)
set_option maxHeartbeats 8000000 in
set_option maxRecDepth 100000 in
theorem impl_BitsAt.calls (k : Nat) (A0_0 : Option Addr) (c0_0 : Nat) (l0_0 : List (List Int)) (a1 : Int) (a2 : Int) (a3 : Int) (r1 : ByteArray) (r2 : Bool) (w : World) (hr0_0 : Kd.C (Kd.slice 2 (Kd.int .i64)) w A0_0 l0_0.length l0_0) (hc0_0 : l0_0.length ≤ c0_0) (h : impl_BitsAt.f k l0_0 a1 a2 a3 = some (r1, r2)) :
    Calls Tryd.prog 28 #[.agg #[.slice A0_0 l0_0.length c0_0], .int .i64 a1, .int .i64 a2, .int .i64 a3] w fun e w' => e = .returned (.tuple #[.string r1, .bool r2]) ∧ Below w.heap.size w w' := by
  have hu27 := Tryd.underlying27
  have HR0_0 := Aside0.mk hr0_0
  have HC0_0 := Aside0.mk hc0_0
  clear hr0_0 hc0_0
  have HB := Aside0.mk (Below.refl w.heap.size w)
  have H : ((impl_CountAllowed.f k l0_0 a1 a2).bind fun bt331 => (if bt331.2 = true then ((impl_within.f a3 0 (wrap64 (bt331.1 - 1))).bind fun t333 => (impl_BitsAt.j0 k a1 a2 a3 (!t333) l0_0)) else (impl_BitsAt.j0 k a1 a2 a3 true l0_0))) = some (r1, r2) := h
  clear h
  replace H := Option.bind_eq_some_iff.mp H
  obtain ⟨⟨t331, t332⟩, A50, H⟩ := H
  replace H : (if t332 = true then ((impl_within.f a3 0 (wrap64 (t331 - 1))).bind fun t333 => (impl_BitsAt.j0 k a1 a2 a3 (!t333) l0_0)) else (impl_BitsAt.j0 k a1 a2 a3 true l0_0)) = some (r1, r2) := H
  have A5 := Aside0.mk A50
  clear A50
  have HC6 := Aside0.mk H
  clear H
  go_enter Tryd.func28, Tryd.ntmps28
  go_upto_region 2 with (first | ((with_reducible refine gate_dst (N := 4) rfl ?_); refine box_event ?hg (N := 4) ?hd (cs := #[.slice A0_0 l0_0.length c0_0]) (t := 27) ?hr ?_; (case hd => rfl); (case hg => rfl); (case hr => first | (go_simp; done) | (go_simp; rfl)); intro gb330 hg w7 hbox hb; have n0_ := Aside0.mk (below_step (by repeat (first | (with_reducible first | exact HB.out | apply below_alloc | apply pw_below_drewN | apply below_drew1) | exact HB.out)) hb); have n1_ := Aside0.mk (hbox); have n2_ := Aside0.mk ((by rw [hg]; exact (below_size (by repeat (first | (with_reducible first | exact HB.out | apply below_alloc | apply pw_below_drewN | apply below_drew1) | exact HB.out))) : w.heap.size ≤ gb330)); have n3_ := Aside0.mk ((by rw [hg]; exact (below_size (by repeat (first | (with_reducible first | exact HB.out | apply below_alloc | apply pw_below_drewN | apply below_drew1) | exact HB.out))) : w.heap.size ≤ gb330)); clear HB; have HB := n0_; have BK330 := n1_; have GW330 := n2_; have GE330 := n3_; clear n0_ n1_ n2_ n3_; clear hb hbox hg; have hcz8_0 : w7.cell? ⟨gb330, 0, none⟩ = some (.slice A0_0 l0_0.length c0_0) := (blk_cell BK330.out 0).trans rfl; have hfz8_0 := blk_frozen BK330.out 0) | ((with_reducible refine gate_callee (f := 27) rfl ?_); refine goesL_ (some 22) rfl rfl Tryd.func27 (by kernel_rfl) rfl #[.agg #[.slice A0_0 l0_0.length c0_0], .int .i64 a1, .int .i64 a2] rfl (by (try simp only [List.map_toArray, List.map_cons, List.map_nil]); first | done | rfl | (simp only [List.length_drop, List.length_take]; rfl)) ?_; (with_reducible refine (impl_CountAllowed.calls k _ _ l0_0 a1 a2 t331 t332 _ ?side1 ?side2 A5.out).mono ?_); (case side1 => repeat (first | exact (Kd.C_below HR0_0.out HB.out) | (with_reducible refine Kd.C_alloc ?_ _) | (with_reducible refine Kd.C_drewN ?_ _) | (with_reducible refine Kd.C_drew ?_))); (case side2 => exact HC0_0.out); rintro e w9 ⟨rfl, hb⟩; refine ⟨_, rfl, ?_⟩; have n0_ := Aside0.mk (blk_below (g := gb330) (o := .cells #[.slice A0_0 l0_0.length c0_0] 27 (0, 0)) (by (with_reducible repeat (first | refine blk_drewN ?_ _ | refine blk_drew ?_ | refine blk_alloc ?_ _)); exact BK330.out) hb); have n1_ := Aside0.mk (below_step (by repeat (first | (with_reducible first | exact HB.out | apply below_alloc | apply pw_below_drewN | apply below_drew1 | refine below_set ?_ GE330.out) | exact HB.out)) hb); clear BK330; clear HB; have BK330 := n0_; have HB := n1_; clear n0_ n1_; (try clear hb); (try clear hb2); (try clear hk); (try clear hi)))
  (try simp only [Act.put, List.setIfInBounds_toArray, List.set_cons_zero, List.set_cons_succ])
  go_cut [33] (fun v33 wc => ∃ (kq : Nat) (x33_5 : Bool), v33 = .bool x33_5 ∧ Aside0 (impl_BitsAt.j0 kq a1 a2 a3 x33_5 l0_0 = some (r1, r2)) ∧ Aside0 (kq ≤ k) ∧ Aside0 (wc.heap[gb330]? = some (.cells #[(.slice A0_0 l0_0.length c0_0)] 27 (0, 0))) ∧ Aside0 (Below w.heap.size w wc))
  case first =>
    have H := HC6.out
    clear HC6
    by_cases c10 : t332 = true
    · subst c10
      have H1 : ((impl_within.f a3 0 (wrap64 (t331 - 1))).bind fun t333 => (impl_BitsAt.j0 k a1 a2 a3 (!t333) l0_0)) = some (r1, r2) := by rw [if_pos rfl] at H; exact H
      clear H
      have H := H1
      clear H1
      replace H := Option.bind_eq_some_iff.mp H
      obtain ⟨t333, A110, H⟩ := H
      replace H : (impl_BitsAt.j0 k a1 a2 a3 (!t333) l0_0) = some (r1, r2) := H
      have A11 := Aside0.mk A110
      clear A110
      have H' := Aside0.mk H
      clear H
      go_wp2_with (first | (go_at_call 40; (with_reducible refine (impl_within.calls a3 0 (wrap64 (t331 - 1)) t333 _ A11.out).mono ?_); rintro e w' ⟨rfl, ⟨nd, rfl⟩⟩))
      go_meet
      case rel => exact ⟨_, (!t333), (by first | rfl | (simp; done) | (simp [*]; done)), H', ⟨by first | omega | exact Nat.le_refl _⟩, ⟨by (with_reducible repeat (first | refine blk_drewN ?_ _ | refine blk_drew ?_ | refine blk_alloc ?_ _)); exact BK330.out⟩, ⟨by repeat (first | (with_reducible first | exact HB.out | apply below_alloc | apply pw_below_drewN | apply below_drew1 | refine below_set ?_ GE330.out) | exact HB.out)⟩⟩
    · replace c10 := Bool.eq_false_iff.mpr c10
      subst c10
      have H1 : (impl_BitsAt.j0 k a1 a2 a3 true l0_0) = some (r1, r2) := by rw [if_neg (show ¬ (false = true) by decide)] at H; exact H
      clear H
      have H := H1
      clear H1
      have H' := Aside0.mk H
      clear H
      go_wp2
      go_meet
      case rel => exact ⟨_, (true), (by first | rfl | (simp; done) | (simp [*]; done)), H', ⟨by first | omega | exact Nat.le_refl _⟩, ⟨by (with_reducible repeat (first | refine blk_drewN ?_ _ | refine blk_drew ?_ | refine blk_alloc ?_ _)); exact BK330.out⟩, ⟨by repeat (first | (with_reducible first | exact HB.out | apply below_alloc | apply pw_below_drewN | apply below_drew1 | refine below_set ?_ GE330.out) | exact HB.out)⟩⟩
  case rest =>
    clear HC6
    try clear c1
    try clear c2
    try clear p2
    try clear p6
    try clear c10
    try clear hcz8_0
    try clear hfz8_0
    obtain ⟨kq, x33_5, rfl, HA, HJ5, BK330, HB⟩ := hcut
    cases kq with
    | zero => exact absurd HA.out (by simp [impl_BitsAt.j0])
    | succ kj5 =>
      have H := HA.out
      clear HA
      simp only [impl_BitsAt.j0] at H
      by_cases c12 : x33_5 = true
      · subst c12
        have H1 : (some ((⟨#[]⟩ : ByteArray), false)) = some (r1, r2) := by rw [if_pos rfl] at H; exact H
        clear H
        have H := H1
        clear H1
        simp only [Option.some.injEq, Prod.mk.injEq] at H
        obtain ⟨rfl, rfl⟩ := H
        go_wp2
        go_ret2
        exact ⟨by first | rfl | (simp [errW_none, errW_some] <;> rfl) | (simp [*, errW_none, errW_some] <;> rfl), by repeat (first | (with_reducible first | exact HB.out | apply below_alloc | apply pw_below_drewN | apply below_drew1 | refine below_set ?_ GE330.out) | exact HB.out)⟩
      · replace c12 := Bool.eq_false_iff.mpr c12
        subst c12
        have H1 : ((impl_Graph_counts.f kj5 l0_0 a2).bind fun t334 => (impl_BitsAt.l0 kj5 a3 t334 (([] : List Int)) a1 (wrap64 (a2 - 1)) l0_0)) = some (r1, r2) := by rw [if_neg (show ¬ (false = true) by decide)] at H; exact H
        clear H
        have H := H1
        clear H1
        replace H := Option.bind_eq_some_iff.mp H
        obtain ⟨t334, A130, H⟩ := H
        replace H : (impl_BitsAt.l0 kj5 a3 t334 (([] : List Int)) a1 (wrap64 (a2 - 1)) l0_0) = some (r1, r2) := H
        have A13 := Aside0.mk A130
        clear A130
        obtain ⟨y337, hy337⟩ : ∃ y_ : List Int, y_ = (([] : List Int)) := ⟨_, rfl⟩
        replace H : (impl_BitsAt.l0 kj5 a3 t334 y337 a1 (wrap64 (a2 - 1)) l0_0) = some (r1, r2) := by first | (rw [hy337]; with_reducible exact H) | (have H2_ := (Option.bind_some _ _).symm.trans H; rw [hy337]; with_reducible exact H2_) | (have H2_ := (Option.bind_some _ _).symm.trans H; with_reducible exact H2_) | with_reducible exact H | (rw [hy337]; exact H) | exact H
        have Ny337 := Aside0.mk hy337
        clear hy337
        have H' := Aside0.mk H
        clear H
        have hcz14_0 : wc.cell? ⟨gb330, 0, none⟩ = some (.slice A0_0 l0_0.length c0_0) := (blk_cell BK330.out 0).trans rfl
        have hfz14_0 := blk_frozen BK330.out 0
        go_wp2_with (first | ((with_reducible refine gate_callee (f := 39) rfl ?_); refine goesL_ (some 36) rfl rfl Tryd.func39 (by kernel_rfl) rfl #[.agg #[.slice A0_0 l0_0.length c0_0], .int .i64 a2] rfl (by (try simp only [List.map_toArray, List.map_cons, List.map_nil]); first | done | rfl | (simp only [List.length_drop, List.length_take]; rfl)) ?_; (with_reducible refine (impl_Graph_counts.calls kj5 _ _ l0_0 a2 t334 _ ?side1 ?side2 A13.out).mono ?_); (case side1 => repeat (first | exact (Kd.C_below HR0_0.out HB.out) | (with_reducible refine Kd.C_alloc ?_ _) | (with_reducible refine Kd.C_drewN ?_ _) | (with_reducible refine Kd.C_drew ?_))); (case side2 => exact HC0_0.out); rintro e w15 ⟨v335, rfl, ho0, hb⟩; refine ⟨_, rfl, ?_⟩; have n0_ := Aside0.mk (Kd.N_lower (Kd.N_mono (ok' := fun k_ => k_ ≠ gb330) ho0 (fun k_ hk_ => (Kd.freshB (g := gb330) (o := .cells #[.slice A0_0 l0_0.length c0_0] 27 (0, 0)) (by (with_reducible repeat (first | refine blk_drewN ?_ _ | refine blk_drew ?_ | refine blk_alloc ?_ _)); exact BK330.out) k_ hk_))) (below_size (by repeat (first | (with_reducible first | exact HB.out | apply below_alloc | apply pw_below_drewN | apply below_drew1 | refine below_set ?_ GE330.out) | exact HB.out)))); have n1_ := Aside0.mk (blk_below (g := gb330) (o := .cells #[.slice A0_0 l0_0.length c0_0] 27 (0, 0)) (by (with_reducible repeat (first | refine blk_drewN ?_ _ | refine blk_drew ?_ | refine blk_alloc ?_ _)); exact BK330.out) hb); have n2_ := Aside0.mk (below_step (by repeat (first | (with_reducible first | exact HB.out | apply below_alloc | apply pw_below_drewN | apply below_drew1 | refine below_set ?_ GE330.out) | exact HB.out)) hb); clear BK330; clear HB; have HO336 := n0_; have BK330 := n1_; have HB := n2_; clear n0_ n1_ n2_; (try clear hb); (try clear hb2); (try clear hk); (try clear hi); (try clear ho0)) | ((with_reducible refine gate_dst (N := 37) rfl ?_); refine Kd.R_lit (Kd.int .u8) _ 5 ?hg (N := 37) ?hd (xs := ([] : List Int)) (inner := []) (ok := fun _ => True) (okp := fun _ => True) ?hr ?hp (fun _ hk => hk) trivial (Below.refl _ _) (Nat.le_refl _) (by simp) ?_; (case hd => rfl); (case hg => rfl); (case hr => first | (go_simp; done) | (go_simp; rfl)); (case hp => exact (Reps.none _ _)); intro v338 w16 ho17 hb hg_ hnew_; clear hg_ hnew_; (first | rw [← Ny337.out] at ho17 | (simp only [Int.reduceToNat] at ho17; rw [← Ny337.out] at ho17)); have n0_ := Aside0.mk (Kd.N_elder' (by (with_reducible repeat (first | apply Kd.N_alloc | apply Kd.N_drewN | apply Kd.N_drew)); exact HO336.out) (Kd.R_base ho17) hb); have n1_ := Aside0.mk (Kd.R_lower ho17 (below_size (by repeat (first | (with_reducible first | exact HB.out | apply below_alloc | apply pw_below_drewN | apply below_drew1 | refine below_set ?_ GE330.out) | exact HB.out)))); have n2_ := Aside0.mk (blk_below (g := gb330) (o := .cells #[.slice A0_0 l0_0.length c0_0] 27 (0, 0)) (by (with_reducible repeat (first | refine blk_drewN ?_ _ | refine blk_drew ?_ | refine blk_alloc ?_ _)); exact BK330.out) hb); have n3_ := Aside0.mk (below_step (by repeat (first | (with_reducible first | exact HB.out | apply below_alloc | apply pw_below_drewN | apply below_drew1 | refine below_set ?_ GE330.out) | exact HB.out)) hb); clear HO336; clear BK330; clear HB; have HO336 := n0_; have HO339 := n1_; have BK330 := n2_; have HB := n3_; clear n0_ n1_ n2_ n3_; clear hb ho17))
        go_loopg [3, 13, 14, 15] kj5 (fun kq v3 v13 v14 v15 w' => ∃ (x3_2 : Int) (x13_2 : List Int) (x14_2 : Int) (x15_2 : Int), v3 = .int .i64 x3_2 ∧ v14 = .int .i64 x14_2 ∧ v15 = .int .i64 x15_2 ∧ Aside0 (impl_BitsAt.l0 kq x3_2 t334 x13_2 x14_2 x15_2 l0_0 = some (r1, r2)) ∧ Aside0 (kq ≤ kj5) ∧ Aside0 (Kd.N (Kd.slice 2 (Kd.int .i64)) 46 w' w.heap.size (fun k_ => some k_ ≠ (v13 : Value).ownBlock ∧ k_ ≠ gb330) v335 t334) ∧ Aside0 (Kd.R (Kd.int .u8) 5 w' w.heap.size (fun _ => True) v13 x13_2) ∧ Aside0 (w'.heap[gb330]? = some (.cells #[(.slice A0_0 l0_0.length c0_0)] 27 (0, 0))) ∧ Aside0 (Below w.heap.size w w'))
        case atStart => exact ⟨(a3), (y337), (a1), (wrap64 (a2 - 1)), (by first | rfl | (simp; done) | (simp [*]; done)), (by first | rfl | (simp; done) | (simp [*]; done)), (by first | rfl | (simp; done) | (simp [*]; done)), H', ⟨Nat.le_refl _⟩, ⟨by (with_reducible repeat (first | apply Kd.N_alloc | apply Kd.N_drewN | apply Kd.N_drew)); exact Kd.N_mono HO336.out (fun _ hk => ⟨hk.2, hk.1⟩)⟩, ⟨by (with_reducible repeat (first | apply Kd.R_alloc | apply Kd.R_drewN | apply Kd.R_drew)); exact HO339.out⟩, ⟨by (with_reducible repeat (first | refine blk_drewN ?_ _ | refine blk_drew ?_ | refine blk_alloc ?_ _)); exact BK330.out⟩, ⟨by repeat (first | (with_reducible first | exact HB.out | apply below_alloc | apply pw_below_drewN | apply below_drew1 | refine below_set ?_ GE330.out) | exact HB.out)⟩⟩
        case round =>
          clear H'
          try clear c1
          try clear c2
          try clear p2
          try clear c3
          try clear p6
          try clear c10
          try clear c12
          try clear hcz14_0
          try clear hcz8_0
          try clear hfz14_0
          try clear hfz8_0
          try clear p2
          try clear p6
          obtain ⟨x3_2, x13_2, x14_2, x15_2, rfl, rfl, rfl, HA, HK2, HO_12, HO_13, BK330, HB⟩ := hrel
          cases gk with
          | zero => exact absurd HA.out (by simp [impl_BitsAt.l0])
          | succ k2 =>
            have H := HA.out
            clear HA
            simp only [impl_BitsAt.l0] at H
            by_cases c18 : x15_2 ≥ 0
            · rw [if_pos c18] at H
              have c18b0 : decide (0 ≤ x15_2) = true := decide_eq_true c18
              clear c18
              by_cases c19 : 0 ≤ x14_2
              · rw [if_pos c19] at H
                have c19b0 : decide (0 ≤ x14_2) = true := decide_eq_true c19
                clear c19
                by_cases c20 : x14_2 < (l0_0.length : Int)
                · rw [if_pos c20] at H
                  have c20b0 : decide (x14_2 < (l0_0.length : Int)) = true := decide_eq_true c20
                  clear c20
                  by_cases c21 : 0 < ((rd_L1 l0_0 x14_2).length : Int)
                  · rw [if_pos c21] at H
                    have c21b0 : decide (0 < ((rd_L1 l0_0 x14_2).length : Int)) = true := decide_eq_true c21
                    have c21b1 : decide (0 < (rd_L1 l0_0 x14_2).length) = true := decide_eq_true (by omega)
                    clear c21
                    by_cases c22 : (rd (rd_L1 l0_0 x14_2) 0) < 0
                    · rw [if_pos c22] at H
                      have c22b0 : decide ((rd (rd_L1 l0_0 x14_2) 0) < 0) = true := decide_eq_true c22
                      clear c22
                      by_cases c23 : x13_2.length < 140737488355328
                      · rw [if_pos c23] at H
                        have LMc23 := Aside0.mk c23
                        clear c23
                        obtain ⟨y342, hy342⟩ : ∃ y_ : List Int, y_ = (x13_2 ++ [49]) := ⟨_, rfl⟩
                        replace H : (if 1 < ((rd_L1 l0_0 x14_2).length : Int) then (impl_BitsAt.l0 k2 x3_2 t334 y342 (rd (rd_L1 l0_0 x14_2) 1) (wrap64 (x15_2 - 1)) l0_0) else (none)) = some (r1, r2) := by first | (rw [hy342]; with_reducible exact H) | (have H2_ := (Option.bind_some _ _).symm.trans H; rw [hy342]; with_reducible exact H2_) | (have H2_ := (Option.bind_some _ _).symm.trans H; with_reducible exact H2_) | with_reducible exact H | (rw [hy342]; exact H) | exact H
                        have Ny342 := Aside0.mk hy342
                        clear hy342
                        by_cases c24 : 1 < ((rd_L1 l0_0 x14_2).length : Int)
                        · rw [if_pos c24] at H
                          have c24b0 : decide (1 < ((rd_L1 l0_0 x14_2).length : Int)) = true := decide_eq_true c24
                          have c24b1 : decide (1 < (rd_L1 l0_0 x14_2).length) = true := decide_eq_true (by omega)
                          clear c24
                          have H' := Aside0.mk H
                          clear H
                          have hcz25_0 : wr.cell? ⟨gb330, 0, none⟩ = some (.slice A0_0 l0_0.length c0_0) := (blk_cell BK330.out 0).trans rfl
                          have hfz25_0 := blk_frozen BK330.out 0
                          have p340 : 0 ≤ (x14_2 : Int) := of_decide_eq_true (by first | (with_reducible assumption) | assumption)
                          have q340 : x14_2 < (l0_0.length : Int) := of_decide_eq_true (by first | (with_reducible assumption) | assumption)
                          obtain ⟨ad340, A340_0, c340_0, e340, hx340_0, hl340_0, hi340_0⟩ := at_L1 HR0_0.out x14_2 p340 q340
                          cases e340
                          replace hx340_0 := (HB.out.cell (World.block_lt_of_cell? w _ hx340_0)).trans hx340_0
                          have HR340_0 := Aside0.mk hi340_0
                          have HC340_0 := Aside0.mk hl340_0
                          clear hi340_0 hl340_0
                          replace p340 := eq_true p340
                          replace q340 := eq_true q340
                          have p341 : 0 ≤ (0 : Int) := (by omega)
                          have q341 : 0 < ((rd_L1 l0_0 x14_2).length : Int) := of_decide_eq_true (by first | (with_reducible assumption) | assumption)
                          obtain ⟨ad341, e341, hx341_0⟩ := Kd.at_int HR340_0.out 0 p341 q341
                          cases e341
                          have qi341 : (0 < (rd_L1 l0_0 x14_2).length) = True := eq_true (by omega)
                          (try rw [show ((0 : Int)).toNat = 0 from rfl] at hx341_0)
                          (try rw [Addr.add_zero'] at hx341_0)
                          replace hx341_0 := (HB.out.cell (World.block_lt_of_cell? w _ hx341_0)).trans hx341_0
                          replace p341 := eq_true p341
                          replace q341 := eq_true q341
                          go_wp2_with (first | ((with_reducible refine gate_builtin (b := .append) (xs := #[.tmp 72, .tmp 75]) rfl ?_); at_builtin; refine Kd.R_append (Kd.int .u8) (w0 := w) w.heap.size rfl (.tmp 72) (.tmp 75) 33 5 (.int .u8 0) 1 rfl Tryd.underlying33 info5 rfl (by decide) (by omega) u13 x13_2 49 [.int .u8 49] (fun _ => True) (fun _ => False) rfl rfl ?aP (fun _ hk => hk.elim) ?aF ?aO ?aB ?aS ?aL ?_; (case aP => exact rfl); (case aB => exact (by repeat (first | (with_reducible first | exact HB.out | apply below_alloc | apply pw_below_drewN | apply below_drew1 | refine below_set ?_ GE330.out) | exact HB.out))); (case aF => exact (fun _ _ => trivial)); (case aO => exact (by (with_reducible repeat (first | apply Kd.R_alloc | apply Kd.R_drewN | apply Kd.R_drew)); exact HO_13.out)); (case aS => exact (below_size (by repeat (first | (with_reducible first | exact HB.out | apply below_alloc | apply pw_below_drewN | apply below_drew1 | refine below_set ?_ GE330.out) | exact HB.out)))); (case aL => have := LMc23.out; omega); intro v343 w26 ho hb hg hat; rw [← Ny342.out] at ho; have n0_ := Aside0.mk (Kd.N_afterv (ok := (fun k_ => k_ ≠ gb330)) (by (with_reducible repeat (first | apply Kd.N_alloc | apply Kd.N_drewN | apply Kd.N_drew)); exact Kd.N_mono HO_12.out (fun _ hk => ⟨hk.2, hk.1⟩)) hg hat); have n1_ := Aside0.mk (blk_grown (g := gb330) (o := .cells #[.slice (some ad340) l0_0.length c0_0] 27 (0, 0)) (by (with_reducible repeat (first | refine blk_drewN ?_ _ | refine blk_drew ?_ | refine blk_alloc ?_ _)); exact BK330.out) hg (Kd.R_ne HO_13.out BK330.out (by decide))); have n2_ := Aside0.mk (hb); have n3_ := Aside0.mk (ho); clear HO_12; clear BK330; clear HB; clear HO_13; have HO_12 := n0_; have BK330 := n1_; have HB := n2_; have HO344 := n3_; clear n0_ n1_ n2_ n3_; clear ho hb hg hat; have hcz27_0 : w26.cell? ⟨gb330, 0, none⟩ = some (.slice (some ad340) l0_0.length c0_0) := (blk_cell BK330.out 0).trans rfl; have hfz27_0 := blk_frozen BK330.out 0; have p345 : 0 ≤ (x14_2 : Int) := of_decide_eq_true (by first | (with_reducible assumption) | assumption); have q345 : x14_2 < (l0_0.length : Int) := of_decide_eq_true (by first | (with_reducible assumption) | assumption); obtain ⟨ad345, A345_0, c345_0, e345, hx345_0, hl345_0, hi345_0⟩ := at_L1 HR0_0.out x14_2 p345 q345; obtain rfl : ad340 = ad345 := (by injection e345); replace hx345_0 := (HB.out.cell (World.block_lt_of_cell? w _ hx345_0)).trans hx345_0; have HR345_0 := Aside0.mk hi345_0; have HC345_0 := Aside0.mk hl345_0; clear hi345_0 hl345_0; replace p345 := eq_true p345; replace q345 := eq_true q345; have p346 : 0 ≤ (1 : Int) := (by omega); have q346 : 1 < ((rd_L1 l0_0 x14_2).length : Int) := of_decide_eq_true (by first | (with_reducible assumption) | assumption); obtain ⟨ad346, e346, hx346_0⟩ := Kd.at_int HR345_0.out 1 p346 q346; cases e346; (try simp only [show (1 : Int).toNat = 1 from rfl, Nat.reduceMul, Nat.reduceEqDiff, Go.Addr.add, ↓reduceIte] at hx346_0); have qi346 : (1 < (rd_L1 l0_0 x14_2).length) = True := eq_true (by omega); (try rw [show ((1 : Int)).toNat = 1 from rfl] at hx346_0); replace hx346_0 := (HB.out.cell (World.block_lt_of_cell? w _ hx346_0)).trans hx346_0; replace p346 := eq_true p346; replace q346 := eq_true q346))
                          go_roundg k2
                          case measure => have := HJ5.out; have := HK2.out; omega
                          case rel => exact ⟨(x3_2), (y342), (rd (rd_L1 l0_0 x14_2) 1), (wrap64 (x15_2 - 1)), (by first | rfl | (simp; done) | (simp [*]; done)), (by first | rfl | (simp; done) | (simp [*]; done)), (by first | rfl | (simp; done) | (simp [*]; done)), H', ⟨by have := HJ5.out; have := HK2.out; omega⟩, ⟨by (with_reducible repeat (first | apply Kd.N_alloc | apply Kd.N_drewN | apply Kd.N_drew)); exact Kd.N_mono HO_12.out (fun _ hk => ⟨hk.2, hk.1⟩)⟩, ⟨by (with_reducible repeat (first | apply Kd.R_alloc | apply Kd.R_drewN | apply Kd.R_drew)); exact HO344.out⟩, ⟨by (with_reducible repeat (first | refine blk_drewN ?_ _ | refine blk_drew ?_ | refine blk_alloc ?_ _)); exact BK330.out⟩, ⟨by repeat (first | (with_reducible first | exact HB.out | apply below_alloc | apply pw_below_drewN | apply below_drew1 | refine below_set ?_ GE330.out) | exact HB.out)⟩⟩
                        · rw [if_neg c24] at H
                          exact absurd H (by simp)
                      · rw [if_neg c23] at H
                        exact absurd H (by simp)
                    · rw [if_neg c22] at H
                      have c22b0 : decide ((rd (rd_L1 l0_0 x14_2) 0) < 0) = false := decide_eq_false c22
                      clear c22
                      by_cases c28 : 0 ≤ x15_2
                      · rw [if_pos c28] at H
                        have c28b0 : decide (0 ≤ x15_2) = true := decide_eq_true c28
                        clear c28
                        by_cases c29 : x15_2 < (t334.length : Int)
                        · rw [if_pos c29] at H
                          have c29b0 : decide (x15_2 < (t334.length : Int)) = true := decide_eq_true c29
                          clear c29
                          by_cases c30 : 0 ≤ (rd (rd_L1 l0_0 x14_2) 0)
                          · rw [if_pos c30] at H
                            have c30b0 : decide (0 ≤ (rd (rd_L1 l0_0 x14_2) 0)) = true := decide_eq_true c30
                            clear c30
                            by_cases c31 : (rd (rd_L1 l0_0 x14_2) 0) < ((rd_L1 t334 x15_2).length : Int)
                            · rw [if_pos c31] at H
                              have c31b0 : decide ((rd (rd_L1 l0_0 x14_2) 0) < ((rd_L1 t334 x15_2).length : Int)) = true := decide_eq_true c31
                              clear c31
                              by_cases c32 : x3_2 ≥ (rd (rd_L1 t334 x15_2) (rd (rd_L1 l0_0 x14_2) 0))
                              · rw [if_pos c32] at H
                                have c32b0 : decide ((rd (rd_L1 t334 x15_2) (rd (rd_L1 l0_0 x14_2) 0)) ≤ x3_2) = true := decide_eq_true c32
                                clear c32
                                by_cases c33 : x13_2.length < 140737488355328
                                · rw [if_pos c33] at H
                                  have LMc33 := Aside0.mk c33
                                  clear c33
                                  obtain ⟨y351, hy351⟩ : ∃ y_ : List Int, y_ = (x13_2 ++ [49]) := ⟨_, rfl⟩
                                  replace H : (if 1 < ((rd_L1 l0_0 x14_2).length : Int) then (impl_BitsAt.l0 k2 (wrap64 (x3_2 - (rd (rd_L1 t334 x15_2) (rd (rd_L1 l0_0 x14_2) 0)))) t334 y351 (rd (rd_L1 l0_0 x14_2) 1) (wrap64 (x15_2 - 1)) l0_0) else (none)) = some (r1, r2) := by first | (rw [hy351]; with_reducible exact H) | (have H2_ := (Option.bind_some _ _).symm.trans H; rw [hy351]; with_reducible exact H2_) | (have H2_ := (Option.bind_some _ _).symm.trans H; with_reducible exact H2_) | with_reducible exact H | (rw [hy351]; exact H) | exact H
                                  have Ny351 := Aside0.mk hy351
                                  clear hy351
                                  by_cases c34 : 1 < ((rd_L1 l0_0 x14_2).length : Int)
                                  · rw [if_pos c34] at H
                                    have c34b0 : decide (1 < ((rd_L1 l0_0 x14_2).length : Int)) = true := decide_eq_true c34
                                    have c34b1 : decide (1 < (rd_L1 l0_0 x14_2).length) = true := decide_eq_true (by omega)
                                    clear c34
                                    have H' := Aside0.mk H
                                    clear H
                                    have hcz35_0 : wr.cell? ⟨gb330, 0, none⟩ = some (.slice A0_0 l0_0.length c0_0) := (blk_cell BK330.out 0).trans rfl
                                    have hfz35_0 := blk_frozen BK330.out 0
                                    have p340 : 0 ≤ (x14_2 : Int) := of_decide_eq_true (by first | (with_reducible assumption) | assumption)
                                    have q340 : x14_2 < (l0_0.length : Int) := of_decide_eq_true (by first | (with_reducible assumption) | assumption)
                                    obtain ⟨ad340, A340_0, c340_0, e340, hx340_0, hl340_0, hi340_0⟩ := at_L1 HR0_0.out x14_2 p340 q340
                                    cases e340
                                    replace hx340_0 := (HB.out.cell (World.block_lt_of_cell? w _ hx340_0)).trans hx340_0
                                    have HR340_0 := Aside0.mk hi340_0
                                    have HC340_0 := Aside0.mk hl340_0
                                    clear hi340_0 hl340_0
                                    replace p340 := eq_true p340
                                    replace q340 := eq_true q340
                                    have p341 : 0 ≤ (0 : Int) := (by omega)
                                    have q341 : 0 < ((rd_L1 l0_0 x14_2).length : Int) := of_decide_eq_true (by first | (with_reducible assumption) | assumption)
                                    obtain ⟨ad341, e341, hx341_0⟩ := Kd.at_int HR340_0.out 0 p341 q341
                                    cases e341
                                    have qi341 : (0 < (rd_L1 l0_0 x14_2).length) = True := eq_true (by omega)
                                    (try rw [show ((0 : Int)).toNat = 0 from rfl] at hx341_0)
                                    (try rw [Addr.add_zero'] at hx341_0)
                                    replace hx341_0 := (HB.out.cell (World.block_lt_of_cell? w _ hx341_0)).trans hx341_0
                                    replace p341 := eq_true p341
                                    replace q341 := eq_true q341
                                    obtain ⟨Ao36, co36, eo36⟩ := Kd.N_slice HO_12.out
                                    subst eo36
                                    have p347 : 0 ≤ (x15_2 : Int) := of_decide_eq_true (by first | (with_reducible assumption) | assumption)
                                    have q347 : x15_2 < (t334.length : Int) := of_decide_eq_true (by first | (with_reducible assumption) | assumption)
                                    obtain ⟨ad347, A347_0, c347_0, e347, hx347_0, hl347_0, hi347_0⟩ := at_L1 (Kd.N_reads' HO_12.out).2.2 x15_2 p347 q347
                                    cases e347
                                    obtain ⟨ce347, hce347, hMe347, hcc347⟩ := Kd.N_get HO_12.out [] x15_2 p347 (by first | exact q347 | exact of_decide_eq_true (by first | (with_reducible assumption) | assumption) | (have e_ := (Kd.N_reads' HO_12.out).1; omega))
                                    obtain ⟨ua347_0, uc347_0, rfl, ul347_0, ge347_0⟩ := Kd.FK_slice_open hMe347
                                    have hv347_0 := hcc347 0 _ rfl
                                    rw [Nat.add_zero, show ((Kd.slice 2 (Kd.int .i64))).sz = 1 from rfl, Nat.mul_one] at hv347_0
                                    replace hv347_0 := Option.some.inj (hv347_0.symm.trans hx347_0)
                                    injection hv347_0 with hva_ hvn_ hvc_
                                    rw [hva_] at ge347_0
                                    rw [hvc_] at ul347_0
                                    have HL347_0 := Aside0.mk (show Kd.V (Kd.int .i64) 2 _ w.heap.size _ _ (rd_L1 t334 x15_2) from Kd.V_mk ul347_0 ge347_0)
                                    clear hva_ hvn_ hvc_ ge347_0 ul347_0
                                    clear hcc347 hce347
                                    have HR347_0 := Aside0.mk hi347_0
                                    have HC347_0 := Aside0.mk hl347_0
                                    clear hi347_0 hl347_0
                                    replace p347 := eq_true p347
                                    replace q347 := eq_true q347
                                    have p348 : 0 ≤ ((rd (rd_L1 l0_0 x14_2) 0) : Int) := of_decide_eq_true (by first | (with_reducible assumption) | assumption)
                                    have q348 : (rd (rd_L1 l0_0 x14_2) 0) < ((rd_L1 t334 x15_2).length : Int) := of_decide_eq_true (by first | (with_reducible assumption) | assumption)
                                    obtain ⟨ad348, e348, hx348_0⟩ := Kd.at_int (by repeat (first | (with_reducible exact HR347_0.out) | (with_reducible refine Kd.C_alloc ?_ _) | (with_reducible refine Kd.C_drewN ?_ _) | (with_reducible refine Kd.C_drew ?_) | exact HR347_0.out)) (rd (rd_L1 l0_0 x14_2) 0) p348 q348
                                    cases e348
                                    replace p348 := eq_true p348
                                    replace q348 := eq_true q348
                                    have p349 : 0 ≤ (x15_2 : Int) := of_decide_eq_true (by first | (with_reducible assumption) | assumption)
                                    have q349 : x15_2 < (t334.length : Int) := of_decide_eq_true (by first | (with_reducible assumption) | assumption)
                                    obtain ⟨ad349, A349_0, c349_0, e349, hx349_0, hl349_0, hi349_0⟩ := at_L1 (Kd.N_reads' HO_12.out).2.2 x15_2 p349 q349
                                    obtain rfl : ad347 = ad349 := (by injection e349)
                                    obtain ⟨ce349, hce349, hMe349, hcc349⟩ := Kd.N_get HO_12.out [] x15_2 p349 (by first | exact q349 | exact of_decide_eq_true (by first | (with_reducible assumption) | assumption) | (have e_ := (Kd.N_reads' HO_12.out).1; omega))
                                    obtain ⟨ua349_0, uc349_0, rfl, ul349_0, ge349_0⟩ := Kd.FK_slice_open hMe349
                                    have hv349_0 := hcc349 0 _ rfl
                                    rw [Nat.add_zero, show ((Kd.slice 2 (Kd.int .i64))).sz = 1 from rfl, Nat.mul_one] at hv349_0
                                    replace hv349_0 := Option.some.inj (hv349_0.symm.trans hx349_0)
                                    injection hv349_0 with hva_ hvn_ hvc_
                                    rw [hva_] at ge349_0
                                    rw [hvc_] at ul349_0
                                    have HL349_0 := Aside0.mk (show Kd.V (Kd.int .i64) 2 _ w.heap.size _ _ (rd_L1 t334 x15_2) from Kd.V_mk ul349_0 ge349_0)
                                    clear hva_ hvn_ hvc_ ge349_0 ul349_0
                                    clear hcc349 hce349
                                    have HR349_0 := Aside0.mk hi349_0
                                    have HC349_0 := Aside0.mk hl349_0
                                    clear hi349_0 hl349_0
                                    replace p349 := eq_true p349
                                    replace q349 := eq_true q349
                                    have ea_ := Option.some.inj (hx347_0.symm.trans hx349_0)
                                    injection ea_ with ea_ en_ ec_
                                    subst ea_
                                    subst ec_
                                    clear en_
                                    have p350 : 0 ≤ ((rd (rd_L1 l0_0 x14_2) 0) : Int) := of_decide_eq_true (by first | (with_reducible assumption) | assumption)
                                    have q350 : (rd (rd_L1 l0_0 x14_2) 0) < ((rd_L1 t334 x15_2).length : Int) := of_decide_eq_true (by first | (with_reducible assumption) | assumption)
                                    obtain ⟨ad350, e350, hx350_0⟩ := Kd.at_int (by repeat (first | (with_reducible exact HR349_0.out) | (with_reducible refine Kd.C_alloc ?_ _) | (with_reducible refine Kd.C_drewN ?_ _) | (with_reducible refine Kd.C_drew ?_) | exact HR349_0.out)) (rd (rd_L1 l0_0 x14_2) 0) p350 q350
                                    cases e350
                                    replace p350 := eq_true p350
                                    replace q350 := eq_true q350
                                    go_wp2_with (first | ((with_reducible refine gate_builtin (b := .append) (xs := #[.tmp 72, .tmp 75]) rfl ?_); at_builtin; refine Kd.R_append (Kd.int .u8) (w0 := w) w.heap.size rfl (.tmp 72) (.tmp 75) 33 5 (.int .u8 0) 1 rfl Tryd.underlying33 info5 rfl (by decide) (by omega) u13 x13_2 49 [.int .u8 49] (fun _ => True) (fun _ => False) rfl rfl ?aP (fun _ hk => hk.elim) ?aF ?aO ?aB ?aS ?aL ?_; (case aP => exact rfl); (case aB => exact (by repeat (first | (with_reducible first | exact HB.out | apply below_alloc | apply pw_below_drewN | apply below_drew1 | refine below_set ?_ GE330.out) | exact HB.out))); (case aF => exact (fun _ _ => trivial)); (case aO => exact (by (with_reducible repeat (first | apply Kd.R_alloc | apply Kd.R_drewN | apply Kd.R_drew)); exact HO_13.out)); (case aS => exact (below_size (by repeat (first | (with_reducible first | exact HB.out | apply below_alloc | apply pw_below_drewN | apply below_drew1 | refine below_set ?_ GE330.out) | exact HB.out)))); (case aL => have := LMc33.out; omega); intro v352 w37 ho hb hg hat; rw [← Ny351.out] at ho; have n0_ := Aside0.mk (Kd.N_afterv (ok := (fun k_ => k_ ≠ gb330)) (by (with_reducible repeat (first | apply Kd.N_alloc | apply Kd.N_drewN | apply Kd.N_drew)); exact Kd.N_mono HO_12.out (fun _ hk => ⟨hk.2, hk.1⟩)) hg hat); have n1_ := Aside0.mk (blk_grown (g := gb330) (o := .cells #[.slice (some ad340) l0_0.length c0_0] 27 (0, 0)) (by (with_reducible repeat (first | refine blk_drewN ?_ _ | refine blk_drew ?_ | refine blk_alloc ?_ _)); exact BK330.out) hg (Kd.R_ne HO_13.out BK330.out (by decide))); have n2_ := Aside0.mk (Kd.V_afterv (ok := (fun k_ => some k_ ≠ (.slice (some ad347) t334.length co36 : Value).ownBlock ∧ k_ ≠ gb330)) (by (with_reducible repeat (first | apply Kd.V_alloc | apply Kd.V_drewN | apply Kd.V_drew)); exact Kd.V_mono HL347_0.out (fun _ hk => ⟨⟨hk.2, hk.1.2⟩, hk.1.1⟩)) hg hat); have n3_ := Aside0.mk (Kd.V_afterv (ok := (fun k_ => some k_ ≠ (.slice (some ad347) t334.length co36 : Value).ownBlock ∧ k_ ≠ gb330)) (by (with_reducible repeat (first | apply Kd.V_alloc | apply Kd.V_drewN | apply Kd.V_drew)); exact Kd.V_mono HL349_0.out (fun _ hk => ⟨⟨hk.2, hk.1.2⟩, hk.1.1⟩)) hg hat); have n4_ := Aside0.mk (hb); have n5_ := Aside0.mk (ho); clear HO_12; clear BK330; clear HL347_0; clear HL349_0; clear HB; clear HO_13; have HO_12 := n0_; have BK330 := n1_; have HL347_0 := n2_; have HL349_0 := n3_; have HB := n4_; have HO353 := n5_; clear n0_ n1_ n2_ n3_ n4_ n5_; clear ho hb hg hat; have hcz38_0 : w37.cell? ⟨gb330, 0, none⟩ = some (.slice (some ad340) l0_0.length c0_0) := (blk_cell BK330.out 0).trans rfl; have hfz38_0 := blk_frozen BK330.out 0; have p354 : 0 ≤ (x14_2 : Int) := of_decide_eq_true (by first | (with_reducible assumption) | assumption); have q354 : x14_2 < (l0_0.length : Int) := of_decide_eq_true (by first | (with_reducible assumption) | assumption); obtain ⟨ad354, A354_0, c354_0, e354, hx354_0, hl354_0, hi354_0⟩ := at_L1 HR0_0.out x14_2 p354 q354; obtain rfl : ad340 = ad354 := (by injection e354); replace hx354_0 := (HB.out.cell (World.block_lt_of_cell? w _ hx354_0)).trans hx354_0; have HR354_0 := Aside0.mk hi354_0; have HC354_0 := Aside0.mk hl354_0; clear hi354_0 hl354_0; replace p354 := eq_true p354; replace q354 := eq_true q354; have p355 : 0 ≤ (1 : Int) := (by omega); have q355 : 1 < ((rd_L1 l0_0 x14_2).length : Int) := of_decide_eq_true (by first | (with_reducible assumption) | assumption); obtain ⟨ad355, e355, hx355_0⟩ := Kd.at_int HR354_0.out 1 p355 q355; cases e355; (try simp only [show (1 : Int).toNat = 1 from rfl, Nat.reduceMul, Nat.reduceEqDiff, Go.Addr.add, ↓reduceIte] at hx355_0); have qi355 : (1 < (rd_L1 l0_0 x14_2).length) = True := eq_true (by omega); (try rw [show ((1 : Int)).toNat = 1 from rfl] at hx355_0); replace hx355_0 := (HB.out.cell (World.block_lt_of_cell? w _ hx355_0)).trans hx355_0; replace p355 := eq_true p355; replace q355 := eq_true q355))
                                    go_roundg k2
                                    case measure => have := HJ5.out; have := HK2.out; omega
                                    case rel => exact ⟨(wrap64 (x3_2 - (rd (rd_L1 t334 x15_2) (rd (rd_L1 l0_0 x14_2) 0)))), (y351), (rd (rd_L1 l0_0 x14_2) 1), (wrap64 (x15_2 - 1)), (by first | rfl | (simp; done) | (simp [*]; done)), (by first | rfl | (simp; done) | (simp [*]; done)), (by first | rfl | (simp; done) | (simp [*]; done)), H', ⟨by have := HJ5.out; have := HK2.out; omega⟩, ⟨by (with_reducible repeat (first | apply Kd.N_alloc | apply Kd.N_drewN | apply Kd.N_drew)); exact Kd.N_mono HO_12.out (fun _ hk => ⟨hk.2, hk.1⟩)⟩, ⟨by (with_reducible repeat (first | apply Kd.R_alloc | apply Kd.R_drewN | apply Kd.R_drew)); exact HO353.out⟩, ⟨by (with_reducible repeat (first | refine blk_drewN ?_ _ | refine blk_drew ?_ | refine blk_alloc ?_ _)); exact BK330.out⟩, ⟨by repeat (first | (with_reducible first | exact HB.out | apply below_alloc | apply pw_below_drewN | apply below_drew1 | refine below_set ?_ GE330.out) | exact HB.out)⟩⟩
                                  · rw [if_neg c34] at H
                                    exact absurd H (by simp)
                                · rw [if_neg c33] at H
                                  exact absurd H (by simp)
                              · rw [if_neg c32] at H
                                have c32b0 : decide ((rd (rd_L1 t334 x15_2) (rd (rd_L1 l0_0 x14_2) 0)) ≤ x3_2) = false := decide_eq_false c32
                                clear c32
                                by_cases c39 : x13_2.length < 140737488355328
                                · rw [if_pos c39] at H
                                  have LMc39 := Aside0.mk c39
                                  clear c39
                                  obtain ⟨y356, hy356⟩ : ∃ y_ : List Int, y_ = (x13_2 ++ [48]) := ⟨_, rfl⟩
                                  replace H : (impl_BitsAt.l0 k2 x3_2 t334 y356 (rd (rd_L1 l0_0 x14_2) 0) (wrap64 (x15_2 - 1)) l0_0) = some (r1, r2) := by first | (rw [hy356]; with_reducible exact H) | (have H2_ := (Option.bind_some _ _).symm.trans H; rw [hy356]; with_reducible exact H2_) | (have H2_ := (Option.bind_some _ _).symm.trans H; with_reducible exact H2_) | with_reducible exact H | (rw [hy356]; exact H) | exact H
                                  have Ny356 := Aside0.mk hy356
                                  clear hy356
                                  have H' := Aside0.mk H
                                  clear H
                                  have hcz40_0 : wr.cell? ⟨gb330, 0, none⟩ = some (.slice A0_0 l0_0.length c0_0) := (blk_cell BK330.out 0).trans rfl
                                  have hfz40_0 := blk_frozen BK330.out 0
                                  have p340 : 0 ≤ (x14_2 : Int) := of_decide_eq_true (by first | (with_reducible assumption) | assumption)
                                  have q340 : x14_2 < (l0_0.length : Int) := of_decide_eq_true (by first | (with_reducible assumption) | assumption)
                                  obtain ⟨ad340, A340_0, c340_0, e340, hx340_0, hl340_0, hi340_0⟩ := at_L1 HR0_0.out x14_2 p340 q340
                                  cases e340
                                  replace hx340_0 := (HB.out.cell (World.block_lt_of_cell? w _ hx340_0)).trans hx340_0
                                  have HR340_0 := Aside0.mk hi340_0
                                  have HC340_0 := Aside0.mk hl340_0
                                  clear hi340_0 hl340_0
                                  replace p340 := eq_true p340
                                  replace q340 := eq_true q340
                                  have p341 : 0 ≤ (0 : Int) := (by omega)
                                  have q341 : 0 < ((rd_L1 l0_0 x14_2).length : Int) := of_decide_eq_true (by first | (with_reducible assumption) | assumption)
                                  obtain ⟨ad341, e341, hx341_0⟩ := Kd.at_int HR340_0.out 0 p341 q341
                                  cases e341
                                  have qi341 : (0 < (rd_L1 l0_0 x14_2).length) = True := eq_true (by omega)
                                  (try rw [show ((0 : Int)).toNat = 0 from rfl] at hx341_0)
                                  (try rw [Addr.add_zero'] at hx341_0)
                                  replace hx341_0 := (HB.out.cell (World.block_lt_of_cell? w _ hx341_0)).trans hx341_0
                                  replace p341 := eq_true p341
                                  replace q341 := eq_true q341
                                  obtain ⟨Ao41, co41, eo41⟩ := Kd.N_slice HO_12.out
                                  subst eo41
                                  have p347 : 0 ≤ (x15_2 : Int) := of_decide_eq_true (by first | (with_reducible assumption) | assumption)
                                  have q347 : x15_2 < (t334.length : Int) := of_decide_eq_true (by first | (with_reducible assumption) | assumption)
                                  obtain ⟨ad347, A347_0, c347_0, e347, hx347_0, hl347_0, hi347_0⟩ := at_L1 (Kd.N_reads' HO_12.out).2.2 x15_2 p347 q347
                                  cases e347
                                  obtain ⟨ce347, hce347, hMe347, hcc347⟩ := Kd.N_get HO_12.out [] x15_2 p347 (by first | exact q347 | exact of_decide_eq_true (by first | (with_reducible assumption) | assumption) | (have e_ := (Kd.N_reads' HO_12.out).1; omega))
                                  obtain ⟨ua347_0, uc347_0, rfl, ul347_0, ge347_0⟩ := Kd.FK_slice_open hMe347
                                  have hv347_0 := hcc347 0 _ rfl
                                  rw [Nat.add_zero, show ((Kd.slice 2 (Kd.int .i64))).sz = 1 from rfl, Nat.mul_one] at hv347_0
                                  replace hv347_0 := Option.some.inj (hv347_0.symm.trans hx347_0)
                                  injection hv347_0 with hva_ hvn_ hvc_
                                  rw [hva_] at ge347_0
                                  rw [hvc_] at ul347_0
                                  have HL347_0 := Aside0.mk (show Kd.V (Kd.int .i64) 2 _ w.heap.size _ _ (rd_L1 t334 x15_2) from Kd.V_mk ul347_0 ge347_0)
                                  clear hva_ hvn_ hvc_ ge347_0 ul347_0
                                  clear hcc347 hce347
                                  have HR347_0 := Aside0.mk hi347_0
                                  have HC347_0 := Aside0.mk hl347_0
                                  clear hi347_0 hl347_0
                                  replace p347 := eq_true p347
                                  replace q347 := eq_true q347
                                  have p348 : 0 ≤ ((rd (rd_L1 l0_0 x14_2) 0) : Int) := of_decide_eq_true (by first | (with_reducible assumption) | assumption)
                                  have q348 : (rd (rd_L1 l0_0 x14_2) 0) < ((rd_L1 t334 x15_2).length : Int) := of_decide_eq_true (by first | (with_reducible assumption) | assumption)
                                  obtain ⟨ad348, e348, hx348_0⟩ := Kd.at_int (by repeat (first | (with_reducible exact HR347_0.out) | (with_reducible refine Kd.C_alloc ?_ _) | (with_reducible refine Kd.C_drewN ?_ _) | (with_reducible refine Kd.C_drew ?_) | exact HR347_0.out)) (rd (rd_L1 l0_0 x14_2) 0) p348 q348
                                  cases e348
                                  replace p348 := eq_true p348
                                  replace q348 := eq_true q348
                                  go_wp2_with (first | ((with_reducible refine gate_builtin (b := .append) (xs := #[.tmp 72, .tmp 75]) rfl ?_); at_builtin; refine Kd.R_append (Kd.int .u8) (w0 := w) w.heap.size rfl (.tmp 72) (.tmp 75) 33 5 (.int .u8 0) 1 rfl Tryd.underlying33 info5 rfl (by decide) (by omega) u13 x13_2 48 [.int .u8 48] (fun _ => True) (fun _ => False) rfl rfl ?aP (fun _ hk => hk.elim) ?aF ?aO ?aB ?aS ?aL ?_; (case aP => exact rfl); (case aB => exact (by repeat (first | (with_reducible first | exact HB.out | apply below_alloc | apply pw_below_drewN | apply below_drew1 | refine below_set ?_ GE330.out) | exact HB.out))); (case aF => exact (fun _ _ => trivial)); (case aO => exact (by (with_reducible repeat (first | apply Kd.R_alloc | apply Kd.R_drewN | apply Kd.R_drew)); exact HO_13.out)); (case aS => exact (below_size (by repeat (first | (with_reducible first | exact HB.out | apply below_alloc | apply pw_below_drewN | apply below_drew1 | refine below_set ?_ GE330.out) | exact HB.out)))); (case aL => have := LMc39.out; omega); intro v357 w42 ho hb hg hat; rw [← Ny356.out] at ho; have n0_ := Aside0.mk (Kd.N_afterv (ok := (fun k_ => k_ ≠ gb330)) (by (with_reducible repeat (first | apply Kd.N_alloc | apply Kd.N_drewN | apply Kd.N_drew)); exact Kd.N_mono HO_12.out (fun _ hk => ⟨hk.2, hk.1⟩)) hg hat); have n1_ := Aside0.mk (blk_grown (g := gb330) (o := .cells #[.slice (some ad340) l0_0.length c0_0] 27 (0, 0)) (by (with_reducible repeat (first | refine blk_drewN ?_ _ | refine blk_drew ?_ | refine blk_alloc ?_ _)); exact BK330.out) hg (Kd.R_ne HO_13.out BK330.out (by decide))); have n2_ := Aside0.mk (Kd.V_afterv (ok := (fun k_ => some k_ ≠ (.slice (some ad347) t334.length co41 : Value).ownBlock ∧ k_ ≠ gb330)) (by (with_reducible repeat (first | apply Kd.V_alloc | apply Kd.V_drewN | apply Kd.V_drew)); exact Kd.V_mono HL347_0.out (fun _ hk => ⟨⟨hk.2, hk.1.2⟩, hk.1.1⟩)) hg hat); have n3_ := Aside0.mk (hb); have n4_ := Aside0.mk (ho); clear HO_12; clear BK330; clear HL347_0; clear HB; clear HO_13; have HO_12 := n0_; have BK330 := n1_; have HL347_0 := n2_; have HB := n3_; have HO358 := n4_; clear n0_ n1_ n2_ n3_ n4_; clear ho hb hg hat; have hcz43_0 : w42.cell? ⟨gb330, 0, none⟩ = some (.slice (some ad340) l0_0.length c0_0) := (blk_cell BK330.out 0).trans rfl; have hfz43_0 := blk_frozen BK330.out 0; have p359 : 0 ≤ (x14_2 : Int) := of_decide_eq_true (by first | (with_reducible assumption) | assumption); have q359 : x14_2 < (l0_0.length : Int) := of_decide_eq_true (by first | (with_reducible assumption) | assumption); obtain ⟨ad359, A359_0, c359_0, e359, hx359_0, hl359_0, hi359_0⟩ := at_L1 HR0_0.out x14_2 p359 q359; obtain rfl : ad340 = ad359 := (by injection e359); replace hx359_0 := (HB.out.cell (World.block_lt_of_cell? w _ hx359_0)).trans hx359_0; have HR359_0 := Aside0.mk hi359_0; have HC359_0 := Aside0.mk hl359_0; clear hi359_0 hl359_0; replace p359 := eq_true p359; replace q359 := eq_true q359; have p360 : 0 ≤ (0 : Int) := (by omega); have q360 : 0 < ((rd_L1 l0_0 x14_2).length : Int) := of_decide_eq_true (by first | (with_reducible assumption) | assumption); obtain ⟨ad360, e360, hx360_0⟩ := Kd.at_int HR359_0.out 0 p360 q360; cases e360; have qi360 : (0 < (rd_L1 l0_0 x14_2).length) = True := eq_true (by omega); (try rw [show ((0 : Int)).toNat = 0 from rfl] at hx360_0); (try rw [Addr.add_zero'] at hx360_0); replace hx360_0 := (HB.out.cell (World.block_lt_of_cell? w _ hx360_0)).trans hx360_0; replace p360 := eq_true p360; replace q360 := eq_true q360))
                                  go_roundg k2
                                  case measure => have := HJ5.out; have := HK2.out; omega
                                  case rel => exact ⟨(x3_2), (y356), (rd (rd_L1 l0_0 x14_2) 0), (wrap64 (x15_2 - 1)), (by first | rfl | (simp; done) | (simp [*]; done)), (by first | rfl | (simp; done) | (simp [*]; done)), (by first | rfl | (simp; done) | (simp [*]; done)), H', ⟨by have := HJ5.out; have := HK2.out; omega⟩, ⟨by (with_reducible repeat (first | apply Kd.N_alloc | apply Kd.N_drewN | apply Kd.N_drew)); exact Kd.N_mono HO_12.out (fun _ hk => ⟨hk.2, hk.1⟩)⟩, ⟨by (with_reducible repeat (first | apply Kd.R_alloc | apply Kd.R_drewN | apply Kd.R_drew)); exact HO358.out⟩, ⟨by (with_reducible repeat (first | refine blk_drewN ?_ _ | refine blk_drew ?_ | refine blk_alloc ?_ _)); exact BK330.out⟩, ⟨by repeat (first | (with_reducible first | exact HB.out | apply below_alloc | apply pw_below_drewN | apply below_drew1 | refine below_set ?_ GE330.out) | exact HB.out)⟩⟩
                                · rw [if_neg c39] at H
                                  exact absurd H (by simp)
                            · rw [if_neg c31] at H
                              exact absurd H (by simp)
                          · rw [if_neg c30] at H
                            exact absurd H (by simp)
                        · rw [if_neg c29] at H
                          exact absurd H (by simp)
                      · rw [if_neg c28] at H
                        exact absurd H (by simp)
                  · rw [if_neg c21] at H
                    exact absurd H (by simp)
                · rw [if_neg c20] at H
                  exact absurd H (by simp)
              · rw [if_neg c19] at H
                exact absurd H (by simp)
            · rw [if_neg c18] at H
              have c18b0 : decide (0 ≤ x15_2) = false := decide_eq_false c18
              clear c18
              simp only [Option.some.injEq, Prod.mk.injEq] at H
              obtain ⟨rfl, rfl⟩ := H
              have hcv44 := own_string (P := Tryd.prog) Tryd.underlying33 Tryd.underlying5 Tryd.underlying9 (Kd.own_of_R HO_13.out)
              go_wp2
              go_ret2
              exact ⟨by first | rfl | (simp [errW_none, errW_some] <;> rfl) | (simp [*, errW_none, errW_some] <;> rfl), by repeat (first | (with_reducible first | exact HB.out | apply below_alloc | apply pw_below_drewN | apply below_drew1 | refine below_set ?_ GE330.out) | exact HB.out)⟩

end Go.Proofs.YtanndepgepgfoabDoor.QFnRankedBits
