/-
Each Go function that this text names answers as the Lean function beside it says, wherever that one answers; conditions: the arguments lie in memory as each theorem states it.
-/
import Derived.Test.YtanndepgepgfoaaQFnExactBitsAtx0
import Derived.Test.YtanndepgepgfoaaQFnExactBitsAtx4
import Derived.Test.YtanndepgepgfoaaQFnExactBitsAtx6
namespace Go.Proofs.Ytanndepgepgfoaa.QFnExactBitsAt
open Go.RowKit Go.Proofs.YtanndepgepgfoaaW.PrintWords Go.Proofs.YtanndepgepgfoaaW.PrintLast Go.Proofs.YtanndepgepgfoaaW.PrintMore
attribute [local go_sem] max2_int min2_int max_two min_two max_three min_three max_four min_four   -- for this text's walks alone
set_option linter.unusedVariables false
set_option linter.unusedSimpArgs false

/-! ### impl_BitsAt: function 39 -/
mutual
def impl_BitsAt.j0 : Nat → Int → Int → Int → Bool → List (List Int) → Option (ByteArray × Bool)
  | 0, _, _, _, _, _ => none
  | k + 1, x1, x2, x3, x33, x254000 => if x33 = true then (some ((⟨#[]⟩ : ByteArray), false)) else ((impl_Graph_counts.f k x254000 x2).bind fun t257 => (impl_BitsAt.l0 k x3 t257 (([] : List Int)) x1 (wrap64 (x2 - 1)) x254000))
def impl_BitsAt.l0 : Nat → Int → List (List Int) → List Int → Int → Int → List (List Int) → Option (ByteArray × Bool)
  | 0, _, _, _, _, _, _ => none
  | k + 1, x3, x12, x13, x14, x15, x254000 => if x15 ≥ 0 then (if 0 ≤ x14 then (if x14 < (x254000.length : Int) then (if 0 < ((rd_L1 x254000 x14).length : Int) then (if (rd (rd_L1 x254000 x14) 0) < 0 then (if x13.length < 140737488355328 then (if 1 < ((rd_L1 x254000 x14).length : Int) then (impl_BitsAt.l0 k x3 x12 (x13 ++ [49]) (rd (rd_L1 x254000 x14) 1) (wrap64 (x15 - 1)) x254000) else (none)) else (none)) else (if 0 ≤ x15 then (if x15 < (x12.length : Int) then (if 0 ≤ (rd (rd_L1 x254000 x14) 0) then (if (rd (rd_L1 x254000 x14) 0) < ((rd_L1 x12 x15).length : Int) then (if x3 ≥ (rd (rd_L1 x12 x15) (rd (rd_L1 x254000 x14) 0)) then (if x13.length < 140737488355328 then (if 1 < ((rd_L1 x254000 x14).length : Int) then (impl_BitsAt.l0 k (wrap64 (x3 - (rd (rd_L1 x12 x15) (rd (rd_L1 x254000 x14) 0)))) x12 (x13 ++ [49]) (rd (rd_L1 x254000 x14) 1) (wrap64 (x15 - 1)) x254000) else (none)) else (none)) else (if x13.length < 140737488355328 then (impl_BitsAt.l0 k x3 x12 (x13 ++ [48]) (rd (rd_L1 x254000 x14) 0) (wrap64 (x15 - 1)) x254000) else (none))) else (none)) else (none)) else (none)) else (none))) else (none)) else (none)) else (none)) else (some (strOfNums x13, true))
end
def impl_BitsAt.f (k : Nat) (l0_0 : List (List Int)) (a1 : Int) (a2 : Int) (a3 : Int) : Option (ByteArray × Bool) := (impl_CountAllowed.f k l0_0 a1 a2).bind fun bt254 => (if bt254.2 = true then ((impl_within.f a3 0 (wrap64 (bt254.1 - 1))).bind fun t256 => (impl_BitsAt.j0 k a1 a2 a3 (!t256) l0_0)) else (impl_BitsAt.j0 k a1 a2 a3 true l0_0))
theorem impl_BitsAt.mono_l : ∀ k, (∀ y0 y1 y2 y3 y4, LeO (impl_BitsAt.j0 k y0 y1 y2 y3 y4) (impl_BitsAt.j0 (k + 1) y0 y1 y2 y3 y4)) ∧ (∀ y0 y1 y2 y3 y4 y5, LeO (impl_BitsAt.l0 k y0 y1 y2 y3 y4 y5) (impl_BitsAt.l0 (k + 1) y0 y1 y2 y3 y4 y5))
  | 0 => ⟨fun _ _ _ _ _ r h => by simp [impl_BitsAt.j0] at h, fun _ _ _ _ _ _ r h => by simp [impl_BitsAt.l0] at h⟩
  | k + 1 => by
    obtain ⟨ih0, ih1⟩ := impl_BitsAt.mono_l k
    refine ⟨?_, ?_⟩
    · intro y0 y1 y2 y3 y4
      unfold impl_BitsAt.j0
      repeat' first
      | (with_reducible exact ih0 _ _ _ _ _)
      | (with_reducible exact ih1 _ _ _ _ _ _)
      | (with_reducible exact impl_CountAllowed.mono _ _ _ _)
      | (with_reducible exact impl_Graph_counts.mono _ _ _)
      | (with_reducible exact LeO.refl _)
      | (with_reducible exact LeO.none _)
      | (with_reducible refine LeO.ite ?_ ?_)
      | (with_reducible refine LeO.bind ?_ (fun _ => ?_))
      | exact ih0 _ _ _ _ _
      | exact ih1 _ _ _ _ _ _
      | exact impl_CountAllowed.mono _ _ _ _
      | exact impl_Graph_counts.mono _ _ _
      | exact LeO.none _
      | refine LeO.ite ?_ ?_
      | refine LeO.bind ?_ (fun _ => ?_)
    · intro y0 y1 y2 y3 y4 y5
      unfold impl_BitsAt.l0
      repeat' first
      | (with_reducible exact ih0 _ _ _ _ _)
      | (with_reducible exact ih1 _ _ _ _ _ _)
      | (with_reducible exact impl_CountAllowed.mono _ _ _ _)
      | (with_reducible exact impl_Graph_counts.mono _ _ _)
      | (with_reducible exact LeO.refl _)
      | (with_reducible exact LeO.none _)
      | (with_reducible refine LeO.ite ?_ ?_)
      | (with_reducible refine LeO.bind ?_ (fun _ => ?_))
      | exact ih0 _ _ _ _ _
      | exact ih1 _ _ _ _ _ _
      | exact impl_CountAllowed.mono _ _ _ _
      | exact impl_Graph_counts.mono _ _ _
      | exact LeO.none _
      | refine LeO.ite ?_ ?_
      | refine LeO.bind ?_ (fun _ => ?_)
theorem impl_BitsAt.mono : ∀ a0 a1 a2 a3 k, LeO (impl_BitsAt.f k a0 a1 a2 a3) (impl_BitsAt.f (k + 1) a0 a1 a2 a3) := by
  intro a0 a1 a2 a3 k
  obtain ⟨ih0, ih1⟩ := impl_BitsAt.mono_l k
  unfold impl_BitsAt.f
  repeat' first
      | (with_reducible exact ih0 _ _ _ _ _)
      | (with_reducible exact ih1 _ _ _ _ _ _)
      | (with_reducible exact impl_CountAllowed.mono _ _ _ _)
      | (with_reducible exact impl_Graph_counts.mono _ _ _)
      | (with_reducible exact LeO.refl _)
      | (with_reducible exact LeO.none _)
      | (with_reducible refine LeO.ite ?_ ?_)
      | (with_reducible refine LeO.bind ?_ (fun _ => ?_))
      | exact ih0 _ _ _ _ _
      | exact ih1 _ _ _ _ _ _
      | exact impl_CountAllowed.mono _ _ _ _
      | exact impl_Graph_counts.mono _ _ _
      | exact LeO.none _
      | refine LeO.ite ?_ ?_
      | refine LeO.bind ?_ (fun _ => ?_)
set_option maxHeartbeats 8000000 in
set_option maxRecDepth 100000 in
theorem impl_BitsAt.calls (k : Nat) (A0_0 : Option Addr) (c0_0 : Nat) (l0_0 : List (List Int)) (a1 : Int) (a2 : Int) (a3 : Int) (r1 : ByteArray) (r2 : Bool) (w : World) (hr0_0 : Kd.C (Kd.slice 2 (Kd.int .i64)) w A0_0 l0_0.length l0_0) (hc0_0 : l0_0.length ≤ c0_0) (h : impl_BitsAt.f k l0_0 a1 a2 a3 = some (r1, r2)) :
    Calls Try.prog 39 #[.agg #[.slice A0_0 l0_0.length c0_0], .int .i64 a1, .int .i64 a2, .int .i64 a3] w fun e w' => e = .returned (.tuple #[.string r1, .bool r2]) ∧ Below w.heap.size w w' := by
  have hu24 := Try.underlying24
  have HR0_0 := Aside0.mk hr0_0
  have HC0_0 := Aside0.mk hc0_0
  clear hr0_0 hc0_0
  have HB := Aside0.mk (Below.refl w.heap.size w)
  have H : ((impl_CountAllowed.f k l0_0 a1 a2).bind fun bt254 => (if bt254.2 = true then ((impl_within.f a3 0 (wrap64 (bt254.1 - 1))).bind fun t256 => (impl_BitsAt.j0 k a1 a2 a3 (!t256) l0_0)) else (impl_BitsAt.j0 k a1 a2 a3 true l0_0))) = some (r1, r2) := h
  clear h
  replace H := Option.bind_eq_some_iff.mp H
  obtain ⟨⟨t254, t255⟩, A50, H⟩ := H
  replace H : (if t255 = true then ((impl_within.f a3 0 (wrap64 (t254 - 1))).bind fun t256 => (impl_BitsAt.j0 k a1 a2 a3 (!t256) l0_0)) else (impl_BitsAt.j0 k a1 a2 a3 true l0_0)) = some (r1, r2) := H
  have A5 := Aside0.mk A50
  clear A50
  have HC6 := Aside0.mk H
  clear H
  go_enter Try.func39, Try.ntmps39
  go_upto_region 2 with (first | ((with_reducible refine gate_dst (N := 4) rfl ?_); refine box_event ?hg (N := 4) ?hd (cs := #[.slice A0_0 l0_0.length c0_0]) (t := 24) ?hr ?_; (case hd => rfl); (case hg => rfl); (case hr => first | (go_simp; done) | (go_simp; rfl)); intro gb253 hg w7 hbox hb; have n0_ := Aside0.mk (below_step (by repeat (first | (with_reducible first | exact HB.out | apply below_alloc | apply pw_below_drewN | apply below_drew1) | exact HB.out)) hb); have n1_ := Aside0.mk (hbox); have n2_ := Aside0.mk ((by rw [hg]; exact (below_size (by repeat (first | (with_reducible first | exact HB.out | apply below_alloc | apply pw_below_drewN | apply below_drew1) | exact HB.out))) : w.heap.size ≤ gb253)); have n3_ := Aside0.mk ((by rw [hg]; exact (below_size (by repeat (first | (with_reducible first | exact HB.out | apply below_alloc | apply pw_below_drewN | apply below_drew1) | exact HB.out))) : w.heap.size ≤ gb253)); clear HB; have HB := n0_; have BK253 := n1_; have GW253 := n2_; have GE253 := n3_; clear n0_ n1_ n2_ n3_; clear hb hbox hg; have hcz8_0 : w7.cell? ⟨gb253, 0, none⟩ = some (.slice A0_0 l0_0.length c0_0) := (blk_cell BK253.out 0).trans rfl; have hfz8_0 := blk_frozen BK253.out 0) | ((with_reducible refine gate_callee (f := 37) rfl ?_); refine goesL_ (some 22) rfl rfl Try.func37 (by kernel_rfl) rfl #[.agg #[.slice A0_0 l0_0.length c0_0], .int .i64 a1, .int .i64 a2] rfl (by (try simp only [List.map_toArray, List.map_cons, List.map_nil]); first | done | rfl | (simp only [List.length_drop, List.length_take]; rfl)) ?_; (with_reducible refine (impl_CountAllowed.calls k _ _ l0_0 a1 a2 t254 t255 _ ?side1 ?side2 A5.out).mono ?_); (case side1 => repeat (first | exact (Kd.C_below HR0_0.out HB.out) | (with_reducible refine Kd.C_alloc ?_ _) | (with_reducible refine Kd.C_drewN ?_ _) | (with_reducible refine Kd.C_drew ?_))); (case side2 => exact HC0_0.out); rintro e w9 ⟨rfl, hb⟩; refine ⟨_, rfl, ?_⟩; have n0_ := Aside0.mk (blk_below (g := gb253) (o := .cells #[.slice A0_0 l0_0.length c0_0] 24 (0, 0)) (by (with_reducible repeat (first | refine blk_drewN ?_ _ | refine blk_drew ?_ | refine blk_alloc ?_ _)); exact BK253.out) hb); have n1_ := Aside0.mk (below_step (by repeat (first | (with_reducible first | exact HB.out | apply below_alloc | apply pw_below_drewN | apply below_drew1 | refine below_set ?_ GE253.out) | exact HB.out)) hb); clear BK253; clear HB; have BK253 := n0_; have HB := n1_; clear n0_ n1_; (try clear hb); (try clear hb2); (try clear hk); (try clear hi)))
  (try simp only [Act.put, List.setIfInBounds_toArray, List.set_cons_zero, List.set_cons_succ])
  go_cut [33] (fun v33 wc => ∃ (kq : Nat) (x33_5 : Bool), v33 = .bool x33_5 ∧ Aside0 (impl_BitsAt.j0 kq a1 a2 a3 x33_5 l0_0 = some (r1, r2)) ∧ Aside0 (kq ≤ k) ∧ Aside0 (wc.heap[gb253]? = some (.cells #[(.slice A0_0 l0_0.length c0_0)] 24 (0, 0))) ∧ Aside0 (Below w.heap.size w wc))
  case first =>
    have H := HC6.out
    clear HC6
    by_cases c10 : t255 = true
    · subst c10
      have H1 : ((impl_within.f a3 0 (wrap64 (t254 - 1))).bind fun t256 => (impl_BitsAt.j0 k a1 a2 a3 (!t256) l0_0)) = some (r1, r2) := by rw [if_pos rfl] at H; exact H
      clear H
      have H := H1
      clear H1
      replace H := Option.bind_eq_some_iff.mp H
      obtain ⟨t256, A110, H⟩ := H
      replace H : (impl_BitsAt.j0 k a1 a2 a3 (!t256) l0_0) = some (r1, r2) := H
      have A11 := Aside0.mk A110
      clear A110
      have H' := Aside0.mk H
      clear H
      go_wp2_with (first | (go_at_call 43; (with_reducible refine (impl_within.calls a3 0 (wrap64 (t254 - 1)) t256 _ A11.out).mono ?_); rintro e w' ⟨rfl, ⟨nd, rfl⟩⟩))
      go_meet
      case rel => exact ⟨_, (!t256), (by first | rfl | (simp; done) | (simp [*]; done)), H', ⟨by first | omega | exact Nat.le_refl _⟩, ⟨by (with_reducible repeat (first | refine blk_drewN ?_ _ | refine blk_drew ?_ | refine blk_alloc ?_ _)); exact BK253.out⟩, ⟨by repeat (first | (with_reducible first | exact HB.out | apply below_alloc | apply pw_below_drewN | apply below_drew1 | refine below_set ?_ GE253.out) | exact HB.out)⟩⟩
    · replace c10 := Bool.eq_false_iff.mpr c10
      subst c10
      have H1 : (impl_BitsAt.j0 k a1 a2 a3 true l0_0) = some (r1, r2) := by rw [if_neg (show ¬ (false = true) by decide)] at H; exact H
      clear H
      have H := H1
      clear H1
      have H' := Aside0.mk H
      clear H
      go_wp2
      go_meet
      case rel => exact ⟨_, (true), (by first | rfl | (simp; done) | (simp [*]; done)), H', ⟨by first | omega | exact Nat.le_refl _⟩, ⟨by (with_reducible repeat (first | refine blk_drewN ?_ _ | refine blk_drew ?_ | refine blk_alloc ?_ _)); exact BK253.out⟩, ⟨by repeat (first | (with_reducible first | exact HB.out | apply below_alloc | apply pw_below_drewN | apply below_drew1 | refine below_set ?_ GE253.out) | exact HB.out)⟩⟩
  case rest =>
    clear HC6
    try clear c1
    try clear p2
    try clear c3
    try clear p6
    try clear c10
    try clear hcz8_0
    try clear hfz8_0
    obtain ⟨kq, x33_5, rfl, HA, HJ5, BK253, HB⟩ := hcut
    cases kq with
    | zero => exact absurd HA.out (by simp [impl_BitsAt.j0])
    | succ kj5 =>
      have H := HA.out
      clear HA
      simp only [impl_BitsAt.j0] at H
      by_cases c12 : x33_5 = true
      · subst c12
        have H1 : (some ((⟨#[]⟩ : ByteArray), false)) = some (r1, r2) := by rw [if_pos rfl] at H; exact H
        clear H
        have H := H1
        clear H1
        simp only [Option.some.injEq, Prod.mk.injEq] at H
        obtain ⟨rfl, rfl⟩ := H
        go_wp2
        go_ret2
        exact ⟨by first | rfl | (simp [errW_none, errW_some] <;> rfl) | (simp [*, errW_none, errW_some] <;> rfl), by repeat (first | (with_reducible first | exact HB.out | apply below_alloc | apply pw_below_drewN | apply below_drew1 | refine below_set ?_ GE253.out) | exact HB.out)⟩
      · replace c12 := Bool.eq_false_iff.mpr c12
        subst c12
        have H1 : ((impl_Graph_counts.f kj5 l0_0 a2).bind fun t257 => (impl_BitsAt.l0 kj5 a3 t257 (([] : List Int)) a1 (wrap64 (a2 - 1)) l0_0)) = some (r1, r2) := by rw [if_neg (show ¬ (false = true) by decide)] at H; exact H
        clear H
        have H := H1
        clear H1
        replace H := Option.bind_eq_some_iff.mp H
        obtain ⟨t257, A130, H⟩ := H
        replace H : (impl_BitsAt.l0 kj5 a3 t257 (([] : List Int)) a1 (wrap64 (a2 - 1)) l0_0) = some (r1, r2) := H
        have A13 := Aside0.mk A130
        clear A130
        obtain ⟨y260, hy260⟩ : ∃ y_ : List Int, y_ = (([] : List Int)) := ⟨_, rfl⟩
        replace H : (impl_BitsAt.l0 kj5 a3 t257 y260 a1 (wrap64 (a2 - 1)) l0_0) = some (r1, r2) := by first | (rw [hy260]; with_reducible exact H) | (have H2_ := (Option.bind_some _ _).symm.trans H; rw [hy260]; with_reducible exact H2_) | (have H2_ := (Option.bind_some _ _).symm.trans H; with_reducible exact H2_) | with_reducible exact H | (rw [hy260]; exact H) | exact H
        have Ny260 := Aside0.mk hy260
        clear hy260
        have H' := Aside0.mk H
        clear H
        have hcz14_0 : wc.cell? ⟨gb253, 0, none⟩ = some (.slice A0_0 l0_0.length c0_0) := (blk_cell BK253.out 0).trans rfl
        have hfz14_0 := blk_frozen BK253.out 0
        go_wp2_with (first | ((with_reducible refine gate_callee (f := 66) rfl ?_); refine goesL_ (some 36) rfl rfl Try.func66 (by kernel_rfl) rfl #[.agg #[.slice A0_0 l0_0.length c0_0], .int .i64 a2] rfl (by (try simp only [List.map_toArray, List.map_cons, List.map_nil]); first | done | rfl | (simp only [List.length_drop, List.length_take]; rfl)) ?_; (with_reducible refine (impl_Graph_counts.calls kj5 _ _ l0_0 a2 t257 _ ?side1 ?side2 A13.out).mono ?_); (case side1 => repeat (first | exact (Kd.C_below HR0_0.out HB.out) | (with_reducible refine Kd.C_alloc ?_ _) | (with_reducible refine Kd.C_drewN ?_ _) | (with_reducible refine Kd.C_drew ?_))); (case side2 => exact HC0_0.out); rintro e w15 ⟨v258, rfl, ho0, hb⟩; refine ⟨_, rfl, ?_⟩; have n0_ := Aside0.mk (Kd.N_lower (Kd.N_mono (ok' := fun k_ => k_ ≠ gb253) ho0 (fun k_ hk_ => (Kd.freshB (g := gb253) (o := .cells #[.slice A0_0 l0_0.length c0_0] 24 (0, 0)) (by (with_reducible repeat (first | refine blk_drewN ?_ _ | refine blk_drew ?_ | refine blk_alloc ?_ _)); exact BK253.out) k_ hk_))) (below_size (by repeat (first | (with_reducible first | exact HB.out | apply below_alloc | apply pw_below_drewN | apply below_drew1 | refine below_set ?_ GE253.out) | exact HB.out)))); have n1_ := Aside0.mk (blk_below (g := gb253) (o := .cells #[.slice A0_0 l0_0.length c0_0] 24 (0, 0)) (by (with_reducible repeat (first | refine blk_drewN ?_ _ | refine blk_drew ?_ | refine blk_alloc ?_ _)); exact BK253.out) hb); have n2_ := Aside0.mk (below_step (by repeat (first | (with_reducible first | exact HB.out | apply below_alloc | apply pw_below_drewN | apply below_drew1 | refine below_set ?_ GE253.out) | exact HB.out)) hb); clear BK253; clear HB; have HO259 := n0_; have BK253 := n1_; have HB := n2_; clear n0_ n1_ n2_; (try clear hb); (try clear hb2); (try clear hk); (try clear hi); (try clear ho0)) | ((with_reducible refine gate_dst (N := 37) rfl ?_); refine Kd.R_lit (Kd.int .u8) _ 5 ?hg (N := 37) ?hd (xs := ([] : List Int)) (inner := []) (ok := fun _ => True) (okp := fun _ => True) ?hr ?hp (fun _ hk => hk) trivial (Below.refl _ _) (Nat.le_refl _) (by simp) ?_; (case hd => rfl); (case hg => rfl); (case hr => first | (go_simp; done) | (go_simp; rfl)); (case hp => exact (Reps.none _ _)); intro v261 w16 ho17 hb hg_ hnew_; clear hg_ hnew_; (first | rw [← Ny260.out] at ho17 | (simp only [Int.reduceToNat] at ho17; rw [← Ny260.out] at ho17)); have n0_ := Aside0.mk (Kd.N_elder' (by (with_reducible repeat (first | apply Kd.N_alloc | apply Kd.N_drewN | apply Kd.N_drew)); exact HO259.out) (Kd.R_base ho17) hb); have n1_ := Aside0.mk (Kd.R_lower ho17 (below_size (by repeat (first | (with_reducible first | exact HB.out | apply below_alloc | apply pw_below_drewN | apply below_drew1 | refine below_set ?_ GE253.out) | exact HB.out)))); have n2_ := Aside0.mk (blk_below (g := gb253) (o := .cells #[.slice A0_0 l0_0.length c0_0] 24 (0, 0)) (by (with_reducible repeat (first | refine blk_drewN ?_ _ | refine blk_drew ?_ | refine blk_alloc ?_ _)); exact BK253.out) hb); have n3_ := Aside0.mk (below_step (by repeat (first | (with_reducible first | exact HB.out | apply below_alloc | apply pw_below_drewN | apply below_drew1 | refine below_set ?_ GE253.out) | exact HB.out)) hb); clear HO259; clear BK253; clear HB; have HO259 := n0_; have HO262 := n1_; have BK253 := n2_; have HB := n3_; clear n0_ n1_ n2_ n3_; clear hb ho17))
        go_loopg [3, 13, 14, 15] kj5 (fun kq v3 v13 v14 v15 w' => ∃ (x3_2 : Int) (x13_2 : List Int) (x14_2 : Int) (x15_2 : Int), v3 = .int .i64 x3_2 ∧ v14 = .int .i64 x14_2 ∧ v15 = .int .i64 x15_2 ∧ Aside0 (impl_BitsAt.l0 kq x3_2 t257 x13_2 x14_2 x15_2 l0_0 = some (r1, r2)) ∧ Aside0 (kq ≤ kj5) ∧ Aside0 (Kd.N (Kd.slice 2 (Kd.int .i64)) 40 w' w.heap.size (fun k_ => some k_ ≠ (v13 : Value).ownBlock ∧ k_ ≠ gb253) v258 t257) ∧ Aside0 (Kd.R (Kd.int .u8) 5 w' w.heap.size (fun _ => True) v13 x13_2) ∧ Aside0 (w'.heap[gb253]? = some (.cells #[(.slice A0_0 l0_0.length c0_0)] 24 (0, 0))) ∧ Aside0 (Below w.heap.size w w'))
        case atStart => exact ⟨(a3), (y260), (a1), (wrap64 (a2 - 1)), (by first | rfl | (simp; done) | (simp [*]; done)), (by first | rfl | (simp; done) | (simp [*]; done)), (by first | rfl | (simp; done) | (simp [*]; done)), H', ⟨Nat.le_refl _⟩, ⟨by (with_reducible repeat (first | apply Kd.N_alloc | apply Kd.N_drewN | apply Kd.N_drew)); exact Kd.N_mono HO259.out (fun _ hk => ⟨hk.2, hk.1⟩)⟩, ⟨by (with_reducible repeat (first | apply Kd.R_alloc | apply Kd.R_drewN | apply Kd.R_drew)); exact HO262.out⟩, ⟨by (with_reducible repeat (first | refine blk_drewN ?_ _ | refine blk_drew ?_ | refine blk_alloc ?_ _)); exact BK253.out⟩, ⟨by repeat (first | (with_reducible first | exact HB.out | apply below_alloc | apply pw_below_drewN | apply below_drew1 | refine below_set ?_ GE253.out) | exact HB.out)⟩⟩
        case round =>
          clear H'
          try clear c1
          try clear p2
          try clear c3
          try clear c6
          try clear p6
          try clear c10
          try clear c12
          try clear hcz14_0
          try clear hcz8_0
          try clear hfz14_0
          try clear hfz8_0
          try clear p2
          try clear p6
          obtain ⟨x3_2, x13_2, x14_2, x15_2, rfl, rfl, rfl, HA, HK2, HO_12, HO_13, BK253, HB⟩ := hrel
          cases gk with
          | zero => exact absurd HA.out (by simp [impl_BitsAt.l0])
          | succ k2 =>
            have H := HA.out
            clear HA
            simp only [impl_BitsAt.l0] at H
            by_cases c18 : x15_2 ≥ 0
            · rw [if_pos c18] at H
              have c18b0 : decide (0 ≤ x15_2) = true := decide_eq_true c18
              clear c18
              by_cases c19 : 0 ≤ x14_2
              · rw [if_pos c19] at H
                have c19b0 : decide (0 ≤ x14_2) = true := decide_eq_true c19
                clear c19
                by_cases c20 : x14_2 < (l0_0.length : Int)
                · rw [if_pos c20] at H
                  have c20b0 : decide (x14_2 < (l0_0.length : Int)) = true := decide_eq_true c20
                  clear c20
                  by_cases c21 : 0 < ((rd_L1 l0_0 x14_2).length : Int)
                  · rw [if_pos c21] at H
                    have c21b0 : decide (0 < ((rd_L1 l0_0 x14_2).length : Int)) = true := decide_eq_true c21
                    have c21b1 : decide (0 < (rd_L1 l0_0 x14_2).length) = true := decide_eq_true (by omega)
                    clear c21
                    by_cases c22 : (rd (rd_L1 l0_0 x14_2) 0) < 0
                    · rw [if_pos c22] at H
                      have c22b0 : decide ((rd (rd_L1 l0_0 x14_2) 0) < 0) = true := decide_eq_true c22
                      clear c22
                      by_cases c23 : x13_2.length < 140737488355328
                      · rw [if_pos c23] at H
                        have LMc23 := Aside0.mk c23
                        clear c23
                        obtain ⟨y265, hy265⟩ : ∃ y_ : List Int, y_ = (x13_2 ++ [49]) := ⟨_, rfl⟩
                        replace H : (if 1 < ((rd_L1 l0_0 x14_2).length : Int) then (impl_BitsAt.l0 k2 x3_2 t257 y265 (rd (rd_L1 l0_0 x14_2) 1) (wrap64 (x15_2 - 1)) l0_0) else (none)) = some (r1, r2) := by first | (rw [hy265]; with_reducible exact H) | (have H2_ := (Option.bind_some _ _).symm.trans H; rw [hy265]; with_reducible exact H2_) | (have H2_ := (Option.bind_some _ _).symm.trans H; with_reducible exact H2_) | with_reducible exact H | (rw [hy265]; exact H) | exact H
                        have Ny265 := Aside0.mk hy265
                        clear hy265
                        by_cases c24 : 1 < ((rd_L1 l0_0 x14_2).length : Int)
                        · rw [if_pos c24] at H
                          have c24b0 : decide (1 < ((rd_L1 l0_0 x14_2).length : Int)) = true := decide_eq_true c24
                          have c24b1 : decide (1 < (rd_L1 l0_0 x14_2).length) = true := decide_eq_true (by omega)
                          clear c24
                          have H' := Aside0.mk H
                          clear H
                          have hcz25_0 : wr.cell? ⟨gb253, 0, none⟩ = some (.slice A0_0 l0_0.length c0_0) := (blk_cell BK253.out 0).trans rfl
                          have hfz25_0 := blk_frozen BK253.out 0
                          have p263 : 0 ≤ (x14_2 : Int) := of_decide_eq_true (by first | (with_reducible assumption) | assumption)
                          have q263 : x14_2 < (l0_0.length : Int) := of_decide_eq_true (by first | (with_reducible assumption) | assumption)
                          obtain ⟨ad263, A263_0, c263_0, e263, hx263_0, hl263_0, hi263_0⟩ := at_L1 HR0_0.out x14_2 p263 q263
                          cases e263
                          replace hx263_0 := (HB.out.cell (World.block_lt_of_cell? w _ hx263_0)).trans hx263_0
                          have HR263_0 := Aside0.mk hi263_0
                          have HC263_0 := Aside0.mk hl263_0
                          clear hi263_0 hl263_0
                          replace p263 := eq_true p263
                          replace q263 := eq_true q263
                          have p264 : 0 ≤ (0 : Int) := (by omega)
                          have q264 : 0 < ((rd_L1 l0_0 x14_2).length : Int) := of_decide_eq_true (by first | (with_reducible assumption) | assumption)
                          obtain ⟨ad264, e264, hx264_0⟩ := Kd.at_int HR263_0.out 0 p264 q264
                          cases e264
                          have qi264 : (0 < (rd_L1 l0_0 x14_2).length) = True := eq_true (by omega)
                          (try rw [show ((0 : Int)).toNat = 0 from rfl] at hx264_0)
                          (try rw [Addr.add_zero'] at hx264_0)
                          replace hx264_0 := (HB.out.cell (World.block_lt_of_cell? w _ hx264_0)).trans hx264_0
                          replace p264 := eq_true p264
                          replace q264 := eq_true q264
                          go_wp2_with (first | ((with_reducible refine gate_builtin (b := .append) (xs := #[.tmp 72, .tmp 75]) rfl ?_); at_builtin; refine Kd.R_append (Kd.int .u8) (w0 := w) w.heap.size rfl (.tmp 72) (.tmp 75) 67 5 (.int .u8 0) 1 rfl Try.underlying67 info5 rfl (by decide) (by omega) u13 x13_2 49 [.int .u8 49] (fun _ => True) (fun _ => False) rfl rfl ?aP (fun _ hk => hk.elim) ?aF ?aO ?aB ?aS ?aL ?_; (case aP => exact rfl); (case aB => exact (by repeat (first | (with_reducible first | exact HB.out | apply below_alloc | apply pw_below_drewN | apply below_drew1 | refine below_set ?_ GE253.out) | exact HB.out))); (case aF => exact (fun _ _ => trivial)); (case aO => exact (by (with_reducible repeat (first | apply Kd.R_alloc | apply Kd.R_drewN | apply Kd.R_drew)); exact HO_13.out)); (case aS => exact (below_size (by repeat (first | (with_reducible first | exact HB.out | apply below_alloc | apply pw_below_drewN | apply below_drew1 | refine below_set ?_ GE253.out) | exact HB.out)))); (case aL => have := LMc23.out; omega); intro v266 w26 ho hb hg hat; rw [← Ny265.out] at ho; have n0_ := Aside0.mk (Kd.N_afterv (ok := (fun k_ => k_ ≠ gb253)) (by (with_reducible repeat (first | apply Kd.N_alloc | apply Kd.N_drewN | apply Kd.N_drew)); exact Kd.N_mono HO_12.out (fun _ hk => ⟨hk.2, hk.1⟩)) hg hat); have n1_ := Aside0.mk (blk_grown (g := gb253) (o := .cells #[.slice (some ad263) l0_0.length c0_0] 24 (0, 0)) (by (with_reducible repeat (first | refine blk_drewN ?_ _ | refine blk_drew ?_ | refine blk_alloc ?_ _)); exact BK253.out) hg (Kd.R_ne HO_13.out BK253.out (by decide))); have n2_ := Aside0.mk (hb); have n3_ := Aside0.mk (ho); clear HO_12; clear BK253; clear HB; clear HO_13; have HO_12 := n0_; have BK253 := n1_; have HB := n2_; have HO267 := n3_; clear n0_ n1_ n2_ n3_; clear ho hb hg hat; have hcz27_0 : w26.cell? ⟨gb253, 0, none⟩ = some (.slice (some ad263) l0_0.length c0_0) := (blk_cell BK253.out 0).trans rfl; have hfz27_0 := blk_frozen BK253.out 0; have p268 : 0 ≤ (x14_2 : Int) := of_decide_eq_true (by first | (with_reducible assumption) | assumption); have q268 : x14_2 < (l0_0.length : Int) := of_decide_eq_true (by first | (with_reducible assumption) | assumption); obtain ⟨ad268, A268_0, c268_0, e268, hx268_0, hl268_0, hi268_0⟩ := at_L1 HR0_0.out x14_2 p268 q268; obtain rfl : ad263 = ad268 := (by injection e268); replace hx268_0 := (HB.out.cell (World.block_lt_of_cell? w _ hx268_0)).trans hx268_0; have HR268_0 := Aside0.mk hi268_0; have HC268_0 := Aside0.mk hl268_0; clear hi268_0 hl268_0; replace p268 := eq_true p268; replace q268 := eq_true q268; have p269 : 0 ≤ (1 : Int) := (by omega); have q269 : 1 < ((rd_L1 l0_0 x14_2).length : Int) := of_decide_eq_true (by first | (with_reducible assumption) | assumption); obtain ⟨ad269, e269, hx269_0⟩ := Kd.at_int HR268_0.out 1 p269 q269; cases e269; (try simp only [show (1 : Int).toNat = 1 from rfl, Nat.reduceMul, Nat.reduceEqDiff, Go.Addr.add, ↓reduceIte] at hx269_0); have qi269 : (1 < (rd_L1 l0_0 x14_2).length) = True := eq_true (by omega); (try rw [show ((1 : Int)).toNat = 1 from rfl] at hx269_0); replace hx269_0 := (HB.out.cell (World.block_lt_of_cell? w _ hx269_0)).trans hx269_0; replace p269 := eq_true p269; replace q269 := eq_true q269))
                          go_roundg k2
                          case measure => have := HJ5.out; have := HK2.out; omega
                          case rel => exact ⟨(x3_2), (y265), (rd (rd_L1 l0_0 x14_2) 1), (wrap64 (x15_2 - 1)), (by first | rfl | (simp; done) | (simp [*]; done)), (by first | rfl | (simp; done) | (simp [*]; done)), (by first | rfl | (simp; done) | (simp [*]; done)), H', ⟨by have := HJ5.out; have := HK2.out; omega⟩, ⟨by (with_reducible repeat (first | apply Kd.N_alloc | apply Kd.N_drewN | apply Kd.N_drew)); exact Kd.N_mono HO_12.out (fun _ hk => ⟨hk.2, hk.1⟩)⟩, ⟨by (with_reducible repeat (first | apply Kd.R_alloc | apply Kd.R_drewN | apply Kd.R_drew)); exact HO267.out⟩, ⟨by (with_reducible repeat (first | refine blk_drewN ?_ _ | refine blk_drew ?_ | refine blk_alloc ?_ _)); exact BK253.out⟩, ⟨by repeat (first | (with_reducible first | exact HB.out | apply below_alloc | apply pw_below_drewN | apply below_drew1 | refine below_set ?_ GE253.out) | exact HB.out)⟩⟩
                        · rw [if_neg c24] at H
                          exact absurd H (by simp)
                      · rw [if_neg c23] at H
                        exact absurd H (by simp)
                    · rw [if_neg c22] at H
                      have c22b0 : decide ((rd (rd_L1 l0_0 x14_2) 0) < 0) = false := decide_eq_false c22
                      clear c22
                      by_cases c28 : 0 ≤ x15_2
                      · rw [if_pos c28] at H
                        have c28b0 : decide (0 ≤ x15_2) = true := decide_eq_true c28
                        clear c28
                        by_cases c29 : x15_2 < (t257.length : Int)
                        · rw [if_pos c29] at H
                          have c29b0 : decide (x15_2 < (t257.length : Int)) = true := decide_eq_true c29
                          clear c29
                          by_cases c30 : 0 ≤ (rd (rd_L1 l0_0 x14_2) 0)
                          · rw [if_pos c30] at H
                            have c30b0 : decide (0 ≤ (rd (rd_L1 l0_0 x14_2) 0)) = true := decide_eq_true c30
                            clear c30
                            by_cases c31 : (rd (rd_L1 l0_0 x14_2) 0) < ((rd_L1 t257 x15_2).length : Int)
                            · rw [if_pos c31] at H
                              have c31b0 : decide ((rd (rd_L1 l0_0 x14_2) 0) < ((rd_L1 t257 x15_2).length : Int)) = true := decide_eq_true c31
                              clear c31
                              by_cases c32 : x3_2 ≥ (rd (rd_L1 t257 x15_2) (rd (rd_L1 l0_0 x14_2) 0))
                              · rw [if_pos c32] at H
                                have c32b0 : decide ((rd (rd_L1 t257 x15_2) (rd (rd_L1 l0_0 x14_2) 0)) ≤ x3_2) = true := decide_eq_true c32
                                clear c32
                                by_cases c33 : x13_2.length < 140737488355328
                                · rw [if_pos c33] at H
                                  have LMc33 := Aside0.mk c33
                                  clear c33
                                  obtain ⟨y274, hy274⟩ : ∃ y_ : List Int, y_ = (x13_2 ++ [49]) := ⟨_, rfl⟩
                                  replace H : (if 1 < ((rd_L1 l0_0 x14_2).length : Int) then (impl_BitsAt.l0 k2 (wrap64 (x3_2 - (rd (rd_L1 t257 x15_2) (rd (rd_L1 l0_0 x14_2) 0)))) t257 y274 (rd (rd_L1 l0_0 x14_2) 1) (wrap64 (x15_2 - 1)) l0_0) else (none)) = some (r1, r2) := by first | (rw [hy274]; with_reducible exact H) | (have H2_ := (Option.bind_some _ _).symm.trans H; rw [hy274]; with_reducible exact H2_) | (have H2_ := (Option.bind_some _ _).symm.trans H; with_reducible exact H2_) | with_reducible exact H | (rw [hy274]; exact H) | exact H
                                  have Ny274 := Aside0.mk hy274
                                  clear hy274
                                  by_cases c34 : 1 < ((rd_L1 l0_0 x14_2).length : Int)
                                  · rw [if_pos c34] at H
                                    have c34b0 : decide (1 < ((rd_L1 l0_0 x14_2).length : Int)) = true := decide_eq_true c34
                                    have c34b1 : decide (1 < (rd_L1 l0_0 x14_2).length) = true := decide_eq_true (by omega)
                                    clear c34
                                    have H' := Aside0.mk H
                                    clear H
                                    have hcz35_0 : wr.cell? ⟨gb253, 0, none⟩ = some (.slice A0_0 l0_0.length c0_0) := (blk_cell BK253.out 0).trans rfl
                                    have hfz35_0 := blk_frozen BK253.out 0
                                    have p263 : 0 ≤ (x14_2 : Int) := of_decide_eq_true (by first | (with_reducible assumption) | assumption)
                                    have q263 : x14_2 < (l0_0.length : Int) := of_decide_eq_true (by first | (with_reducible assumption) | assumption)
                                    obtain ⟨ad263, A263_0, c263_0, e263, hx263_0, hl263_0, hi263_0⟩ := at_L1 HR0_0.out x14_2 p263 q263
                                    cases e263
                                    replace hx263_0 := (HB.out.cell (World.block_lt_of_cell? w _ hx263_0)).trans hx263_0
                                    have HR263_0 := Aside0.mk hi263_0
                                    have HC263_0 := Aside0.mk hl263_0
                                    clear hi263_0 hl263_0
                                    replace p263 := eq_true p263
                                    replace q263 := eq_true q263
                                    have p264 : 0 ≤ (0 : Int) := (by omega)
                                    have q264 : 0 < ((rd_L1 l0_0 x14_2).length : Int) := of_decide_eq_true (by first | (with_reducible assumption) | assumption)
                                    obtain ⟨ad264, e264, hx264_0⟩ := Kd.at_int HR263_0.out 0 p264 q264
                                    cases e264
                                    have qi264 : (0 < (rd_L1 l0_0 x14_2).length) = True := eq_true (by omega)
                                    (try rw [show ((0 : Int)).toNat = 0 from rfl] at hx264_0)
                                    (try rw [Addr.add_zero'] at hx264_0)
                                    replace hx264_0 := (HB.out.cell (World.block_lt_of_cell? w _ hx264_0)).trans hx264_0
                                    replace p264 := eq_true p264
                                    replace q264 := eq_true q264
                                    obtain ⟨Ao36, co36, eo36⟩ := Kd.N_slice HO_12.out
                                    subst eo36
                                    have p270 : 0 ≤ (x15_2 : Int) := of_decide_eq_true (by first | (with_reducible assumption) | assumption)
                                    have q270 : x15_2 < (t257.length : Int) := of_decide_eq_true (by first | (with_reducible assumption) | assumption)
                                    obtain ⟨ad270, A270_0, c270_0, e270, hx270_0, hl270_0, hi270_0⟩ := at_L1 (Kd.N_reads' HO_12.out).2.2 x15_2 p270 q270
                                    cases e270
                                    obtain ⟨ce270, hce270, hMe270, hcc270⟩ := Kd.N_get HO_12.out [] x15_2 p270 (by first | exact q270 | exact of_decide_eq_true (by first | (with_reducible assumption) | assumption) | (have e_ := (Kd.N_reads' HO_12.out).1; omega))
                                    obtain ⟨ua270_0, uc270_0, rfl, ul270_0, ge270_0⟩ := Kd.FK_slice_open hMe270
                                    have hv270_0 := hcc270 0 _ rfl
                                    rw [Nat.add_zero, show ((Kd.slice 2 (Kd.int .i64))).sz = 1 from rfl, Nat.mul_one] at hv270_0
                                    replace hv270_0 := Option.some.inj (hv270_0.symm.trans hx270_0)
                                    injection hv270_0 with hva_ hvn_ hvc_
                                    rw [hva_] at ge270_0
                                    rw [hvc_] at ul270_0
                                    have HL270_0 := Aside0.mk (show Kd.V (Kd.int .i64) 2 _ w.heap.size _ _ (rd_L1 t257 x15_2) from Kd.V_mk ul270_0 ge270_0)
                                    clear hva_ hvn_ hvc_ ge270_0 ul270_0
                                    clear hcc270 hce270
                                    have HR270_0 := Aside0.mk hi270_0
                                    have HC270_0 := Aside0.mk hl270_0
                                    clear hi270_0 hl270_0
                                    replace p270 := eq_true p270
                                    replace q270 := eq_true q270
                                    have p271 : 0 ≤ ((rd (rd_L1 l0_0 x14_2) 0) : Int) := of_decide_eq_true (by first | (with_reducible assumption) | assumption)
                                    have q271 : (rd (rd_L1 l0_0 x14_2) 0) < ((rd_L1 t257 x15_2).length : Int) := of_decide_eq_true (by first | (with_reducible assumption) | assumption)
                                    obtain ⟨ad271, e271, hx271_0⟩ := Kd.at_int (by repeat (first | (with_reducible exact HR270_0.out) | (with_reducible refine Kd.C_alloc ?_ _) | (with_reducible refine Kd.C_drewN ?_ _) | (with_reducible refine Kd.C_drew ?_) | exact HR270_0.out)) (rd (rd_L1 l0_0 x14_2) 0) p271 q271
                                    cases e271
                                    replace p271 := eq_true p271
                                    replace q271 := eq_true q271
                                    have p272 : 0 ≤ (x15_2 : Int) := of_decide_eq_true (by first | (with_reducible assumption) | assumption)
                                    have q272 : x15_2 < (t257.length : Int) := of_decide_eq_true (by first | (with_reducible assumption) | assumption)
                                    obtain ⟨ad272, A272_0, c272_0, e272, hx272_0, hl272_0, hi272_0⟩ := at_L1 (Kd.N_reads' HO_12.out).2.2 x15_2 p272 q272
                                    obtain rfl : ad270 = ad272 := (by injection e272)
                                    obtain ⟨ce272, hce272, hMe272, hcc272⟩ := Kd.N_get HO_12.out [] x15_2 p272 (by first | exact q272 | exact of_decide_eq_true (by first | (with_reducible assumption) | assumption) | (have e_ := (Kd.N_reads' HO_12.out).1; omega))
                                    obtain ⟨ua272_0, uc272_0, rfl, ul272_0, ge272_0⟩ := Kd.FK_slice_open hMe272
                                    have hv272_0 := hcc272 0 _ rfl
                                    rw [Nat.add_zero, show ((Kd.slice 2 (Kd.int .i64))).sz = 1 from rfl, Nat.mul_one] at hv272_0
                                    replace hv272_0 := Option.some.inj (hv272_0.symm.trans hx272_0)
                                    injection hv272_0 with hva_ hvn_ hvc_
                                    rw [hva_] at ge272_0
                                    rw [hvc_] at ul272_0
                                    have HL272_0 := Aside0.mk (show Kd.V (Kd.int .i64) 2 _ w.heap.size _ _ (rd_L1 t257 x15_2) from Kd.V_mk ul272_0 ge272_0)
                                    clear hva_ hvn_ hvc_ ge272_0 ul272_0
                                    clear hcc272 hce272
                                    have HR272_0 := Aside0.mk hi272_0
                                    have HC272_0 := Aside0.mk hl272_0
                                    clear hi272_0 hl272_0
                                    replace p272 := eq_true p272
                                    replace q272 := eq_true q272
                                    have ea_ := Option.some.inj (hx270_0.symm.trans hx272_0)
                                    injection ea_ with ea_ en_ ec_
                                    subst ea_
                                    subst ec_
                                    clear en_
                                    have p273 : 0 ≤ ((rd (rd_L1 l0_0 x14_2) 0) : Int) := of_decide_eq_true (by first | (with_reducible assumption) | assumption)
                                    have q273 : (rd (rd_L1 l0_0 x14_2) 0) < ((rd_L1 t257 x15_2).length : Int) := of_decide_eq_true (by first | (with_reducible assumption) | assumption)
                                    obtain ⟨ad273, e273, hx273_0⟩ := Kd.at_int (by repeat (first | (with_reducible exact HR272_0.out) | (with_reducible refine Kd.C_alloc ?_ _) | (with_reducible refine Kd.C_drewN ?_ _) | (with_reducible refine Kd.C_drew ?_) | exact HR272_0.out)) (rd (rd_L1 l0_0 x14_2) 0) p273 q273
                                    cases e273
                                    replace p273 := eq_true p273
                                    replace q273 := eq_true q273
                                    go_wp2_with (first | ((with_reducible refine gate_builtin (b := .append) (xs := #[.tmp 72, .tmp 75]) rfl ?_); at_builtin; refine Kd.R_append (Kd.int .u8) (w0 := w) w.heap.size rfl (.tmp 72) (.tmp 75) 67 5 (.int .u8 0) 1 rfl Try.underlying67 info5 rfl (by decide) (by omega) u13 x13_2 49 [.int .u8 49] (fun _ => True) (fun _ => False) rfl rfl ?aP (fun _ hk => hk.elim) ?aF ?aO ?aB ?aS ?aL ?_; (case aP => exact rfl); (case aB => exact (by repeat (first | (with_reducible first | exact HB.out | apply below_alloc | apply pw_below_drewN | apply below_drew1 | refine below_set ?_ GE253.out) | exact HB.out))); (case aF => exact (fun _ _ => trivial)); (case aO => exact (by (with_reducible repeat (first | apply Kd.R_alloc | apply Kd.R_drewN | apply Kd.R_drew)); exact HO_13.out)); (case aS => exact (below_size (by repeat (first | (with_reducible first | exact HB.out | apply below_alloc | apply pw_below_drewN | apply below_drew1 | refine below_set ?_ GE253.out) | exact HB.out)))); (case aL => have := LMc33.out; omega); intro v275 w37 ho hb hg hat; rw [← Ny274.out] at ho; have n0_ := Aside0.mk (Kd.N_afterv (ok := (fun k_ => k_ ≠ gb253)) (by (with_reducible repeat (first | apply Kd.N_alloc | apply Kd.N_drewN | apply Kd.N_drew)); exact Kd.N_mono HO_12.out (fun _ hk => ⟨hk.2, hk.1⟩)) hg hat); have n1_ := Aside0.mk (blk_grown (g := gb253) (o := .cells #[.slice (some ad263) l0_0.length c0_0] 24 (0, 0)) (by (with_reducible repeat (first | refine blk_drewN ?_ _ | refine blk_drew ?_ | refine blk_alloc ?_ _)); exact BK253.out) hg (Kd.R_ne HO_13.out BK253.out (by decide))); have n2_ := Aside0.mk (Kd.V_afterv (ok := (fun k_ => some k_ ≠ (.slice (some ad270) t257.length co36 : Value).ownBlock ∧ k_ ≠ gb253)) (by (with_reducible repeat (first | apply Kd.V_alloc | apply Kd.V_drewN | apply Kd.V_drew)); exact Kd.V_mono HL270_0.out (fun _ hk => ⟨⟨hk.2, hk.1.2⟩, hk.1.1⟩)) hg hat); have n3_ := Aside0.mk (Kd.V_afterv (ok := (fun k_ => some k_ ≠ (.slice (some ad270) t257.length co36 : Value).ownBlock ∧ k_ ≠ gb253)) (by (with_reducible repeat (first | apply Kd.V_alloc | apply Kd.V_drewN | apply Kd.V_drew)); exact Kd.V_mono HL272_0.out (fun _ hk => ⟨⟨hk.2, hk.1.2⟩, hk.1.1⟩)) hg hat); have n4_ := Aside0.mk (hb); have n5_ := Aside0.mk (ho); clear HO_12; clear BK253; clear HL270_0; clear HL272_0; clear HB; clear HO_13; have HO_12 := n0_; have BK253 := n1_; have HL270_0 := n2_; have HL272_0 := n3_; have HB := n4_; have HO276 := n5_; clear n0_ n1_ n2_ n3_ n4_ n5_; clear ho hb hg hat; have hcz38_0 : w37.cell? ⟨gb253, 0, none⟩ = some (.slice (some ad263) l0_0.length c0_0) := (blk_cell BK253.out 0).trans rfl; have hfz38_0 := blk_frozen BK253.out 0; have p277 : 0 ≤ (x14_2 : Int) := of_decide_eq_true (by first | (with_reducible assumption) | assumption); have q277 : x14_2 < (l0_0.length : Int) := of_decide_eq_true (by first | (with_reducible assumption) | assumption); obtain ⟨ad277, A277_0, c277_0, e277, hx277_0, hl277_0, hi277_0⟩ := at_L1 HR0_0.out x14_2 p277 q277; obtain rfl : ad263 = ad277 := (by injection e277); replace hx277_0 := (HB.out.cell (World.block_lt_of_cell? w _ hx277_0)).trans hx277_0; have HR277_0 := Aside0.mk hi277_0; have HC277_0 := Aside0.mk hl277_0; clear hi277_0 hl277_0; replace p277 := eq_true p277; replace q277 := eq_true q277; have p278 : 0 ≤ (1 : Int) := (by omega); have q278 : 1 < ((rd_L1 l0_0 x14_2).length : Int) := of_decide_eq_true (by first | (with_reducible assumption) | assumption); obtain ⟨ad278, e278, hx278_0⟩ := Kd.at_int HR277_0.out 1 p278 q278; cases e278; (try simp only [show (1 : Int).toNat = 1 from rfl, Nat.reduceMul, Nat.reduceEqDiff, Go.Addr.add, ↓reduceIte] at hx278_0); have qi278 : (1 < (rd_L1 l0_0 x14_2).length) = True := eq_true (by omega); (try rw [show ((1 : Int)).toNat = 1 from rfl] at hx278_0); replace hx278_0 := (HB.out.cell (World.block_lt_of_cell? w _ hx278_0)).trans hx278_0; replace p278 := eq_true p278; replace q278 := eq_true q278))
                                    go_roundg k2
                                    case measure => have := HJ5.out; have := HK2.out; omega
                                    case rel => exact ⟨(wrap64 (x3_2 - (rd (rd_L1 t257 x15_2) (rd (rd_L1 l0_0 x14_2) 0)))), (y274), (rd (rd_L1 l0_0 x14_2) 1), (wrap64 (x15_2 - 1)), (by first | rfl | (simp; done) | (simp [*]; done)), (by first | rfl | (simp; done) | (simp [*]; done)), (by first | rfl | (simp; done) | (simp [*]; done)), H', ⟨by have := HJ5.out; have := HK2.out; omega⟩, ⟨by (with_reducible repeat (first | apply Kd.N_alloc | apply Kd.N_drewN | apply Kd.N_drew)); exact Kd.N_mono HO_12.out (fun _ hk => ⟨hk.2, hk.1⟩)⟩, ⟨by (with_reducible repeat (first | apply Kd.R_alloc | apply Kd.R_drewN | apply Kd.R_drew)); exact HO276.out⟩, ⟨by (with_reducible repeat (first | refine blk_drewN ?_ _ | refine blk_drew ?_ | refine blk_alloc ?_ _)); exact BK253.out⟩, ⟨by repeat (first | (with_reducible first | exact HB.out | apply below_alloc | apply pw_below_drewN | apply below_drew1 | refine below_set ?_ GE253.out) | exact HB.out)⟩⟩
                                  · rw [if_neg c34] at H
                                    exact absurd H (by simp)
                                · rw [if_neg c33] at H
                                  exact absurd H (by simp)
                              · rw [if_neg c32] at H
                                have c32b0 : decide ((rd (rd_L1 t257 x15_2) (rd (rd_L1 l0_0 x14_2) 0)) ≤ x3_2) = false := decide_eq_false c32
                                clear c32
                                by_cases c39 : x13_2.length < 140737488355328
                                · rw [if_pos c39] at H
                                  have LMc39 := Aside0.mk c39
                                  clear c39
                                  obtain ⟨y279, hy279⟩ : ∃ y_ : List Int, y_ = (x13_2 ++ [48]) := ⟨_, rfl⟩
                                  replace H : (impl_BitsAt.l0 k2 x3_2 t257 y279 (rd (rd_L1 l0_0 x14_2) 0) (wrap64 (x15_2 - 1)) l0_0) = some (r1, r2) := by first | (rw [hy279]; with_reducible exact H) | (have H2_ := (Option.bind_some _ _).symm.trans H; rw [hy279]; with_reducible exact H2_) | (have H2_ := (Option.bind_some _ _).symm.trans H; with_reducible exact H2_) | with_reducible exact H | (rw [hy279]; exact H) | exact H
                                  have Ny279 := Aside0.mk hy279
                                  clear hy279
                                  have H' := Aside0.mk H
                                  clear H
                                  have hcz40_0 : wr.cell? ⟨gb253, 0, none⟩ = some (.slice A0_0 l0_0.length c0_0) := (blk_cell BK253.out 0).trans rfl
                                  have hfz40_0 := blk_frozen BK253.out 0
                                  have p263 : 0 ≤ (x14_2 : Int) := of_decide_eq_true (by first | (with_reducible assumption) | assumption)
                                  have q263 : x14_2 < (l0_0.length : Int) := of_decide_eq_true (by first | (with_reducible assumption) | assumption)
                                  obtain ⟨ad263, A263_0, c263_0, e263, hx263_0, hl263_0, hi263_0⟩ := at_L1 HR0_0.out x14_2 p263 q263
                                  cases e263
                                  replace hx263_0 := (HB.out.cell (World.block_lt_of_cell? w _ hx263_0)).trans hx263_0
                                  have HR263_0 := Aside0.mk hi263_0
                                  have HC263_0 := Aside0.mk hl263_0
                                  clear hi263_0 hl263_0
                                  replace p263 := eq_true p263
                                  replace q263 := eq_true q263
                                  have p264 : 0 ≤ (0 : Int) := (by omega)
                                  have q264 : 0 < ((rd_L1 l0_0 x14_2).length : Int) := of_decide_eq_true (by first | (with_reducible assumption) | assumption)
                                  obtain ⟨ad264, e264, hx264_0⟩ := Kd.at_int HR263_0.out 0 p264 q264
                                  cases e264
                                  have qi264 : (0 < (rd_L1 l0_0 x14_2).length) = True := eq_true (by omega)
                                  (try rw [show ((0 : Int)).toNat = 0 from rfl] at hx264_0)
                                  (try rw [Addr.add_zero'] at hx264_0)
                                  replace hx264_0 := (HB.out.cell (World.block_lt_of_cell? w _ hx264_0)).trans hx264_0
                                  replace p264 := eq_true p264
                                  replace q264 := eq_true q264
                                  obtain ⟨Ao41, co41, eo41⟩ := Kd.N_slice HO_12.out
                                  subst eo41
                                  have p270 : 0 ≤ (x15_2 : Int) := of_decide_eq_true (by first | (with_reducible assumption) | assumption)
                                  have q270 : x15_2 < (t257.length : Int) := of_decide_eq_true (by first | (with_reducible assumption) | assumption)
                                  obtain ⟨ad270, A270_0, c270_0, e270, hx270_0, hl270_0, hi270_0⟩ := at_L1 (Kd.N_reads' HO_12.out).2.2 x15_2 p270 q270
                                  cases e270
                                  obtain ⟨ce270, hce270, hMe270, hcc270⟩ := Kd.N_get HO_12.out [] x15_2 p270 (by first | exact q270 | exact of_decide_eq_true (by first | (with_reducible assumption) | assumption) | (have e_ := (Kd.N_reads' HO_12.out).1; omega))
                                  obtain ⟨ua270_0, uc270_0, rfl, ul270_0, ge270_0⟩ := Kd.FK_slice_open hMe270
                                  have hv270_0 := hcc270 0 _ rfl
                                  rw [Nat.add_zero, show ((Kd.slice 2 (Kd.int .i64))).sz = 1 from rfl, Nat.mul_one] at hv270_0
                                  replace hv270_0 := Option.some.inj (hv270_0.symm.trans hx270_0)
                                  injection hv270_0 with hva_ hvn_ hvc_
                                  rw [hva_] at ge270_0
                                  rw [hvc_] at ul270_0
                                  have HL270_0 := Aside0.mk (show Kd.V (Kd.int .i64) 2 _ w.heap.size _ _ (rd_L1 t257 x15_2) from Kd.V_mk ul270_0 ge270_0)
                                  clear hva_ hvn_ hvc_ ge270_0 ul270_0
                                  clear hcc270 hce270
                                  have HR270_0 := Aside0.mk hi270_0
                                  have HC270_0 := Aside0.mk hl270_0
                                  clear hi270_0 hl270_0
                                  replace p270 := eq_true p270
                                  replace q270 := eq_true q270
                                  have p271 : 0 ≤ ((rd (rd_L1 l0_0 x14_2) 0) : Int) := of_decide_eq_true (by first | (with_reducible assumption) | assumption)
                                  have q271 : (rd (rd_L1 l0_0 x14_2) 0) < ((rd_L1 t257 x15_2).length : Int) := of_decide_eq_true (by first | (with_reducible assumption) | assumption)
                                  obtain ⟨ad271, e271, hx271_0⟩ := Kd.at_int (by repeat (first | (with_reducible exact HR270_0.out) | (with_reducible refine Kd.C_alloc ?_ _) | (with_reducible refine Kd.C_drewN ?_ _) | (with_reducible refine Kd.C_drew ?_) | exact HR270_0.out)) (rd (rd_L1 l0_0 x14_2) 0) p271 q271
                                  cases e271
                                  replace p271 := eq_true p271
                                  replace q271 := eq_true q271
                                  go_wp2_with (first | ((with_reducible refine gate_builtin (b := .append) (xs := #[.tmp 72, .tmp 75]) rfl ?_); at_builtin; refine Kd.R_append (Kd.int .u8) (w0 := w) w.heap.size rfl (.tmp 72) (.tmp 75) 67 5 (.int .u8 0) 1 rfl Try.underlying67 info5 rfl (by decide) (by omega) u13 x13_2 48 [.int .u8 48] (fun _ => True) (fun _ => False) rfl rfl ?aP (fun _ hk => hk.elim) ?aF ?aO ?aB ?aS ?aL ?_; (case aP => exact rfl); (case aB => exact (by repeat (first | (with_reducible first | exact HB.out | apply below_alloc | apply pw_below_drewN | apply below_drew1 | refine below_set ?_ GE253.out) | exact HB.out))); (case aF => exact (fun _ _ => trivial)); (case aO => exact (by (with_reducible repeat (first | apply Kd.R_alloc | apply Kd.R_drewN | apply Kd.R_drew)); exact HO_13.out)); (case aS => exact (below_size (by repeat (first | (with_reducible first | exact HB.out | apply below_alloc | apply pw_below_drewN | apply below_drew1 | refine below_set ?_ GE253.out) | exact HB.out)))); (case aL => have := LMc39.out; omega); intro v280 w42 ho hb hg hat; rw [← Ny279.out] at ho; have n0_ := Aside0.mk (Kd.N_afterv (ok := (fun k_ => k_ ≠ gb253)) (by (with_reducible repeat (first | apply Kd.N_alloc | apply Kd.N_drewN | apply Kd.N_drew)); exact Kd.N_mono HO_12.out (fun _ hk => ⟨hk.2, hk.1⟩)) hg hat); have n1_ := Aside0.mk (blk_grown (g := gb253) (o := .cells #[.slice (some ad263) l0_0.length c0_0] 24 (0, 0)) (by (with_reducible repeat (first | refine blk_drewN ?_ _ | refine blk_drew ?_ | refine blk_alloc ?_ _)); exact BK253.out) hg (Kd.R_ne HO_13.out BK253.out (by decide))); have n2_ := Aside0.mk (Kd.V_afterv (ok := (fun k_ => some k_ ≠ (.slice (some ad270) t257.length co41 : Value).ownBlock ∧ k_ ≠ gb253)) (by (with_reducible repeat (first | apply Kd.V_alloc | apply Kd.V_drewN | apply Kd.V_drew)); exact Kd.V_mono HL270_0.out (fun _ hk => ⟨⟨hk.2, hk.1.2⟩, hk.1.1⟩)) hg hat); have n3_ := Aside0.mk (hb); have n4_ := Aside0.mk (ho); clear HO_12; clear BK253; clear HL270_0; clear HB; clear HO_13; have HO_12 := n0_; have BK253 := n1_; have HL270_0 := n2_; have HB := n3_; have HO281 := n4_; clear n0_ n1_ n2_ n3_ n4_; clear ho hb hg hat; have hcz43_0 : w42.cell? ⟨gb253, 0, none⟩ = some (.slice (some ad263) l0_0.length c0_0) := (blk_cell BK253.out 0).trans rfl; have hfz43_0 := blk_frozen BK253.out 0; have p282 : 0 ≤ (x14_2 : Int) := of_decide_eq_true (by first | (with_reducible assumption) | assumption); have q282 : x14_2 < (l0_0.length : Int) := of_decide_eq_true (by first | (with_reducible assumption) | assumption); obtain ⟨ad282, A282_0, c282_0, e282, hx282_0, hl282_0, hi282_0⟩ := at_L1 HR0_0.out x14_2 p282 q282; obtain rfl : ad263 = ad282 := (by injection e282); replace hx282_0 := (HB.out.cell (World.block_lt_of_cell? w _ hx282_0)).trans hx282_0; have HR282_0 := Aside0.mk hi282_0; have HC282_0 := Aside0.mk hl282_0; clear hi282_0 hl282_0; replace p282 := eq_true p282; replace q282 := eq_true q282; have p283 : 0 ≤ (0 : Int) := (by omega); have q283 : 0 < ((rd_L1 l0_0 x14_2).length : Int) := of_decide_eq_true (by first | (with_reducible assumption) | assumption); obtain ⟨ad283, e283, hx283_0⟩ := Kd.at_int HR282_0.out 0 p283 q283; cases e283; have qi283 : (0 < (rd_L1 l0_0 x14_2).length) = True := eq_true (by omega); (try rw [show ((0 : Int)).toNat = 0 from rfl] at hx283_0); (try rw [Addr.add_zero'] at hx283_0); replace hx283_0 := (HB.out.cell (World.block_lt_of_cell? w _ hx283_0)).trans hx283_0; replace p283 := eq_true p283; replace q283 := eq_true q283))
                                  go_roundg k2
                                  case measure => have := HJ5.out; have := HK2.out; omega
                                  case rel => exact ⟨(x3_2), (y279), (rd (rd_L1 l0_0 x14_2) 0), (wrap64 (x15_2 - 1)), (by first | rfl | (simp; done) | (simp [*]; done)), (by first | rfl | (simp; done) | (simp [*]; done)), (by first | rfl | (simp; done) | (simp [*]; done)), H', ⟨by have := HJ5.out; have := HK2.out; omega⟩, ⟨by (with_reducible repeat (first | apply Kd.N_alloc | apply Kd.N_drewN | apply Kd.N_drew)); exact Kd.N_mono HO_12.out (fun _ hk => ⟨hk.2, hk.1⟩)⟩, ⟨by (with_reducible repeat (first | apply Kd.R_alloc | apply Kd.R_drewN | apply Kd.R_drew)); exact HO281.out⟩, ⟨by (with_reducible repeat (first | refine blk_drewN ?_ _ | refine blk_drew ?_ | refine blk_alloc ?_ _)); exact BK253.out⟩, ⟨by repeat (first | (with_reducible first | exact HB.out | apply below_alloc | apply pw_below_drewN | apply below_drew1 | refine below_set ?_ GE253.out) | exact HB.out)⟩⟩
                                · rw [if_neg c39] at H
                                  exact absurd H (by simp)
                            · rw [if_neg c31] at H
                              exact absurd H (by simp)
                          · rw [if_neg c30] at H
                            exact absurd H (by simp)
                        · rw [if_neg c29] at H
                          exact absurd H (by simp)
                      · rw [if_neg c28] at H
                        exact absurd H (by simp)
                  · rw [if_neg c21] at H
                    exact absurd H (by simp)
                · rw [if_neg c20] at H
                  exact absurd H (by simp)
              · rw [if_neg c19] at H
                exact absurd H (by simp)
            · rw [if_neg c18] at H
              have c18b0 : decide (0 ≤ x15_2) = false := decide_eq_false c18
              clear c18
              simp only [Option.some.injEq, Prod.mk.injEq] at H
              obtain ⟨rfl, rfl⟩ := H
              have hcv44 := own_string (P := Try.prog) Try.underlying67 Try.underlying5 Try.underlying9 (Kd.own_of_R HO_13.out)
              go_wp2
              go_ret2
              exact ⟨by first | rfl | (simp [errW_none, errW_some] <;> rfl) | (simp [*, errW_none, errW_some] <;> rfl), by repeat (first | (with_reducible first | exact HB.out | apply below_alloc | apply pw_below_drewN | apply below_drew1 | refine below_set ?_ GE253.out) | exact HB.out)⟩

end Go.Proofs.Ytanndepgepgfoaa.QFnExactBitsAt
