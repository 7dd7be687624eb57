/-
Each Go function that this text names answers as the Lean function beside it says, wherever that one answers; conditions: the arguments lie in memory as each theorem states it.
-/
import Derived.Test.YtanndepgepgfoaaQFnExactReachedFromx0
import Derived.Test.YtanndepgepgfoaaQFnExactReachedFromx1
import Derived.Test.YtanndepgepgfoaaQFnExactReachedFromx2
import Derived.Test.YtanndepgepgfoaaQFnExactReachedFromx3
import Derived.Test.YtanndepgepgfoaaQFnExactReachedFromx4
import Derived.Test.YtanndepgepgfoaaQFnExactReachedFromx5
import Derived.Test.YtanndepgepgfoaaQFnExactReachedFromx6
namespace Go.Proofs.Ytanndepgepgfoaa.QFnExactReachedFrom
open Go.RowKit Go.Proofs.YtanndepgepgfoaaW.PrintWords Go.Proofs.YtanndepgepgfoaaW.PrintLast Go.Proofs.YtanndepgepgfoaaW.PrintMore
attribute [local go_sem] max2_int min2_int max_two min_two max_three min_three max_four min_four   -- for this text's walks alone
set_option linter.unusedVariables false
set_option linter.unusedSimpArgs false

/-! ### laws_markInt64SS: function 45 -/
def laws_markInt64SS.l0 : Nat → List (List Int) → Int → Int → Option (Int × List (List Int))
  | 0, _, _, _ => none
  | k + 1, x0, x1, x5 => if x5 < (x0.length : Int) then (if 0 ≤ x5 then ((laws_markInt64S.f k (x0.getD (x5 : Int).toNat []) x1).bind fun q => laws_markInt64SS.l0 k (x0.set (x5 : Int).toNat q.2) q.1 (wrap64 (x5 + 1))) else (none)) else (some (x1, x0))
def laws_markInt64SS.f (k : Nat) (l0 : List (List Int)) (a1 : Int) : Option (Int × List (List Int)) := laws_markInt64SS.l0 k l0 a1 0
set_option maxHeartbeats 8000000 in
set_option maxRecDepth 100000 in
theorem laws_markInt64SS.calls (k : Nat) (P0_ : Nat → Prop) (u9000_ : Value) (l0 : List (List Int)) (a1 : Int) (r1 : Int) (r2 : List (List Int)) (w0 w : World) (hB : Below w0.heap.size w0 w) (ho0 : Kd.S (Kd.slice 2 (Kd.int .i64)) 40 w w0.heap.size P0_ u9000_ l0) (h : laws_markInt64SS.f k l0 a1 = some (r1, r2)) :
    Calls Try.prog 45 #[u9000_, .int .i64 a1] w fun e w' => e = .returned (.int .i64 r1) ∧ Kd.S (Kd.slice 2 (Kd.int .i64)) 40 w' w0.heap.size P0_ u9000_ r2 ∧ Below w0.heap.size w0 w' ∧ Kept w w' P0_ := by
  have HO0 := Aside0.mk ho0
  have HK := Aside0.mk (Kept.refl w P0_)
  have HB := Aside0.mk hB
  clear hB ho0
  have H : (laws_markInt64SS.l0 k l0 a1 0) = some (r1, r2) := h
  clear h
  have H' := Aside0.mk H
  clear H
  go_enter Try.func45, Try.ntmps45
  go_wp2
  go_loopg [1, 5] k (fun kq v1 v5 w' => ∃ (x0_1 : List (List Int)) (x1_1 : Int) (x5_1 : Int), v1 = .int .i64 x1_1 ∧ v5 = .int .i64 x5_1 ∧ Aside0 (laws_markInt64SS.l0 kq x0_1 x1_1 x5_1 = some (r1, r2)) ∧ Aside0 (kq ≤ k) ∧ Aside0 (Kd.S (Kd.slice 2 (Kd.int .i64)) 40 w' w0.heap.size P0_ u9000_ x0_1) ∧ Aside0 (Kept w w' P0_) ∧ Aside0 (Below w0.heap.size w0 w'))
  case atStart => exact ⟨(l0), (a1), (0), (by first | rfl | (simp; done) | (simp [*]; done)), (by first | rfl | (simp; done) | (simp [*]; done)), H', ⟨Nat.le_refl _⟩, ⟨by (with_reducible repeat (first | apply Kd.S_alloc | apply Kd.S_drewN | apply Kd.S_drew)); exact HO0.out⟩, ⟨by repeat (first | (with_reducible first | exact HK.out | apply Kept.alloc | apply Kept.drewN | apply Kept.drew) | exact HK.out)⟩, ⟨by repeat (first | (with_reducible first | exact HB.out | apply below_alloc | apply pw_below_drewN | apply below_drew1) | exact HB.out)⟩⟩
  case round =>
    clear H'
    try clear p2
    obtain ⟨x0_1, x1_1, x5_1, rfl, rfl, HA, HK1, HO_0, HK, HB⟩ := hrel
    cases gk with
    | zero => exact absurd HA.out (by simp [laws_markInt64SS.l0])
    | succ k1 =>
      have H := HA.out
      clear HA
      simp only [laws_markInt64SS.l0] at H
      by_cases c3 : x5_1 < (x0_1.length : Int)
      · rw [if_pos c3] at H
        have c3b0 : decide (x5_1 < (x0_1.length : Int)) = true := decide_eq_true c3
        clear c3
        by_cases c4 : 0 ≤ x5_1
        · rw [if_pos c4] at H
          have c4b0 : decide (0 ≤ x5_1) = true := decide_eq_true c4
          clear c4
          replace H := Option.bind_eq_some_iff.mp H
          obtain ⟨⟨q1, q2⟩, A50, H⟩ := H
          have A5 := Aside0.mk A50
          have H' := Aside0.mk H
          clear A50 H
          obtain ⟨Ao6, co6, eo6⟩ := Kd.S_slice HO_0.out
          subst eo6
          have p5 : 0 ≤ (x5_1 : Int) := of_decide_eq_true (by first | (with_reducible assumption) | assumption)
          have q5 : (x5_1 : Int) < ((x0_1.length : Int) : Int) := of_decide_eq_true (by first | (with_reducible assumption) | assumption)
          obtain ⟨go5, co5, eo5, gb5, gl5, cl5, HG5⟩ := Kd.S_form HO_0.out (by omega)
          (first | cases eo5 | (injection eo5 with ea_ en_ ec_; (first | subst ea_ | (injection ea_ with ea_; subst ea_)); subst ec_; clear en_))
          clear gb5 gl5 HG5
          obtain ⟨oki, cc, hcl, hM, hcc, hoki, hH⟩ := Kd.S_lend HO_0.out [] x5_1 p5 q5
          have hA5 := A5.out
          clear A5
          generalize hrow_ : x0_1.getD (x5_1 : Int).toNat [] = row at hM hA5
          have A5 := Aside0.mk hA5
          clear hA5 hrow_
          obtain ⟨vr, ecc, hR⟩ := hM
          subst ecc
          have hx5_0 : wr.cell? ⟨go5, (x5_1 : Int).toNat, none⟩ = some vr := by
            have h_ := hcc 0 vr rfl
            rw [show (x5_1 : Int).toNat * (Kd.slice 2 (Kd.int .i64)).sz + 0 = (x5_1 : Int).toNat from by show (x5_1 : Int).toNat * 1 + 0 = _; omega] at h_
            exact h_
          obtain ⟨Av, cv, ev⟩ := Kd.R_slice hR
          subst ev
          have hx5_1 : wr.cell? ⟨go5, (x5_1 : Int).toNat, none⟩ = some (.slice Av row.length cv) := hx5_0
          clear hx5_0 hcc hcl
          have HR := Aside0.mk hR
          have HH := Aside0.mk hH
          have HI := Aside0.mk hoki
          clear hR hH hoki
          replace p5 := eq_true p5
          replace q5 := eq_true q5
          go_wp2_with (first | ((with_reducible refine gate_callee (f := 31) rfl ?_); refine goesL_ (some 17) rfl rfl Try.func31 (by kernel_rfl) rfl #[.slice Av row.length cv, .int .i64 x1_1] rfl (by (try simp only [List.map_toArray, List.map_cons, List.map_nil]); first | done | rfl) ?_; (with_reducible refine (laws_markInt64S.calls k1 (fun k_ => some k_ = (.slice Av row.length cv : Value).ownBlock) _ row x1_1 q1 q2 w0 _ ?side1 ?side2 A5.out).mono ?_); (case side1 => repeat (first | (with_reducible first | exact HB.out | apply below_alloc | apply pw_below_drewN | apply below_drew1) | exact HB.out)); (case side2 => exact Kd.R_tight rfl HR.out); rintro e w8 ⟨rfl, hy0, hb, hkp⟩; refine ⟨_, rfl, ?_⟩; have n0_ := Aside0.mk (Kd.H_back (Kd.H_kept HH.out hkp (fun k_ _ hn_ hs_ => hn_ (HR.out.1 k_ hs_.symm))) (x' := q2) (okp := oki) ⟨_, rfl, Kd.R_reok rfl hy0 (fun k_ e_ => HR.out.1 k_ e_)⟩ (fun _ hk => hk)); have n1_ := Aside0.mk (Kept.then_ HK.out hkp (fun k_ hs_ => Or.inl (HI.out k_ (HR.out.1 k_ hs_.symm)).1)); have n2_ := Aside0.mk hb; clear HO_0; clear HB; clear HK; have HO_0 := n0_; have HK := n1_; have HB := n2_; clear n0_ n1_ n2_; clear hb hkp hy0 HR HH HI))
          go_roundg k1
          case measure => have := HK1.out; omega
          case rel => exact ⟨(x0_1.set (x5_1 : Int).toNat q2), q1, (wrap64 (x5_1 + 1)), (by first | rfl | (simp; done) | (simp [*]; done)), (by first | rfl | (simp; done) | (simp [*]; done)), H', ⟨by have := HK1.out; omega⟩, ⟨by (with_reducible repeat (first | apply Kd.S_alloc | apply Kd.S_drewN | apply Kd.S_drew)); exact HO_0.out⟩, ⟨by repeat (first | (with_reducible first | exact HK.out | apply Kept.alloc | apply Kept.drewN | apply Kept.drew) | exact HK.out)⟩, ⟨by repeat (first | (with_reducible first | exact HB.out | apply below_alloc | apply pw_below_drewN | apply below_drew1) | exact HB.out)⟩⟩
        · rw [if_neg c4] at H
          exact absurd H (by simp)
      · rw [if_neg c3] at H
        have c3b0 : decide (x5_1 < (x0_1.length : Int)) = false := decide_eq_false c3
        clear c3
        simp only [Option.some.injEq, Prod.mk.injEq] at H
        obtain ⟨rfl, rfl⟩ := H
        have hl_ : ∃ A_ c_, u9000_ = .slice A_ x0_1.length c_ := Kd.S_slice HO_0.out
        obtain ⟨Ao6, co6, eo6⟩ := hl_
        subst eo6
        go_wp2
        go_ret
        exact ⟨by first | rfl | (simp; done) | (simp [*]; done), by (with_reducible repeat (first | apply Kd.S_alloc | apply Kd.S_drewN | apply Kd.S_drew)); exact HO_0.out, by repeat (first | (with_reducible first | exact HB.out | apply below_alloc | apply pw_below_drewN | apply below_drew1) | exact HB.out), by repeat (first | (with_reducible first | exact HK.out | apply Kept.alloc | apply Kept.drewN | apply Kept.drew) | exact HK.out)⟩
/-! ### laws_markGraph: function 16 -/
set_option maxHeartbeats 8000000 in
set_option maxRecDepth 100000 in
theorem laws_markGraph.calls (k : Nat) (ok : Nat → Prop) (A : Option Addr) (c : Nat) (l0 : List (List Int)) (a1 : Int) (r1 : Int) (r2 : List (List Int)) (w0 w : World) (hB : Below w0.heap.size w0 w) (ho0 : Kd.S (Kd.slice 2 (Kd.int .i64)) 40 w w0.heap.size ok (.slice A l0.length c) l0) (h : laws_markInt64SS.f k l0 a1 = some (r1, r2)) :
    Calls Try.prog 16 #[.agg #[.slice A l0.length c], .int .i64 a1] w fun e w' => e = .returned (.int .i64 r1) ∧ Kd.S (Kd.slice 2 (Kd.int .i64)) 40 w' w0.heap.size ok (.slice A l0.length c) r2 ∧ Below w0.heap.size w0 w' ∧ Kept w w' ok := by
  have hu24 := Try.underlying24
  have HO := Aside0.mk ho0
  have HB := Aside0.mk hB
  have A3 := Aside0.mk h
  clear hB ho0 h
  go_enter Try.func16, Try.ntmps16
  go_wp2_with (first | ((with_reducible refine gate_dst (N := 2) rfl ?_); refine box_event ?hg (N := 2) ?hd (cs := #[.slice A l0.length c]) (t := 24) ?hr ?_; (case hd => rfl); (case hg => rfl); (case hr => first | (go_simp; done) | (go_simp; rfl)); intro gb146 hg w5 hbox hb; have n0_ := Aside0.mk (below_step (by repeat (first | (with_reducible first | exact HB.out | apply below_alloc | apply pw_below_drewN | apply below_drew1) | exact HB.out)) hb); have n1_ := Aside0.mk hbox; have n2_ := Aside0.mk (Kd.S_old (by (with_reducible repeat (first | apply Kd.S_alloc | apply Kd.S_drewN | apply Kd.S_drew)); exact HO.out) hb); have n3_ := Aside0.mk (show Kept w w5 ok from Kept.of_below hb ok); clear HB HO; have HB := n0_; have BK := n1_; have HO := n2_; have HK := n3_; clear n0_ n1_ n2_ n3_; clear hb hbox hg; have hcz6_0 : w5.cell? ⟨gb146, 0, none⟩ = some (.slice A l0.length c) := (blk_cell BK.out 0).trans rfl; have hfz6_0 := blk_frozen BK.out 0) | ((with_reducible refine gate_callee (f := 45) rfl ?_); refine goesL_ (some 8) rfl rfl Try.func45 (by kernel_rfl) rfl #[.slice A l0.length c, .int .i64 a1] rfl (by (try simp only [List.map_toArray, List.map_cons, List.map_nil]); first | done | rfl) ?_; (with_reducible refine (laws_markInt64SS.calls k (fun k_ => ok k_ ∧ k_ < w.heap.size) _ l0 a1 r1 r2 w0 _ ?side1 ?side2 A3.out).mono ?_); (case side1 => repeat (first | (with_reducible first | exact HB.out | apply below_alloc | apply pw_below_drewN | apply below_drew1) | exact HB.out)); (case side2 => (with_reducible repeat (first | apply Kd.S_alloc | apply Kd.S_drewN | apply Kd.S_drew)); exact HO.out); rintro e w8 ⟨rfl, ho, hb, hkp⟩; refine ⟨_, rfl, ?_⟩; have n0_ := Aside0.mk (Kd.S_mono (ok' := ok) ho (fun _ hk => hk.1)); have n1_ := Aside0.mk (Kept.then_ HK.out hkp (fun _ hk => .inl hk.1)); have n2_ := Aside0.mk hb; clear HO HK HB; have HO := n0_; have HK := n1_; have HB := n2_; clear n0_ n1_ n2_ hb hkp ho))
  go_ret
  exact ⟨by first | rfl | (simp [errW_none, errW_some] <;> rfl) | (simp [*, errW_none, errW_some] <;> rfl), by (with_reducible repeat (first | apply Kd.S_alloc | apply Kd.S_drewN | apply Kd.S_drew)); exact HO.out, by repeat (first | (with_reducible first | exact HB.out | apply below_alloc | apply pw_below_drewN | apply below_drew1) | exact HB.out), by repeat (first | (with_reducible first | exact HK.out | apply Kept.alloc | apply Kept.drewN | apply Kept.drew) | exact HK.out)⟩
section
variable {α : Type}
theorem box_lo {wi W : World} {g : Nat} (HK : Kept wi W (fun _ => True)) (hg : g = W.heap.size) : wi.heap.size ≤ g := by rw [hg]; exact HK.1
theorem box_ge {w W : World} {g : Nat} (HB : Below w.heap.size w W) (hg : g = W.heap.size) : w.heap.size ≤ g := by rw [hg]; exact below_size HB
/-- A table made by a call lies in the blocks made since. -/
theorem spanS {d : Kd α} {e : Nat} {w wi W w1 : World} {v : Value} {xs : List α} (HB : Below w.heap.size w W) (HK : Kept wi W (fun _ => True)) (ho : Kd.S d e w1 W.heap.size (fun _ => True) v xs) (hb : Below W.heap.size W w1) :
    ∃ lo, Kd.S d e w1 w.heap.size (fun k => lo ≤ k ∧ k < w1.heap.size) v xs ∧ wi.heap.size ≤ lo ∧ lo ≤ w1.heap.size :=
  ⟨W.heap.size, Kd.S_lower (Kd.S_mono (Kd.S_bound ho) (fun _ hk => ⟨hk.2.1, hk.2.2.1⟩)) (below_size HB), HK.1, hb.size⟩
end
section
variable {α : Type}
/-- A table made by a call lies in the blocks made since. -/
theorem spanR {d : Kd α} {e : Nat} {w wi W w1 : World} {v : Value} {xs : List α} (HB : Below w.heap.size w W) (HK : Kept wi W (fun _ => True)) (ho : Kd.R d e w1 W.heap.size (fun _ => True) v xs) (hb : Below W.heap.size W w1) :
    ∃ lo, Kd.R d e w1 w.heap.size (fun k => lo ≤ k ∧ k < w1.heap.size) v xs ∧ wi.heap.size ≤ lo ∧ lo ≤ w1.heap.size :=
  ⟨W.heap.size, Kd.R_lower (Kd.R_mono (Kd.R_bound ho) (fun _ hk => ⟨hk.2.1, hk.2.2.1⟩)) (below_size HB), HK.1, hb.size⟩
end
theorem laws_markInt64S.calls_own (k : Nat) (ok : Nat → Prop) (u : Value) (l0 : List Int) (a1 : Int) (r1 : Int) (r2 : List Int) (w0 w : World) (hB : Below w0.heap.size w0 w) (ho0 : Kd.R (Kd.int .i64) 2 w w0.heap.size ok u l0) (h : laws_markInt64S.f k l0 a1 = some (r1, r2)) :
    Calls Try.prog 31 #[u, .int .i64 a1] w fun e w' => e = .returned (.int .i64 r1) ∧ Kd.R (Kd.int .i64) 2 w' w0.heap.size ok u r2 ∧ Below w0.heap.size w0 w' ∧ Kept w w' ok :=
  (laws_markInt64S.calls k ok u l0 a1 r1 r2 w0 w hB ho0 h).mono fun e w' ⟨h1, h2, h3, h4⟩ => ⟨h1, Kd.R_reok rfl h2 (fun k_ e_ => ho0.1 k_ e_), h3, h4⟩
theorem laws_heldInt64S.calls_n (k : Nat) (A : Option Addr) (c n : Nat) (l0 : List Int) (a1 : Int) (r : Int) (w : World) (hn : n = l0.length) (hr : Kd.C (Kd.int .i64) w A l0.length l0) (hc : n ≤ c) (h : laws_heldInt64S.f k l0 a1 = some r) :
    Calls Try.prog 32 #[.slice A n c, .int .i64 a1] w fun e w' => e = .returned (.int .i64 r) ∧ Drawn0 w w' := by
  subst hn
  exact laws_heldInt64S.calls k A c l0 a1 r w hr hc h
/-! ### laws_FnExactReachedFrom: function 8, its ways -/
set_option maxHeartbeats 8000000 in
set_option maxRecDepth 100000 in
theorem laws_FnExactReachedFrom.calls_big (k : Nat) (A0 : Option Addr) (c0 : Nat) (l0 : List (List Int)) (a1 : Int) (t : Int) (w : World) (hr0 : Kd.C (Kd.slice 2 (Kd.int .i64)) w A0 l0.length l0) (hc0 : l0.length ≤ c0) (hz : laws_szGraph.f k l0 1048576 = some t) (ht : t < 0) :
    Calls Try.prog 8 #[.agg #[.slice A0 l0.length c0], .int .i64 a1] w fun e w' => e = .returned (.bool true) ∧ Below w.heap.size w w' := by
  have hu24 := Try.underlying32
  have hu25 := Try.underlying24
  have HR0 := Aside0.mk hr0
  have HC0 := Aside0.mk hc0
  have HB := Aside0.mk (Below.refl w.heap.size w)
  have A0z := Aside0.mk hz
  have d0 : decide (t < 0) = true := decide_eq_true ht
  clear hr0 hc0 hz ht
  go_enter Try.func8, Try.ntmps8
  go_wp2_with (first | ((with_reducible refine gate_dst (N := 2) rfl ?_); refine box_event ?hg (N := 2) ?hd (cs := #[.slice A0 l0.length c0]) (t := 32) ?hr ?_; (case hd => rfl); (case hg => rfl); (case hr => first | (go_simp; done) | (go_simp; rfl)); intro g1 hg w1 hbox hb; have hlo_ := box_lo (wi := w) (Kept.of_below (by repeat (first | (with_reducible first | exact HB.out | apply below_alloc | apply pw_below_drewN | apply below_drew1) | exact HB.out)) _) hg; have hlw_ := blk_lt hbox; have n_HB := Aside0.mk (below_step (by repeat (first | (with_reducible first | exact HB.out | apply below_alloc | apply pw_below_drewN | apply below_drew1) | exact HB.out)) hb); have B0 := Aside0.mk hbox; have KZ := Aside0.mk (Kept.refl w1 (fun _ => True)); have O_B0 := Aside0.mk (And.intro hlo_ hlw_); clear hlo_ hlw_ hbox HB; have HB := n_HB; clear n_HB hb hg; have hcz2 : w1.cell? ⟨g1, 0, none⟩ = some (.slice A0 l0.length c0) := (blk_cell B0.out 0).trans rfl; have hfz2 := blk_frozen B0.out 0) | ((with_reducible refine gate_callee (f := 20) rfl ?_); refine goesL_ (some 18) rfl rfl Try.func20 (by kernel_rfl) rfl #[.agg #[.slice A0 l0.length c0], .int .i64 1048576] rfl (by (try simp only [List.map_toArray, List.map_cons, List.map_nil]); first | done | rfl) ?_; (with_reducible refine (laws_szGraph.calls k _ _ l0 1048576 t _ ?side1 ?side2 A0z.out).mono ?_); (case side1 => exact (Kd.C_below HR0.out (by repeat (first | (with_reducible first | exact HB.out | apply below_alloc | apply pw_below_drewN | apply below_drew1) | exact HB.out)))); (case side2 => exact HC0.out); rintro e w3 ⟨rfl, hb⟩; refine ⟨_, rfl, ?_⟩; have n_B0 := Aside0.mk (blk_below (g := g1) (o := .cells #[.slice A0 l0.length c0] 32 (0, 0)) (by (with_reducible repeat (first | refine blk_drewN ?_ _ | refine blk_drew ?_ | refine blk_alloc ?_ _)); exact B0.out) hb); have n_KZ := Aside0.mk (Kept.below (by repeat (first | (with_reducible first | exact KZ.out | apply Kept.alloc | apply Kept.drewN | apply Kept.drew) | exact KZ.out)) hb); have n_HB := Aside0.mk (below_step (by repeat (first | (with_reducible first | exact HB.out | apply below_alloc | apply pw_below_drewN | apply below_drew1) | exact HB.out)) hb); clear B0; clear KZ; clear HB; have B0 := n_B0; have KZ := n_KZ; have HB := n_HB; clear n_B0 n_KZ n_HB; clear hb; have hcz4 : w3.cell? ⟨g1, 0, none⟩ = some (.slice A0 l0.length c0) := (blk_cell B0.out 0).trans rfl; have hfz4 := blk_frozen B0.out 0))
  go_ret
  exact ⟨by first | rfl | (simp [errW_none, errW_some] <;> rfl) | (simp [*, errW_none, errW_some] <;> rfl), by repeat (first | (with_reducible first | exact HB.out | apply below_alloc | apply pw_below_drewN | apply below_drew1) | exact HB.out)⟩
set_option maxHeartbeats 8000000 in
set_option maxRecDepth 100000 in
theorem laws_FnExactReachedFrom.calls (k : Nat) (A0 : Option Addr) (c0 : Nat) (l0 : List (List Int)) (a1 : Int) (t : Int) (r r2 : List Int) (T2 : List (List Int)) (b : Bool) (m m2 : Int) (w : World) (hr0 : Kd.C (Kd.slice 2 (Kd.int .i64)) w A0 l0.length l0) (hc0 : l0.length ≤ c0) (hz : laws_szGraph.f k l0 1048576 = some t) (ht : 0 ≤ t) (hm : 0 ≤ m) (hm2 : 0 ≤ m2) (hl : r2.length = r.length) (hT : laws_toGraph.f k l0 = some l0)
    (h1 : spec_ReachedFrom.f k l0 a1 = some (r, b)) (h2 : impl_ReachedFrom.f k l0 a1 = some (r, b)) (h3 : laws_eqInt64S.f k r r = some true) (h4 : laws_eqGraph.f k l0 l0 = some true) (h5 : laws_markInt64SS.f k l0 1 = some (m, T2)) (h6 : laws_markInt64S.f k r 1 = some (m2, r2)) (h7 : laws_heldInt64S.f k r2 1 = some m2) :
    Calls Try.prog 8 #[.agg #[.slice A0 l0.length c0], .int .i64 a1] w fun e w' => e = .returned (.bool true) ∧ Below w.heap.size w w' := by
  have hu24 := Try.underlying32
  have hu25 := Try.underlying24
  have HR0 := Aside0.mk hr0
  have HC0 := Aside0.mk hc0
  have HB := Aside0.mk (Below.refl w.heap.size w)
  have A0z := Aside0.mk hz
  have AT := Aside0.mk hT
  have A1 := Aside0.mk h1
  have A2 := Aside0.mk h2
  have A3 := Aside0.mk h3
  have A4 := Aside0.mk h4
  have A5 := Aside0.mk h5
  have A6 := Aside0.mk h6
  have A7 := Aside0.mk h7
  have hlen := Aside0.mk hl
  have d0 : decide (t < 0) = false := decide_eq_false (by omega)
  have d1 : decide (m < 0) = false := decide_eq_false (by omega)
  have d2 : decide (m2 < 0) = false := decide_eq_false (by omega)
  clear hr0 hc0 hz ht hm hm2 hl hT h1 h2 h3 h4 h5 h6 h7
  have hbb : (b != b) = false := by cases b <;> rfl
  go_enter Try.func8, Try.ntmps8
  go_wp2_with (first | ((with_reducible refine gate_dst (N := 2) rfl ?_); refine box_event ?hg (N := 2) ?hd (cs := #[.slice A0 l0.length c0]) (t := 32) ?hr ?_; (case hd => rfl); (case hg => rfl); (case hr => first | (go_simp; done) | (go_simp; rfl)); intro g1 hg w1 hbox hb; have hlo_ := box_lo (wi := w) (Kept.of_below (by repeat (first | (with_reducible first | exact HB.out | apply below_alloc | apply pw_below_drewN | apply below_drew1) | exact HB.out)) _) hg; have hlw_ := blk_lt hbox; have n_HB := Aside0.mk (below_step (by repeat (first | (with_reducible first | exact HB.out | apply below_alloc | apply pw_below_drewN | apply below_drew1) | exact HB.out)) hb); have B0 := Aside0.mk hbox; have KZ := Aside0.mk (Kept.refl w1 (fun _ => True)); have O_B0 := Aside0.mk (And.intro hlo_ hlw_); clear hlo_ hlw_ hbox HB; have HB := n_HB; clear n_HB hb hg; have hcz2 : w1.cell? ⟨g1, 0, none⟩ = some (.slice A0 l0.length c0) := (blk_cell B0.out 0).trans rfl; have hfz2 := blk_frozen B0.out 0) | ((with_reducible refine gate_callee (f := 20) rfl ?_); refine goesL_ (some 18) rfl rfl Try.func20 (by kernel_rfl) rfl #[.agg #[.slice A0 l0.length c0], .int .i64 1048576] rfl (by (try simp only [List.map_toArray, List.map_cons, List.map_nil]); first | done | rfl) ?_; (with_reducible refine (laws_szGraph.calls k _ _ l0 1048576 t _ ?side1 ?side2 A0z.out).mono ?_); (case side1 => exact (Kd.C_below HR0.out (by repeat (first | (with_reducible first | exact HB.out | apply below_alloc | apply pw_below_drewN | apply below_drew1) | exact HB.out)))); (case side2 => exact HC0.out); rintro e w3 ⟨rfl, hb⟩; refine ⟨_, rfl, ?_⟩; have n_B0 := Aside0.mk (blk_below (g := g1) (o := .cells #[.slice A0 l0.length c0] 32 (0, 0)) (by (with_reducible repeat (first | refine blk_drewN ?_ _ | refine blk_drew ?_ | refine blk_alloc ?_ _)); exact B0.out) hb); have n_KZ := Aside0.mk (Kept.below (by repeat (first | (with_reducible first | exact KZ.out | apply Kept.alloc | apply Kept.drewN | apply Kept.drew) | exact KZ.out)) hb); have n_HB := Aside0.mk (below_step (by repeat (first | (with_reducible first | exact HB.out | apply below_alloc | apply pw_below_drewN | apply below_drew1) | exact HB.out)) hb); clear B0; clear KZ; clear HB; have B0 := n_B0; have KZ := n_KZ; have HB := n_HB; clear n_B0 n_KZ n_HB; clear hb; have hcz4 : w3.cell? ⟨g1, 0, none⟩ = some (.slice A0 l0.length c0) := (blk_cell B0.out 0).trans rfl; have hfz4 := blk_frozen B0.out 0) | ((with_reducible refine gate_callee (f := 22) rfl ?_); refine goesL_ (some 23) rfl rfl Try.func22 (by kernel_rfl) rfl #[.agg #[.slice A0 l0.length c0]] rfl (by (try simp only [List.map_toArray, List.map_cons, List.map_nil]); first | done | rfl) ?_; (with_reducible refine (laws_toGraph.calls k _ _ l0 l0 _ ?side1 ?side2 AT.out).mono ?_); (case side1 => exact (Kd.C_below HR0.out (by repeat (first | (with_reducible first | exact HB.out | apply below_alloc | apply pw_below_drewN | apply below_drew1) | exact HB.out)))); (case side2 => exact HC0.out); rintro e w5 ⟨v5, rfl, ho0, hb⟩; refine ⟨_, rfl, ?_⟩; obtain ⟨lo_HS, hq_, hlo_, hlw_⟩ := spanS (wi := w1) (by repeat (first | (with_reducible first | exact HB.out | apply below_alloc | apply pw_below_drewN | apply below_drew1) | exact HB.out)) (by repeat (first | (with_reducible first | exact KZ.out | apply Kept.alloc | apply Kept.drewN | apply Kept.drew) | exact KZ.out)) ho0 hb; have n_B0 := Aside0.mk (blk_below (g := g1) (o := .cells #[.slice A0 l0.length c0] 32 (0, 0)) (by (with_reducible repeat (first | refine blk_drewN ?_ _ | refine blk_drew ?_ | refine blk_alloc ?_ _)); exact B0.out) hb); have n_HB := Aside0.mk (below_step (by repeat (first | (with_reducible first | exact HB.out | apply below_alloc | apply pw_below_drewN | apply below_drew1) | exact HB.out)) hb); have n_HS := Aside0.mk hq_; have n_KZ := Aside0.mk (Kept.refl w5 (fun _ => True)); have O_HS := Aside0.mk (And.intro hlo_ hlw_); clear hq_ hlo_ hlw_; clear KZ; clear B0; clear HB; have B0 := n_B0; have HB := n_HB; have HS := n_HS; have KZ := n_KZ; clear n_B0 n_HB n_HS n_KZ; clear hb ho0; obtain ⟨Ad5, cd5, e_HS⟩ := Kd.S_slice HS.out; subst e_HS; have hcz6 : w5.cell? ⟨g1, 0, none⟩ = some (.slice A0 l0.length c0) := (blk_cell B0.out 0).trans rfl; have hfz6 := blk_frozen B0.out 0) | ((with_reducible refine gate_callee (f := 28) rfl ?_); refine goesL_ (some 25) rfl rfl Try.func28 (by kernel_rfl) rfl #[.agg #[(.slice Ad5 l0.length cd5)], .int .i64 a1] rfl (by (try simp only [List.map_toArray, List.map_cons, List.map_nil]); first | done | rfl) ?_; (with_reducible refine (spec_ReachedFrom.calls k _ _ l0 a1 r b _ ?side1 ?side2 A1.out).mono ?_); (case side1 => exact (Kd.S_reads' (d := (Kd.slice 2 (Kd.int .i64))) (e := 40) (base := w.heap.size) (ok := fun k => lo_HS ≤ k ∧ k < w5.heap.size) (n := l0.length) (c := cd5) (by (with_reducible repeat (first | apply Kd.S_alloc | apply Kd.S_drewN | apply Kd.S_drew)); exact HS.out)).2.2); (case side2 => exact (Kd.S_reads' HS.out).2.1); rintro e w7 ⟨v7, rfl, ho0, hb⟩; refine ⟨_, rfl, ?_⟩; obtain ⟨lo_HW, hq_, hlo_, hlw_⟩ := spanR (wi := w5) (by repeat (first | (with_reducible first | exact HB.out | apply below_alloc | apply pw_below_drewN | apply below_drew1) | exact HB.out)) (by repeat (first | (with_reducible first | exact KZ.out | apply Kept.alloc | apply Kept.drewN | apply Kept.drew) | exact KZ.out)) ho0 hb; have n_HS := Aside0.mk (Kd.S_below (by (with_reducible repeat (first | apply Kd.S_alloc | apply Kd.S_drewN | apply Kd.S_drew)); exact HS.out) hb); have n_B0 := Aside0.mk (blk_below (g := g1) (o := .cells #[.slice A0 l0.length c0] 32 (0, 0)) (by (with_reducible repeat (first | refine blk_drewN ?_ _ | refine blk_drew ?_ | refine blk_alloc ?_ _)); exact B0.out) hb); have n_HB := Aside0.mk (below_step (by repeat (first | (with_reducible first | exact HB.out | apply below_alloc | apply pw_below_drewN | apply below_drew1) | exact HB.out)) hb); have n_HW := Aside0.mk hq_; have n_KZ := Aside0.mk (Kept.refl w7 (fun _ => True)); have O_HW := Aside0.mk (And.intro hlo_ hlw_); clear hq_ hlo_ hlw_; clear KZ; clear HS; clear B0; clear HB; have HS := n_HS; have B0 := n_B0; have HB := n_HB; have HW := n_HW; have KZ := n_KZ; clear n_HS n_B0 n_HB n_HW n_KZ; clear hb ho0; obtain ⟨Ad7, cd7, e_HW⟩ := Kd.R_slice HW.out; subst e_HW; have hcz8 : w7.cell? ⟨g1, 0, none⟩ = some (.slice A0 l0.length c0) := (blk_cell B0.out 0).trans rfl; have hfz8 := blk_frozen B0.out 0) | ((with_reducible refine gate_callee (f := 22) rfl ?_); refine goesL_ (some 29) rfl rfl Try.func22 (by kernel_rfl) rfl #[.agg #[.slice A0 l0.length c0]] rfl (by (try simp only [List.map_toArray, List.map_cons, List.map_nil]); first | done | rfl) ?_; (with_reducible refine (laws_toGraph.calls k _ _ l0 l0 _ ?side1 ?side2 AT.out).mono ?_); (case side1 => exact (Kd.C_below HR0.out (by repeat (first | (with_reducible first | exact HB.out | apply below_alloc | apply pw_below_drewN | apply below_drew1) | exact HB.out)))); (case side2 => exact HC0.out); rintro e w9 ⟨v9, rfl, ho0, hb⟩; refine ⟨_, rfl, ?_⟩; obtain ⟨lo_HX, hq_, hlo_, hlw_⟩ := spanS (wi := w7) (by repeat (first | (with_reducible first | exact HB.out | apply below_alloc | apply pw_below_drewN | apply below_drew1) | exact HB.out)) (by repeat (first | (with_reducible first | exact KZ.out | apply Kept.alloc | apply Kept.drewN | apply Kept.drew) | exact KZ.out)) ho0 hb; have n_HS := Aside0.mk (Kd.S_below (by (with_reducible repeat (first | apply Kd.S_alloc | apply Kd.S_drewN | apply Kd.S_drew)); exact HS.out) hb); have n_HW := Aside0.mk (Kd.R_below (by (with_reducible repeat (first | apply Kd.R_alloc | apply Kd.R_drewN | apply Kd.R_drew)); exact HW.out) hb); have n_B0 := Aside0.mk (blk_below (g := g1) (o := .cells #[.slice A0 l0.length c0] 32 (0, 0)) (by (with_reducible repeat (first | refine blk_drewN ?_ _ | refine blk_drew ?_ | refine blk_alloc ?_ _)); exact B0.out) hb); have n_HB := Aside0.mk (below_step (by repeat (first | (with_reducible first | exact HB.out | apply below_alloc | apply pw_below_drewN | apply below_drew1) | exact HB.out)) hb); have n_HX := Aside0.mk hq_; have n_KZ := Aside0.mk (Kept.refl w9 (fun _ => True)); have O_HX := Aside0.mk (And.intro hlo_ hlw_); clear hq_ hlo_ hlw_; clear KZ; clear HS; clear HW; clear B0; clear HB; have HS := n_HS; have HW := n_HW; have B0 := n_B0; have HB := n_HB; have HX := n_HX; have KZ := n_KZ; clear n_HS n_HW n_B0 n_HB n_HX n_KZ; clear hb ho0; obtain ⟨Ad9, cd9, e_HX⟩ := Kd.S_slice HX.out; subst e_HX; have hcz10 : w9.cell? ⟨g1, 0, none⟩ = some (.slice A0 l0.length c0) := (blk_cell B0.out 0).trans rfl; have hfz10 := blk_frozen B0.out 0) | ((with_reducible refine gate_dst (N := 8) rfl ?_); refine box_event ?hg (N := 8) ?hd (cs := #[.slice none 0 0]) (t := 24) ?hr ?_; (case hd => rfl); (case hg => rfl); (case hr => first | (go_simp; done) | (go_simp; rfl)); intro g11 hg w11 hbox hb; have hlo_ := box_lo (wi := w9) (by repeat (first | (with_reducible first | exact KZ.out | apply Kept.alloc | apply Kept.drewN | apply Kept.drew) | exact KZ.out)) hg; have hlw_ := blk_lt hbox; have GE_BX := Aside0.mk (box_ge (w := w) (by repeat (first | (with_reducible first | exact HB.out | apply below_alloc | apply pw_below_drewN | apply below_drew1) | exact HB.out)) hg); have n_HS := Aside0.mk (Kd.S_below (by (with_reducible repeat (first | apply Kd.S_alloc | apply Kd.S_drewN | apply Kd.S_drew)); exact HS.out) hb); have n_HW := Aside0.mk (Kd.R_below (by (with_reducible repeat (first | apply Kd.R_alloc | apply Kd.R_drewN | apply Kd.R_drew)); exact HW.out) hb); have n_HX := Aside0.mk (Kd.S_below (by (with_reducible repeat (first | apply Kd.S_alloc | apply Kd.S_drewN | apply Kd.S_drew)); exact HX.out) hb); have n_B0 := Aside0.mk (blk_below (g := g1) (o := .cells #[.slice A0 l0.length c0] 32 (0, 0)) (by (with_reducible repeat (first | refine blk_drewN ?_ _ | refine blk_drew ?_ | refine blk_alloc ?_ _)); exact B0.out) hb); have n_HB := Aside0.mk (below_step (by repeat (first | (with_reducible first | exact HB.out | apply below_alloc | apply pw_below_drewN | apply below_drew1) | exact HB.out)) hb); have n_BX := Aside0.mk hbox; have n_KZ := Aside0.mk (Kept.refl w11 (fun _ => True)); have O_BX := Aside0.mk (And.intro hlo_ hlw_); clear hlo_ hlw_ hbox; clear KZ; clear HS; clear HW; clear HX; clear B0; clear HB; have HS := n_HS; have HW := n_HW; have HX := n_HX; have B0 := n_B0; have HB := n_HB; have BX := n_BX; have KZ := n_KZ; clear n_HS n_HW n_HX n_B0 n_HB n_BX n_KZ; clear hb hg; have hcz12 : w11.cell? ⟨g1, 0, none⟩ = some (.slice A0 l0.length c0) := (blk_cell B0.out 0).trans rfl; have hfz12 := blk_frozen B0.out 0; have hcz13 : w11.cell? ⟨g11, 0, none⟩ = some (.slice none 0 0) := (blk_cell BX.out 0).trans rfl; have hfz13 := blk_frozen BX.out 0) | ((with_reducible refine gate_store (t := 24) (p := 8) rfl ?_); refine store_event (t := 24) (p := 8) (v := ?vo_w14) (w1 := (w11.setCell ⟨g11, 0, none⟩ (.slice Ad9 l0.length cd9))) ?hg ?ho ?hn ?hr ?_; (case ho => rfl); (case hg => rfl); (case hn => rfl); (case hr => first | (go_simp; done) | (go_simp; rfl)); intro w14 hw; have n_HS := Aside0.mk (show Kd.S (Kd.slice 2 (Kd.int .i64)) 40 w14 w.heap.size (fun k => lo_HS ≤ k ∧ k < w5.heap.size) (.slice Ad5 l0.length cd5) l0 from by rw [hw]; exact Kd.S_far (p := ⟨g11, 0, none⟩) (by (with_reducible repeat (first | apply Kd.S_alloc | apply Kd.S_drewN | apply Kd.S_drew)); exact HS.out) (fun k hk he => by have := hk.1; have := hk.2; have he : k = g11 := he; have := O_B0.out; have := O_HS.out; have := O_HW.out; have := O_HX.out; have := O_BX.out; omega) _); have n_HW := Aside0.mk (show Kd.R (Kd.int .i64) 2 w14 w.heap.size (fun k => lo_HW ≤ k ∧ k < w7.heap.size) (.slice Ad7 r.length cd7) r from by rw [hw]; exact Kd.R_far (p := ⟨g11, 0, none⟩) (by (with_reducible repeat (first | apply Kd.R_alloc | apply Kd.R_drewN | apply Kd.R_drew)); exact HW.out) (fun k hk he => by have := hk.1; have := hk.2; have he : k = g11 := he; have := O_B0.out; have := O_HS.out; have := O_HW.out; have := O_HX.out; have := O_BX.out; omega) _); have n_HX := Aside0.mk (show Kd.S (Kd.slice 2 (Kd.int .i64)) 40 w14 w.heap.size (fun k => lo_HX ≤ k ∧ k < w9.heap.size) (.slice Ad9 l0.length cd9) l0 from by rw [hw]; exact Kd.S_far (p := ⟨g11, 0, none⟩) (by (with_reducible repeat (first | apply Kd.S_alloc | apply Kd.S_drewN | apply Kd.S_drew)); exact HX.out) (fun k hk he => by have := hk.1; have := hk.2; have he : k = g11 := he; have := O_B0.out; have := O_HS.out; have := O_HW.out; have := O_HX.out; have := O_BX.out; omega) _); have n_B0 := Aside0.mk (show w14.heap[g1]? = some (.cells #[.slice A0 l0.length c0] 32 (0, 0)) from by rw [hw]; exact blk_far (by (with_reducible repeat (first | refine blk_drewN ?_ _ | refine blk_drew ?_ | refine blk_alloc ?_ _)); exact B0.out) (show g1 ≠ g11 from by have := O_B0.out; have := O_HS.out; have := O_HW.out; have := O_HX.out; have := O_BX.out; omega) _); have n_BX := Aside0.mk (show w14.heap[g11]? = some (.cells #[(.slice Ad9 l0.length cd9)] 24 (0, 0)) from by rw [hw]; exact blk_put (cs := #[.slice none 0 0]) (by (with_reducible repeat (first | refine blk_drewN ?_ _ | refine blk_drew ?_ | refine blk_alloc ?_ _)); exact BX.out) 0 _ rfl); have n_KZ := Aside0.mk (show Kept w11 w14 (fun _ => True) from by rw [hw]; exact Kept.setCell (by repeat (first | (with_reducible first | exact KZ.out | apply Kept.alloc | apply Kept.drewN | apply Kept.drew) | exact KZ.out)) (.inl trivial) _); have n_HB := Aside0.mk (show Below w.heap.size w w14 from by rw [hw]; exact below_set (by repeat (first | (with_reducible first | exact HB.out | apply below_alloc | apply pw_below_drewN | apply below_drew1) | exact HB.out)) GE_BX.out); clear HS; clear HW; clear HX; clear B0; clear BX; clear KZ; clear HB; have HS := n_HS; have HW := n_HW; have HX := n_HX; have B0 := n_B0; have BX := n_BX; have KZ := n_KZ; have HB := n_HB; clear n_HS n_HW n_HX n_B0 n_BX n_KZ n_HB; clear hw; have hcz15 : w14.cell? ⟨g1, 0, none⟩ = some (.slice A0 l0.length c0) := (blk_cell B0.out 0).trans rfl; have hfz15 := blk_frozen B0.out 0; have hcz16 : w14.cell? ⟨g11, 0, none⟩ = some (.slice Ad9 l0.length cd9) := (blk_cell BX.out 0).trans rfl; have hfz16 := blk_frozen BX.out 0) | ((with_reducible refine gate_callee (f := 29) rfl ?_); refine goesL_ (some 33) rfl rfl Try.func29 (by kernel_rfl) rfl #[.agg #[(.slice Ad9 l0.length cd9)], .int .i64 a1] rfl (by (try simp only [List.map_toArray, List.map_cons, List.map_nil]); first | done | rfl) ?_; (with_reducible refine (impl_ReachedFrom.calls k _ _ l0 a1 r b _ ?side1 ?side2 A2.out).mono ?_); (case side1 => exact (Kd.S_reads' (d := (Kd.slice 2 (Kd.int .i64))) (e := 40) (base := w.heap.size) (ok := fun k => lo_HX ≤ k ∧ k < w9.heap.size) (n := l0.length) (c := cd9) (by (with_reducible repeat (first | apply Kd.S_alloc | apply Kd.S_drewN | apply Kd.S_drew)); exact HX.out)).2.2); (case side2 => exact (Kd.S_reads' HX.out).2.1); rintro e w17 ⟨v17, rfl, ho0, hb⟩; refine ⟨_, rfl, ?_⟩; obtain ⟨lo_HG, hq_, hlo_, hlw_⟩ := spanR (wi := w11) (by repeat (first | (with_reducible first | exact HB.out | apply below_alloc | apply pw_below_drewN | apply below_drew1) | exact HB.out)) (by repeat (first | (with_reducible first | exact KZ.out | apply Kept.alloc | apply Kept.drewN | apply Kept.drew) | exact KZ.out)) ho0 hb; have n_HS := Aside0.mk (Kd.S_below (by (with_reducible repeat (first | apply Kd.S_alloc | apply Kd.S_drewN | apply Kd.S_drew)); exact HS.out) hb); have n_HW := Aside0.mk (Kd.R_below (by (with_reducible repeat (first | apply Kd.R_alloc | apply Kd.R_drewN | apply Kd.R_drew)); exact HW.out) hb); have n_HX := Aside0.mk (Kd.S_below (by (with_reducible repeat (first | apply Kd.S_alloc | apply Kd.S_drewN | apply Kd.S_drew)); exact HX.out) hb); have n_B0 := Aside0.mk (blk_below (g := g1) (o := .cells #[.slice A0 l0.length c0] 32 (0, 0)) (by (with_reducible repeat (first | refine blk_drewN ?_ _ | refine blk_drew ?_ | refine blk_alloc ?_ _)); exact B0.out) hb); have n_BX := Aside0.mk (blk_below (g := g11) (o := .cells #[(.slice Ad9 l0.length cd9)] 24 (0, 0)) (by (with_reducible repeat (first | refine blk_drewN ?_ _ | refine blk_drew ?_ | refine blk_alloc ?_ _)); exact BX.out) hb); have n_HB := Aside0.mk (below_step (by repeat (first | (with_reducible first | exact HB.out | apply below_alloc | apply pw_below_drewN | apply below_drew1) | exact HB.out)) hb); have n_HG := Aside0.mk hq_; have n_KZ := Aside0.mk (Kept.refl w17 (fun _ => True)); have O_HG := Aside0.mk (And.intro hlo_ hlw_); clear hq_ hlo_ hlw_; clear KZ; clear HS; clear HW; clear HX; clear B0; clear BX; clear HB; have HS := n_HS; have HW := n_HW; have HX := n_HX; have B0 := n_B0; have BX := n_BX; have HB := n_HB; have HG := n_HG; have KZ := n_KZ; clear n_HS n_HW n_HX n_B0 n_BX n_HB n_HG n_KZ; clear hb ho0; obtain ⟨Ad17, cd17, e_HG⟩ := Kd.R_slice HG.out; subst e_HG; have hcz18 : w17.cell? ⟨g1, 0, none⟩ = some (.slice A0 l0.length c0) := (blk_cell B0.out 0).trans rfl; have hfz18 := blk_frozen B0.out 0; have hcz19 : w17.cell? ⟨g11, 0, none⟩ = some (.slice Ad9 l0.length cd9) := (blk_cell BX.out 0).trans rfl; have hfz19 := blk_frozen BX.out 0) | ((with_reducible refine gate_callee (f := 30) rfl ?_); refine goesL_ (some 38) rfl rfl Try.func30 (by kernel_rfl) rfl #[(.slice Ad17 r.length cd17), (.slice Ad7 r.length cd7)] rfl (by (try simp only [List.map_toArray, List.map_cons, List.map_nil]); first | done | rfl) ?_; (with_reducible refine (laws_eqInt64S.calls k _ _ r _ _ r true _ ?side1 ?side2 ?side3 ?side4 A3.out).mono ?_); (case side1 => exact (Kd.R_reads' (d := (Kd.int .i64)) (e := 2) (base := w.heap.size) (ok := fun k => lo_HG ≤ k ∧ k < w17.heap.size) (n := r.length) (c := cd17) (by (with_reducible repeat (first | apply Kd.R_alloc | apply Kd.R_drewN | apply Kd.R_drew)); exact HG.out)).2.2); (case side2 => exact (Kd.R_reads' HG.out).2.1); (case side3 => exact (Kd.R_reads' (d := (Kd.int .i64)) (e := 2) (base := w.heap.size) (ok := fun k => lo_HW ≤ k ∧ k < w7.heap.size) (n := r.length) (c := cd7) (by (with_reducible repeat (first | apply Kd.R_alloc | apply Kd.R_drewN | apply Kd.R_drew)); exact HW.out)).2.2); (case side4 => exact (Kd.R_reads' HW.out).2.1); rintro e w' ⟨rfl, ⟨nd20, rfl⟩⟩; refine ⟨_, rfl, ?_⟩))
  have n_HS := Aside0.mk (show Kd.S (Kd.slice 2 (Kd.int .i64)) 40 ((w17.drewN nd20)).drew w.heap.size (fun k => lo_HS ≤ k ∧ k < w5.heap.size) (.slice Ad5 l0.length cd5) l0 from (by (with_reducible repeat (first | apply Kd.S_alloc | apply Kd.S_drewN | apply Kd.S_drew)); exact HS.out))
  have n_HW := Aside0.mk (show Kd.R (Kd.int .i64) 2 ((w17.drewN nd20)).drew w.heap.size (fun k => lo_HW ≤ k ∧ k < w7.heap.size) (.slice Ad7 r.length cd7) r from (by (with_reducible repeat (first | apply Kd.R_alloc | apply Kd.R_drewN | apply Kd.R_drew)); exact HW.out))
  have n_HX := Aside0.mk (show Kd.S (Kd.slice 2 (Kd.int .i64)) 40 ((w17.drewN nd20)).drew w.heap.size (fun k => lo_HX ≤ k ∧ k < w9.heap.size) (.slice Ad9 l0.length cd9) l0 from (by (with_reducible repeat (first | apply Kd.S_alloc | apply Kd.S_drewN | apply Kd.S_drew)); exact HX.out))
  have n_HG := Aside0.mk (show Kd.R (Kd.int .i64) 2 ((w17.drewN nd20)).drew w.heap.size (fun k => lo_HG ≤ k ∧ k < w17.heap.size) (.slice Ad17 r.length cd17) r from (by (with_reducible repeat (first | apply Kd.R_alloc | apply Kd.R_drewN | apply Kd.R_drew)); exact HG.out))
  have n_B0 := Aside0.mk (show (((w17.drewN nd20)).drew).heap[g1]? = some (.cells #[.slice A0 l0.length c0] 32 (0, 0)) from (by (with_reducible repeat (first | refine blk_drewN ?_ _ | refine blk_drew ?_ | refine blk_alloc ?_ _)); exact B0.out))
  have n_BX := Aside0.mk (show (((w17.drewN nd20)).drew).heap[g11]? = some (.cells #[(.slice Ad9 l0.length cd9)] 24 (0, 0)) from (by (with_reducible repeat (first | refine blk_drewN ?_ _ | refine blk_drew ?_ | refine blk_alloc ?_ _)); exact BX.out))
  have n_KZ := Aside0.mk (show Kept w17 ((w17.drewN nd20)).drew (fun _ => True) from (by repeat (first | (with_reducible first | exact KZ.out | apply Kept.alloc | apply Kept.drewN | apply Kept.drew) | exact KZ.out)))
  have n_HB := Aside0.mk (show Below w.heap.size w ((w17.drewN nd20)).drew from (by repeat (first | (with_reducible first | exact HB.out | apply below_alloc | apply pw_below_drewN | apply below_drew1) | exact HB.out)))
  clear HS
  clear HW
  clear HX
  clear HG
  clear B0
  clear BX
  clear KZ
  clear HB
  have HS := n_HS
  have HW := n_HW
  have HX := n_HX
  have HG := n_HG
  have B0 := n_B0
  have BX := n_BX
  have KZ := n_KZ
  have HB := n_HB
  clear n_HS n_HW n_HX n_HG n_B0 n_BX n_KZ n_HB
  refine start_ (n := 5) (S := fun w' => w'.cell? ⟨g11, 0, none⟩ = some (.slice Ad9 l0.length cd9) ∧ w'.cell? ⟨g1, 0, none⟩ = some (.slice A0 l0.length c0)) (ds := []) #[false, false, false, false, false] (by kernel_rfl) rfl rfl ⟨(blk_cell BX.out 0).trans rfl, (blk_cell B0.out 0).trans rfl⟩ (fun hHeld => ?_)
  generalize ((w17.drewN nd20)).drew = w21 at HS HW HX HG B0 BX KZ HB hHeld ⊢
  refine take_ (i := 0) (N := some 45) (v := ?_) (a' := ?_) #[true, false, false, false, false] rfl rfl (by kernel_rfl) (fun _ _ _ h => h) (Or.inl ⟨by rfl, ?_⟩) hHeld ?_ ?_
  rotate_left
  · rintro w' ⟨s0, s1⟩
    go_simp
    with_reducible rfl
  rotate_left
  · simp only [Act.put, List.setIfInBounds_toArray, List.set_cons_zero, List.set_cons_succ, i64_w, i32_w]
    rfl
  refine take_ (i := 1) (N := some 46) (v := ?_) (a' := ?_) #[true, true, false, false, false] rfl rfl (by kernel_rfl) (fun _ _ _ h => h) (Or.inl ⟨by rfl, ?_⟩) hHeld ?_ ?_
  rotate_left
  · rintro w' ⟨s0, s1⟩
    go_simp
    with_reducible rfl
  rotate_left
  · simp only [Act.put, List.setIfInBounds_toArray, List.set_cons_zero, List.set_cons_succ, i64_w, i32_w]
    rfl
  refine one_ (i := 2) (N := some 47) #[true, true, true, false, false] rfl rfl (by kernel_rfl) (by decide) (fun K hK => ?_)
  refine goes_ Try.func22 (by kernel_rfl) rfl #[.agg #[.slice A0 l0.length c0]] (by rfl) rfl rfl (by (try simp only [List.map_toArray, List.map_cons, List.map_nil]); first | done | rfl) ?_
  (with_reducible refine (laws_toGraph.calls k _ _ l0 l0 _ ?side1 ?side2 AT.out).mono ?_)
  (case side1 => exact (Kd.C_below HR0.out (by repeat (first | (with_reducible first | exact HB.out | apply below_alloc | apply pw_below_drewN | apply below_drew1) | exact HB.out))))
  (case side2 => exact HC0.out)
  rintro e w22 ⟨v22, rfl, ho0, hb⟩
  refine ⟨_, rfl, ?_⟩
  obtain ⟨lo_HY, hq_, hlo_, hlw_⟩ := spanS (wi := w17) (by repeat (first | (with_reducible first | exact HB.out | apply below_alloc | apply pw_below_drewN | apply below_drew1) | exact HB.out)) (by repeat (first | (with_reducible first | exact KZ.out | apply Kept.alloc | apply Kept.drewN | apply Kept.drew) | exact KZ.out)) ho0 hb
  have n_HS := Aside0.mk (Kd.S_below (by (with_reducible repeat (first | apply Kd.S_alloc | apply Kd.S_drewN | apply Kd.S_drew)); exact HS.out) hb)
  have n_HW := Aside0.mk (Kd.R_below (by (with_reducible repeat (first | apply Kd.R_alloc | apply Kd.R_drewN | apply Kd.R_drew)); exact HW.out) hb)
  have n_HX := Aside0.mk (Kd.S_below (by (with_reducible repeat (first | apply Kd.S_alloc | apply Kd.S_drewN | apply Kd.S_drew)); exact HX.out) hb)
  have n_HG := Aside0.mk (Kd.R_below (by (with_reducible repeat (first | apply Kd.R_alloc | apply Kd.R_drewN | apply Kd.R_drew)); exact HG.out) hb)
  have n_B0 := Aside0.mk (blk_below (g := g1) (o := .cells #[.slice A0 l0.length c0] 32 (0, 0)) (by (with_reducible repeat (first | refine blk_drewN ?_ _ | refine blk_drew ?_ | refine blk_alloc ?_ _)); exact B0.out) hb)
  have n_BX := Aside0.mk (blk_below (g := g11) (o := .cells #[(.slice Ad9 l0.length cd9)] 24 (0, 0)) (by (with_reducible repeat (first | refine blk_drewN ?_ _ | refine blk_drew ?_ | refine blk_alloc ?_ _)); exact BX.out) hb)
  have n_HB := Aside0.mk (below_step (by repeat (first | (with_reducible first | exact HB.out | apply below_alloc | apply pw_below_drewN | apply below_drew1) | exact HB.out)) hb)
  have n_HY := Aside0.mk hq_
  have n_KZ := Aside0.mk (Kept.refl w22 (fun _ => True))
  have O_HY := Aside0.mk (And.intro hlo_ hlw_)
  clear hq_ hlo_ hlw_
  clear KZ
  clear HS
  clear HW
  clear HX
  clear HG
  clear B0
  clear BX
  clear HB
  have HS := n_HS
  have HW := n_HW
  have HX := n_HX
  have HG := n_HG
  have B0 := n_B0
  have BX := n_BX
  have HB := n_HB
  have HY := n_HY
  have KZ := n_KZ
  clear n_HS n_HW n_HX n_HG n_B0 n_BX n_HB n_HY n_KZ
  clear hb ho0
  obtain ⟨Ad22, cd22, e_HY⟩ := Kd.S_slice HY.out
  subst e_HY
  have hcz23 : w22.cell? ⟨g1, 0, none⟩ = some (.slice A0 l0.length c0) := (blk_cell B0.out 0).trans rfl
  have hfz23 := blk_frozen B0.out 0
  have hcz24 : w22.cell? ⟨g11, 0, none⟩ = some (.slice Ad9 l0.length cd9) := (blk_cell BX.out 0).trans rfl
  have hfz24 := blk_frozen BX.out 0
  refine hK.out _ _ ⟨(blk_cell BX.out 0).trans rfl, (blk_cell B0.out 0).trans rfl⟩ (fun hHeld => ?_)
  clear hK K
  refine norm_ (a' := ?_) ?_ ?_
  rotate_left
  · show Act.put _ (some 47) _ = _
    simp only [Act.put, List.setIfInBounds_toArray, List.set_cons_zero, List.set_cons_succ, i64_w, i32_w]
    rfl
  refine one_ (i := 3) (N := some 48) #[true, true, true, true, false] rfl rfl (by kernel_rfl) (by decide) (fun K hK => ?_)
  refine goes_ Try.func15 (by kernel_rfl) rfl #[.agg #[(.slice Ad9 l0.length cd9)], .agg #[(.slice Ad22 l0.length cd22)]] (by rfl) rfl rfl (by (try simp only [List.map_toArray, List.map_cons, List.map_nil]); first | done | rfl) ?_
  (with_reducible refine (laws_eqGraph.calls k _ _ l0 _ _ l0 true _ ?side1 ?side2 ?side3 ?side4 A4.out).mono ?_)
  (case side1 => exact (Kd.S_reads' (d := (Kd.slice 2 (Kd.int .i64))) (e := 40) (base := w.heap.size) (ok := fun k => lo_HX ≤ k ∧ k < w9.heap.size) (n := l0.length) (c := cd9) (by (with_reducible repeat (first | apply Kd.S_alloc | apply Kd.S_drewN | apply Kd.S_drew)); exact HX.out)).2.2)
  (case side2 => exact (Kd.S_reads' HX.out).2.1)
  (case side3 => exact (Kd.S_reads' (d := (Kd.slice 2 (Kd.int .i64))) (e := 40) (base := w.heap.size) (ok := fun k => lo_HY ≤ k ∧ k < w22.heap.size) (n := l0.length) (c := cd22) (by (with_reducible repeat (first | apply Kd.S_alloc | apply Kd.S_drewN | apply Kd.S_drew)); exact HY.out)).2.2)
  (case side4 => exact (Kd.S_reads' HY.out).2.1)
  rintro e w25 ⟨rfl, hb⟩
  refine ⟨_, rfl, ?_⟩
  have n_HS := Aside0.mk (Kd.S_below (by (with_reducible repeat (first | apply Kd.S_alloc | apply Kd.S_drewN | apply Kd.S_drew)); exact HS.out) hb)
  have n_HW := Aside0.mk (Kd.R_below (by (with_reducible repeat (first | apply Kd.R_alloc | apply Kd.R_drewN | apply Kd.R_drew)); exact HW.out) hb)
  have n_HX := Aside0.mk (Kd.S_below (by (with_reducible repeat (first | apply Kd.S_alloc | apply Kd.S_drewN | apply Kd.S_drew)); exact HX.out) hb)
  have n_HG := Aside0.mk (Kd.R_below (by (with_reducible repeat (first | apply Kd.R_alloc | apply Kd.R_drewN | apply Kd.R_drew)); exact HG.out) hb)
  have n_HY := Aside0.mk (Kd.S_below (by (with_reducible repeat (first | apply Kd.S_alloc | apply Kd.S_drewN | apply Kd.S_drew)); exact HY.out) hb)
  have n_B0 := Aside0.mk (blk_below (g := g1) (o := .cells #[.slice A0 l0.length c0] 32 (0, 0)) (by (with_reducible repeat (first | refine blk_drewN ?_ _ | refine blk_drew ?_ | refine blk_alloc ?_ _)); exact B0.out) hb)
  have n_BX := Aside0.mk (blk_below (g := g11) (o := .cells #[(.slice Ad9 l0.length cd9)] 24 (0, 0)) (by (with_reducible repeat (first | refine blk_drewN ?_ _ | refine blk_drew ?_ | refine blk_alloc ?_ _)); exact BX.out) hb)
  have n_KZ := Aside0.mk (Kept.below (by repeat (first | (with_reducible first | exact KZ.out | apply Kept.alloc | apply Kept.drewN | apply Kept.drew) | exact KZ.out)) hb)
  have n_HB := Aside0.mk (below_step (by repeat (first | (with_reducible first | exact HB.out | apply below_alloc | apply pw_below_drewN | apply below_drew1) | exact HB.out)) hb)
  clear HS
  clear HW
  clear HX
  clear HG
  clear HY
  clear B0
  clear BX
  clear KZ
  clear HB
  have HS := n_HS
  have HW := n_HW
  have HX := n_HX
  have HG := n_HG
  have HY := n_HY
  have B0 := n_B0
  have BX := n_BX
  have KZ := n_KZ
  have HB := n_HB
  clear n_HS n_HW n_HX n_HG n_HY n_B0 n_BX n_KZ n_HB
  clear hb
  have hcz26 : w25.cell? ⟨g1, 0, none⟩ = some (.slice A0 l0.length c0) := (blk_cell B0.out 0).trans rfl
  have hfz26 := blk_frozen B0.out 0
  have hcz27 : w25.cell? ⟨g11, 0, none⟩ = some (.slice Ad9 l0.length cd9) := (blk_cell BX.out 0).trans rfl
  have hfz27 := blk_frozen BX.out 0
  refine hK.out _ _ ⟨(blk_cell BX.out 0).trans rfl, (blk_cell B0.out 0).trans rfl⟩ (fun hHeld => ?_)
  clear hK K
  refine norm_ (a' := ?_) ?_ ?_
  rotate_left
  · show Act.put _ (some 48) _ = _
    simp only [Act.put, List.setIfInBounds_toArray, List.set_cons_zero, List.set_cons_succ, i64_w, i32_w]
    rfl
  refine pure_ (i := 4) (N := some 49) (v := ?_) (a' := ?_) #[true, true, true, true, true] rfl rfl (by kernel_rfl) (fun _ _ _ h => h) (Or.inl ⟨by rfl, ?_⟩) ?_ ?_
  rotate_left
  · intro w'
    go_simp
    with_reducible rfl
  rotate_left
  · simp only [Act.put, List.setIfInBounds_toArray, List.set_cons_zero, List.set_cons_succ, i64_w, i32_w]
    rfl
  refine done_ (by kernel_rfl) ?_
  go_wp2_with (first | ((with_reducible refine gate_callee (f := 16) rfl ?_); refine goesL_ (some 52) rfl rfl Try.func16 (by kernel_rfl) rfl #[.agg #[(.slice Ad9 l0.length cd9)], .int .i64 1] rfl (by (try simp only [List.map_toArray, List.map_cons, List.map_nil]); first | done | rfl) ?_; (with_reducible refine (laws_markGraph.calls k (fun k_ => lo_HX ≤ k_ ∧ k_ < w9.heap.size) _ _ l0 1 m T2 w _ ?side1 ?side2 A5.out).mono ?_); (case side1 => exact (by repeat (first | (with_reducible first | exact HB.out | apply below_alloc | apply pw_below_drewN | apply below_drew1) | exact HB.out))); (case side2 => exact (by (with_reducible repeat (first | apply Kd.S_alloc | apply Kd.S_drewN | apply Kd.S_drew)); exact HX.out)); rintro e w28 ⟨rfl, ho0, hb, hkp⟩; refine ⟨_, rfl, ?_⟩; have n_HS := Aside0.mk (Kd.S_kept (by (with_reducible repeat (first | apply Kd.S_alloc | apply Kd.S_drewN | apply Kd.S_drew)); exact HS.out) hkp (fun k h1 h2 => by have := h1.1; have := h1.2; have := h2.1; have := h2.2; have := O_B0.out; have := O_HS.out; have := O_HW.out; have := O_HX.out; have := O_BX.out; have := O_HG.out; have := O_HY.out; omega)); have n_HW := Aside0.mk (Kd.R_kept (by (with_reducible repeat (first | apply Kd.R_alloc | apply Kd.R_drewN | apply Kd.R_drew)); exact HW.out) hkp (fun k h1 h2 => by have := h1.1; have := h1.2; have := h2.1; have := h2.2; have := O_B0.out; have := O_HS.out; have := O_HW.out; have := O_HX.out; have := O_BX.out; have := O_HG.out; have := O_HY.out; omega)); have n_HG := Aside0.mk (Kd.R_kept (by (with_reducible repeat (first | apply Kd.R_alloc | apply Kd.R_drewN | apply Kd.R_drew)); exact HG.out) hkp (fun k h1 h2 => by have := h1.1; have := h1.2; have := h2.1; have := h2.2; have := O_B0.out; have := O_HS.out; have := O_HW.out; have := O_HX.out; have := O_BX.out; have := O_HG.out; have := O_HY.out; omega)); have n_HY := Aside0.mk (Kd.S_kept (by (with_reducible repeat (first | apply Kd.S_alloc | apply Kd.S_drewN | apply Kd.S_drew)); exact HY.out) hkp (fun k h1 h2 => by have := h1.1; have := h1.2; have := h2.1; have := h2.2; have := O_B0.out; have := O_HS.out; have := O_HW.out; have := O_HX.out; have := O_BX.out; have := O_HG.out; have := O_HY.out; omega)); have n_B0 := Aside0.mk (blk_kept (g := g1) (o := .cells #[.slice A0 l0.length c0] 32 (0, 0)) (by (with_reducible repeat (first | refine blk_drewN ?_ _ | refine blk_drew ?_ | refine blk_alloc ?_ _)); exact B0.out) hkp (fun h2 => by have := h2.1; have := h2.2; have := O_B0.out; have := O_HS.out; have := O_HW.out; have := O_HX.out; have := O_BX.out; have := O_HG.out; have := O_HY.out; omega)); have n_BX := Aside0.mk (blk_kept (g := g11) (o := .cells #[(.slice Ad9 l0.length cd9)] 24 (0, 0)) (by (with_reducible repeat (first | refine blk_drewN ?_ _ | refine blk_drew ?_ | refine blk_alloc ?_ _)); exact BX.out) hkp (fun h2 => by have := h2.1; have := h2.2; have := O_B0.out; have := O_HS.out; have := O_HW.out; have := O_HX.out; have := O_BX.out; have := O_HG.out; have := O_HY.out; omega)); have n_KZ := Aside0.mk (Kept.then_ (S := fun _ => True) (by repeat (first | (with_reducible first | exact KZ.out | apply Kept.alloc | apply Kept.drewN | apply Kept.drew) | exact KZ.out)) hkp (fun _ _ => .inl trivial)); have n_HX := Aside0.mk ho0; have n_HB := Aside0.mk hb; clear HS; clear HW; clear HG; clear HY; clear B0; clear BX; clear KZ; clear HX; clear HB; have HS := n_HS; have HW := n_HW; have HG := n_HG; have HY := n_HY; have B0 := n_B0; have BX := n_BX; have KZ := n_KZ; have HX := n_HX; have HB := n_HB; clear n_HS n_HW n_HG n_HY n_B0 n_BX n_KZ n_HX n_HB; clear hb hkp ho0; have hcz29 : w28.cell? ⟨g1, 0, none⟩ = some (.slice A0 l0.length c0) := (blk_cell B0.out 0).trans rfl; have hfz29 := blk_frozen B0.out 0; have hcz30 : w28.cell? ⟨g11, 0, none⟩ = some (.slice Ad9 l0.length cd9) := (blk_cell BX.out 0).trans rfl; have hfz30 := blk_frozen BX.out 0) | ((with_reducible refine gate_callee (f := 30) rfl ?_); refine gate_guard (by rfl) ?_; dsimp only; refine goesL_ (some 58) rfl rfl Try.func30 (by kernel_rfl) rfl #[(.slice Ad17 r.length cd17), (.slice Ad7 r.length cd7)] rfl (by (try simp only [List.map_toArray, List.map_cons, List.map_nil]); first | done | rfl) ?_; (with_reducible refine (laws_eqInt64S.calls k _ _ r _ _ r true _ ?side1 ?side2 ?side3 ?side4 A3.out).mono ?_); (case side1 => exact (Kd.R_reads' (d := (Kd.int .i64)) (e := 2) (base := w.heap.size) (ok := fun k => lo_HG ≤ k ∧ k < w17.heap.size) (n := r.length) (c := cd17) (by (with_reducible repeat (first | apply Kd.R_alloc | apply Kd.R_drewN | apply Kd.R_drew)); exact HG.out)).2.2); (case side2 => exact (Kd.R_reads' HG.out).2.1); (case side3 => exact (Kd.R_reads' (d := (Kd.int .i64)) (e := 2) (base := w.heap.size) (ok := fun k => lo_HW ≤ k ∧ k < w7.heap.size) (n := r.length) (c := cd7) (by (with_reducible repeat (first | apply Kd.R_alloc | apply Kd.R_drewN | apply Kd.R_drew)); exact HW.out)).2.2); (case side4 => exact (Kd.R_reads' HW.out).2.1); rintro e w' ⟨rfl, ⟨nd31, rfl⟩⟩; refine ⟨_, rfl, ?_⟩) | ((with_reducible refine gate_callee (f := 31) rfl ?_); refine goesL_ (some 68) rfl rfl Try.func31 (by kernel_rfl) rfl #[(.slice Ad17 r.length cd17), .int .i64 1] rfl (by (try simp only [List.map_toArray, List.map_cons, List.map_nil]); first | done | rfl) ?_; (with_reducible refine (laws_markInt64S.calls_own k (fun k_ => lo_HG ≤ k_ ∧ k_ < w17.heap.size) _ r 1 m2 r2 w _ ?side1 ?side2 A6.out).mono ?_); (case side1 => exact (by repeat (first | (with_reducible first | exact HB.out | apply below_alloc | apply pw_below_drewN | apply below_drew1) | exact HB.out))); (case side2 => exact (by (with_reducible repeat (first | apply Kd.R_alloc | apply Kd.R_drewN | apply Kd.R_drew)); exact HG.out)); rintro e w32 ⟨rfl, ho0, hb, hkp⟩; refine ⟨_, rfl, ?_⟩; have n_HS := Aside0.mk (Kd.S_kept (by (with_reducible repeat (first | apply Kd.S_alloc | apply Kd.S_drewN | apply Kd.S_drew)); exact HS.out) hkp (fun k h1 h2 => by have := h1.1; have := h1.2; have := h2.1; have := h2.2; have := O_B0.out; have := O_HS.out; have := O_HW.out; have := O_HX.out; have := O_BX.out; have := O_HG.out; have := O_HY.out; omega)); have n_HW := Aside0.mk (Kd.R_kept (by (with_reducible repeat (first | apply Kd.R_alloc | apply Kd.R_drewN | apply Kd.R_drew)); exact HW.out) hkp (fun k h1 h2 => by have := h1.1; have := h1.2; have := h2.1; have := h2.2; have := O_B0.out; have := O_HS.out; have := O_HW.out; have := O_HX.out; have := O_BX.out; have := O_HG.out; have := O_HY.out; omega)); have n_HX := Aside0.mk (Kd.S_kept (by (with_reducible repeat (first | apply Kd.S_alloc | apply Kd.S_drewN | apply Kd.S_drew)); exact HX.out) hkp (fun k h1 h2 => by have := h1.1; have := h1.2; have := h2.1; have := h2.2; have := O_B0.out; have := O_HS.out; have := O_HW.out; have := O_HX.out; have := O_BX.out; have := O_HG.out; have := O_HY.out; omega)); have n_HY := Aside0.mk (Kd.S_kept (by (with_reducible repeat (first | apply Kd.S_alloc | apply Kd.S_drewN | apply Kd.S_drew)); exact HY.out) hkp (fun k h1 h2 => by have := h1.1; have := h1.2; have := h2.1; have := h2.2; have := O_B0.out; have := O_HS.out; have := O_HW.out; have := O_HX.out; have := O_BX.out; have := O_HG.out; have := O_HY.out; omega)); have n_B0 := Aside0.mk (blk_kept (g := g1) (o := .cells #[.slice A0 l0.length c0] 32 (0, 0)) (by (with_reducible repeat (first | refine blk_drewN ?_ _ | refine blk_drew ?_ | refine blk_alloc ?_ _)); exact B0.out) hkp (fun h2 => by have := h2.1; have := h2.2; have := O_B0.out; have := O_HS.out; have := O_HW.out; have := O_HX.out; have := O_BX.out; have := O_HG.out; have := O_HY.out; omega)); have n_BX := Aside0.mk (blk_kept (g := g11) (o := .cells #[(.slice Ad9 l0.length cd9)] 24 (0, 0)) (by (with_reducible repeat (first | refine blk_drewN ?_ _ | refine blk_drew ?_ | refine blk_alloc ?_ _)); exact BX.out) hkp (fun h2 => by have := h2.1; have := h2.2; have := O_B0.out; have := O_HS.out; have := O_HW.out; have := O_HX.out; have := O_BX.out; have := O_HG.out; have := O_HY.out; omega)); have n_KZ := Aside0.mk (Kept.then_ (S := fun _ => True) (by repeat (first | (with_reducible first | exact KZ.out | apply Kept.alloc | apply Kept.drewN | apply Kept.drew) | exact KZ.out)) hkp (fun _ _ => .inl trivial)); have n_HG := Aside0.mk ho0; have n_HB := Aside0.mk hb; clear HS; clear HW; clear HX; clear HY; clear B0; clear BX; clear KZ; clear HG; clear HB; have HS := n_HS; have HW := n_HW; have HX := n_HX; have HY := n_HY; have B0 := n_B0; have BX := n_BX; have KZ := n_KZ; have HG := n_HG; have HB := n_HB; clear n_HS n_HW n_HX n_HY n_B0 n_BX n_KZ n_HG n_HB; clear hb hkp ho0; have hcz33 : w32.cell? ⟨g1, 0, none⟩ = some (.slice A0 l0.length c0) := (blk_cell B0.out 0).trans rfl; have hfz33 := blk_frozen B0.out 0; have hcz34 : w32.cell? ⟨g11, 0, none⟩ = some (.slice Ad9 l0.length cd9) := (blk_cell BX.out 0).trans rfl; have hfz34 := blk_frozen BX.out 0) | ((with_reducible refine gate_callee (f := 32) rfl ?_); refine goesL_ (some 71) rfl rfl Try.func32 (by kernel_rfl) rfl #[(.slice Ad17 r.length cd17), .int .i64 1] rfl (by (try simp only [List.map_toArray, List.map_cons, List.map_nil]); first | done | rfl) ?_; (with_reducible refine (laws_heldInt64S.calls_n k _ _ r.length r2 1 m2 _ hlen.out.symm ?side1 ?side2 A7.out).mono ?_); (case side1 => exact (Kd.R_reads' (d := (Kd.int .i64)) (e := 2) (base := w.heap.size) (ok := fun k => lo_HG ≤ k ∧ k < w17.heap.size) (n := r.length) (c := cd17) (by (with_reducible repeat (first | apply Kd.R_alloc | apply Kd.R_drewN | apply Kd.R_drew)); exact HG.out)).2.2); (case side2 => exact (Kd.R_reads' HG.out).2.1); rintro e w' ⟨rfl, ⟨nd35, rfl⟩⟩; refine ⟨_, rfl, ?_⟩) | ((with_reducible refine gate_callee (f := 22) rfl ?_); refine goesL_ (some 79) rfl rfl Try.func22 (by kernel_rfl) rfl #[.agg #[.slice A0 l0.length c0]] rfl (by (try simp only [List.map_toArray, List.map_cons, List.map_nil]); first | done | rfl) ?_; (with_reducible refine (laws_toGraph.calls k _ _ l0 l0 _ ?side1 ?side2 AT.out).mono ?_); (case side1 => exact (Kd.C_below HR0.out (by repeat (first | (with_reducible first | exact HB.out | apply below_alloc | apply pw_below_drewN | apply below_drew1) | exact HB.out)))); (case side2 => exact HC0.out); rintro e w36 ⟨v36, rfl, ho0, hb⟩; refine ⟨_, rfl, ?_⟩; obtain ⟨lo_HZ, hq_, hlo_, hlw_⟩ := spanS (wi := w22) (by repeat (first | (with_reducible first | exact HB.out | apply below_alloc | apply pw_below_drewN | apply below_drew1) | exact HB.out)) (by repeat (first | (with_reducible first | exact KZ.out | apply Kept.alloc | apply Kept.drewN | apply Kept.drew) | exact KZ.out)) ho0 hb; have n_HS := Aside0.mk (Kd.S_below (by (with_reducible repeat (first | apply Kd.S_alloc | apply Kd.S_drewN | apply Kd.S_drew)); exact HS.out) hb); have n_HW := Aside0.mk (Kd.R_below (by (with_reducible repeat (first | apply Kd.R_alloc | apply Kd.R_drewN | apply Kd.R_drew)); exact HW.out) hb); have n_HX := Aside0.mk (Kd.S_below (by (with_reducible repeat (first | apply Kd.S_alloc | apply Kd.S_drewN | apply Kd.S_drew)); exact HX.out) hb); have n_HG := Aside0.mk (Kd.R_below (by (with_reducible repeat (first | apply Kd.R_alloc | apply Kd.R_drewN | apply Kd.R_drew)); exact HG.out) hb); have n_HY := Aside0.mk (Kd.S_below (by (with_reducible repeat (first | apply Kd.S_alloc | apply Kd.S_drewN | apply Kd.S_drew)); exact HY.out) hb); have n_B0 := Aside0.mk (blk_below (g := g1) (o := .cells #[.slice A0 l0.length c0] 32 (0, 0)) (by (with_reducible repeat (first | refine blk_drewN ?_ _ | refine blk_drew ?_ | refine blk_alloc ?_ _)); exact B0.out) hb); have n_BX := Aside0.mk (blk_below (g := g11) (o := .cells #[(.slice Ad9 l0.length cd9)] 24 (0, 0)) (by (with_reducible repeat (first | refine blk_drewN ?_ _ | refine blk_drew ?_ | refine blk_alloc ?_ _)); exact BX.out) hb); have n_HB := Aside0.mk (below_step (by repeat (first | (with_reducible first | exact HB.out | apply below_alloc | apply pw_below_drewN | apply below_drew1) | exact HB.out)) hb); have n_HZ := Aside0.mk hq_; have n_KZ := Aside0.mk (Kept.refl w36 (fun _ => True)); have O_HZ := Aside0.mk (And.intro hlo_ hlw_); clear hq_ hlo_ hlw_; clear KZ; clear HS; clear HW; clear HX; clear HG; clear HY; clear B0; clear BX; clear HB; have HS := n_HS; have HW := n_HW; have HX := n_HX; have HG := n_HG; have HY := n_HY; have B0 := n_B0; have BX := n_BX; have HB := n_HB; have HZ := n_HZ; have KZ := n_KZ; clear n_HS n_HW n_HX n_HG n_HY n_B0 n_BX n_HB n_HZ n_KZ; clear hb ho0; obtain ⟨Ad36, cd36, e_HZ⟩ := Kd.S_slice HZ.out; subst e_HZ; have hcz37 : w36.cell? ⟨g1, 0, none⟩ = some (.slice A0 l0.length c0) := (blk_cell B0.out 0).trans rfl; have hfz37 := blk_frozen B0.out 0; have hcz38 : w36.cell? ⟨g11, 0, none⟩ = some (.slice Ad9 l0.length cd9) := (blk_cell BX.out 0).trans rfl; have hfz38 := blk_frozen BX.out 0) | ((with_reducible refine gate_callee (f := 29) rfl ?_); refine goesL_ (some 81) rfl rfl Try.func29 (by kernel_rfl) rfl #[.agg #[(.slice Ad36 l0.length cd36)], .int .i64 a1] rfl (by (try simp only [List.map_toArray, List.map_cons, List.map_nil]); first | done | rfl) ?_; (with_reducible refine (impl_ReachedFrom.calls k _ _ l0 a1 r b _ ?side1 ?side2 A2.out).mono ?_); (case side1 => exact (Kd.S_reads' (d := (Kd.slice 2 (Kd.int .i64))) (e := 40) (base := w.heap.size) (ok := fun k => lo_HZ ≤ k ∧ k < w36.heap.size) (n := l0.length) (c := cd36) (by (with_reducible repeat (first | apply Kd.S_alloc | apply Kd.S_drewN | apply Kd.S_drew)); exact HZ.out)).2.2); (case side2 => exact (Kd.S_reads' HZ.out).2.1); rintro e w39 ⟨v39, rfl, ho0, hb⟩; refine ⟨_, rfl, ?_⟩; obtain ⟨lo_HH, hq_, hlo_, hlw_⟩ := spanR (wi := w36) (by repeat (first | (with_reducible first | exact HB.out | apply below_alloc | apply pw_below_drewN | apply below_drew1) | exact HB.out)) (by repeat (first | (with_reducible first | exact KZ.out | apply Kept.alloc | apply Kept.drewN | apply Kept.drew) | exact KZ.out)) ho0 hb; have n_HS := Aside0.mk (Kd.S_below (by (with_reducible repeat (first | apply Kd.S_alloc | apply Kd.S_drewN | apply Kd.S_drew)); exact HS.out) hb); have n_HW := Aside0.mk (Kd.R_below (by (with_reducible repeat (first | apply Kd.R_alloc | apply Kd.R_drewN | apply Kd.R_drew)); exact HW.out) hb); have n_HX := Aside0.mk (Kd.S_below (by (with_reducible repeat (first | apply Kd.S_alloc | apply Kd.S_drewN | apply Kd.S_drew)); exact HX.out) hb); have n_HG := Aside0.mk (Kd.R_below (by (with_reducible repeat (first | apply Kd.R_alloc | apply Kd.R_drewN | apply Kd.R_drew)); exact HG.out) hb); have n_HY := Aside0.mk (Kd.S_below (by (with_reducible repeat (first | apply Kd.S_alloc | apply Kd.S_drewN | apply Kd.S_drew)); exact HY.out) hb); have n_HZ := Aside0.mk (Kd.S_below (by (with_reducible repeat (first | apply Kd.S_alloc | apply Kd.S_drewN | apply Kd.S_drew)); exact HZ.out) hb); have n_B0 := Aside0.mk (blk_below (g := g1) (o := .cells #[.slice A0 l0.length c0] 32 (0, 0)) (by (with_reducible repeat (first | refine blk_drewN ?_ _ | refine blk_drew ?_ | refine blk_alloc ?_ _)); exact B0.out) hb); have n_BX := Aside0.mk (blk_below (g := g11) (o := .cells #[(.slice Ad9 l0.length cd9)] 24 (0, 0)) (by (with_reducible repeat (first | refine blk_drewN ?_ _ | refine blk_drew ?_ | refine blk_alloc ?_ _)); exact BX.out) hb); have n_HB := Aside0.mk (below_step (by repeat (first | (with_reducible first | exact HB.out | apply below_alloc | apply pw_below_drewN | apply below_drew1) | exact HB.out)) hb); have n_HH := Aside0.mk hq_; have n_KZ := Aside0.mk (Kept.refl w39 (fun _ => True)); have O_HH := Aside0.mk (And.intro hlo_ hlw_); clear hq_ hlo_ hlw_; clear KZ; clear HS; clear HW; clear HX; clear HG; clear HY; clear HZ; clear B0; clear BX; clear HB; have HS := n_HS; have HW := n_HW; have HX := n_HX; have HG := n_HG; have HY := n_HY; have HZ := n_HZ; have B0 := n_B0; have BX := n_BX; have HB := n_HB; have HH := n_HH; have KZ := n_KZ; clear n_HS n_HW n_HX n_HG n_HY n_HZ n_B0 n_BX n_HB n_HH n_KZ; clear hb ho0; obtain ⟨Ad39, cd39, e_HH⟩ := Kd.R_slice HH.out; subst e_HH; have hcz40 : w39.cell? ⟨g1, 0, none⟩ = some (.slice A0 l0.length c0) := (blk_cell B0.out 0).trans rfl; have hfz40 := blk_frozen B0.out 0; have hcz41 : w39.cell? ⟨g11, 0, none⟩ = some (.slice Ad9 l0.length cd9) := (blk_cell BX.out 0).trans rfl; have hfz41 := blk_frozen BX.out 0) | ((with_reducible refine gate_callee (f := 30) rfl ?_); refine goesL_ (some 86) rfl rfl Try.func30 (by kernel_rfl) rfl #[(.slice Ad39 r.length cd39), (.slice Ad7 r.length cd7)] rfl (by (try simp only [List.map_toArray, List.map_cons, List.map_nil]); first | done | rfl) ?_; (with_reducible refine (laws_eqInt64S.calls k _ _ r _ _ r true _ ?side1 ?side2 ?side3 ?side4 A3.out).mono ?_); (case side1 => exact (Kd.R_reads' (d := (Kd.int .i64)) (e := 2) (base := w.heap.size) (ok := fun k => lo_HH ≤ k ∧ k < w39.heap.size) (n := r.length) (c := cd39) (by (with_reducible repeat (first | apply Kd.R_alloc | apply Kd.R_drewN | apply Kd.R_drew)); exact HH.out)).2.2); (case side2 => exact (Kd.R_reads' HH.out).2.1); (case side3 => exact (Kd.R_reads' (d := (Kd.int .i64)) (e := 2) (base := w.heap.size) (ok := fun k => lo_HW ≤ k ∧ k < w7.heap.size) (n := r.length) (c := cd7) (by (with_reducible repeat (first | apply Kd.R_alloc | apply Kd.R_drewN | apply Kd.R_drew)); exact HW.out)).2.2); (case side4 => exact (Kd.R_reads' HW.out).2.1); rintro e w' ⟨rfl, ⟨nd42, rfl⟩⟩; refine ⟨_, rfl, ?_⟩) | ((with_reducible refine gate_callee (f := 32) rfl ?_); refine goesL_ (some 95) rfl rfl Try.func32 (by kernel_rfl) rfl #[(.slice Ad17 r.length cd17), .int .i64 1] rfl (by (try simp only [List.map_toArray, List.map_cons, List.map_nil]); first | done | rfl) ?_; (with_reducible refine (laws_heldInt64S.calls_n k _ _ r.length r2 1 m2 _ hlen.out.symm ?side1 ?side2 A7.out).mono ?_); (case side1 => exact (Kd.R_reads' (d := (Kd.int .i64)) (e := 2) (base := w.heap.size) (ok := fun k => lo_HG ≤ k ∧ k < w17.heap.size) (n := r.length) (c := cd17) (by (with_reducible repeat (first | apply Kd.R_alloc | apply Kd.R_drewN | apply Kd.R_drew)); exact HG.out)).2.2); (case side2 => exact (Kd.R_reads' HG.out).2.1); rintro e w' ⟨rfl, ⟨nd43, rfl⟩⟩; refine ⟨_, rfl, ?_⟩))
  go_ret
  exact ⟨by first | rfl | (simp [errW_none, errW_some] <;> rfl) | (simp [*, errW_none, errW_some] <;> rfl), by repeat (first | (with_reducible first | exact HB.out | apply below_alloc | apply pw_below_drewN | apply below_drew1) | exact HB.out)⟩

end Go.Proofs.Ytanndepgepgfoaa.QFnExactReachedFrom
