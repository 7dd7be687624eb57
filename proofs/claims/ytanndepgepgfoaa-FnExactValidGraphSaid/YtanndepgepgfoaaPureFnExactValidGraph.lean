/-
The law FnExactValidGraph answers true for every graph; there are no conditions beside the row's own bounds.
-/
import Derived.Test.YtanndepgepgfoaaQFnExactValidGraphx3
namespace Go.Proofs.Ytanndepgepgfoaa.Pure
open Go.RowKit Go.Proofs.Ytanndepgepgfoaa.QFnExactValidGraph Go.Proofs.YtanndepgepgfoaaW.PrintWords Go.Proofs.YtanndepgepgfoaaW.PrintLast Go.Proofs.YtanndepgepgfoaaW.PrintMore
set_option linter.unusedVariables false

theorem ev_one {α : Type} {g : Nat → Option α} {r : α} (h : ∀ k, g (k + 1) = some r) : Ev g r :=
  ⟨1, fun k hk => by obtain ⟨m, rfl⟩ : ∃ m, k = m + 1 := ⟨k - 1, by omega⟩; exact h m⟩
theorem wrap64_in {x : Int} (h0 : -9223372036854775808 ≤ x) (h1 : x ≤ 9223372036854775807) : wrap64 x = x := by
  unfold wrap64; omega
theorem u64_in {x : Int} (h0 : 0 ≤ x) (h1 : x ≤ 18446744073709551615) : IntKind.u64.wrap x = x := by
  simp [IntKind.wrap, IntKind.bits, IntKind.signed]; omega
theorem i64_in {x : Int} (h0 : -9223372036854775808 ≤ x) (h1 : x ≤ 9223372036854775807) : IntKind.i64.wrap x = x := by
  rw [IntKind.wrap_i64]; omega
theorem and_one (x : Int) : Go.bits .and .i64 x 1 = x % 2 := by
  have h : (BitVec.ofInt 64 x &&& BitVec.ofInt 64 1).toNat = (x % 2).toNat := by
    have e1 : BitVec.ofInt 64 1 = 1#64 := by decide
    rw [e1, BitVec.toNat_and, BitVec.toNat_ofInt]
    have e2 : (1#64).toNat = 1 := by decide
    rw [e2, Nat.and_one_is_mod]
    omega
  show IntKind.i64.wrap (((BitVec.ofInt 64 x &&& BitVec.ofInt 64 1).toNat : Nat) : Int) = x % 2
  rw [h, i64_in (by omega) (by omega)]
  omega
theorem wf_i64 {x : Int} (h : (Lit.int .i64 x).wf = true) : -9223372036854775808 ≤ x ∧ x ≤ 9223372036854775807 := by
  simp [Lit.wf, IntKind.min, IntKind.max, IntKind.signed, IntKind.bits] at h
  omega
theorem pow_pos_int (d : Nat) : (0 : Int) < 2 ^ d := Int.pow_pos (by decide)
theorem pow_le_int {a b : Nat} (h : a ≤ b) : (2 : Int) ^ a ≤ 2 ^ b := by
  have := Nat.pow_le_pow_right (n := 2) (by decide) h
  exact_mod_cast this

theorem ev_pos {α : Type} {c : Prop} [Decidable c] {g h : Nat → Option α} {r : α} (hc : c) (hg : Ev g r) : Ev (fun k => if c then g k else h k) r := by
  obtain ⟨K, hK⟩ := hg
  exact ⟨K, fun k hk => (if_pos hc).trans (hK k hk)⟩
theorem ev_neg {α : Type} {c : Prop} [Decidable c] {g h : Nat → Option α} {r : α} (hc : ¬ c) (hg : Ev h r) : Ev (fun k => if c then g k else h k) r := by
  obtain ⟨K, hK⟩ := hg
  exact ⟨K, fun k hk => (if_neg hc).trans (hK k hk)⟩
theorem ev_some {α β : Type} {f : Nat → α → Option β} {a : α} {r : β} (h : Ev (fun k => f k a) r) : Ev (fun k => (some a).bind (f k)) r := h
theorem ev_to {α β : Type} {x : Option α} {f : Nat → α → Option β} {a : α} {r : β} (e : x = some a) (h : Ev (fun k => f k a) r) : Ev (fun k => x.bind (f k)) r := by subst e; exact h
theorem ev_det {α : Type} {g : Nat → Option α} {r r' : α} (h : Ev g r) (h' : Ev g r') : r = r' := by
  obtain ⟨K, hK⟩ := h
  obtain ⟨K', hK'⟩ := h'
  have h1 := hK (max K K') (Nat.le_max_left _ _)
  have h2 := hK' (max K K') (Nat.le_max_right _ _)
  rw [h1] at h2
  exact Option.some.inj h2
theorem wrap_succ {j n : Nat} (h : j < n) (hn : n ≤ 9223372036854775807) : wrap64 ((j : Int) + 1) = ((j + 1 : Nat) : Int) := by
  rw [wrap64_in (by omega) (by omega)]; omega
theorem nat0 (j : Nat) : (0 : Int) ≤ (j : Int) := Int.natCast_nonneg j
theorem rd_nat (l : List Int) (j : Nat) : rd l (j : Int) = l.getD j 0 := by unfold rd; rw [Int.toNat_natCast]
theorem rd_get (l : List Int) (j : Nat) (h : j < l.length) : rd l (j : Int) = l[j] := by rw [rd_nat, List.getD_eq_getElem?_getD, List.getElem?_eq_getElem h]; rfl
theorem drop_cons {α : Type} (l : List α) (j : Nat) (h : j < l.length) : l.drop j = l[j] :: l.drop (j + 1) := List.drop_eq_getElem_cons h
theorem take_snoc' {α : Type} (l : List α) (j : Nat) (h : j < l.length) : l.take (j + 1) = l.take j ++ [l[j]] := List.take_succ_eq_append_getElem h
theorem set_take {α : Type} (acc : List α) (j : Nat) (x : α) (h : j < acc.length) : (acc.set j x).take (j + 1) = acc.take j ++ [x] := by
  rw [List.take_set, List.take_succ_eq_append_getElem h, List.set_append_right _ _ (by simp; omega)]
  have : (acc.take j).length = j := by rw [List.length_take]; omega
  rw [this, Nat.sub_self]
  rfl
theorem take_all {α : Type} {a b : List α} {n : Nat} (ha : a.length = n) (hb : b.length = n) (h : a.take n = b.take n) : a = b := by
  rw [List.take_of_length_le (by omega), List.take_of_length_le (by omega)] at h; exact h

theorem spec_in (a b c : Int) : spec_l00In.f a b c = some (decide (b ≤ a ∧ a ≤ c)) := by
  unfold spec_l00In.f
  by_cases h : a ≥ b
  · rw [if_pos h]; congr 1; have : b ≤ a := h; simp [this]
  · rw [if_neg h]; congr 1; have : ¬ b ≤ a := h; simp [this]
theorem impl_in (a b c : Int) : impl_within.f a b c = some (decide (b ≤ a ∧ a ≤ c)) := by
  unfold impl_within.f
  by_cases h : a ≥ b
  · rw [if_pos h]; congr 1; have : b ≤ a := h; simp [this]
  · rw [if_neg h]; congr 1; have : ¬ b ≤ a := h; simp [this]

theorem toInt64S_loop (l : List Int) (hn : l.length ≤ 1048576) (d : Nat) : ∀ (j : Nat) (acc : List Int), j + d = l.length → acc.length = l.length → acc.take j = l.take j →
    Ev (fun k => laws_toInt64S.l0 k l acc (j : Int)) l := by
  induction d with
  | zero =>
    intro j acc h1 h2 h3
    obtain rfl : acc = l := take_all (n := j) (by omega) (by omega) h3
    exact ev_one (fun k => by rw [laws_toInt64S.l0, if_neg (by omega)])
  | succ d ih =>
    intro j acc h1 h2 h3
    have hj : j < l.length := by omega
    refine Ev.step (fun k => ?_) (ih (j + 1) (acc.set j l[j]) (by omega) (by simpa using h2) (by rw [set_take _ _ _ (by omega), take_snoc' _ _ hj, h3]))
    rw [laws_toInt64S.l0, if_pos (by omega), if_pos (by omega), if_pos (by omega), wrap_succ hj (by omega), rd_get _ _ hj, Int.toNat_natCast]
theorem toInt64S_ev (l : List Int) (hn : l.length ≤ 1048576) : Ev (fun k => laws_toInt64S.f k l) l := by
  refine Ev.congr (fun k => ?_) (toInt64S_loop l hn l.length 0 (List.replicate l.length 0) (by omega) (by simp) (by simp))
  unfold laws_toInt64S.f
  rw [if_pos (by omega), if_pos (by omega), Int.toNat_natCast]
  rfl
theorem eqInt64S_loop (l : List Int) (hn : l.length ≤ 1048576) (d : Nat) : ∀ j : Nat, j + d = l.length → Ev (fun k => laws_eqInt64S.l0 k l l (j : Int)) true := by
  induction d with
  | zero => intro j h; exact ev_one (fun k => by rw [laws_eqInt64S.l0, if_neg (by omega)])
  | succ d ih =>
    intro j h
    refine Ev.step (fun k => ?_) (ih (j + 1) (by omega))
    rw [laws_eqInt64S.l0, if_pos (by omega), if_pos (by omega), if_pos (by omega), if_pos rfl, wrap_succ (n := l.length) (by omega) (by omega)]
theorem eqInt64S_ev (l : List Int) (hn : l.length ≤ 1048576) : Ev (fun k => laws_eqInt64S.f k l l) true := by
  refine Ev.congr (fun k => ?_) (eqInt64S_loop l hn l.length 0 (by omega))
  unfold laws_eqInt64S.f
  rw [if_pos rfl]
  rfl

theorem rdL_get (l : List (List Int)) (j : Nat) (h : j < l.length) : rd_L1 l (j : Int) = l[j] := by
  unfold rd_L1; rw [Int.toNat_natCast, List.getD_eq_getElem?_getD, List.getElem?_eq_getElem h]; rfl
theorem toInt64SS_loop (l : List (List Int)) (hn : l.length ≤ 1048576) (hr : ∀ r ∈ l, r.length ≤ 1048576) (d : Nat) : ∀ (j : Nat) (acc : List (List Int)), j + d = l.length → acc.length = l.length → acc.take j = l.take j →
    Ev (fun k => laws_toInt64SS.l0 k l acc (j : Int)) l := by
  induction d with
  | zero =>
    intro j acc h1 h2 h3
    obtain rfl : acc = l := take_all (n := j) (by omega) (by omega) h3
    exact ev_one (fun k => by rw [laws_toInt64SS.l0, if_neg (by omega)])
  | succ d ih =>
    intro j acc h1 h2 h3
    have hj : j < l.length := by omega
    refine Ev.step (fun k => by rw [laws_toInt64SS.l0, if_pos (by omega), if_pos (by omega), rdL_get _ _ hj]) ?_
    refine Ev.bind (toInt64S_ev l[j] (hr _ (List.getElem_mem hj))) (ev_pos (by omega) ?_)
    rw [wrap_succ hj (by omega), Int.toNat_natCast]
    exact ih (j + 1) (acc.set j l[j]) (by omega) (by simpa using h2) (by rw [set_take _ _ _ (by omega), take_snoc' _ _ hj, h3])
theorem toInt64SS_ev (l : List (List Int)) (hn : l.length ≤ 1048576) (hr : ∀ r ∈ l, r.length ≤ 1048576) : Ev (fun k => laws_toInt64SS.f k l) l := by
  refine Ev.congr (fun k => ?_) (toInt64SS_loop l hn hr l.length 0 (List.replicate l.length []) (by omega) (by simp) (by simp))
  unfold laws_toInt64SS.f
  rw [if_pos (by omega), if_pos (by omega), Int.toNat_natCast]
  rfl
theorem eqInt64SS_loop (l : List (List Int)) (hn : l.length ≤ 1048576) (hr : ∀ r ∈ l, r.length ≤ 1048576) (d : Nat) : ∀ j : Nat, j + d = l.length → Ev (fun k => laws_eqInt64SS.l0 k l l (j : Int)) true := by
  induction d with
  | zero => intro j h; exact ev_one (fun k => by rw [laws_eqInt64SS.l0, if_neg (by omega)])
  | succ d ih =>
    intro j h
    have hj : j < l.length := by omega
    refine Ev.step (fun k => by rw [laws_eqInt64SS.l0, if_pos (by omega), if_pos (by omega), if_pos (by omega), rdL_get _ _ hj]) ?_
    refine Ev.bind (eqInt64S_ev l[j] (hr _ (List.getElem_mem hj))) (ev_pos rfl ?_)
    rw [wrap_succ hj (by omega)]
    exact ih (j + 1) (by omega)
theorem eqInt64SS_ev (l : List (List Int)) (hn : l.length ≤ 1048576) (hr : ∀ r ∈ l, r.length ≤ 1048576) : Ev (fun k => laws_eqInt64SS.f k l l) true := by
  refine Ev.congr (fun k => ?_) (eqInt64SS_loop l hn hr l.length 0 (by omega))
  unfold laws_eqInt64SS.f
  rw [if_pos rfl]
  rfl

theorem toGraph_ev (l : List (List Int)) (hn : l.length ≤ 1048576) (hr : ∀ r ∈ l, r.length ≤ 1048576) : Ev (fun k => laws_toGraph.f k l) l := by
  unfold laws_toGraph.f
  exact Ev.bind (toInt64SS_ev l hn hr) (Ev.now _)
theorem eqGraph_ev (l : List (List Int)) (hn : l.length ≤ 1048576) (hr : ∀ r ∈ l, r.length ≤ 1048576) : Ev (fun k => laws_eqGraph.f k l l) true := by
  unfold laws_eqGraph.f
  exact Ev.bind (eqInt64SS_ev l hn hr) (Ev.now _)
theorem szSS_loop (l : List (List Int)) (hn : l.length ≤ 9223372036854775807) (hl : ∀ r ∈ l, r.length ≤ 9223372036854775807) (d : Nat) : ∀ (j : Nat) (left : Int), j + d = l.length → 0 ≤ left → left ≤ 1048576 →
    (∃ r, Ev (fun k => laws_szInt64SS.l0 k l left (j : Int)) r ∧ (0 ≤ r → ∀ x ∈ l.drop j, x.length ≤ 1048576)) := by
  induction d with
  | zero =>
    intro j left h h0 h1
    refine ⟨left, ev_one (fun k => by rw [laws_szInt64SS.l0, if_neg (by omega)]), fun _ x hx => ?_⟩
    rw [List.drop_eq_nil_of_le (by omega)] at hx
    cases hx
  | succ d ih =>
    intro j left h h0 h1
    have hj : j < l.length := by omega
    have hlen := hl _ (List.getElem_mem hj)
    have hw : wrap64 (left - (l[j].length : Int)) = left - (l[j].length : Int) := wrap64_in (by omega) (by omega)
    by_cases c : left - (l[j].length : Int) < 0
    · refine ⟨-1, ev_one (fun k => ?_), fun h => by omega⟩
      rw [laws_szInt64SS.l0, if_pos (by omega), if_pos (by omega), rdL_get _ _ hj]
      unfold laws_szInt64S.f
      rw [hw, if_pos c]
      rfl
    · obtain ⟨r, hr, hp⟩ := ih (j + 1) (left - (l[j].length : Int)) (by omega) (by omega) (by omega)
      refine ⟨r, Ev.step (fun k => ?_) hr, fun h0 x hx => ?_⟩
      · rw [laws_szInt64SS.l0, if_pos (by omega), if_pos (by omega), rdL_get _ _ hj]
        unfold laws_szInt64S.f
        rw [hw, if_neg c, Option.bind_some, if_neg c, wrap_succ hj (by omega)]
      · rw [drop_cons _ _ hj] at hx
        rcases List.mem_cons.1 hx with rfl | hx
        · omega
        · exact hp h0 x hx
theorem szGraph_ev (l : List (List Int)) (hn : l.length ≤ 9223372036854775807) (hl : ∀ r ∈ l, r.length ≤ 9223372036854775807) :
    ∃ r, Ev (fun k => laws_szGraph.f k l 1048576) r ∧ (0 ≤ r → l.length ≤ 1048576 ∧ ∀ x ∈ l, x.length ≤ 1048576) := by
  have hw : wrap64 (1048576 - (l.length : Int)) = 1048576 - (l.length : Int) := wrap64_in (by omega) (by omega)
  by_cases c : 1048576 - (l.length : Int) < 0
  · refine ⟨-1, ?_, fun h => by omega⟩
    refine Ev.congr (fun k => ?_) (Ev.now _)
    unfold laws_szGraph.f laws_szInt64SS.f
    rw [hw, if_pos c]
    rfl
  · obtain ⟨r, hr, hp⟩ := szSS_loop l hn hl l.length 0 (1048576 - (l.length : Int)) (by omega) (by omega) (by omega)
    by_cases c2 : r < 0
    · refine ⟨-1, ?_, fun h => by omega⟩
      refine Ev.congr (fun k => by unfold laws_szGraph.f laws_szInt64SS.f; rw [hw, if_neg c]) ?_
      exact Ev.bind hr (ev_pos c2 (Ev.now _))
    · refine ⟨r, ?_, fun h0 => ⟨by omega, fun x hx => hp h0 x (by simpa using hx)⟩⟩
      refine Ev.congr (fun k => by unfold laws_szGraph.f laws_szInt64SS.f; rw [hw, if_neg c]) ?_
      exact Ev.bind hr (ev_neg c2 (Ev.now _))

/-- A row of a valid graph with n states. -/
def okRow (n : Int) (r : List Int) : Bool := decide (r.length = 2) && (decide (-1 ≤ rd r 0 ∧ rd r 0 ≤ n - 1) && (decide (-1 ≤ rd r 1 ∧ rd r 1 ≤ n - 1) && !(decide (rd r 0 < 0) && decide (rd r 1 < 0))))
def VG (g : List (List Int)) : Bool := decide (1 ≤ (g.length : Int) ∧ (g.length : Int) ≤ 12) && g.all (okRow g.length)
theorem row_two {r : List Int} (h : r.length = 2) : ∃ a b, r = [a, b] := by
  match r, h with
  | [a, b], _ => exact ⟨a, b, rfl⟩
theorem okRow_not {n : Int} {r : List Int} (h : ¬ r.length = 2) : okRow n r = false := by simp [okRow, h]
theorem okRow_two (n a b : Int) : okRow n [a, b] = (decide (-1 ≤ a ∧ a ≤ n - 1) && (decide (-1 ≤ b ∧ b ≤ n - 1) && !(decide (a < 0) && decide (b < 0)))) := rfl
theorem rd0 (a b : Int) : rd [a, b] 0 = a := rfl
theorem rd1 (a b : Int) : rd [a, b] 1 = b := rfl
theorem len2 (a b : Int) : (([a, b] : List Int).length : Int) = 2 := rfl
theorem VG_iff {g : List (List Int)} (h : VG g = true) : (1 ≤ g.length ∧ g.length ≤ 12) ∧ ∀ r ∈ g, ∃ a b, r = [a, b] ∧ (-1 ≤ a ∧ a ≤ (g.length : Int) - 1) ∧ (-1 ≤ b ∧ b ≤ (g.length : Int) - 1) ∧ ¬ (a < 0 ∧ b < 0) := by
  simp only [VG, Bool.and_eq_true, decide_eq_true_eq, List.all_eq_true] at h
  refine ⟨by omega, fun r hr => ?_⟩
  have h2 := h.2 r hr
  by_cases hl : r.length = 2
  · obtain ⟨a, b, rfl⟩ := row_two hl
    rw [okRow_two] at h2
    simp only [Bool.and_eq_true, decide_eq_true_eq, Bool.not_eq_true', Bool.and_eq_false_imp, decide_eq_false_iff_not] at h2
    exact ⟨a, b, rfl, h2.1, h2.2.1, fun h => h2.2.2 h.1 h.2⟩
  · rw [okRow_not hl] at h2; cases h2

theorem areIn_loop (l : List Int) (lo hi : Int) (hn : l.length ≤ 9223372036854775807) (d : Nat) : ∀ j : Nat, j + d = l.length →
    Ev (fun k => impl_areIn.l0 k lo hi l (l.length : Int) (j : Int)) ((l.drop j).all fun x => decide (lo ≤ x ∧ x ≤ hi)) := by
  induction d with
  | zero =>
    intro j h
    rw [List.drop_eq_nil_of_le (by omega)]
    exact ev_one (fun k => by rw [impl_areIn.l0, if_neg (by omega)]; rfl)
  | succ d ih =>
    intro j h
    have hj : j < l.length := by omega
    rw [drop_cons _ _ hj, List.all_cons]
    by_cases c : lo ≤ l[j] ∧ l[j] ≤ hi
    · rw [decide_eq_true c, Bool.true_and]
      refine Ev.step (fun k => ?_) (ih (j + 1) (by omega))
      rw [impl_areIn.l0, if_pos (by omega), if_pos (by omega), if_pos (by omega), rd_get _ _ hj, impl_in, decide_eq_true c, Option.bind_some, if_pos rfl, wrap_succ hj hn]
    · rw [decide_eq_false c, Bool.false_and]
      refine ev_one (fun k => ?_)
      rw [impl_areIn.l0, if_pos (by omega), if_pos (by omega), if_pos (by omega), rd_get _ _ hj, impl_in, decide_eq_false c, Option.bind_some, if_neg (by decide)]
theorem areIn_ev (l : List Int) (lo hi : Int) (hn : l.length ≤ 9223372036854775807) : Ev (fun k => impl_areIn.f k l lo hi) (l.all fun x => decide (lo ≤ x ∧ x ≤ hi)) :=
  areIn_loop l lo hi hn l.length 0 (by omega)

theorem specVG_loop (g : List (List Int)) (h12 : g.length ≤ 12) (d : Nat) : ∀ j : Nat, j + d = g.length →
    Ev (fun k => spec_l02Is.l0 k (g.length : Int) (j : Int) g) ((g.drop j).all (okRow g.length)) := by
  have hw : wrap64 ((g.length : Int) - 1) = (g.length : Int) - 1 := wrap64_in (by omega) (by omega)
  induction d with
  | zero =>
    intro j h
    rw [List.drop_eq_nil_of_le (by omega)]
    exact ev_one (fun k => by rw [spec_l02Is.l0, if_neg (by omega)]; rfl)
  | succ d ih =>
    intro j h
    have hj : j < g.length := by omega
    have hs := wrap_succ hj (by omega)
    rw [drop_cons _ _ hj, List.all_cons]
    by_cases hl : (g[j]).length = 2
    · obtain ⟨a, b, e⟩ := row_two hl
      have hi := ih (j + 1) (by omega)
      rw [e, okRow_two]
      refine Ev.step (fun k => by rw [spec_l02Is.l0, if_pos (by omega), if_pos (by omega), rdL_get _ _ hj, e, if_pos (len2 a b), if_pos (by rw [len2]; decide), if_pos (by rw [len2]; decide), rd0, rd1, spec_in, spec_in, hw, Option.bind_some, Option.bind_some, hs]) ?_
      by_cases ca : -1 ≤ a ∧ a ≤ (g.length : Int) - 1
      · rw [decide_eq_true ca, Bool.true_and]
        refine ev_pos rfl ?_
        by_cases cb : -1 ≤ b ∧ b ≤ (g.length : Int) - 1
        · rw [decide_eq_true cb, Bool.true_and]
          refine ev_pos rfl ?_
          by_cases a0 : a < 0
          · refine ev_pos a0 ?_
            by_cases b0 : b < 0
            · refine ev_pos b0 ?_
              simpa [a0, b0] using Ev.now false
            · refine ev_neg b0 ?_
              simpa [a0, b0] using hi
          · refine ev_neg a0 ?_
            simpa [a0] using hi
        · rw [decide_eq_false cb, Bool.false_and, Bool.false_and]
          exact ev_neg (by decide) (Ev.now _)
      · rw [decide_eq_false ca, Bool.false_and, Bool.false_and]
        exact ev_neg (by decide) (Ev.now _)
    · rw [okRow_not hl, Bool.false_and]
      refine ev_one (fun k => ?_)
      rw [spec_l02Is.l0, if_pos (by omega), if_pos (by omega), rdL_get _ _ hj, if_neg (by omega)]
theorem specIs_ev (g : List (List Int)) : Ev (fun k => spec_l02Is.f k g) (VG g) := by
  by_cases c : 1 ≤ (g.length : Int) ∧ (g.length : Int) ≤ 12
  · have h := specVG_loop g (by omega) g.length 0 (by omega)
    unfold VG
    rw [decide_eq_true c, Bool.true_and]
    refine Ev.congr (fun k => ?_) h
    unfold spec_l02Is.f
    rw [spec_in, decide_eq_true c]
    rfl
  · refine Ev.congr (fun k => ?_) (Ev.now _)
    unfold spec_l02Is.f VG
    rw [spec_in, decide_eq_false c]
    rfl

theorem implVG_loop (g : List (List Int)) (h12 : g.length ≤ 12) (hr : ∀ r ∈ g, r.length ≤ 9223372036854775807) (d : Nat) : ∀ j : Nat, j + d = g.length →
    Ev (fun k => impl_ValidGraph.l0 k (g.length : Int) g (g.length : Int) (j : Int)) ((g.drop j).all (okRow g.length)) := by
  have hw : wrap64 ((g.length : Int) - 1) = (g.length : Int) - 1 := wrap64_in (by omega) (by omega)
  induction d with
  | zero =>
    intro j h
    rw [List.drop_eq_nil_of_le (by omega)]
    exact ev_one (fun k => by rw [impl_ValidGraph.l0, if_neg (by omega)]; rfl)
  | succ d ih =>
    intro j h
    have hj : j < g.length := by omega
    have hs := wrap_succ hj (by omega)
    rw [drop_cons _ _ hj, List.all_cons]
    by_cases hl : (g[j]).length = 2
    · obtain ⟨a, b, e⟩ := row_two hl
      have hi := ih (j + 1) (by omega)
      rw [e, okRow_two]
      have ha := areIn_ev [a, b] (-1) ((g.length : Int) - 1) (show 2 ≤ 9223372036854775807 by decide)
      refine Ev.step (fun k => by rw [impl_ValidGraph.l0, if_pos (by omega), if_pos (by omega), if_pos (by omega), rdL_get _ _ hj, e, if_pos (len2 a b), hw, if_pos (show (0 : Int) < (([a, b] : List Int).length : Int) by rw [len2]; decide), if_pos (show (1 : Int) < (([a, b] : List Int).length : Int) by rw [len2]; decide), rd0, rd1, hs]) (Ev.bind ha ?_)
      by_cases ca : -1 ≤ a ∧ a ≤ (g.length : Int) - 1
      · by_cases cb : -1 ≤ b ∧ b ≤ (g.length : Int) - 1
        · rw [decide_eq_true ca, decide_eq_true cb, Bool.true_and, Bool.true_and]
          refine ev_pos (by simp [ca, cb]) ?_
          by_cases a0 : a < 0
          · refine ev_pos a0 ?_
            by_cases b0 : b < 0
            · refine ev_pos b0 ?_
              simpa [a0, b0] using Ev.now false
            · refine ev_neg b0 ?_
              simpa [a0, b0] using hi
          · refine ev_neg a0 ?_
            simpa [a0] using hi
        · rw [decide_eq_false cb, Bool.false_and, Bool.and_false, Bool.false_and]
          exact ev_neg (by simp [cb]) (Ev.now _)
      · rw [decide_eq_false ca, Bool.false_and, Bool.false_and]
        exact ev_neg (by simp [ca]) (Ev.now _)
    · rw [okRow_not hl, Bool.false_and]
      refine ev_one (fun k => ?_)
      rw [impl_ValidGraph.l0, if_pos (by omega), if_pos (by omega), if_pos (by omega), rdL_get _ _ hj, if_neg (by omega)]
theorem implVG_ev (g : List (List Int)) (hr : ∀ r ∈ g, r.length ≤ 9223372036854775807) : Ev (fun k => impl_ValidGraph.f k g) (VG g) := by
  by_cases c : 1 ≤ (g.length : Int) ∧ (g.length : Int) ≤ 12
  · have h := implVG_loop g (by omega) hr g.length 0 (by omega)
    unfold VG
    rw [decide_eq_true c, Bool.true_and]
    refine Ev.congr (fun k => ?_) h
    unfold impl_ValidGraph.f
    rw [impl_in, decide_eq_true c]
    rfl
  · refine Ev.congr (fun k => ?_) (Ev.now _)
    unfold impl_ValidGraph.f VG
    rw [impl_in, decide_eq_false c]
    rfl

theorem FnExactValidGraph : laws_FnExactValidGraph.Pure := by
  intro g hn hl
  obtain ⟨r, hr, hp⟩ := szGraph_ev g hn (fun x hx => (hl x hx).1)
  apply Ev.rounds
  unfold laws_FnExactValidGraph.f
  refine Ev.bind hr ?_
  by_cases c : r < 0
  · exact ev_pos c (Ev.now _)
  · obtain ⟨h1, h2⟩ := hp (by omega)
    have ht := toGraph_ev g h1 h2
    refine ev_neg c (Ev.bind ht (Ev.bind (a := VG g) ?_ (Ev.bind ht (Ev.bind (implVG_ev g (fun x hx => (hl x hx).1)) (ev_neg (by simp) (Ev.bind ht (Ev.bind (eqGraph_ev g h1 h2) (ev_pos rfl (Ev.now _)))))))))
    unfold spec_ValidGraph.f
    exact Ev.bind (specIs_ev g) (Ev.now _)

end Go.Proofs.Ytanndepgepgfoaa.Pure
