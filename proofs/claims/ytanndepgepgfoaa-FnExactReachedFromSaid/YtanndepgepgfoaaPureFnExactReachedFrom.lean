/-
The law FnExactReachedFrom answers true for every graph and every number; there are no conditions beside the row's own bounds.
-/
import Derived.Test.YtanndepgepgfoaaQFnExactReachedFromx7
namespace Go.Proofs.Ytanndepgepgfoaa.Pure
open Go.RowKit Go.Proofs.Ytanndepgepgfoaa.QFnExactReachedFrom Go.Proofs.YtanndepgepgfoaaW.PrintWords Go.Proofs.YtanndepgepgfoaaW.PrintLast Go.Proofs.YtanndepgepgfoaaW.PrintMore
set_option linter.unusedVariables false

theorem ev_one {α : Type} {g : Nat → Option α} {r : α} (h : ∀ k, g (k + 1) = some r) : Ev g r :=
  ⟨1, fun k hk => by obtain ⟨m, rfl⟩ : ∃ m, k = m + 1 := ⟨k - 1, by omega⟩; exact h m⟩
theorem wrap64_in {x : Int} (h0 : -9223372036854775808 ≤ x) (h1 : x ≤ 9223372036854775807) : wrap64 x = x := by
  unfold wrap64; omega
theorem u64_in {x : Int} (h0 : 0 ≤ x) (h1 : x ≤ 18446744073709551615) : IntKind.u64.wrap x = x := by
  simp [IntKind.wrap, IntKind.bits, IntKind.signed]; omega
theorem i64_in {x : Int} (h0 : -9223372036854775808 ≤ x) (h1 : x ≤ 9223372036854775807) : IntKind.i64.wrap x = x := by
  rw [IntKind.wrap_i64]; omega
theorem and_one (x : Int) : Go.bits .and .i64 x 1 = x % 2 := by
  have h : (BitVec.ofInt 64 x &&& BitVec.ofInt 64 1).toNat = (x % 2).toNat := by
    have e1 : BitVec.ofInt 64 1 = 1#64 := by decide
    rw [e1, BitVec.toNat_and, BitVec.toNat_ofInt]
    have e2 : (1#64).toNat = 1 := by decide
    rw [e2, Nat.and_one_is_mod]
    omega
  show IntKind.i64.wrap (((BitVec.ofInt 64 x &&& BitVec.ofInt 64 1).toNat : Nat) : Int) = x % 2
  rw [h, i64_in (by omega) (by omega)]
  omega
theorem wf_i64 {x : Int} (h : (Lit.int .i64 x).wf = true) : -9223372036854775808 ≤ x ∧ x ≤ 9223372036854775807 := by
  simp [Lit.wf, IntKind.min, IntKind.max, IntKind.signed, IntKind.bits] at h
  omega
theorem pow_pos_int (d : Nat) : (0 : Int) < 2 ^ d := Int.pow_pos (by decide)
theorem pow_le_int {a b : Nat} (h : a ≤ b) : (2 : Int) ^ a ≤ 2 ^ b := by
  have := Nat.pow_le_pow_right (n := 2) (by decide) h
  exact_mod_cast this

theorem ev_pos {α : Type} {c : Prop} [Decidable c] {g h : Nat → Option α} {r : α} (hc : c) (hg : Ev g r) : Ev (fun k => if c then g k else h k) r := by
  obtain ⟨K, hK⟩ := hg
  exact ⟨K, fun k hk => (if_pos hc).trans (hK k hk)⟩
theorem ev_neg {α : Type} {c : Prop} [Decidable c] {g h : Nat → Option α} {r : α} (hc : ¬ c) (hg : Ev h r) : Ev (fun k => if c then g k else h k) r := by
  obtain ⟨K, hK⟩ := hg
  exact ⟨K, fun k hk => (if_neg hc).trans (hK k hk)⟩
theorem ev_some {α β : Type} {f : Nat → α → Option β} {a : α} {r : β} (h : Ev (fun k => f k a) r) : Ev (fun k => (some a).bind (f k)) r := h
theorem ev_to {α β : Type} {x : Option α} {f : Nat → α → Option β} {a : α} {r : β} (e : x = some a) (h : Ev (fun k => f k a) r) : Ev (fun k => x.bind (f k)) r := by subst e; exact h
theorem ev_det {α : Type} {g : Nat → Option α} {r r' : α} (h : Ev g r) (h' : Ev g r') : r = r' := by
  obtain ⟨K, hK⟩ := h
  obtain ⟨K', hK'⟩ := h'
  have h1 := hK (max K K') (Nat.le_max_left _ _)
  have h2 := hK' (max K K') (Nat.le_max_right _ _)
  rw [h1] at h2
  exact Option.some.inj h2
theorem wrap_succ {j n : Nat} (h : j < n) (hn : n ≤ 9223372036854775807) : wrap64 ((j : Int) + 1) = ((j + 1 : Nat) : Int) := by
  rw [wrap64_in (by omega) (by omega)]; omega
theorem nat0 (j : Nat) : (0 : Int) ≤ (j : Int) := Int.natCast_nonneg j
theorem rd_nat (l : List Int) (j : Nat) : rd l (j : Int) = l.getD j 0 := by unfold rd; rw [Int.toNat_natCast]
theorem rd_get (l : List Int) (j : Nat) (h : j < l.length) : rd l (j : Int) = l[j] := by rw [rd_nat, List.getD_eq_getElem?_getD, List.getElem?_eq_getElem h]; rfl
theorem drop_cons {α : Type} (l : List α) (j : Nat) (h : j < l.length) : l.drop j = l[j] :: l.drop (j + 1) := List.drop_eq_getElem_cons h
theorem take_snoc' {α : Type} (l : List α) (j : Nat) (h : j < l.length) : l.take (j + 1) = l.take j ++ [l[j]] := List.take_succ_eq_append_getElem h
theorem set_take {α : Type} (acc : List α) (j : Nat) (x : α) (h : j < acc.length) : (acc.set j x).take (j + 1) = acc.take j ++ [x] := by
  rw [List.take_set, List.take_succ_eq_append_getElem h, List.set_append_right _ _ (by simp; omega)]
  have : (acc.take j).length = j := by rw [List.length_take]; omega
  rw [this, Nat.sub_self]
  rfl
theorem take_all {α : Type} {a b : List α} {n : Nat} (ha : a.length = n) (hb : b.length = n) (h : a.take n = b.take n) : a = b := by
  rw [List.take_of_length_le (by omega), List.take_of_length_le (by omega)] at h; exact h
theorem w01 : wrap64 (0 + 1) = 1 := by unfold wrap64; decide
theorem w11 : wrap64 (1 + 1) = 2 := by unfold wrap64; decide

theorem spec_in (a b c : Int) : spec_l00In.f a b c = some (decide (b ≤ a ∧ a ≤ c)) := by
  unfold spec_l00In.f
  by_cases h : a ≥ b
  · rw [if_pos h]; congr 1; have : b ≤ a := h; simp [this]
  · rw [if_neg h]; congr 1; have : ¬ b ≤ a := h; simp [this]
theorem impl_in (a b c : Int) : impl_within.f a b c = some (decide (b ≤ a ∧ a ≤ c)) := by
  unfold impl_within.f
  by_cases h : a ≥ b
  · rw [if_pos h]; congr 1; have : b ≤ a := h; simp [this]
  · rw [if_neg h]; congr 1; have : ¬ b ≤ a := h; simp [this]

theorem rdL_get (l : List (List Int)) (j : Nat) (h : j < l.length) : rd_L1 l (j : Int) = l[j] := by
  unfold rd_L1; rw [Int.toNat_natCast, List.getD_eq_getElem?_getD, List.getElem?_eq_getElem h]; rfl

theorem toInt64S_loop (l : List Int) (hn : l.length ≤ 1048576) (d : Nat) : ∀ (j : Nat) (acc : List Int), j + d = l.length → acc.length = l.length → acc.take j = l.take j →
    Ev (fun k => laws_toInt64S.l0 k l acc (j : Int)) l := by
  induction d with
  | zero =>
    intro j acc h1 h2 h3
    obtain rfl : acc = l := take_all (n := j) (by omega) (by omega) h3
    exact ev_one (fun k => by rw [laws_toInt64S.l0, if_neg (by omega)])
  | succ d ih =>
    intro j acc h1 h2 h3
    have hj : j < l.length := by omega
    refine Ev.step (fun k => ?_) (ih (j + 1) (acc.set j l[j]) (by omega) (by simpa using h2) (by rw [set_take _ _ _ (by omega), take_snoc' _ _ hj, h3]))
    rw [laws_toInt64S.l0, if_pos (by omega), if_pos (by omega), if_pos (by omega), wrap_succ hj (by omega), rd_get _ _ hj, Int.toNat_natCast]
theorem toInt64S_ev (l : List Int) (hn : l.length ≤ 1048576) : Ev (fun k => laws_toInt64S.f k l) l := by
  refine Ev.congr (fun k => ?_) (toInt64S_loop l hn l.length 0 (List.replicate l.length 0) (by omega) (by simp) (by simp))
  unfold laws_toInt64S.f
  rw [if_pos (by omega), if_pos (by omega), Int.toNat_natCast]
  rfl
theorem eqInt64S_loop (l : List Int) (hn : l.length ≤ 1048576) (d : Nat) : ∀ j : Nat, j + d = l.length → Ev (fun k => laws_eqInt64S.l0 k l l (j : Int)) true := by
  induction d with
  | zero => intro j h; exact ev_one (fun k => by rw [laws_eqInt64S.l0, if_neg (by omega)])
  | succ d ih =>
    intro j h
    refine Ev.step (fun k => ?_) (ih (j + 1) (by omega))
    rw [laws_eqInt64S.l0, if_pos (by omega), if_pos (by omega), if_pos (by omega), if_pos rfl, wrap_succ (n := l.length) (by omega) (by omega)]
theorem eqInt64S_ev (l : List Int) (hn : l.length ≤ 1048576) : Ev (fun k => laws_eqInt64S.f k l l) true := by
  refine Ev.congr (fun k => ?_) (eqInt64S_loop l hn l.length 0 (by omega))
  unfold laws_eqInt64S.f
  rw [if_pos rfl]
  rfl

theorem toInt64SS_loop (l : List (List Int)) (hn : l.length ≤ 1048576) (hr : ∀ r ∈ l, r.length ≤ 1048576) (d : Nat) : ∀ (j : Nat) (acc : List (List Int)), j + d = l.length → acc.length = l.length → acc.take j = l.take j →
    Ev (fun k => laws_toInt64SS.l0 k l acc (j : Int)) l := by
  induction d with
  | zero =>
    intro j acc h1 h2 h3
    obtain rfl : acc = l := take_all (n := j) (by omega) (by omega) h3
    exact ev_one (fun k => by rw [laws_toInt64SS.l0, if_neg (by omega)])
  | succ d ih =>
    intro j acc h1 h2 h3
    have hj : j < l.length := by omega
    refine Ev.step (fun k => by rw [laws_toInt64SS.l0, if_pos (by omega), if_pos (by omega), rdL_get _ _ hj]) ?_
    refine Ev.bind (toInt64S_ev l[j] (hr _ (List.getElem_mem hj))) (ev_pos (by omega) ?_)
    rw [wrap_succ hj (by omega), Int.toNat_natCast]
    exact ih (j + 1) (acc.set j l[j]) (by omega) (by simpa using h2) (by rw [set_take _ _ _ (by omega), take_snoc' _ _ hj, h3])
theorem toInt64SS_ev (l : List (List Int)) (hn : l.length ≤ 1048576) (hr : ∀ r ∈ l, r.length ≤ 1048576) : Ev (fun k => laws_toInt64SS.f k l) l := by
  refine Ev.congr (fun k => ?_) (toInt64SS_loop l hn hr l.length 0 (List.replicate l.length []) (by omega) (by simp) (by simp))
  unfold laws_toInt64SS.f
  rw [if_pos (by omega), if_pos (by omega), Int.toNat_natCast]
  rfl
theorem eqInt64SS_loop (l : List (List Int)) (hn : l.length ≤ 1048576) (hr : ∀ r ∈ l, r.length ≤ 1048576) (d : Nat) : ∀ j : Nat, j + d = l.length → Ev (fun k => laws_eqInt64SS.l0 k l l (j : Int)) true := by
  induction d with
  | zero => intro j h; exact ev_one (fun k => by rw [laws_eqInt64SS.l0, if_neg (by omega)])
  | succ d ih =>
    intro j h
    have hj : j < l.length := by omega
    refine Ev.step (fun k => by rw [laws_eqInt64SS.l0, if_pos (by omega), if_pos (by omega), if_pos (by omega), rdL_get _ _ hj]) ?_
    refine Ev.bind (eqInt64S_ev l[j] (hr _ (List.getElem_mem hj))) (ev_pos rfl ?_)
    rw [wrap_succ hj (by omega)]
    exact ih (j + 1) (by omega)
theorem eqInt64SS_ev (l : List (List Int)) (hn : l.length ≤ 1048576) (hr : ∀ r ∈ l, r.length ≤ 1048576) : Ev (fun k => laws_eqInt64SS.f k l l) true := by
  refine Ev.congr (fun k => ?_) (eqInt64SS_loop l hn hr l.length 0 (by omega))
  unfold laws_eqInt64SS.f
  rw [if_pos rfl]
  rfl

theorem toGraph_ev (l : List (List Int)) (hn : l.length ≤ 1048576) (hr : ∀ r ∈ l, r.length ≤ 1048576) : Ev (fun k => laws_toGraph.f k l) l := by
  unfold laws_toGraph.f
  exact Ev.bind (toInt64SS_ev l hn hr) (Ev.now _)
theorem eqGraph_ev (l : List (List Int)) (hn : l.length ≤ 1048576) (hr : ∀ r ∈ l, r.length ≤ 1048576) : Ev (fun k => laws_eqGraph.f k l l) true := by
  unfold laws_eqGraph.f
  exact Ev.bind (eqInt64SS_ev l hn hr) (Ev.now _)
theorem szSS_loop (l : List (List Int)) (hn : l.length ≤ 9223372036854775807) (hl : ∀ r ∈ l, r.length ≤ 9223372036854775807) (d : Nat) : ∀ (j : Nat) (left : Int), j + d = l.length → 0 ≤ left → left ≤ 1048576 →
    (∃ r, Ev (fun k => laws_szInt64SS.l0 k l left (j : Int)) r ∧ (0 ≤ r → ∀ x ∈ l.drop j, x.length ≤ 1048576)) := by
  induction d with
  | zero =>
    intro j left h h0 h1
    refine ⟨left, ev_one (fun k => by rw [laws_szInt64SS.l0, if_neg (by omega)]), fun _ x hx => ?_⟩
    rw [List.drop_eq_nil_of_le (by omega)] at hx
    cases hx
  | succ d ih =>
    intro j left h h0 h1
    have hj : j < l.length := by omega
    have hlen := hl _ (List.getElem_mem hj)
    have hw : wrap64 (left - (l[j].length : Int)) = left - (l[j].length : Int) := wrap64_in (by omega) (by omega)
    by_cases c : left - (l[j].length : Int) < 0
    · refine ⟨-1, ev_one (fun k => ?_), fun h => by omega⟩
      rw [laws_szInt64SS.l0, if_pos (by omega), if_pos (by omega), rdL_get _ _ hj]
      unfold laws_szInt64S.f
      rw [hw, if_pos c]
      rfl
    · obtain ⟨r, hr, hp⟩ := ih (j + 1) (left - (l[j].length : Int)) (by omega) (by omega) (by omega)
      refine ⟨r, Ev.step (fun k => ?_) hr, fun h0 x hx => ?_⟩
      · rw [laws_szInt64SS.l0, if_pos (by omega), if_pos (by omega), rdL_get _ _ hj]
        unfold laws_szInt64S.f
        rw [hw, if_neg c, Option.bind_some, if_neg c, wrap_succ hj (by omega)]
      · rw [drop_cons _ _ hj] at hx
        rcases List.mem_cons.1 hx with rfl | hx
        · omega
        · exact hp h0 x hx
theorem szGraph_ev (l : List (List Int)) (hn : l.length ≤ 9223372036854775807) (hl : ∀ r ∈ l, r.length ≤ 9223372036854775807) :
    ∃ r, Ev (fun k => laws_szGraph.f k l 1048576) r ∧ (0 ≤ r → l.length ≤ 1048576 ∧ ∀ x ∈ l, x.length ≤ 1048576) := by
  have hw : wrap64 (1048576 - (l.length : Int)) = 1048576 - (l.length : Int) := wrap64_in (by omega) (by omega)
  by_cases c : 1048576 - (l.length : Int) < 0
  · refine ⟨-1, ?_, fun h => by omega⟩
    refine Ev.congr (fun k => ?_) (Ev.now _)
    unfold laws_szGraph.f laws_szInt64SS.f
    rw [hw, if_pos c]
    rfl
  · obtain ⟨r, hr, hp⟩ := szSS_loop l hn hl l.length 0 (1048576 - (l.length : Int)) (by omega) (by omega) (by omega)
    by_cases c2 : r < 0
    · refine ⟨-1, ?_, fun h => by omega⟩
      refine Ev.congr (fun k => by unfold laws_szGraph.f laws_szInt64SS.f; rw [hw, if_neg c]) ?_
      exact Ev.bind hr (ev_pos c2 (Ev.now _))
    · refine ⟨r, ?_, fun h0 => ⟨by omega, fun x hx => hp h0 x (by simpa using hx)⟩⟩
      refine Ev.congr (fun k => by unfold laws_szGraph.f laws_szInt64SS.f; rw [hw, if_neg c]) ?_
      exact Ev.bind hr (ev_neg c2 (Ev.now _))

/-- A row of a valid graph with n states. -/
def okRow (n : Int) (r : List Int) : Bool := decide (r.length = 2) && (decide (-1 ≤ rd r 0 ∧ rd r 0 ≤ n - 1) && (decide (-1 ≤ rd r 1 ∧ rd r 1 ≤ n - 1) && !(decide (rd r 0 < 0) && decide (rd r 1 < 0))))
def VG (g : List (List Int)) : Bool := decide (1 ≤ (g.length : Int) ∧ (g.length : Int) ≤ 12) && g.all (okRow g.length)
theorem row_two {r : List Int} (h : r.length = 2) : ∃ a b, r = [a, b] := by
  match r, h with
  | [a, b], _ => exact ⟨a, b, rfl⟩
theorem okRow_not {n : Int} {r : List Int} (h : ¬ r.length = 2) : okRow n r = false := by simp [okRow, h]
theorem okRow_two (n a b : Int) : okRow n [a, b] = (decide (-1 ≤ a ∧ a ≤ n - 1) && (decide (-1 ≤ b ∧ b ≤ n - 1) && !(decide (a < 0) && decide (b < 0)))) := rfl
theorem rd0 (a b : Int) : rd [a, b] 0 = a := rfl
theorem rd1 (a b : Int) : rd [a, b] 1 = b := rfl
theorem len2 (a b : Int) : (([a, b] : List Int).length : Int) = 2 := rfl
theorem VG_iff {g : List (List Int)} (h : VG g = true) : (1 ≤ g.length ∧ g.length ≤ 12) ∧ ∀ r ∈ g, ∃ a b, r = [a, b] ∧ (-1 ≤ a ∧ a ≤ (g.length : Int) - 1) ∧ (-1 ≤ b ∧ b ≤ (g.length : Int) - 1) ∧ ¬ (a < 0 ∧ b < 0) := by
  simp only [VG, Bool.and_eq_true, decide_eq_true_eq, List.all_eq_true] at h
  refine ⟨by omega, fun r hr => ?_⟩
  have h2 := h.2 r hr
  by_cases hl : r.length = 2
  · obtain ⟨a, b, rfl⟩ := row_two hl
    rw [okRow_two] at h2
    simp only [Bool.and_eq_true, decide_eq_true_eq, Bool.not_eq_true', Bool.and_eq_false_imp, decide_eq_false_iff_not] at h2
    exact ⟨a, b, rfl, h2.1, h2.2.1, fun h => h2.2.2 h.1 h.2⟩
  · rw [okRow_not hl] at h2; cases h2

theorem areIn_loop (l : List Int) (lo hi : Int) (hn : l.length ≤ 9223372036854775807) (d : Nat) : ∀ j : Nat, j + d = l.length →
    Ev (fun k => impl_areIn.l0 k lo hi l (l.length : Int) (j : Int)) ((l.drop j).all fun x => decide (lo ≤ x ∧ x ≤ hi)) := by
  induction d with
  | zero =>
    intro j h
    rw [List.drop_eq_nil_of_le (by omega)]
    exact ev_one (fun k => by rw [impl_areIn.l0, if_neg (by omega)]; rfl)
  | succ d ih =>
    intro j h
    have hj : j < l.length := by omega
    rw [drop_cons _ _ hj, List.all_cons]
    by_cases c : lo ≤ l[j] ∧ l[j] ≤ hi
    · rw [decide_eq_true c, Bool.true_and]
      refine Ev.step (fun k => ?_) (ih (j + 1) (by omega))
      rw [impl_areIn.l0, if_pos (by omega), if_pos (by omega), if_pos (by omega), rd_get _ _ hj, impl_in, decide_eq_true c, Option.bind_some, if_pos rfl, wrap_succ hj hn]
    · rw [decide_eq_false c, Bool.false_and]
      refine ev_one (fun k => ?_)
      rw [impl_areIn.l0, if_pos (by omega), if_pos (by omega), if_pos (by omega), rd_get _ _ hj, impl_in, decide_eq_false c, Option.bind_some, if_neg (by decide)]
theorem areIn_ev (l : List Int) (lo hi : Int) (hn : l.length ≤ 9223372036854775807) : Ev (fun k => impl_areIn.f k l lo hi) (l.all fun x => decide (lo ≤ x ∧ x ≤ hi)) :=
  areIn_loop l lo hi hn l.length 0 (by omega)

theorem specVG_loop (g : List (List Int)) (h12 : g.length ≤ 12) (d : Nat) : ∀ j : Nat, j + d = g.length →
    Ev (fun k => spec_l02Is.l0 k (g.length : Int) (j : Int) g) ((g.drop j).all (okRow g.length)) := by
  have hw : wrap64 ((g.length : Int) - 1) = (g.length : Int) - 1 := wrap64_in (by omega) (by omega)
  induction d with
  | zero =>
    intro j h
    rw [List.drop_eq_nil_of_le (by omega)]
    exact ev_one (fun k => by rw [spec_l02Is.l0, if_neg (by omega)]; rfl)
  | succ d ih =>
    intro j h
    have hj : j < g.length := by omega
    have hs := wrap_succ hj (by omega)
    rw [drop_cons _ _ hj, List.all_cons]
    by_cases hl : (g[j]).length = 2
    · obtain ⟨a, b, e⟩ := row_two hl
      have hi := ih (j + 1) (by omega)
      rw [e, okRow_two]
      refine Ev.step (fun k => by rw [spec_l02Is.l0, if_pos (by omega), if_pos (by omega), rdL_get _ _ hj, e, if_pos (len2 a b), if_pos (by rw [len2]; decide), if_pos (by rw [len2]; decide), rd0, rd1, spec_in, spec_in, hw, Option.bind_some, Option.bind_some, hs]) ?_
      by_cases ca : -1 ≤ a ∧ a ≤ (g.length : Int) - 1
      · rw [decide_eq_true ca, Bool.true_and]
        refine ev_pos rfl ?_
        by_cases cb : -1 ≤ b ∧ b ≤ (g.length : Int) - 1
        · rw [decide_eq_true cb, Bool.true_and]
          refine ev_pos rfl ?_
          by_cases a0 : a < 0
          · refine ev_pos a0 ?_
            by_cases b0 : b < 0
            · refine ev_pos b0 ?_
              simpa [a0, b0] using Ev.now false
            · refine ev_neg b0 ?_
              simpa [a0, b0] using hi
          · refine ev_neg a0 ?_
            simpa [a0] using hi
        · rw [decide_eq_false cb, Bool.false_and, Bool.false_and]
          exact ev_neg (by decide) (Ev.now _)
      · rw [decide_eq_false ca, Bool.false_and, Bool.false_and]
        exact ev_neg (by decide) (Ev.now _)
    · rw [okRow_not hl, Bool.false_and]
      refine ev_one (fun k => ?_)
      rw [spec_l02Is.l0, if_pos (by omega), if_pos (by omega), rdL_get _ _ hj, if_neg (by omega)]
theorem specIs_ev (g : List (List Int)) : Ev (fun k => spec_l02Is.f k g) (VG g) := by
  by_cases c : 1 ≤ (g.length : Int) ∧ (g.length : Int) ≤ 12
  · have h := specVG_loop g (by omega) g.length 0 (by omega)
    unfold VG
    rw [decide_eq_true c, Bool.true_and]
    refine Ev.congr (fun k => ?_) h
    unfold spec_l02Is.f
    rw [spec_in, decide_eq_true c]
    rfl
  · refine Ev.congr (fun k => ?_) (Ev.now _)
    unfold spec_l02Is.f VG
    rw [spec_in, decide_eq_false c]
    rfl

theorem implVG_loop (g : List (List Int)) (h12 : g.length ≤ 12) (hr : ∀ r ∈ g, r.length ≤ 9223372036854775807) (d : Nat) : ∀ j : Nat, j + d = g.length →
    Ev (fun k => impl_ValidGraph.l0 k (g.length : Int) g (g.length : Int) (j : Int)) ((g.drop j).all (okRow g.length)) := by
  have hw : wrap64 ((g.length : Int) - 1) = (g.length : Int) - 1 := wrap64_in (by omega) (by omega)
  induction d with
  | zero =>
    intro j h
    rw [List.drop_eq_nil_of_le (by omega)]
    exact ev_one (fun k => by rw [impl_ValidGraph.l0, if_neg (by omega)]; rfl)
  | succ d ih =>
    intro j h
    have hj : j < g.length := by omega
    have hs := wrap_succ hj (by omega)
    rw [drop_cons _ _ hj, List.all_cons]
    by_cases hl : (g[j]).length = 2
    · obtain ⟨a, b, e⟩ := row_two hl
      have hi := ih (j + 1) (by omega)
      rw [e, okRow_two]
      have ha := areIn_ev [a, b] (-1) ((g.length : Int) - 1) (show 2 ≤ 9223372036854775807 by decide)
      refine Ev.step (fun k => by rw [impl_ValidGraph.l0, if_pos (by omega), if_pos (by omega), if_pos (by omega), rdL_get _ _ hj, e, if_pos (len2 a b), hw, if_pos (show (0 : Int) < (([a, b] : List Int).length : Int) by rw [len2]; decide), if_pos (show (1 : Int) < (([a, b] : List Int).length : Int) by rw [len2]; decide), rd0, rd1, hs]) (Ev.bind ha ?_)
      by_cases ca : -1 ≤ a ∧ a ≤ (g.length : Int) - 1
      · by_cases cb : -1 ≤ b ∧ b ≤ (g.length : Int) - 1
        · rw [decide_eq_true ca, decide_eq_true cb, Bool.true_and, Bool.true_and]
          refine ev_pos (by simp [ca, cb]) ?_
          by_cases a0 : a < 0
          · refine ev_pos a0 ?_
            by_cases b0 : b < 0
            · refine ev_pos b0 ?_
              simpa [a0, b0] using Ev.now false
            · refine ev_neg b0 ?_
              simpa [a0, b0] using hi
          · refine ev_neg a0 ?_
            simpa [a0] using hi
        · rw [decide_eq_false cb, Bool.false_and, Bool.and_false, Bool.false_and]
          exact ev_neg (by simp [cb]) (Ev.now _)
      · rw [decide_eq_false ca, Bool.false_and, Bool.false_and]
        exact ev_neg (by simp [ca]) (Ev.now _)
    · rw [okRow_not hl, Bool.false_and]
      refine ev_one (fun k => ?_)
      rw [impl_ValidGraph.l0, if_pos (by omega), if_pos (by omega), if_pos (by omega), rdL_get _ _ hj, if_neg (by omega)]
theorem implVG_ev (g : List (List Int)) (hr : ∀ r ∈ g, r.length ≤ 9223372036854775807) : Ev (fun k => impl_ValidGraph.f k g) (VG g) := by
  by_cases c : 1 ≤ (g.length : Int) ∧ (g.length : Int) ≤ 12
  · have h := implVG_loop g (by omega) hr g.length 0 (by omega)
    unfold VG
    rw [decide_eq_true c, Bool.true_and]
    refine Ev.congr (fun k => ?_) h
    unfold impl_ValidGraph.f
    rw [impl_in, decide_eq_true c]
    rfl
  · refine Ev.congr (fun k => ?_) (Ev.now _)
    unfold impl_ValidGraph.f VG
    rw [impl_in, decide_eq_false c]
    rfl

theorem specState_ev (g : List (List Int)) (x : Int) : Ev (fun k => spec_l02State.f k g x) (VG g && decide (0 ≤ x ∧ x ≤ wrap64 ((g.length : Int) - 1))) := by
  have hs := specIs_ev g
  unfold spec_l02State.f
  cases e : VG g with
  | false => rw [e] at hs; exact Ev.bind hs (ev_neg Bool.false_ne_true (Ev.now _))
  | true => rw [e] at hs; exact Ev.bind hs (ev_pos rfl (ev_to (spec_in _ _ _) (Ev.now _)))
theorem implState_ev (g : List (List Int)) (hr : ∀ r ∈ g, r.length ≤ 9223372036854775807) (x : Int) : Ev (fun k => impl_isState.f k g x) (VG g && decide (0 ≤ x ∧ x ≤ wrap64 ((g.length : Int) - 1))) := by
  have hs := implVG_ev g hr
  unfold impl_isState.f
  cases e : VG g with
  | false => rw [e] at hs; exact Ev.bind hs (ev_neg Bool.false_ne_true (Ev.now _))
  | true => rw [e] at hs; exact Ev.bind hs (ev_pos rfl (ev_to (impl_in _ _ _) (Ev.now _)))
theorem state_in {g : List (List Int)} {x : Int} (h : (VG g && decide (0 ≤ x ∧ x ≤ wrap64 ((g.length : Int) - 1))) = true) : VG g = true ∧ g.length ≤ 12 ∧ ∃ j : Nat, x = (j : Int) ∧ j < g.length := by
  rw [Bool.and_eq_true, decide_eq_true_iff] at h
  obtain ⟨h1, h2, h3⟩ := h
  have h4 := (VG_iff h1).1
  rw [wrap64_in (by omega) (by omega)] at h3
  exact ⟨h1, h4.2, x.toNat, by omega, by omega⟩

/-- Rising lists. -/
def SS (l : List Int) : Prop := l.Pairwise (· < ·)
def ins (n : Int) : List Int → List Int
  | [] => [n]
  | a :: t => if a ≥ n then (if a > n then n :: a :: t else a :: t) else a :: ins n t
theorem mem_ins {n x : Int} {l : List Int} : x ∈ ins n l ↔ x = n ∨ x ∈ l := by
  induction l with
  | nil => simp [ins]
  | cons a t ih =>
    unfold ins
    by_cases h1 : a ≥ n
    · rw [if_pos h1]
      by_cases h2 : a > n
      · rw [if_pos h2]; simp
      · rw [if_neg h2]
        have : a = n := by omega
        subst this
        simp
    · rw [if_neg h1, List.mem_cons, ih, List.mem_cons]
      constructor
      · rintro (h | h | h)
        · exact .inr (.inl h)
        · exact .inl h
        · exact .inr (.inr h)
      · rintro (h | h | h)
        · exact .inr (.inl h)
        · exact .inl h
        · exact .inr (.inr h)
theorem SS_ins {n : Int} {l : List Int} (h : SS l) : SS (ins n l) := by
  induction l with
  | nil => simp [ins, SS]
  | cons a t ih =>
    have h' := List.pairwise_cons.1 h
    unfold ins
    by_cases h1 : a ≥ n
    · rw [if_pos h1]
      by_cases h2 : a > n
      · rw [if_pos h2]
        refine List.pairwise_cons.2 ⟨fun b hb => ?_, h⟩
        rcases List.mem_cons.1 hb with rfl | hb
        · exact h2
        · have := h'.1 b hb; omega
      · rw [if_neg h2]; exact h
    · rw [if_neg h1]
      refine List.pairwise_cons.2 ⟨fun b hb => ?_, ih h'.2⟩
      rcases mem_ins.1 hb with rfl | hb
      · omega
      · exact h'.1 b hb
theorem SS_length {l : List Int} {lo hi : Int} (h : SS l) (hb : ∀ x ∈ l, lo ≤ x ∧ x < hi) : (l.length : Int) ≤ max 0 (hi - lo) := by
  induction l generalizing lo with
  | nil => simp; omega
  | cons a t ih =>
    have h' := List.pairwise_cons.1 h
    have ha := hb a List.mem_cons_self
    have := ih (lo := a + 1) h'.2 (fun x hx => ⟨by have := h'.1 x hx; omega, (hb x (List.mem_cons_of_mem _ hx)).2⟩)
    simp
    omega
theorem SS_ext {l m : List Int} (hl : SS l) (hm : SS m) (h : ∀ x, x ∈ l ↔ x ∈ m) : l = m := by
  induction l generalizing m with
  | nil =>
    cases m with
    | nil => rfl
    | cons b u => have := (h b).2 List.mem_cons_self; cases this
  | cons a t ih =>
    cases m with
    | nil => have := (h a).1 List.mem_cons_self; cases this
    | cons b u =>
      have ht := List.pairwise_cons.1 hl
      have hu := List.pairwise_cons.1 hm
      have e : a = b := by
        rcases List.mem_cons.1 ((h a).1 List.mem_cons_self) with e | e
        · exact e
        · rcases List.mem_cons.1 ((h b).2 List.mem_cons_self) with e2 | e2
          · exact e2.symm
          · have h1 := hu.1 a e
            have h2 := ht.1 b e2
            omega
      subst e
      congr 1
      refine ih ht.2 hu.2 (fun x => ⟨fun hx => ?_, fun hx => ?_⟩)
      · rcases List.mem_cons.1 ((h x).1 (List.mem_cons_of_mem _ hx)) with e | e
        · subst e; have := ht.1 x hx; omega
        · exact e
      · rcases List.mem_cons.1 ((h x).2 (List.mem_cons_of_mem _ hx)) with e | e
        · subst e; have := hu.1 x hx; omega
        · exact e
/-- y comes behind x by one bit. -/
def Succ (g : List (List Int)) (x y : Int) : Prop := 0 ≤ y ∧ (y = rd (rd_L1 g x) 0 ∨ y = rd (rd_L1 g x) 1)
def Closed (g : List (List Int)) (T : Int → Prop) : Prop := ∀ x y, T x → Succ g x y → T y
def P (y : Int) (nx : List Int) : List Int := if y ≥ 0 then ins y nx else nx
def rowStep (g : List (List Int)) (nx : List Int) (x : Int) : List Int := P (rd (rd_L1 g x) 1) (P (rd (rd_L1 g x) 0) nx)
def roundOf (g : List (List Int)) (out : List Int) : List Int := out.foldl (rowStep g) out
def rounds (g : List (List Int)) : Nat → List Int → List Int
  | 0, o => o
  | k + 1, o => rounds g k (roundOf g o)
theorem mem_P {y x : Int} {nx : List Int} : x ∈ P y nx ↔ (0 ≤ y ∧ x = y) ∨ x ∈ nx := by
  unfold P
  by_cases h : y ≥ 0
  · rw [if_pos h, mem_ins]; simp [show 0 ≤ y from h]
  · rw [if_neg h]; simp [show ¬ 0 ≤ y from h]
theorem mem_rowStep {g : List (List Int)} {nx : List Int} {x y : Int} : y ∈ rowStep g nx x ↔ Succ g x y ∨ y ∈ nx := by
  unfold rowStep Succ
  rw [mem_P, mem_P]
  constructor
  · rintro (⟨h, rfl⟩ | ⟨h, rfl⟩ | h)
    · exact .inl ⟨h, .inr rfl⟩
    · exact .inl ⟨h, .inl rfl⟩
    · exact .inr h
  · rintro (⟨h, rfl | rfl⟩ | h)
    · exact .inr (.inl ⟨h, rfl⟩)
    · exact .inl ⟨h, rfl⟩
    · exact .inr (.inr h)
theorem mem_fold {g : List (List Int)} {l nx : List Int} {y : Int} : y ∈ l.foldl (rowStep g) nx ↔ (∃ x ∈ l, Succ g x y) ∨ y ∈ nx := by
  induction l generalizing nx with
  | nil => simp
  | cons a t ih =>
    rw [List.foldl_cons, ih, mem_rowStep]
    constructor
    · rintro (⟨x, hx, h⟩ | h | h)
      · exact .inl ⟨x, List.mem_cons_of_mem _ hx, h⟩
      · exact .inl ⟨a, List.mem_cons_self, h⟩
      · exact .inr h
    · rintro (⟨x, hx, h⟩ | h)
      · rcases List.mem_cons.1 hx with rfl | hx
        · exact .inr (.inl h)
        · exact .inl ⟨x, hx, h⟩
      · exact .inr (.inr h)
theorem mem_round {g : List (List Int)} {o : List Int} {y : Int} : y ∈ roundOf g o ↔ (∃ x ∈ o, Succ g x y) ∨ y ∈ o := mem_fold
theorem SS_P {y : Int} {nx : List Int} (h : SS nx) : SS (P y nx) := by
  unfold P
  by_cases c : y ≥ 0
  · rw [if_pos c]; exact SS_ins h
  · rw [if_neg c]; exact h
theorem SS_fold {g : List (List Int)} {l nx : List Int} (h : SS nx) : SS (l.foldl (rowStep g) nx) := by
  induction l generalizing nx with
  | nil => exact h
  | cons a t ih => exact ih (SS_P (SS_P h))
theorem SS_rounds {g : List (List Int)} {k : Nat} {o : List Int} (h : SS o) : SS (rounds g k o) := by
  induction k generalizing o with
  | zero => exact h
  | succ k ih => exact ih (SS_fold h)
/-- The rows' numbers are states, or less than 0. -/
def InG (g : List (List Int)) : Prop := ∀ x y, Succ g x y → y < (g.length : Int)
def Inn (n : Int) (l : List Int) : Prop := ∀ x ∈ l, 0 ≤ x ∧ x < n
theorem Inn_round {g : List (List Int)} (hg : InG g) {o : List Int} (h : Inn g.length o) : Inn g.length (roundOf g o) := by
  intro y hy
  rcases mem_round.1 hy with ⟨x, _, hs⟩ | hy
  · exact ⟨hs.1, hg x y hs⟩
  · exact h y hy
theorem Inn_rounds {g : List (List Int)} (hg : InG g) {k : Nat} {o : List Int} (h : Inn g.length o) : Inn g.length (rounds g k o) := by
  induction k generalizing o with
  | zero => exact h
  | succ k ih => exact ih (Inn_round hg h)
theorem rounds_least {g : List (List Int)} {T : Int → Prop} (hT : Closed g T) {k : Nat} {o : List Int} (h : ∀ x ∈ o, T x) : ∀ x ∈ rounds g k o, T x := by
  induction k generalizing o with
  | zero => exact h
  | succ k ih =>
    refine ih (fun x hx => ?_)
    rcases mem_round.1 hx with ⟨z, hz, hs⟩ | hx
    · exact hT z x (h z hz) hs
    · exact h x hx
theorem rounds_more {g : List (List Int)} {k : Nat} {o : List Int} : ∀ x ∈ o, x ∈ rounds g k o := by
  induction k generalizing o with
  | zero => exact fun x h => h
  | succ k ih => exact fun x h => ih x (mem_round.2 (.inr h))
theorem round_eq_closed {g : List (List Int)} {o : List Int} (h : roundOf g o = o) : Closed g (· ∈ o) := by
  intro x y hx hs
  have h2 : y ∈ roundOf g o := mem_round.2 (.inl ⟨x, hx, hs⟩)
  rwa [h] at h2
theorem rounds_fix {g : List (List Int)} {o : List Int} (h : roundOf g o = o) (k : Nat) : rounds g k o = o := by
  induction k with
  | zero => rfl
  | succ k ih => show rounds g k (roundOf g o) = o; rw [h]; exact ih
theorem SS_sub {l m : List Int} (hl : SS l) (hm : SS m) (h : ∀ x ∈ l, x ∈ m) : l.length ≤ m.length ∧ (l.length = m.length → l = m) := by
  induction m generalizing l with
  | nil =>
    cases l with
    | nil => exact ⟨Nat.le_refl _, fun _ => rfl⟩
    | cons a t => have := h a List.mem_cons_self; cases this
  | cons b u ih =>
    have hu := List.pairwise_cons.1 hm
    cases l with
    | nil => exact ⟨Nat.zero_le _, fun e => by cases e⟩
    | cons a t =>
      have ht := List.pairwise_cons.1 hl
      have tail : ∀ x ∈ t, x ∈ u := by
        intro x hx
        rcases List.mem_cons.1 (h x (List.mem_cons_of_mem _ hx)) with e | e
        · subst e
          have h1 := ht.1 x hx
          rcases List.mem_cons.1 (h a List.mem_cons_self) with e2 | e2
          · omega
          · have := hu.1 a e2; omega
        · exact e
      obtain ⟨h1, h2⟩ := ih ht.2 hu.2 tail
      refine ⟨by simpa using h1, fun e => ?_⟩
      have e2 := h2 (by simpa using e)
      subst e2
      rcases List.mem_cons.1 (h a List.mem_cons_self) with e3 | e3
      · rw [e3]
      · have := ht.1 a e3; omega
/-- Behind as many rounds as there are states nothing more comes. -/
theorem rounds_closed {g : List (List Int)} (hg : InG g) (k : Nat) : ∀ {o : List Int}, SS o → Inn g.length o → g.length ≤ o.length + k → Closed g (· ∈ rounds g k o) := by
  induction k with
  | zero =>
    intro o hs hi hl
    refine round_eq_closed ?_
    show roundOf g o = o
    have h1 := SS_sub hs (SS_fold (g := g) (l := o) hs) (fun x hx => mem_round.2 (.inr hx))
    have h2 := SS_length (SS_fold (g := g) (l := o) hs) (Inn_round hg hi)
    refine (h1.2 ?_).symm
    have h3 := h1.1
    show o.length = (List.foldl (rowStep g) o o).length
    omega
  | succ k ih =>
    intro o hs hi hl
    have h1 := SS_sub hs (SS_fold (g := g) (l := o) hs) (fun x hx => mem_round.2 (.inr hx))
    by_cases c : o.length = (roundOf g o).length
    · have e : roundOf g o = o := (h1.2 c).symm
      rw [rounds_fix e]
      exact round_eq_closed e
    · have h3 : o.length ≤ (roundOf g o).length := h1.1
      exact ih (SS_fold hs) (Inn_round hg hi) (by show g.length ≤ (roundOf g o).length + k; omega)
/-- The places of a list that hold true. -/
def selFrom (j : Nat) : List Bool → List Int
  | [] => []
  | b :: t => if b then (j : Int) :: selFrom (j + 1) t else selFrom (j + 1) t
theorem mem_selFrom {M : List Bool} {j : Nat} {x : Int} : x ∈ selFrom j M ↔ ∃ i : Nat, x = ((j + i : Nat) : Int) ∧ M[i]? = some true := by
  induction M generalizing j with
  | nil => simp [selFrom]
  | cons b t ih =>
    unfold selFrom
    constructor
    · intro h
      by_cases hb : b = true
      · rw [if_pos hb] at h
        rcases List.mem_cons.1 h with rfl | h
        · exact ⟨0, by omega, by simp [hb]⟩
        · obtain ⟨i, h1, h2⟩ := ih.1 h; exact ⟨i + 1, by omega, by simpa using h2⟩
      · rw [if_neg hb] at h
        obtain ⟨i, h1, h2⟩ := ih.1 h; exact ⟨i + 1, by omega, by simpa using h2⟩
    · rintro ⟨i, h1, h2⟩
      cases i with
      | zero => simp at h2; rw [if_pos h2]; exact List.mem_cons.2 (.inl (by omega))
      | succ i =>
        have := (ih (j := j + 1)).2 ⟨i, by omega, by simpa using h2⟩
        by_cases hb : b = true
        · rw [if_pos hb]; exact List.mem_cons_of_mem _ this
        · rw [if_neg hb]; exact this
theorem SS_selFrom {M : List Bool} {j : Nat} : SS (selFrom j M) := by
  induction M generalizing j with
  | nil => simp [selFrom, SS]
  | cons b t ih =>
    unfold selFrom
    by_cases hb : b = true
    · rw [if_pos hb]
      refine List.pairwise_cons.2 ⟨fun x hx => ?_, ih⟩
      obtain ⟨i, h1, _⟩ := mem_selFrom.1 hx
      omega
    · rw [if_neg hb]; exact ih
theorem selFrom_length {M : List Bool} {j : Nat} : (selFrom j M).length ≤ M.length ∧ ((selFrom j M).length < M.length ↔ false ∈ M) := by
  induction M generalizing j with
  | nil => simp [selFrom]
  | cons b t ih =>
    obtain ⟨h1, h2⟩ := ih (j := j + 1)
    unfold selFrom
    cases b with
    | true =>
      rw [if_pos rfl]
      refine ⟨by simpa using h1, ?_⟩
      simp only [List.length_cons, List.mem_cons]
      constructor
      · intro h; exact .inr (h2.1 (by omega))
      · rintro (h | h)
        · cases h
        · have := h2.2 h; omega
    | false =>
      rw [if_neg (by decide)]
      refine ⟨by simp; omega, ?_⟩
      rw [List.length_cons]
      exact ⟨fun _ => List.mem_cons_self, fun _ => by omega⟩

theorem own_f (l : List Int) (h : l.length < 1000) : spec_l00Own.f l = some l := by
  unfold spec_l00Own.f
  rw [Option.bind_some, if_pos (by simp; omega), List.nil_append]
theorem put_done (l : List Int) (n : Int) (hn : l.length ≤ 1000) (d : Nat) : ∀ (j : Nat) (out : List Int), j + d = l.length → out.length ≤ 2 * j + 1 →
    Ev (fun k => spec_l00Put.l0 k l n out true (j : Int)) (out ++ l.drop j) := by
  induction d with
  | zero =>
    intro j out h ho
    rw [List.drop_eq_nil_of_le (by omega), List.append_nil]
    exact ev_one (fun k => by rw [spec_l00Put.l0, if_neg (by omega), if_pos rfl])
  | succ d ih =>
    intro j out h ho
    have hj : j < l.length := by omega
    have hi := ih (j + 1) (out ++ [l[j]]) (by omega) (by simp; omega)
    rw [drop_cons _ _ hj, show out ++ l[j] :: l.drop (j + 1) = out ++ [l[j]] ++ l.drop (j + 1) by simp]
    refine Ev.step (fun k => by rw [spec_l00Put.l0, if_pos (by omega), if_pos rfl]) ?_
    refine Ev.step (fun k => by rw [spec_l00Put.j1, if_neg (by decide), if_pos (by omega), if_pos (by omega), if_pos (by omega), rd_get _ _ hj, wrap_succ hj (by omega)]) hi
theorem put_loop (l : List Int) (n : Int) (hn : l.length ≤ 1000) (d : Nat) : ∀ (j : Nat) (out : List Int), j + d = l.length → out.length ≤ 2 * j →
    Ev (fun k => spec_l00Put.l0 k l n out false (j : Int)) (out ++ ins n (l.drop j)) := by
  induction d with
  | zero =>
    intro j out h ho
    rw [List.drop_eq_nil_of_le (by omega)]
    exact ev_one (fun k => by rw [spec_l00Put.l0, if_neg (by omega), if_neg (by decide), if_pos (by omega)]; rfl)
  | succ d ih =>
    intro j out h ho
    have hj : j < l.length := by omega
    rw [drop_cons _ _ hj]
    refine Ev.step (fun k => by rw [spec_l00Put.l0, if_pos (by omega), if_neg (by decide), if_pos (by omega), rd_get _ _ hj]) ?_
    by_cases c1 : l[j] ≥ n
    · rw [decide_eq_true c1]
      by_cases c2 : l[j] > n
      · have hi := put_done l n hn d (j + 1) (out ++ [n] ++ [l[j]]) (by omega) (by simp; omega)
        have e : out ++ ins n (l[j] :: l.drop (j + 1)) = out ++ [n] ++ [l[j]] ++ l.drop (j + 1) := by unfold ins; rw [if_pos c1, if_pos c2]; simp
        rw [e]
        exact Ev.step (fun k => by rw [spec_l00Put.j1, if_pos rfl, if_pos (by omega), if_pos (by omega), rd_get _ _ hj, if_pos c2, if_pos (by omega), Option.bind_some, if_pos (by simp; omega), wrap_succ hj (by omega)]) hi
      · have hi := put_done l n hn d (j + 1) (out ++ [l[j]]) (by omega) (by simp; omega)
        have e : out ++ ins n (l[j] :: l.drop (j + 1)) = out ++ [l[j]] ++ l.drop (j + 1) := by unfold ins; rw [if_pos c1, if_neg c2]; simp
        rw [e]
        exact Ev.step (fun k => by rw [spec_l00Put.j1, if_pos rfl, if_pos (by omega), if_pos (by omega), rd_get _ _ hj, if_neg c2, if_pos (by omega), wrap_succ hj (by omega)]) hi
    · rw [decide_eq_false c1]
      have hi := ih (j + 1) (out ++ [l[j]]) (by omega) (by simp; omega)
      have e : out ++ ins n (l[j] :: l.drop (j + 1)) = out ++ [l[j]] ++ ins n (l.drop (j + 1)) := by rw [ins, if_neg c1]; simp
      rw [e]
      exact Ev.step (fun k => by rw [spec_l00Put.j1, if_neg (by decide), if_pos (by omega), if_pos (by omega), if_pos (by omega), rd_get _ _ hj, wrap_succ hj (by omega)]) hi
theorem put_f (l : List Int) (n : Int) (hn : l.length ≤ 1000) : Ev (fun k => spec_l00Put.f k l n) (ins n l) := by
  have h := put_loop l n hn l.length 0 [] (by omega) (by simp)
  rw [List.nil_append, List.drop_zero] at h
  exact h
theorem ins_length (n : Int) (l : List Int) : (ins n l).length ≤ l.length + 1 := by
  induction l with
  | nil => simp [ins]
  | cons a t ih =>
    unfold ins
    by_cases h1 : a ≥ n
    · rw [if_pos h1]
      by_cases h2 : a > n
      · rw [if_pos h2]; simp
      · rw [if_neg h2]; simp
    · rw [if_neg h1]; simp; exact ih
/-- A valid graph's rows. -/
def Rows2 (g : List (List Int)) : Prop := ∀ j : Nat, j < g.length → ∃ a b, rd_L1 g (j : Int) = [a, b] ∧ a < (g.length : Int) ∧ b < (g.length : Int) ∧ -1 ≤ a ∧ -1 ≤ b
theorem rows2_of {g : List (List Int)} (h : VG g = true) : Rows2 g := by
  intro j hj
  obtain ⟨_, h2⟩ := VG_iff h
  obtain ⟨a, b, e, ha, hb, _⟩ := h2 g[j] (List.getElem_mem hj)
  exact ⟨a, b, by rw [rdL_get _ _ hj, e], by omega, by omega, ha.1, hb.1⟩
theorem inG_of {g : List (List Int)} (h : Rows2 g) (h0 : 0 < g.length) : InG g := by
  intro x y hs
  by_cases hx : x.toNat < g.length
  · obtain ⟨a, b, e, ha, hb, _⟩ := h x.toNat hx
    have e2 : rd_L1 g x = [a, b] := by
      rw [← e]; unfold rd_L1; rw [Int.toNat_natCast]
    obtain ⟨_, hs | hs⟩ := hs
    · rw [e2, rd0] at hs; omega
    · rw [e2, rd1] at hs; omega
  · have e2 : rd_L1 g x = [] := by unfold rd_L1; rw [List.getD_eq_getElem?_getD, List.getElem?_eq_none (by omega)]; rfl
    obtain ⟨_, hs | hs⟩ := hs
    · rw [e2] at hs; have : y = 0 := hs; omega
    · rw [e2] at hs; have : y = 0 := hs; omega
theorem reach_l2 (g : List (List Int)) (hg : Rows2 g) (out nx : List Int) (r : Int) (i : Nat) (hi : i < out.length) (hout : out.length ≤ 12) (hs : nx.length ≤ 100) (hin : Inn g.length out) {res : List Int}
    (h : Ev (fun k => spec_l02Reached.l1 k out r (rowStep g nx (rd out i)) (((i + 1 : Nat)) : Int) g) res) : Ev (fun k => spec_l02Reached.l2 k out r nx (i : Int) 0 g) res := by
  have hx := hin (out[i]) (List.getElem_mem hi)
  have hrd := rd_get out i hi
  obtain ⟨j, hj⟩ := Int.eq_ofNat_of_zero_le hx.1
  obtain ⟨a, b, e, ha, hb, ha1, hb1⟩ := hg j (by omega)
  rw [hrd, hj] at h
  have el0 := len2 a b
  have two : Ev (fun k => spec_l02Reached.l2 k out r (P a nx) (i : Int) 1 g) res := by
    have hl2 : (P a nx).length ≤ 101 := by unfold P; split; have := ins_length a nx; omega; omega
    by_cases cb : b ≥ 0
    · have hp := put_f (P a nx) b (by omega)
      have eP : P b (P a nx) = ins b (P a nx) := by unfold P; rw [if_pos cb]
      refine Ev.step (fun k => by rw [spec_l02Reached.l2, if_pos (by decide), if_pos (by omega), if_pos (by omega), hrd, hj, if_pos (by omega), if_pos (by omega), if_pos (by decide), e, if_pos (by rw [el0]; decide), rd1, if_pos cb]) (Ev.bind hp ?_)
      refine Ev.step (fun k => by rw [w11, spec_l02Reached.l2, if_neg (by decide), wrap_succ hi (by omega)]) ?_
      simp only [rowStep, e, rd0, rd1, eP] at h
      exact h
    · have eP : P b (P a nx) = P a nx := by rw [P, if_neg cb]
      refine Ev.step (fun k => by rw [spec_l02Reached.l2, if_pos (by decide), if_pos (by omega), if_pos (by omega), hrd, hj, if_pos (by omega), if_pos (by omega), if_pos (by decide), e, if_pos (by rw [el0]; decide), rd1, if_neg cb]) ?_
      refine Ev.step (fun k => by rw [w11, spec_l02Reached.l2, if_neg (by decide), wrap_succ hi (by omega)]) ?_
      simp only [rowStep, e, rd0, rd1, eP] at h
      exact h
  by_cases ca : a ≥ 0
  · have hp := put_f nx a (by omega)
    have eP : P a nx = ins a nx := by rw [P, if_pos ca]
    rw [eP] at two
    exact Ev.step (fun k => by rw [spec_l02Reached.l2, if_pos (by decide), if_pos (by omega), if_pos (by omega), hrd, hj, if_pos (by omega), if_pos (by omega), if_pos (by decide), e, if_pos (by rw [el0]; decide), rd0, if_pos ca, w01]) (Ev.bind hp two)
  · have eP : P a nx = nx := by rw [P, if_neg ca]
    rw [eP] at two
    exact Ev.step (fun k => by rw [spec_l02Reached.l2, if_pos (by decide), if_pos (by omega), if_pos (by omega), hrd, hj, if_pos (by omega), if_pos (by omega), if_pos (by decide), e, if_pos (by rw [el0]; decide), rd0, if_neg ca, w01]) two
theorem reach_l1 (g : List (List Int)) (hg : Rows2 g) (h12 : g.length ≤ 12) (out : List Int) (r : Nat) (hr : r < g.length) (ho : out.length ≤ 12) (hin : Inn g.length out) {res : List Int} (d : Nat) : ∀ (i : Nat) (nx : List Int), i + d = out.length → nx.length ≤ 12 → SS nx → Inn g.length nx →
    Ev (fun k => spec_l02Reached.l0 k ((out.drop i).foldl (rowStep g) nx) ((r + 1 : Nat) : Int) g) res → Ev (fun k => spec_l02Reached.l1 k out (r : Int) nx (i : Int) g) res := by
  have h0 : 0 < g.length := by omega
  induction d with
  | zero =>
    intro i nx h hl hs hn hres
    rw [List.drop_eq_nil_of_le (by omega), List.foldl_nil] at hres
    exact Ev.step (fun k => by rw [spec_l02Reached.l1, if_neg (by omega), wrap_succ hr (by omega)]) hres
  | succ d ih =>
    intro i nx h hl hs hn hres
    have hi : i < out.length := by omega
    rw [drop_cons _ _ hi, List.foldl_cons] at hres
    have hn2 : Inn g.length (rowStep g nx out[i]) := by
      intro y hy
      rcases mem_rowStep.1 hy with hy | hy
      · exact ⟨hy.1, inG_of hg h0 _ _ hy⟩
      · exact hn y hy
    have hs2 : SS (rowStep g nx out[i]) := SS_P (SS_P hs)
    have hl2 := SS_length hs2 hn2
    refine Ev.step (fun k => by rw [spec_l02Reached.l1, if_pos (by omega)]) ?_
    refine reach_l2 g hg out nx r i hi ho (by omega) hin ?_
    rw [rd_get _ _ hi]
    exact ih (i + 1) _ (by omega) (by omega) hs2 hn2 hres
theorem reach_l0 (g : List (List Int)) (hg : Rows2 g) (h12 : g.length ≤ 12) (d : Nat) : ∀ (r : Nat) (out : List Int), r + d = g.length → SS out → Inn g.length out → Ev (fun k => spec_l02Reached.l0 k out (r : Int) g) (rounds g d out) := by
  induction d with
  | zero => intro r out h hs hn; exact ev_one (fun k => by rw [spec_l02Reached.l0, if_neg (by omega)]; rfl)
  | succ d ih =>
    intro r out h hs hn
    have hl := SS_length hs hn
    have h0 : 0 < g.length := by omega
    refine Ev.step (fun k => by rw [spec_l02Reached.l0, if_pos (by omega), own_f out (by omega), Option.bind_some]) ?_
    have := reach_l1 g hg h12 out r (by omega) (by omega) hn (res := rounds g (d + 1) out) out.length 0 out (by omega) (by omega) hs hn
    exact this (ih (r + 1) _ (by omega) (SS_fold hs) (Inn_round (inG_of hg h0) hn))
theorem specReach_ev (g : List (List Int)) (hg : Rows2 g) (h12 : g.length ≤ 12) (x : Int) (hx : 0 ≤ x ∧ x < g.length) : Ev (fun k => spec_l02Reached.f k g x) (rounds g g.length [x]) := by
  have := reach_l0 g hg h12 g.length 0 [x] (by omega) (by simp [SS]) (by intro y hy; rw [List.mem_singleton.1 hy]; exact hx)
  exact this

def Mk (M : List Bool) (x : Int) : Prop := 0 ≤ x ∧ rdOf false M x = true
theorem rdOf_nat (M : List Bool) (j : Nat) : rdOf false M (j : Int) = M.getD j false := by unfold rdOf; rw [Int.toNat_natCast]
theorem Mk_lt {M : List Bool} {x : Int} (h : Mk M x) : x < M.length := by
  obtain ⟨h0, h1⟩ := h
  obtain ⟨j, rfl⟩ := Int.eq_ofNat_of_zero_le h0
  rw [rdOf_nat, List.getD_eq_getElem?_getD] at h1
  by_cases c : j < M.length
  · omega
  · rw [List.getElem?_eq_none (by omega)] at h1; cases h1
theorem Mk_set {M : List Bool} {j : Nat} (hj : j < M.length) {x : Int} : Mk (M.set j true) x ↔ x = (j : Int) ∨ Mk M x := by
  unfold Mk
  constructor
  · rintro ⟨h0, h1⟩
    obtain ⟨i, rfl⟩ := Int.eq_ofNat_of_zero_le h0
    by_cases c : i = j
    · exact .inl (by omega)
    · rw [rdOf_nat, List.getD_eq_getElem?_getD, List.getElem?_set_ne (by omega)] at h1
      exact .inr ⟨h0, by rw [rdOf_nat, List.getD_eq_getElem?_getD]; exact h1⟩
  · rintro (rfl | ⟨h0, h1⟩)
    · exact ⟨by omega, by rw [rdOf_nat, List.getD_eq_getElem?_getD, List.getElem?_set_self hj]; rfl⟩
    · obtain ⟨i, rfl⟩ := Int.eq_ofNat_of_zero_le h0
      refine ⟨h0, ?_⟩
      by_cases c : i = j
      · subst c; rw [rdOf_nat, List.getD_eq_getElem?_getD, List.getElem?_set_self hj]; rfl
      · rw [rdOf_nat, List.getD_eq_getElem?_getD, List.getElem?_set_ne (by omega)]
        rw [rdOf_nat, List.getD_eq_getElem?_getD] at h1
        exact h1
theorem count_mark {M : List Bool} {j : Nat} (hj : j < M.length) (h : rdOf false M (j : Int) = false) : (M.set j true).count false + 1 = M.count false := by
  rw [rdOf_nat, List.getD_eq_getElem?_getD, List.getElem?_eq_getElem hj] at h
  have h1 : M[j] = false := h
  have hp : 0 < M.count false := List.count_pos_iff.2 (h1 ▸ List.getElem_mem hj)
  rw [List.count_set hj, h1]
  simp
  omega
/-- What holds while states are open: those behind a marked one that is not open are marked; what is marked lies in every closed set with the start. -/
structure Inv (g : List (List Int)) (x0 : Int) (M : List Bool) (op : List Int) : Prop where
  len : M.length = g.length
  ops : ∀ y ∈ op, Mk M y
  done : ∀ x, Mk M x → x ∉ op → ∀ y, Succ g x y → Mk M y
  least : ∀ T : Int → Prop, Closed g T → T x0 → ∀ x, Mk M x → T x
/-- The same, while the row of x is looked at: what of it is already marked. -/
structure Inv2 (g : List (List Int)) (x0 x : Int) (M : List Bool) (op : List Int) (S : Int → Prop) : Prop where
  len : M.length = g.length
  mx : Mk M x
  ops : ∀ y ∈ op, Mk M y
  done : ∀ z, Mk M z → z ∉ op → z ≠ x → ∀ y, Succ g z y → Mk M y
  some : ∀ y, S y → Mk M y
  least : ∀ T : Int → Prop, Closed g T → T x0 → ∀ x, Mk M x → T x
def pushM (y : Int) (M : List Bool) : List Bool := if 0 ≤ y ∧ rdOf false M y = false then M.set y.toNat true else M
def pushO (y : Int) (M : List Bool) (op : List Int) : List Int := if 0 ≤ y ∧ rdOf false M y = false then op ++ [y] else op
theorem push_inv {g : List (List Int)} {x0 x y : Int} {M : List Bool} {op : List Int} {S : Int → Prop} (h : Inv2 g x0 x M op S) (hy : y < g.length) (hs : 0 ≤ y → Succ g x y) :
    Inv2 g x0 x (pushM y M) (pushO y M op) (fun z => S z ∨ (0 ≤ y ∧ z = y)) ∧ 2 * (pushM y M).count false + (pushO y M op).length ≤ 2 * M.count false + op.length := by
  unfold pushM pushO
  by_cases c : 0 ≤ y ∧ rdOf false M y = false
  · rw [if_pos c, if_pos c]
    obtain ⟨j, rfl⟩ := Int.eq_ofNat_of_zero_le c.1
    have hj : j < M.length := by rw [h.len]; omega
    rw [Int.toNat_natCast]
    refine ⟨⟨by simpa using h.len, (Mk_set hj).2 (.inr h.mx), ?_, ?_, ?_, ?_⟩, ?_⟩
    · intro z hz
      rcases List.mem_append.1 hz with hz | hz
      · exact (Mk_set hj).2 (.inr (h.ops z hz))
      · rw [List.mem_singleton.1 hz]; exact (Mk_set hj).2 (.inl rfl)
    · intro z hz hn hne w hw
      rcases (Mk_set hj).1 hz with rfl | hz
      · exact absurd (List.mem_append.2 (.inr (List.mem_singleton.2 rfl))) hn
      · exact (Mk_set hj).2 (.inr (h.done z hz (fun hh => hn (List.mem_append.2 (.inl hh))) hne w hw))
    · rintro z (hz | ⟨_, rfl⟩)
      · exact (Mk_set hj).2 (.inr (h.some z hz))
      · exact (Mk_set hj).2 (.inl rfl)
    · intro T hT h0 z hz
      rcases (Mk_set hj).1 hz with rfl | hz
      · exact hT x _ (h.least T hT h0 x h.mx) (hs c.1)
      · exact h.least T hT h0 z hz
    · have := count_mark hj c.2
      simp
      omega
  · rw [if_neg c, if_neg c]
    refine ⟨⟨h.len, h.mx, h.ops, h.done, ?_, h.least⟩, Nat.le_refl _⟩
    rintro z (hz | ⟨h0, rfl⟩)
    · exact h.some z hz
    · refine ⟨h0, ?_⟩
      cases e : rdOf false M z with
      | true => rfl
      | false => exact absurd ⟨h0, e⟩ c
theorem op_bound {M : List Bool} {op : List Int} {B : Nat} (h : 2 * M.count false + op.length ≤ B) : op.length ≤ B := by omega
/-- One place of a row. -/
theorem reach_put (g : List (List Int)) (M : List Bool) (op row : List Int) (i : Nat) (y : Int) (hi : i < row.length) (hrow : row.length ≤ 100) (e : rd row (i : Int) = y) (hM : y < M.length) (hop : op.length ≤ 1000) {res : List Bool}
    (h : Ev (fun k => impl_Graph_reached.l1 k (pushM y M) (pushO y M op) row (row.length : Int) ((i + 1 : Nat) : Int) g) res) : Ev (fun k => impl_Graph_reached.l1 k M op row (row.length : Int) (i : Int) g) res := by
  unfold pushM pushO at h
  by_cases c : 0 ≤ y
  · cases hb : rdOf false M y with
    | true =>
      rw [hb, if_neg (by simp), if_neg (by simp)] at h
      exact Ev.step (fun k => by rw [impl_Graph_reached.l1, if_pos (by omega), if_pos (by omega), if_pos (by omega), e, if_pos (by omega), if_pos c, if_pos hM, if_pos hb, wrap_succ hi (by omega)]) h
    | false =>
      rw [hb, if_pos ⟨c, rfl⟩, if_pos ⟨c, rfl⟩] at h
      exact Ev.step (fun k => by rw [impl_Graph_reached.l1, if_pos (by omega), if_pos (by omega), if_pos (by omega), e, if_pos (by omega), if_pos c, if_pos hM, if_neg (by rw [hb]; decide), if_pos (by omega), wrap_succ hi (by omega)]) h
  · rw [if_neg (by omega), if_neg (by omega)] at h
    exact Ev.step (fun k => by rw [impl_Graph_reached.l1, if_pos (by omega), if_pos (by omega), if_pos (by omega), e, if_neg (by omega), wrap_succ hi (by omega)]) h
theorem implReach_loop (g : List (List Int)) (hg : Rows2 g) (x0 : Int) (B : Nat) : ∀ (M : List Bool) (op : List Int), 2 * M.count false + op.length ≤ B → B ≤ 100 → Inv g x0 M op →
    ∃ R, Ev (fun k => impl_Graph_reached.l0 k M op g) R ∧ Inv g x0 R [] ∧ (∀ x, Mk M x → Mk R x) := by
  induction B with
  | zero =>
    intro M op hB _ hI
    obtain rfl : op = [] := List.eq_nil_of_length_eq_zero (by omega)
    exact ⟨M, ev_one (fun k => by rw [impl_Graph_reached.l0, if_neg (by decide)]), hI, fun _ h => h⟩
  | succ B ih =>
    intro M op hB hB2 hI
    by_cases c : op = []
    · subst c
      exact ⟨M, ev_one (fun k => by rw [impl_Graph_reached.l0, if_neg (by decide)]), hI, fun _ h => h⟩
    · have hl : 0 < op.length := List.length_pos_iff.2 c
      obtain ⟨n, hn⟩ : ∃ n, op.length = n + 1 := ⟨op.length - 1, by omega⟩
      have hw : wrap64 ((op.length : Int) - 1) = (n : Int) := by rw [wrap64_in (by omega) (by omega)]; omega
      have hlast := hI.ops (op[n]'(by omega)) (List.getElem_mem _)
      have hlt := Mk_lt hlast
      rw [hI.len] at hlt
      obtain ⟨j, hj⟩ := Int.eq_ofNat_of_zero_le hlast.1
      obtain ⟨a, b, e, ha, hb, _, _⟩ := hg j (by omega)
      have hrd : rd op (n : Int) = (j : Int) := by rw [rd_get _ _ (by omega), hj]
      have hsplit : op = op.take n ++ [(j : Int)] := by
        have := take_snoc' op n (by omega)
        rw [List.take_of_length_le (by omega), hj] at this
        exact this
      have i2 : Inv2 g x0 j M (op.take n) (fun _ => False) := by
        refine ⟨hI.len, hj ▸ hlast, fun y hy => hI.ops y (List.mem_of_mem_take hy), fun z hz hn hne => hI.done z hz (fun hh => ?_), fun _ h => h.elim, hI.least⟩
        rw [hsplit] at hh
        rcases List.mem_append.1 hh with hh | hh
        · exact hn hh
        · exact hne (List.mem_singleton.1 hh)
      have hs1 : 0 ≤ a → Succ g j a := fun h => ⟨h, .inl (by rw [e, rd0])⟩
      have hs2 : 0 ≤ b → Succ g j b := fun h => ⟨h, .inr (by rw [e, rd1])⟩
      obtain ⟨i3, m3⟩ := push_inv i2 ha hs1
      obtain ⟨i4, m4⟩ := push_inv i3 hb hs2
      have hlt2 : (op.take n).length = n := by rw [List.length_take]; omega
      have i5 : Inv g x0 (pushM b (pushM a M)) (pushO b (pushM a M) (pushO a M (op.take n))) := by
        refine ⟨i4.len, i4.ops, fun x hx hn y hs => ?_, i4.least⟩
        by_cases cx : x = j
        · subst cx
          obtain ⟨h0, hs | hs⟩ := hs
          · rw [e, rd0] at hs; subst hs; exact i4.some _ (.inl (.inr ⟨h0, rfl⟩))
          · rw [e, rd1] at hs; subst hs; exact i4.some _ (.inr ⟨h0, rfl⟩)
        · exact i4.done x hx hn cx y hs
      obtain ⟨R, hR, hI2, hsub⟩ := ih _ _ (by omega) (by omega) i5
      have l3 := i3.len
      have l2 := hI.len
      refine ⟨R, ?_, hI2, fun x hx => hsub x ?_⟩
      · refine Ev.step (fun k => by rw [impl_Graph_reached.l0, if_pos (by omega), hw, if_pos (by omega), if_pos (by omega), if_pos (by omega), hrd, if_pos (by omega), if_pos (by omega), e, Int.toNat_natCast]) ?_
        refine reach_put g M (op.take n) [a, b] 0 a (show 0 < 2 by decide) (show 2 ≤ 100 by decide) rfl (by omega) (by omega) ?_
        refine reach_put g (pushM a M) _ [a, b] 1 b (show 1 < 2 by decide) (show 2 ≤ 100 by decide) rfl (by omega) (by omega) ?_
        exact Ev.step (fun k => by rw [impl_Graph_reached.l1, if_neg (show ¬ (((1 + 1 : Nat) : Int) < (([a, b] : List Int).length : Int)) by rw [len2]; decide)]) hR
      · have up : ∀ (y : Int) (M : List Bool), y < M.length → Mk M x → Mk (pushM y M) x := by
          intro y M hy hx
          unfold pushM
          by_cases c : 0 ≤ y ∧ rdOf false M y = false
          · rw [if_pos c]; exact (Mk_set (by omega)).2 (.inr hx)
          · rw [if_neg c]; exact hx
        exact up b _ (by omega) (up a M (by omega) hx)
theorem implReach_ev (g : List (List Int)) (hg : Rows2 g) (h12 : g.length ≤ 12) (x : Int) (hx : 0 ≤ x ∧ x < g.length) :
    ∃ R, Ev (fun k => impl_Graph_reached.f k g x) R ∧ R.length = g.length ∧ selFrom 0 R = rounds g g.length [x] := by
  obtain ⟨j, rfl⟩ := Int.eq_ofNat_of_zero_le hx.1
  have hr : (List.replicate g.length false).length = g.length := List.length_replicate
  have hm0 : ∀ z, ¬ Mk (List.replicate g.length false) z := by
    rintro z ⟨h0, h1⟩
    obtain ⟨i, rfl⟩ := Int.eq_ofNat_of_zero_le h0
    rw [rdOf_nat, List.getD_eq_getElem?_getD, List.getElem?_replicate] at h1
    split at h1 <;> cases h1
  have hj : j < (List.replicate g.length false).length := by omega
  have i0 : Inv g (j : Int) ((List.replicate g.length false).set j true) [(j : Int)] := by
    refine ⟨by simp, fun y hy => by rw [List.mem_singleton.1 hy]; exact (Mk_set hj).2 (.inl rfl), fun z hz hn => ?_, fun T _ h0 z hz => ?_⟩
    · rcases (Mk_set hj).1 hz with rfl | hz
      · exact absurd (List.mem_singleton.2 rfl) hn
      · exact absurd hz (hm0 z)
    · rcases (Mk_set hj).1 hz with rfl | hz
      · exact h0
      · exact absurd hz (hm0 z)
  have hc : ((List.replicate g.length false).set j true).count false ≤ g.length := by
    have := List.count_le_length (a := false) (l := (List.replicate g.length false).set j true)
    simpa using this
  obtain ⟨R, hR, hI, hsub⟩ := implReach_loop g hg (j : Int) 30 _ _ (by simp; omega) (by decide) i0
  refine ⟨R, ?_, hI.len, ?_⟩
  · refine Ev.congr (fun k => ?_) hR
    unfold impl_Graph_reached.f
    rw [if_pos (by omega), if_pos (by omega), Option.bind_some, if_pos (by omega), Int.toNat_natCast, if_pos (by rw [hr]; omega), Int.toNat_natCast]
  · have h0 : 0 < g.length := by omega
    have hss : SS [(j : Int)] := by simp [SS]
    have hin : Inn g.length [(j : Int)] := by intro y hy; rw [List.mem_singleton.1 hy]; exact hx
    have hcl := rounds_closed (inG_of hg h0) g.length hss hin (by omega)
    have memR : ∀ z, z ∈ selFrom 0 R ↔ Mk R z := by
      intro z
      rw [mem_selFrom]
      constructor
      · rintro ⟨i, h1, h2⟩
        rw [Nat.zero_add] at h1
        subst h1
        exact ⟨by omega, by rw [rdOf_nat, List.getD_eq_getElem?_getD, h2]; rfl⟩
      · rintro ⟨h0, h1⟩
        obtain ⟨i, rfl⟩ := Int.eq_ofNat_of_zero_le h0
        refine ⟨i, by omega, ?_⟩
        rw [rdOf_nat, List.getD_eq_getElem?_getD] at h1
        cases e : R[i]? with
        | none => rw [e] at h1; cases h1
        | some b => rw [e] at h1; simpa using h1
    refine SS_ext SS_selFrom (SS_rounds hss) (fun z => ?_)
    rw [memR]
    constructor
    · exact hI.least (· ∈ rounds g g.length [(j : Int)]) hcl (rounds_more _ (List.mem_singleton.2 rfl)) z
    · refine rounds_least (T := Mk R) (fun a b ha hs => hI.done a ha (by simp) b hs) (fun a ha => ?_) z
      rw [List.mem_singleton.1 ha]
      exact hsub _ ((Mk_set hj).2 (.inl rfl))

/-- n numbers from a on. -/
def seqF (a : Int) (n : Nat) : List Int := (List.range n).map fun (i : Nat) => a + (i : Int)
theorem seqF_length (a : Int) (n : Nat) : (seqF a n).length = n := by simp [seqF]
theorem seqF_succ (a : Int) (n : Nat) : seqF a (n + 1) = seqF a n ++ [a + (n : Int)] := by simp [seqF, List.range_succ]
theorem seqF_rd (a : Int) (n j : Nat) (h : j < n) : rd (seqF a n) (j : Int) = a + (j : Int) := by
  rw [rd_get _ _ (by rw [seqF_length]; exact h)]; simp [seqF]
theorem markF_loop (a : Int) (n : Nat) (h0 : 0 ≤ a) (hn : a + n ≤ 4611686018427387904) (d : Nat) : ∀ (j : Nat) (l : List Int), j + d = n → l.length = n → l.take j = seqF a j →
    Ev (fun k => laws_markInt64S.l0 k l (a + (j : Int)) (j : Int)) (a + (n : Int), seqF a n) := by
  induction d with
  | zero =>
    intro j l h hl ht
    obtain rfl : j = n := by omega
    have e : l = seqF a j := by rw [← ht, List.take_of_length_le (by omega)]
    exact ev_one (fun k => by rw [laws_markInt64S.l0, if_neg (by omega), e])
  | succ d ih =>
    intro j l h hl ht
    have hw := wrap_succ (j := j) (n := n) (by omega) (by omega)
    have hw2 : wrap64 (a + (j : Int) + 1) = a + ((j + 1 : Nat) : Int) := by rw [wrap64_in (by omega) (by omega)]; omega
    exact Ev.step (fun k => by rw [laws_markInt64S.l0, if_pos (by omega), if_pos (by omega), hw, hw2, Int.toNat_natCast]) (ih (j + 1) _ (by omega) (by rw [List.length_set]; exact hl) (by rw [set_take _ _ _ (by omega), ht, seqF_succ]))
theorem markF_ev (l : List Int) (a : Int) (h0 : 0 ≤ a) (hn : a + l.length ≤ 4611686018427387904) : Ev (fun k => laws_markInt64S.f k l a) (a + (l.length : Int), seqF a l.length) := by
  have h := markF_loop a l.length h0 hn l.length 0 l (by omega) rfl rfl
  rwa [show a + ((0 : Nat) : Int) = a by omega] at h
theorem heldF_loop (a : Int) (n : Nat) (h0 : 0 ≤ a) (hn : a + n ≤ 4611686018427387904) (d : Nat) : ∀ j : Nat, j + d = n → Ev (fun k => laws_heldInt64S.l0 k (seqF a n) (a + (j : Int)) (j : Int)) (a + (n : Int)) := by
  have hl := seqF_length a n
  induction d with
  | zero =>
    intro j h
    obtain rfl : j = n := by omega
    exact ev_one (fun k => by rw [laws_heldInt64S.l0, if_neg (by omega)])
  | succ d ih =>
    intro j h
    have hw := wrap_succ (j := j) (n := n) (by omega) (by omega)
    have hw2 : wrap64 (a + (j : Int) + 1) = a + ((j + 1 : Nat) : Int) := by rw [wrap64_in (by omega) (by omega)]; omega
    have hr := seqF_rd a n j (by omega)
    exact Ev.step (fun k => by rw [laws_heldInt64S.l0, if_pos (by omega), if_pos (by omega), if_pos hr, hw, hw2]) (ih (j + 1) (by omega))
theorem heldF_ev (a : Int) (n : Nat) (h0 : 0 ≤ a) (hn : a + n ≤ 4611686018427387904) : Ev (fun k => laws_heldInt64S.f k (seqF a n) a) (a + (n : Int)) := by
  have h := heldF_loop a n h0 hn n 0 (by omega)
  rwa [show a + ((0 : Nat) : Int) = a by omega] at h
/-- The marks of a table, row by row. -/
def markT : Int → List (List Int) → List (List Int)
  | _, [] => []
  | a, r :: t => seqF a r.length :: markT (a + (r.length : Int)) t
def totT : List (List Int) → Int
  | [] => 0
  | r :: t => (r.length : Int) + totT t
theorem totT_nonneg : ∀ t, 0 ≤ totT t
  | [] => Int.le_refl _
  | r :: t => by have := totT_nonneg t; show 0 ≤ (r.length : Int) + totT t; omega
theorem totT_le (n : Nat) : ∀ t : List (List Int), (∀ r ∈ t, r.length ≤ n) → totT t ≤ (t.length * n : Nat)
  | [], _ => by simp [totT]
  | r :: t, h => by
    have h1 := totT_le n t (fun x hx => h x (List.mem_cons_of_mem _ hx))
    have h2 := h r List.mem_cons_self
    show (r.length : Int) + totT t ≤ (((t.length + 1) * n : Nat) : Int)
    rw [Nat.add_mul, Nat.one_mul]
    omega
theorem markT_length : ∀ (t : List (List Int)) (a : Int), (markT a t).length = t.length
  | [], _ => rfl
  | r :: t, a => by show (markT _ t).length + 1 = t.length + 1; rw [markT_length t]
theorem mid_rdL (pre t : List (List Int)) (r : List Int) : rd_L1 (pre ++ r :: t) (pre.length : Int) = r := by
  rw [rdL_get _ _ (by simp)]; simp
theorem mid_getD (pre t : List (List Int)) (r : List Int) : (pre ++ r :: t).getD ((pre.length : Int)).toNat [] = r := by
  rw [Int.toNat_natCast]; simp
theorem mid_set (pre t : List (List Int)) (r x : List Int) : (pre ++ r :: t).set pre.length x = (pre ++ [x]) ++ t := by
  rw [List.set_append_right _ _ (Nat.le_refl _), Nat.sub_self]; simp
theorem markT_loop : ∀ (t pre : List (List Int)) (a : Int), 0 ≤ a → a + totT t ≤ 4611686018427387904 → pre.length + t.length ≤ 4611686018427387904 →
    Ev (fun k => laws_markInt64SS.l0 k (pre ++ t) a (pre.length : Int)) (a + totT t, pre ++ markT a t)
  | [], pre, a, h0, h1, h2 => ev_one (fun k => by rw [laws_markInt64SS.l0, if_neg (by simp)]; simp [totT, markT])
  | r :: t, pre, a, h0, h1, h2 => by
    have ht := totT_nonneg t
    have h1' : a + ((r.length : Int) + totT t) ≤ 4611686018427387904 := h1
    have hl : (pre ++ r :: t).length = pre.length + (t.length + 1) := by simp
    have h2' : pre.length + (t.length + 1) ≤ 4611686018427387904 := h2
    have hw := wrap_succ (j := pre.length) (n := pre.length + 1) (by omega) (by omega)
    have hm := markF_ev r a h0 (by omega)
    have ih := markT_loop t (pre ++ [seqF a r.length]) (a + (r.length : Int)) (by omega) (by omega) (by simp; omega)
    have e1 : (pre ++ [seqF a r.length]).length = pre.length + 1 := by simp
    rw [e1] at ih
    have e2 : (a + (r.length : Int) + totT t, (pre ++ [seqF a r.length]) ++ markT (a + (r.length : Int)) t) = (a + totT (r :: t), pre ++ markT a (r :: t)) := by
      show _ = (a + ((r.length : Int) + totT t), pre ++ seqF a r.length :: markT (a + (r.length : Int)) t)
      rw [show a + ((r.length : Int) + totT t) = a + (r.length : Int) + totT t by omega]; simp
    rw [e2] at ih
    refine Ev.step (fun k => by rw [laws_markInt64SS.l0, if_pos (by rw [hl]; omega), if_pos (by omega), mid_getD, hw]) (Ev.bind hm ?_)
    show Ev (fun k => laws_markInt64SS.l0 k ((pre ++ r :: t).set ((pre.length : Int)).toNat (seqF a r.length)) (a + (r.length : Int)) _) _
    rw [Int.toNat_natCast, mid_set]
    exact ih
theorem markT_ev (t : List (List Int)) (h1 : totT t ≤ 4611686018427387903) (h2 : t.length ≤ 4611686018427387904) : Ev (fun k => laws_markInt64SS.f k t 1) (1 + totT t, markT 1 t) :=
  markT_loop t [] 1 (by decide) (by omega) (by simpa using h2)

theorem valued_ways {S I : Nat → Option (List Int × Bool)} {r : List Int} {b : Bool} (g : List (List Int)) (hn : g.length ≤ 9223372036854775807) (hl : ∀ x ∈ g, x.length ≤ 9223372036854775807) (hs : Ev S (r, b)) (hi : Ev I (r, b)) (hrl : r.length ≤ 1048576) :
    (∃ k t, laws_szGraph.f k g 1048576 = some t ∧ t < 0) ∨
    ∃ k t r r2 T2 b m m2, laws_szGraph.f k g 1048576 = some t ∧ 0 ≤ t ∧ 0 ≤ m ∧ 0 ≤ m2 ∧ r2.length = r.length ∧ laws_toGraph.f k g = some g ∧ S k = some (r, b) ∧ I k = some (r, b) ∧ laws_eqInt64S.f k r r = some true ∧ laws_eqGraph.f k g g = some true ∧ laws_markInt64SS.f k g 1 = some (m, T2) ∧ laws_markInt64S.f k r 1 = some (m2, r2) ∧ laws_heldInt64S.f k r2 1 = some m2 := by
  obtain ⟨t, ht, hp⟩ := szGraph_ev g hn hl
  by_cases c : t < 0
  · obtain ⟨K, hK⟩ := ht
    exact .inl ⟨K, t, hK K (Nat.le_refl _), c⟩
  · obtain ⟨g1, g2⟩ := hp (by omega)
    have h3 := totT_le 1048576 g g2
    have h0 := totT_nonneg g
    have hb : totT g ≤ 4611686018427387903 := by
      have : g.length * 1048576 ≤ 1048576 * 1048576 := Nat.mul_le_mul_right _ g1
      omega
    obtain ⟨K0, e0⟩ := ht
    obtain ⟨K1, e1⟩ := hs
    obtain ⟨K2, e2⟩ := hi
    obtain ⟨K3, e3⟩ := eqInt64S_ev r hrl
    obtain ⟨K4, e4⟩ := eqGraph_ev g g1 g2
    obtain ⟨K5, e5⟩ := markT_ev g hb (by omega)
    obtain ⟨K6, e6⟩ := markF_ev r 1 (by decide) (by omega)
    obtain ⟨K7, e7⟩ := heldF_ev 1 r.length (by decide) (by omega)
    obtain ⟨K8, e8⟩ := toGraph_ev g g1 g2
    refine .inr ⟨K0 + K1 + K2 + K3 + K4 + K5 + K6 + K7 + K8, t, r, seqF 1 r.length, markT 1 g, b, 1 + totT g, 1 + (r.length : Int), e0 _ (by omega), by omega, by omega, by omega, seqF_length _ _, e8 _ (by omega), e1 _ (by omega), e2 _ (by omega), e3 _ (by omega), e4 _ (by omega), e5 _ (by omega), e6 _ (by omega), e7 _ (by omega)⟩

theorem sel_loop (R : List Bool) (hR : R.length ≤ 100) (d : Nat) : ∀ (j : Nat) (acc : List Int), j + d = R.length → acc.length ≤ j → Ev (fun k => impl_ReachedFrom.l0 k acc R (R.length : Int) (j : Int)) (acc ++ selFrom j (R.drop j), true) := by
  induction d with
  | zero =>
    intro j acc h ha
    rw [List.drop_eq_nil_of_le (by omega)]
    exact ev_one (fun k => by rw [impl_ReachedFrom.l0, if_neg (by omega)]; simp [selFrom])
  | succ d ih =>
    intro j acc h ha
    have hj : j < R.length := by omega
    have hw := wrap_succ hj (by omega)
    have hr : rdOf false R (j : Int) = R[j] := by rw [rdOf_nat, List.getD_eq_getElem?_getD, List.getElem?_eq_getElem hj]; rfl
    rw [drop_cons _ _ hj]
    cases e : R[j] with
    | true =>
      rw [e] at hr
      have hi := ih (j + 1) (acc ++ [(j : Int)]) (by omega) (by rw [List.length_append]; simp; omega)
      rw [show acc ++ selFrom j (true :: R.drop (j + 1)) = (acc ++ [(j : Int)]) ++ selFrom (j + 1) (R.drop (j + 1)) by simp [selFrom]]
      exact Ev.step (fun k => by rw [impl_ReachedFrom.l0, if_pos (by omega), if_pos (by omega), if_pos (by omega), hr, if_pos rfl, if_pos (by omega), hw]) hi
    | false =>
      rw [e] at hr
      have hi := ih (j + 1) acc (by omega) (by omega)
      rw [show selFrom j (false :: R.drop (j + 1)) = selFrom (j + 1) (R.drop (j + 1)) by simp [selFrom]]
      exact Ev.step (fun k => by rw [impl_ReachedFrom.l0, if_pos (by omega), if_pos (by omega), if_pos (by omega), hr, if_neg Bool.false_ne_true, hw]) hi
theorem reached_both (g : List (List Int)) (a1 : Int) (hl : ∀ x ∈ g, x.length ≤ 9223372036854775807) : ∃ r b, Ev (fun k => spec_ReachedFrom.f k g a1) (r, b) ∧ Ev (fun k => impl_ReachedFrom.f k g a1) (r, b) ∧ r.length ≤ 1048576 := by
  have hs := specState_ev g a1
  have hi := implState_ev g hl a1
  unfold spec_ReachedFrom.f impl_ReachedFrom.f
  cases e : (VG g && decide (0 ≤ a1 ∧ a1 ≤ wrap64 ((g.length : Int) - 1))) with
  | false =>
    rw [e] at hs hi
    exact ⟨[], false, Ev.bind hs (ev_neg Bool.false_ne_true (Ev.now _)), Ev.bind hi (ev_neg Bool.false_ne_true (Ev.now _)), by decide⟩
  | true =>
    rw [e] at hs hi
    obtain ⟨hv, h12, j, rfl, hj⟩ := state_in e
    obtain ⟨R, hR, hRl, hsel⟩ := implReach_ev g (rows2_of hv) h12 (j : Int) ⟨by omega, by omega⟩
    have hsp := specReach_ev g (rows2_of hv) h12 (j : Int) ⟨by omega, by omega⟩
    rw [← hsel] at hsp
    have hlen := (selFrom_length (M := R) (j := 0)).1
    have hlo := sel_loop R (by omega) R.length 0 [] (by omega) (by simp)
    rw [List.nil_append, List.drop_zero] at hlo
    exact ⟨selFrom 0 R, true, Ev.bind hs (ev_pos rfl (Ev.bind hsp (Ev.now _))), Ev.bind hi (ev_pos rfl (Ev.bind hR hlo)), by omega⟩
theorem FnExactReachedFrom (g : List (List Int)) (a1 : Int) (hn : g.length ≤ 9223372036854775807) (hl : ∀ r ∈ g, r.length ≤ 9223372036854775807 ∧ ∀ x ∈ r, (Lit.int .i64 x).wf = true) :
    (∃ k t, laws_szGraph.f k g 1048576 = some t ∧ t < 0) ∨
    ∃ k t r r2 T2 b m m2, laws_szGraph.f k g 1048576 = some t ∧ 0 ≤ t ∧ 0 ≤ m ∧ 0 ≤ m2 ∧ r2.length = r.length ∧ laws_toGraph.f k g = some g ∧ spec_ReachedFrom.f k g a1 = some (r, b) ∧ impl_ReachedFrom.f k g a1 = some (r, b) ∧ laws_eqInt64S.f k r r = some true ∧ laws_eqGraph.f k g g = some true ∧ laws_markInt64SS.f k g 1 = some (m, T2) ∧ laws_markInt64S.f k r 1 = some (m2, r2) ∧ laws_heldInt64S.f k r2 1 = some m2 := by
  obtain ⟨r, b, h1, h2, h3⟩ := reached_both g a1 (fun x hx => (hl x hx).1)
  exact valued_ways g hn (fun x hx => (hl x hx).1) h1 h2 h3

end Go.Proofs.Ytanndepgepgfoaa.Pure
