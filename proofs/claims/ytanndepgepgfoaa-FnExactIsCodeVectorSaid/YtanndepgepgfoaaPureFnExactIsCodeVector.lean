/-
The law FnExactIsCodeVector answers true for every graph, all numbers and every vector; there are no conditions beside the row's own bounds.
-/
import Derived.Test.YtanndepgepgfoaaQFnExactIsCodeVectorx7
namespace Go.Proofs.Ytanndepgepgfoaa.Pure
open Go.RowKit Go.Proofs.Ytanndepgepgfoaa.QFnExactIsCodeVector Go.Proofs.YtanndepgepgfoaaW.PrintWords Go.Proofs.YtanndepgepgfoaaW.PrintLast Go.Proofs.YtanndepgepgfoaaW.PrintMore
set_option linter.unusedVariables false

theorem ev_one {α : Type} {g : Nat → Option α} {r : α} (h : ∀ k, g (k + 1) = some r) : Ev g r :=
  ⟨1, fun k hk => by obtain ⟨m, rfl⟩ : ∃ m, k = m + 1 := ⟨k - 1, by omega⟩; exact h m⟩
theorem wrap64_in {x : Int} (h0 : -9223372036854775808 ≤ x) (h1 : x ≤ 9223372036854775807) : wrap64 x = x := by
  unfold wrap64; omega
theorem u64_in {x : Int} (h0 : 0 ≤ x) (h1 : x ≤ 18446744073709551615) : IntKind.u64.wrap x = x := by
  simp [IntKind.wrap, IntKind.bits, IntKind.signed]; omega
theorem i64_in {x : Int} (h0 : -9223372036854775808 ≤ x) (h1 : x ≤ 9223372036854775807) : IntKind.i64.wrap x = x := by
  rw [IntKind.wrap_i64]; omega
theorem and_one (x : Int) : Go.bits .and .i64 x 1 = x % 2 := by
  have h : (BitVec.ofInt 64 x &&& BitVec.ofInt 64 1).toNat = (x % 2).toNat := by
    have e1 : BitVec.ofInt 64 1 = 1#64 := by decide
    rw [e1, BitVec.toNat_and, BitVec.toNat_ofInt]
    have e2 : (1#64).toNat = 1 := by decide
    rw [e2, Nat.and_one_is_mod]
    omega
  show IntKind.i64.wrap (((BitVec.ofInt 64 x &&& BitVec.ofInt 64 1).toNat : Nat) : Int) = x % 2
  rw [h, i64_in (by omega) (by omega)]
  omega
theorem wf_i64 {x : Int} (h : (Lit.int .i64 x).wf = true) : -9223372036854775808 ≤ x ∧ x ≤ 9223372036854775807 := by
  simp [Lit.wf, IntKind.min, IntKind.max, IntKind.signed, IntKind.bits] at h
  omega
theorem pow_pos_int (d : Nat) : (0 : Int) < 2 ^ d := Int.pow_pos (by decide)
theorem pow_le_int {a b : Nat} (h : a ≤ b) : (2 : Int) ^ a ≤ 2 ^ b := by
  have := Nat.pow_le_pow_right (n := 2) (by decide) h
  exact_mod_cast this

theorem ev_pos {α : Type} {c : Prop} [Decidable c] {g h : Nat → Option α} {r : α} (hc : c) (hg : Ev g r) : Ev (fun k => if c then g k else h k) r := by
  obtain ⟨K, hK⟩ := hg
  exact ⟨K, fun k hk => (if_pos hc).trans (hK k hk)⟩
theorem ev_neg {α : Type} {c : Prop} [Decidable c] {g h : Nat → Option α} {r : α} (hc : ¬ c) (hg : Ev h r) : Ev (fun k => if c then g k else h k) r := by
  obtain ⟨K, hK⟩ := hg
  exact ⟨K, fun k hk => (if_neg hc).trans (hK k hk)⟩
theorem ev_some {α β : Type} {f : Nat → α → Option β} {a : α} {r : β} (h : Ev (fun k => f k a) r) : Ev (fun k => (some a).bind (f k)) r := h
theorem ev_to {α β : Type} {x : Option α} {f : Nat → α → Option β} {a : α} {r : β} (e : x = some a) (h : Ev (fun k => f k a) r) : Ev (fun k => x.bind (f k)) r := by subst e; exact h
theorem ev_det {α : Type} {g : Nat → Option α} {r r' : α} (h : Ev g r) (h' : Ev g r') : r = r' := by
  obtain ⟨K, hK⟩ := h
  obtain ⟨K', hK'⟩ := h'
  have h1 := hK (max K K') (Nat.le_max_left _ _)
  have h2 := hK' (max K K') (Nat.le_max_right _ _)
  rw [h1] at h2
  exact Option.some.inj h2
theorem wrap_succ {j n : Nat} (h : j < n) (hn : n ≤ 9223372036854775807) : wrap64 ((j : Int) + 1) = ((j + 1 : Nat) : Int) := by
  rw [wrap64_in (by omega) (by omega)]; omega
theorem nat0 (j : Nat) : (0 : Int) ≤ (j : Int) := Int.natCast_nonneg j
theorem rd_nat (l : List Int) (j : Nat) : rd l (j : Int) = l.getD j 0 := by unfold rd; rw [Int.toNat_natCast]
theorem rd_get (l : List Int) (j : Nat) (h : j < l.length) : rd l (j : Int) = l[j] := by rw [rd_nat, List.getD_eq_getElem?_getD, List.getElem?_eq_getElem h]; rfl
theorem drop_cons {α : Type} (l : List α) (j : Nat) (h : j < l.length) : l.drop j = l[j] :: l.drop (j + 1) := List.drop_eq_getElem_cons h
theorem take_snoc' {α : Type} (l : List α) (j : Nat) (h : j < l.length) : l.take (j + 1) = l.take j ++ [l[j]] := List.take_succ_eq_append_getElem h
theorem set_take {α : Type} (acc : List α) (j : Nat) (x : α) (h : j < acc.length) : (acc.set j x).take (j + 1) = acc.take j ++ [x] := by
  rw [List.take_set, List.take_succ_eq_append_getElem h, List.set_append_right _ _ (by simp; omega)]
  have : (acc.take j).length = j := by rw [List.length_take]; omega
  rw [this, Nat.sub_self]
  rfl
theorem take_all {α : Type} {a b : List α} {n : Nat} (ha : a.length = n) (hb : b.length = n) (h : a.take n = b.take n) : a = b := by
  rw [List.take_of_length_le (by omega), List.take_of_length_le (by omega)] at h; exact h
theorem w01 : wrap64 (0 + 1) = 1 := by unfold wrap64; decide
theorem w11 : wrap64 (1 + 1) = 2 := by unfold wrap64; decide

theorem spec_in (a b c : Int) : spec_l00In.f a b c = some (decide (b ≤ a ∧ a ≤ c)) := by
  unfold spec_l00In.f
  by_cases h : a ≥ b
  · rw [if_pos h]; congr 1; have : b ≤ a := h; simp [this]
  · rw [if_neg h]; congr 1; have : ¬ b ≤ a := h; simp [this]
theorem impl_in (a b c : Int) : impl_within.f a b c = some (decide (b ≤ a ∧ a ≤ c)) := by
  unfold impl_within.f
  by_cases h : a ≥ b
  · rw [if_pos h]; congr 1; have : b ≤ a := h; simp [this]
  · rw [if_neg h]; congr 1; have : ¬ b ≤ a := h; simp [this]

theorem rdL_get (l : List (List Int)) (j : Nat) (h : j < l.length) : rd_L1 l (j : Int) = l[j] := by
  unfold rd_L1; rw [Int.toNat_natCast, List.getD_eq_getElem?_getD, List.getElem?_eq_getElem h]; rfl

theorem toInt64S_loop (l : List Int) (hn : l.length ≤ 1048576) (d : Nat) : ∀ (j : Nat) (acc : List Int), j + d = l.length → acc.length = l.length → acc.take j = l.take j →
    Ev (fun k => laws_toInt64S.l0 k l acc (j : Int)) l := by
  induction d with
  | zero =>
    intro j acc h1 h2 h3
    obtain rfl : acc = l := take_all (n := j) (by omega) (by omega) h3
    exact ev_one (fun k => by rw [laws_toInt64S.l0, if_neg (by omega)])
  | succ d ih =>
    intro j acc h1 h2 h3
    have hj : j < l.length := by omega
    refine Ev.step (fun k => ?_) (ih (j + 1) (acc.set j l[j]) (by omega) (by simpa using h2) (by rw [set_take _ _ _ (by omega), take_snoc' _ _ hj, h3]))
    rw [laws_toInt64S.l0, if_pos (by omega), if_pos (by omega), if_pos (by omega), wrap_succ hj (by omega), rd_get _ _ hj, Int.toNat_natCast]
theorem toInt64S_ev (l : List Int) (hn : l.length ≤ 1048576) : Ev (fun k => laws_toInt64S.f k l) l := by
  refine Ev.congr (fun k => ?_) (toInt64S_loop l hn l.length 0 (List.replicate l.length 0) (by omega) (by simp) (by simp))
  unfold laws_toInt64S.f
  rw [if_pos (by omega), if_pos (by omega), Int.toNat_natCast]
  rfl
theorem eqInt64S_loop (l : List Int) (hn : l.length ≤ 1048576) (d : Nat) : ∀ j : Nat, j + d = l.length → Ev (fun k => laws_eqInt64S.l0 k l l (j : Int)) true := by
  induction d with
  | zero => intro j h; exact ev_one (fun k => by rw [laws_eqInt64S.l0, if_neg (by omega)])
  | succ d ih =>
    intro j h
    refine Ev.step (fun k => ?_) (ih (j + 1) (by omega))
    rw [laws_eqInt64S.l0, if_pos (by omega), if_pos (by omega), if_pos (by omega), if_pos rfl, wrap_succ (n := l.length) (by omega) (by omega)]
theorem eqInt64S_ev (l : List Int) (hn : l.length ≤ 1048576) : Ev (fun k => laws_eqInt64S.f k l l) true := by
  refine Ev.congr (fun k => ?_) (eqInt64S_loop l hn l.length 0 (by omega))
  unfold laws_eqInt64S.f
  rw [if_pos rfl]
  rfl

theorem toInt64SS_loop (l : List (List Int)) (hn : l.length ≤ 1048576) (hr : ∀ r ∈ l, r.length ≤ 1048576) (d : Nat) : ∀ (j : Nat) (acc : List (List Int)), j + d = l.length → acc.length = l.length → acc.take j = l.take j →
    Ev (fun k => laws_toInt64SS.l0 k l acc (j : Int)) l := by
  induction d with
  | zero =>
    intro j acc h1 h2 h3
    obtain rfl : acc = l := take_all (n := j) (by omega) (by omega) h3
    exact ev_one (fun k => by rw [laws_toInt64SS.l0, if_neg (by omega)])
  | succ d ih =>
    intro j acc h1 h2 h3
    have hj : j < l.length := by omega
    refine Ev.step (fun k => by rw [laws_toInt64SS.l0, if_pos (by omega), if_pos (by omega), rdL_get _ _ hj]) ?_
    refine Ev.bind (toInt64S_ev l[j] (hr _ (List.getElem_mem hj))) (ev_pos (by omega) ?_)
    rw [wrap_succ hj (by omega), Int.toNat_natCast]
    exact ih (j + 1) (acc.set j l[j]) (by omega) (by simpa using h2) (by rw [set_take _ _ _ (by omega), take_snoc' _ _ hj, h3])
theorem toInt64SS_ev (l : List (List Int)) (hn : l.length ≤ 1048576) (hr : ∀ r ∈ l, r.length ≤ 1048576) : Ev (fun k => laws_toInt64SS.f k l) l := by
  refine Ev.congr (fun k => ?_) (toInt64SS_loop l hn hr l.length 0 (List.replicate l.length []) (by omega) (by simp) (by simp))
  unfold laws_toInt64SS.f
  rw [if_pos (by omega), if_pos (by omega), Int.toNat_natCast]
  rfl
theorem eqInt64SS_loop (l : List (List Int)) (hn : l.length ≤ 1048576) (hr : ∀ r ∈ l, r.length ≤ 1048576) (d : Nat) : ∀ j : Nat, j + d = l.length → Ev (fun k => laws_eqInt64SS.l0 k l l (j : Int)) true := by
  induction d with
  | zero => intro j h; exact ev_one (fun k => by rw [laws_eqInt64SS.l0, if_neg (by omega)])
  | succ d ih =>
    intro j h
    have hj : j < l.length := by omega
    refine Ev.step (fun k => by rw [laws_eqInt64SS.l0, if_pos (by omega), if_pos (by omega), if_pos (by omega), rdL_get _ _ hj]) ?_
    refine Ev.bind (eqInt64S_ev l[j] (hr _ (List.getElem_mem hj))) (ev_pos rfl ?_)
    rw [wrap_succ hj (by omega)]
    exact ih (j + 1) (by omega)
theorem eqInt64SS_ev (l : List (List Int)) (hn : l.length ≤ 1048576) (hr : ∀ r ∈ l, r.length ≤ 1048576) : Ev (fun k => laws_eqInt64SS.f k l l) true := by
  refine Ev.congr (fun k => ?_) (eqInt64SS_loop l hn hr l.length 0 (by omega))
  unfold laws_eqInt64SS.f
  rw [if_pos rfl]
  rfl

theorem toGraph_ev (l : List (List Int)) (hn : l.length ≤ 1048576) (hr : ∀ r ∈ l, r.length ≤ 1048576) : Ev (fun k => laws_toGraph.f k l) l := by
  unfold laws_toGraph.f
  exact Ev.bind (toInt64SS_ev l hn hr) (Ev.now _)
theorem eqGraph_ev (l : List (List Int)) (hn : l.length ≤ 1048576) (hr : ∀ r ∈ l, r.length ≤ 1048576) : Ev (fun k => laws_eqGraph.f k l l) true := by
  unfold laws_eqGraph.f
  exact Ev.bind (eqInt64SS_ev l hn hr) (Ev.now _)
theorem szSS_loop (l : List (List Int)) (hn : l.length ≤ 9223372036854775807) (hl : ∀ r ∈ l, r.length ≤ 9223372036854775807) (d : Nat) : ∀ (j : Nat) (left : Int), j + d = l.length → 0 ≤ left → left ≤ 1048576 →
    (∃ r, Ev (fun k => laws_szInt64SS.l0 k l left (j : Int)) r ∧ (0 ≤ r → ∀ x ∈ l.drop j, x.length ≤ 1048576)) := by
  induction d with
  | zero =>
    intro j left h h0 h1
    refine ⟨left, ev_one (fun k => by rw [laws_szInt64SS.l0, if_neg (by omega)]), fun _ x hx => ?_⟩
    rw [List.drop_eq_nil_of_le (by omega)] at hx
    cases hx
  | succ d ih =>
    intro j left h h0 h1
    have hj : j < l.length := by omega
    have hlen := hl _ (List.getElem_mem hj)
    have hw : wrap64 (left - (l[j].length : Int)) = left - (l[j].length : Int) := wrap64_in (by omega) (by omega)
    by_cases c : left - (l[j].length : Int) < 0
    · refine ⟨-1, ev_one (fun k => ?_), fun h => by omega⟩
      rw [laws_szInt64SS.l0, if_pos (by omega), if_pos (by omega), rdL_get _ _ hj]
      unfold laws_szInt64S.f
      rw [hw, if_pos c]
      rfl
    · obtain ⟨r, hr, hp⟩ := ih (j + 1) (left - (l[j].length : Int)) (by omega) (by omega) (by omega)
      refine ⟨r, Ev.step (fun k => ?_) hr, fun h0 x hx => ?_⟩
      · rw [laws_szInt64SS.l0, if_pos (by omega), if_pos (by omega), rdL_get _ _ hj]
        unfold laws_szInt64S.f
        rw [hw, if_neg c, Option.bind_some, if_neg c, wrap_succ hj (by omega)]
      · rw [drop_cons _ _ hj] at hx
        rcases List.mem_cons.1 hx with rfl | hx
        · omega
        · exact hp h0 x hx
theorem szGraph_ev (l : List (List Int)) (hn : l.length ≤ 9223372036854775807) (hl : ∀ r ∈ l, r.length ≤ 9223372036854775807) :
    ∃ r, Ev (fun k => laws_szGraph.f k l 1048576) r ∧ (0 ≤ r → l.length ≤ 1048576 ∧ ∀ x ∈ l, x.length ≤ 1048576) := by
  have hw : wrap64 (1048576 - (l.length : Int)) = 1048576 - (l.length : Int) := wrap64_in (by omega) (by omega)
  by_cases c : 1048576 - (l.length : Int) < 0
  · refine ⟨-1, ?_, fun h => by omega⟩
    refine Ev.congr (fun k => ?_) (Ev.now _)
    unfold laws_szGraph.f laws_szInt64SS.f
    rw [hw, if_pos c]
    rfl
  · obtain ⟨r, hr, hp⟩ := szSS_loop l hn hl l.length 0 (1048576 - (l.length : Int)) (by omega) (by omega) (by omega)
    by_cases c2 : r < 0
    · refine ⟨-1, ?_, fun h => by omega⟩
      refine Ev.congr (fun k => by unfold laws_szGraph.f laws_szInt64SS.f; rw [hw, if_neg c]) ?_
      exact Ev.bind hr (ev_pos c2 (Ev.now _))
    · refine ⟨r, ?_, fun h0 => ⟨by omega, fun x hx => hp h0 x (by simpa using hx)⟩⟩
      refine Ev.congr (fun k => by unfold laws_szGraph.f laws_szInt64SS.f; rw [hw, if_neg c]) ?_
      exact Ev.bind hr (ev_neg c2 (Ev.now _))

/-- A row of a valid graph with n states. -/
def okRow (n : Int) (r : List Int) : Bool := decide (r.length = 2) && (decide (-1 ≤ rd r 0 ∧ rd r 0 ≤ n - 1) && (decide (-1 ≤ rd r 1 ∧ rd r 1 ≤ n - 1) && !(decide (rd r 0 < 0) && decide (rd r 1 < 0))))
def VG (g : List (List Int)) : Bool := decide (1 ≤ (g.length : Int) ∧ (g.length : Int) ≤ 12) && g.all (okRow g.length)
theorem row_two {r : List Int} (h : r.length = 2) : ∃ a b, r = [a, b] := by
  match r, h with
  | [a, b], _ => exact ⟨a, b, rfl⟩
theorem okRow_not {n : Int} {r : List Int} (h : ¬ r.length = 2) : okRow n r = false := by simp [okRow, h]
theorem okRow_two (n a b : Int) : okRow n [a, b] = (decide (-1 ≤ a ∧ a ≤ n - 1) && (decide (-1 ≤ b ∧ b ≤ n - 1) && !(decide (a < 0) && decide (b < 0)))) := rfl
theorem rd0 (a b : Int) : rd [a, b] 0 = a := rfl
theorem rd1 (a b : Int) : rd [a, b] 1 = b := rfl
theorem len2 (a b : Int) : (([a, b] : List Int).length : Int) = 2 := rfl
theorem VG_iff {g : List (List Int)} (h : VG g = true) : (1 ≤ g.length ∧ g.length ≤ 12) ∧ ∀ r ∈ g, ∃ a b, r = [a, b] ∧ (-1 ≤ a ∧ a ≤ (g.length : Int) - 1) ∧ (-1 ≤ b ∧ b ≤ (g.length : Int) - 1) ∧ ¬ (a < 0 ∧ b < 0) := by
  simp only [VG, Bool.and_eq_true, decide_eq_true_eq, List.all_eq_true] at h
  refine ⟨by omega, fun r hr => ?_⟩
  have h2 := h.2 r hr
  by_cases hl : r.length = 2
  · obtain ⟨a, b, rfl⟩ := row_two hl
    rw [okRow_two] at h2
    simp only [Bool.and_eq_true, decide_eq_true_eq, Bool.not_eq_true', Bool.and_eq_false_imp, decide_eq_false_iff_not] at h2
    exact ⟨a, b, rfl, h2.1, h2.2.1, fun h => h2.2.2 h.1 h.2⟩
  · rw [okRow_not hl] at h2; cases h2

theorem areIn_loop (l : List Int) (lo hi : Int) (hn : l.length ≤ 9223372036854775807) (d : Nat) : ∀ j : Nat, j + d = l.length →
    Ev (fun k => impl_areIn.l0 k lo hi l (l.length : Int) (j : Int)) ((l.drop j).all fun x => decide (lo ≤ x ∧ x ≤ hi)) := by
  induction d with
  | zero =>
    intro j h
    rw [List.drop_eq_nil_of_le (by omega)]
    exact ev_one (fun k => by rw [impl_areIn.l0, if_neg (by omega)]; rfl)
  | succ d ih =>
    intro j h
    have hj : j < l.length := by omega
    rw [drop_cons _ _ hj, List.all_cons]
    by_cases c : lo ≤ l[j] ∧ l[j] ≤ hi
    · rw [decide_eq_true c, Bool.true_and]
      refine Ev.step (fun k => ?_) (ih (j + 1) (by omega))
      rw [impl_areIn.l0, if_pos (by omega), if_pos (by omega), if_pos (by omega), rd_get _ _ hj, impl_in, decide_eq_true c, Option.bind_some, if_pos rfl, wrap_succ hj hn]
    · rw [decide_eq_false c, Bool.false_and]
      refine ev_one (fun k => ?_)
      rw [impl_areIn.l0, if_pos (by omega), if_pos (by omega), if_pos (by omega), rd_get _ _ hj, impl_in, decide_eq_false c, Option.bind_some, if_neg (by decide)]
theorem areIn_ev (l : List Int) (lo hi : Int) (hn : l.length ≤ 9223372036854775807) : Ev (fun k => impl_areIn.f k l lo hi) (l.all fun x => decide (lo ≤ x ∧ x ≤ hi)) :=
  areIn_loop l lo hi hn l.length 0 (by omega)

theorem specVG_loop (g : List (List Int)) (h12 : g.length ≤ 12) (d : Nat) : ∀ j : Nat, j + d = g.length →
    Ev (fun k => spec_l02Is.l0 k (g.length : Int) (j : Int) g) ((g.drop j).all (okRow g.length)) := by
  have hw : wrap64 ((g.length : Int) - 1) = (g.length : Int) - 1 := wrap64_in (by omega) (by omega)
  induction d with
  | zero =>
    intro j h
    rw [List.drop_eq_nil_of_le (by omega)]
    exact ev_one (fun k => by rw [spec_l02Is.l0, if_neg (by omega)]; rfl)
  | succ d ih =>
    intro j h
    have hj : j < g.length := by omega
    have hs := wrap_succ hj (by omega)
    rw [drop_cons _ _ hj, List.all_cons]
    by_cases hl : (g[j]).length = 2
    · obtain ⟨a, b, e⟩ := row_two hl
      have hi := ih (j + 1) (by omega)
      rw [e, okRow_two]
      refine Ev.step (fun k => by rw [spec_l02Is.l0, if_pos (by omega), if_pos (by omega), rdL_get _ _ hj, e, if_pos (len2 a b), if_pos (by rw [len2]; decide), if_pos (by rw [len2]; decide), rd0, rd1, spec_in, spec_in, hw, Option.bind_some, Option.bind_some, hs]) ?_
      by_cases ca : -1 ≤ a ∧ a ≤ (g.length : Int) - 1
      · rw [decide_eq_true ca, Bool.true_and]
        refine ev_pos rfl ?_
        by_cases cb : -1 ≤ b ∧ b ≤ (g.length : Int) - 1
        · rw [decide_eq_true cb, Bool.true_and]
          refine ev_pos rfl ?_
          by_cases a0 : a < 0
          · refine ev_pos a0 ?_
            by_cases b0 : b < 0
            · refine ev_pos b0 ?_
              simpa [a0, b0] using Ev.now false
            · refine ev_neg b0 ?_
              simpa [a0, b0] using hi
          · refine ev_neg a0 ?_
            simpa [a0] using hi
        · rw [decide_eq_false cb, Bool.false_and, Bool.false_and]
          exact ev_neg (by decide) (Ev.now _)
      · rw [decide_eq_false ca, Bool.false_and, Bool.false_and]
        exact ev_neg (by decide) (Ev.now _)
    · rw [okRow_not hl, Bool.false_and]
      refine ev_one (fun k => ?_)
      rw [spec_l02Is.l0, if_pos (by omega), if_pos (by omega), rdL_get _ _ hj, if_neg (by omega)]
theorem specIs_ev (g : List (List Int)) : Ev (fun k => spec_l02Is.f k g) (VG g) := by
  by_cases c : 1 ≤ (g.length : Int) ∧ (g.length : Int) ≤ 12
  · have h := specVG_loop g (by omega) g.length 0 (by omega)
    unfold VG
    rw [decide_eq_true c, Bool.true_and]
    refine Ev.congr (fun k => ?_) h
    unfold spec_l02Is.f
    rw [spec_in, decide_eq_true c]
    rfl
  · refine Ev.congr (fun k => ?_) (Ev.now _)
    unfold spec_l02Is.f VG
    rw [spec_in, decide_eq_false c]
    rfl

theorem implVG_loop (g : List (List Int)) (h12 : g.length ≤ 12) (hr : ∀ r ∈ g, r.length ≤ 9223372036854775807) (d : Nat) : ∀ j : Nat, j + d = g.length →
    Ev (fun k => impl_ValidGraph.l0 k (g.length : Int) g (g.length : Int) (j : Int)) ((g.drop j).all (okRow g.length)) := by
  have hw : wrap64 ((g.length : Int) - 1) = (g.length : Int) - 1 := wrap64_in (by omega) (by omega)
  induction d with
  | zero =>
    intro j h
    rw [List.drop_eq_nil_of_le (by omega)]
    exact ev_one (fun k => by rw [impl_ValidGraph.l0, if_neg (by omega)]; rfl)
  | succ d ih =>
    intro j h
    have hj : j < g.length := by omega
    have hs := wrap_succ hj (by omega)
    rw [drop_cons _ _ hj, List.all_cons]
    by_cases hl : (g[j]).length = 2
    · obtain ⟨a, b, e⟩ := row_two hl
      have hi := ih (j + 1) (by omega)
      rw [e, okRow_two]
      have ha := areIn_ev [a, b] (-1) ((g.length : Int) - 1) (show 2 ≤ 9223372036854775807 by decide)
      refine Ev.step (fun k => by rw [impl_ValidGraph.l0, if_pos (by omega), if_pos (by omega), if_pos (by omega), rdL_get _ _ hj, e, if_pos (len2 a b), hw, if_pos (show (0 : Int) < (([a, b] : List Int).length : Int) by rw [len2]; decide), if_pos (show (1 : Int) < (([a, b] : List Int).length : Int) by rw [len2]; decide), rd0, rd1, hs]) (Ev.bind ha ?_)
      by_cases ca : -1 ≤ a ∧ a ≤ (g.length : Int) - 1
      · by_cases cb : -1 ≤ b ∧ b ≤ (g.length : Int) - 1
        · rw [decide_eq_true ca, decide_eq_true cb, Bool.true_and, Bool.true_and]
          refine ev_pos (by simp [ca, cb]) ?_
          by_cases a0 : a < 0
          · refine ev_pos a0 ?_
            by_cases b0 : b < 0
            · refine ev_pos b0 ?_
              simpa [a0, b0] using Ev.now false
            · refine ev_neg b0 ?_
              simpa [a0, b0] using hi
          · refine ev_neg a0 ?_
            simpa [a0] using hi
        · rw [decide_eq_false cb, Bool.false_and, Bool.and_false, Bool.false_and]
          exact ev_neg (by simp [cb]) (Ev.now _)
      · rw [decide_eq_false ca, Bool.false_and, Bool.false_and]
        exact ev_neg (by simp [ca]) (Ev.now _)
    · rw [okRow_not hl, Bool.false_and]
      refine ev_one (fun k => ?_)
      rw [impl_ValidGraph.l0, if_pos (by omega), if_pos (by omega), if_pos (by omega), rdL_get _ _ hj, if_neg (by omega)]
theorem implVG_ev (g : List (List Int)) (hr : ∀ r ∈ g, r.length ≤ 9223372036854775807) : Ev (fun k => impl_ValidGraph.f k g) (VG g) := by
  by_cases c : 1 ≤ (g.length : Int) ∧ (g.length : Int) ≤ 12
  · have h := implVG_loop g (by omega) hr g.length 0 (by omega)
    unfold VG
    rw [decide_eq_true c, Bool.true_and]
    refine Ev.congr (fun k => ?_) h
    unfold impl_ValidGraph.f
    rw [impl_in, decide_eq_true c]
    rfl
  · refine Ev.congr (fun k => ?_) (Ev.now _)
    unfold impl_ValidGraph.f VG
    rw [impl_in, decide_eq_false c]
    rfl

def addE (z m : Int) (nx : List Int) : List Int := if z ≥ 0 then nx.set z.toNat (wrap64 (rd nx z + m)) else nx
def wayRow (g : List (List Int)) (row nx : List Int) (y : Int) : List Int := addE (rd (rd_L1 g y) 1) (rd row y) (addE (rd (rd_L1 g y) 0) (rd row y) nx)
def wayFrom (g : List (List Int)) (row : List Int) : Nat → Nat → List Int → List Int
  | 0, _, nx => nx
  | d + 1, j, nx => wayFrom g row d (j + 1) (wayRow g row nx j)
def wayStep (g : List (List Int)) (row : List Int) : List Int := wayFrom g row g.length 0 (List.replicate g.length 0)
def wayIter (g : List (List Int)) : Nat → List Int → List Int
  | 0, r => r
  | k + 1, r => wayIter g k (wayStep g r)
def wayOf (g : List (List Int)) (q x : Nat) : List Int := wayIter g q ((List.replicate g.length 0).set x 1)
def waysTo (g : List (List Int)) (q x : Nat) : List (List Int) := (List.range x).map (wayOf g q)
theorem addE_length (z m : Int) (nx : List Int) : (addE z m nx).length = nx.length := by unfold addE; split <;> simp
theorem wayRow_length (g : List (List Int)) (row nx : List Int) (y : Int) : (wayRow g row nx y).length = nx.length := by unfold wayRow; rw [addE_length, addE_length]
theorem wayFrom_length (g : List (List Int)) (row : List Int) (d : Nat) : ∀ (j : Nat) (nx : List Int), (wayFrom g row d j nx).length = nx.length := by
  induction d with
  | zero => intro j nx; rfl
  | succ d ih => intro j nx; show (wayFrom g row d (j + 1) (wayRow g row nx j)).length = _; rw [ih, wayRow_length]
theorem wayStep_length (g : List (List Int)) (row : List Int) : (wayStep g row).length = g.length := by unfold wayStep; rw [wayFrom_length, List.length_replicate]
theorem wayIter_length (g : List (List Int)) (k : Nat) : ∀ row : List Int, row.length = g.length → (wayIter g k row).length = g.length := by
  induction k with
  | zero => intro row h; exact h
  | succ k ih => intro row h; exact ih _ (wayStep_length g row)
theorem wayOf_length (g : List (List Int)) (q x : Nat) : (wayOf g q x).length = g.length := wayIter_length g q _ (by simp)
theorem waysTo_length (g : List (List Int)) (q x : Nat) : (waysTo g q x).length = x := by simp [waysTo]
theorem waysTo_succ (g : List (List Int)) (q x : Nat) : waysTo g q (x + 1) = waysTo g q x ++ [wayOf g q x] := by simp [waysTo, List.range_succ]
theorem waysTo_get (g : List (List Int)) (q n x : Nat) (h : x < n) : rd_L1 (waysTo g q n) (x : Int) = wayOf g q x := by
  rw [rdL_get _ _ (by rw [waysTo_length]; exact h)]; simp [waysTo]
/-- A valid graph's rows, as places in lists. -/
def Rows2 (g : List (List Int)) : Prop := ∀ j : Nat, j < g.length → ∃ a b, rd_L1 g (j : Int) = [a, b] ∧ a < (g.length : Int) ∧ b < (g.length : Int) ∧ -1 ≤ a ∧ -1 ≤ b
theorem rows2_of {g : List (List Int)} (h : VG g = true) : Rows2 g := by
  intro j hj
  obtain ⟨_, h2⟩ := VG_iff h
  obtain ⟨a, b, e, ha, hb, _⟩ := h2 g[j] (List.getElem_mem hj)
  exact ⟨a, b, by rw [rdL_get _ _ hj, e], by omega, by omega, ha.1, hb.1⟩

theorem sw_l3 (g : List (List Int)) (hg : Rows2 g) (h12 : g.length ≤ 12) (Q : Int) (out : List (List Int)) (X : Int) (row : List Int) (KK : Int) (nx : List Int) (y : Nat) (hy : y < g.length) (hrow : row.length = g.length) (hnx : nx.length = g.length) {res : List (List Int)}
    (h : Ev (fun k => spec_l02Ways.l2 k Q (g.length : Int) out X row KK (wayRow g row nx (y : Int)) ((y + 1 : Nat) : Int) g) res) : Ev (fun k => spec_l02Ways.l3 k Q (g.length : Int) out X row KK nx (y : Int) 0 g) res := by
  obtain ⟨a, b, e, ha, hb, _, _⟩ := hg y hy
  have el := len2 a b
  have two : ∀ nx' : List Int, nx'.length = g.length → nx' = addE a (rd row (y : Int)) nx → Ev (fun k => spec_l02Ways.l3 k Q (g.length : Int) out X row KK nx' (y : Int) 1 g) res := by
    intro nx' hl he
    simp only [wayRow, e, rd0, rd1, ← he] at h
    by_cases cb : b ≥ 0
    · have eP : addE b (rd row (y : Int)) nx' = nx'.set b.toNat (wrap64 (rd nx' b + rd row (y : Int))) := by rw [addE, if_pos cb]
      rw [eP] at h
      refine Ev.step (fun k => by rw [spec_l02Ways.l3, if_pos (by decide), if_pos (by omega), if_pos (by omega), if_pos (by decide), e, if_pos (by rw [el]; decide), rd1, if_pos cb, if_pos cb, if_pos (by omega), if_pos (by omega), w11]) ?_
      exact Ev.step (fun k => by rw [spec_l02Ways.l3, if_neg (by decide), wrap_succ hy (by omega)]) h
    · have eP : addE b (rd row (y : Int)) nx' = nx' := by rw [addE, if_neg cb]
      rw [eP] at h
      refine Ev.step (fun k => by rw [spec_l02Ways.l3, if_pos (by decide), if_pos (by omega), if_pos (by omega), if_pos (by decide), e, if_pos (by rw [el]; decide), rd1, if_neg cb, w11]) ?_
      exact Ev.step (fun k => by rw [spec_l02Ways.l3, if_neg (by decide), wrap_succ hy (by omega)]) h
  by_cases ca : a ≥ 0
  · have eP : addE a (rd row (y : Int)) nx = nx.set a.toNat (wrap64 (rd nx a + rd row (y : Int))) := by rw [addE, if_pos ca]
    refine Ev.step (fun k => by rw [spec_l02Ways.l3, if_pos (by decide), if_pos (by omega), if_pos (by omega), if_pos (by decide), e, if_pos (by rw [el]; decide), rd0, if_pos ca, if_pos ca, if_pos (by omega), if_pos (by omega), w01]) ?_
    exact two _ (by simpa using hnx) eP.symm
  · have eP : addE a (rd row (y : Int)) nx = nx := by rw [addE, if_neg ca]
    refine Ev.step (fun k => by rw [spec_l02Ways.l3, if_pos (by decide), if_pos (by omega), if_pos (by omega), if_pos (by decide), e, if_pos (by rw [el]; decide), rd0, if_neg ca, w01]) ?_
    exact two _ hnx eP.symm
theorem sw_l2 (g : List (List Int)) (hg : Rows2 g) (h12 : g.length ≤ 12) (Q : Int) (out : List (List Int)) (X : Int) (row : List Int) (KK : Int) (hrow : row.length = g.length) {res : List (List Int)} (d : Nat) : ∀ (y : Nat) (nx : List Int), y + d = g.length → nx.length = g.length →
    Ev (fun k => spec_l02Ways.l1 k Q (g.length : Int) out X (wayFrom g row d y nx) (wrap64 (KK + 1)) g) res → Ev (fun k => spec_l02Ways.l2 k Q (g.length : Int) out X row KK nx (y : Int) g) res := by
  induction d with
  | zero => intro y nx h hn hr; exact Ev.step (fun k => by rw [spec_l02Ways.l2, if_neg (by omega)]; rfl) hr
  | succ d ih =>
    intro y nx h hn hr
    refine Ev.step (fun k => by rw [spec_l02Ways.l2, if_pos (by omega)]) ?_
    exact sw_l3 g hg h12 Q out X row KK nx y (by omega) hrow hn (ih (y + 1) _ (by omega) (by rw [wayRow_length]; exact hn) hr)
theorem sw_l1 (g : List (List Int)) (hg : Rows2 g) (h12 : g.length ≤ 12) (q : Nat) (hq : q ≤ 100) (out : List (List Int)) (ho : out.length ≤ 12) (x : Nat) (hx : x < g.length) {res : List (List Int)} (d : Nat) : ∀ (kk : Nat) (row : List Int), kk + d = q → row.length = g.length →
    Ev (fun k => spec_l02Ways.l0 k (q : Int) (g.length : Int) (out ++ [wayIter g d row]) ((x + 1 : Nat) : Int) g) res → Ev (fun k => spec_l02Ways.l1 k (q : Int) (g.length : Int) out (x : Int) row (kk : Int) g) res := by
  induction d with
  | zero => intro kk row h hr hres; exact Ev.step (fun k => by rw [spec_l02Ways.l1, if_neg (by omega), if_pos (by omega), wrap_succ hx (by omega)]; rfl) hres
  | succ d ih =>
    intro kk row h hr hres
    refine Ev.step (fun k => by rw [spec_l02Ways.l1, if_pos (by omega), if_pos (by omega), if_pos (by omega), Int.toNat_natCast]) ?_
    refine sw_l2 g hg h12 q out x row kk hr g.length 0 _ (by omega) (by simp) ?_
    rw [wrap_succ (j := kk) (n := 1000) (by omega) (by omega)]
    exact ih (kk + 1) _ (by omega) (wayStep_length g row) hres
theorem sw_l0 (g : List (List Int)) (hg : Rows2 g) (h12 : g.length ≤ 12) (q : Nat) (hq : q ≤ 100) (d : Nat) : ∀ x : Nat, x + d = g.length → Ev (fun k => spec_l02Ways.l0 k (q : Int) (g.length : Int) (waysTo g q x) (x : Int) g) (waysTo g q g.length) := by
  induction d with
  | zero =>
    intro x h
    obtain rfl : x = g.length := by omega
    exact ev_one (fun k => by rw [spec_l02Ways.l0, if_neg (by omega)])
  | succ d ih =>
    intro x h
    have hi := ih (x + 1) (by omega)
    rw [waysTo_succ] at hi
    refine Ev.step (fun k => by rw [spec_l02Ways.l0, if_pos (by omega), if_pos (by omega), if_pos (by omega), Option.bind_some, if_pos (by omega), Int.toNat_natCast, if_pos (by rw [List.length_replicate]; omega), Int.toNat_natCast]) ?_
    exact sw_l1 g hg h12 q hq _ (by rw [waysTo_length]; omega) x (by omega) q 0 _ (by omega) (by simp) hi
theorem specWays_ev (g : List (List Int)) (hg : Rows2 g) (h12 : g.length ≤ 12) (q : Nat) (hq : q ≤ 100) : Ev (fun k => spec_l02Ways.f k g (q : Int)) (waysTo g q g.length) :=
  sw_l0 g hg h12 q hq g.length 0 (by omega)

theorem iw_l3 (g : List (List Int)) (hg : Rows2 g) (h12 : g.length ≤ 12) (Q : Int) (out : List (List Int)) (L X Q2 KK : Int) (row : List Int) (N : Int) (nx : List Int) (y : Nat) (hy : y < g.length) (hnx : nx.length = g.length) {res : List (List Int)}
    (h : Ev (fun k => impl_Graph_ways.l2 k Q (g.length : Int) out (wayRow g row nx (y : Int)) L X Q2 KK row N ((y + 1 : Nat) : Int) g) res) : Ev (fun k => impl_Graph_ways.l3 k Q (g.length : Int) out nx (rd row (y : Int)) L X Q2 KK row N (y : Int) (rd_L1 g (y : Int)) ((rd_L1 g (y : Int)).length : Int) 0 g) res := by
  obtain ⟨a, b, e, ha, hb, _, _⟩ := hg y hy
  have el := len2 a b
  rw [e]
  have two : ∀ nx' : List Int, nx'.length = g.length → nx' = addE a (rd row (y : Int)) nx → Ev (fun k => impl_Graph_ways.l3 k Q (g.length : Int) out nx' (rd row (y : Int)) L X Q2 KK row N (y : Int) [a, b] (([a, b] : List Int).length : Int) 1 g) res := by
    intro nx' hl he
    simp only [wayRow, e, rd0, rd1, ← he] at h
    by_cases cb : b ≥ 0
    · have eP : addE b (rd row (y : Int)) nx' = nx'.set b.toNat (wrap64 (rd nx' b + rd row (y : Int))) := by rw [addE, if_pos cb]
      rw [eP] at h
      refine Ev.step (fun k => by rw [impl_Graph_ways.l3, if_pos (by rw [el]; decide), if_pos (by decide), if_pos (by rw [el]; decide), rd1, if_pos cb, if_pos cb, if_pos (by omega), w11]) ?_
      exact Ev.step (fun k => by rw [impl_Graph_ways.l3, if_neg (by rw [el]; decide), wrap_succ hy (by omega)]) h
    · have eP : addE b (rd row (y : Int)) nx' = nx' := by rw [addE, if_neg cb]
      rw [eP] at h
      refine Ev.step (fun k => by rw [impl_Graph_ways.l3, if_pos (by rw [el]; decide), if_pos (by decide), if_pos (by rw [el]; decide), rd1, if_neg cb, w11]) ?_
      exact Ev.step (fun k => by rw [impl_Graph_ways.l3, if_neg (by rw [el]; decide), wrap_succ hy (by omega)]) h
  by_cases ca : a ≥ 0
  · have eP : addE a (rd row (y : Int)) nx = nx.set a.toNat (wrap64 (rd nx a + rd row (y : Int))) := by rw [addE, if_pos ca]
    refine Ev.step (fun k => by rw [impl_Graph_ways.l3, if_pos (by rw [el]; decide), if_pos (by decide), if_pos (by rw [el]; decide), rd0, if_pos ca, if_pos ca, if_pos (by omega), w01]) ?_
    exact two _ (by simpa using hnx) eP.symm
  · have eP : addE a (rd row (y : Int)) nx = nx := by rw [addE, if_neg ca]
    refine Ev.step (fun k => by rw [impl_Graph_ways.l3, if_pos (by rw [el]; decide), if_pos (by decide), if_pos (by rw [el]; decide), rd0, if_neg ca, w01]) ?_
    exact two _ hnx eP.symm
theorem iw_l2 (g : List (List Int)) (hg : Rows2 g) (h12 : g.length ≤ 12) (Q : Int) (out : List (List Int)) (L X Q2 KK : Int) (row : List Int) (hrow : row.length = g.length) {res : List (List Int)} (d : Nat) : ∀ (y : Nat) (nx : List Int), y + d = g.length → nx.length = g.length →
    Ev (fun k => impl_Graph_ways.l1 k Q (g.length : Int) out (wayFrom g row d y nx) L X Q2 (wrap64 (KK + 1)) g) res → Ev (fun k => impl_Graph_ways.l2 k Q (g.length : Int) out nx L X Q2 KK row (row.length : Int) (y : Int) g) res := by
  induction d with
  | zero => intro y nx h hn hr; exact Ev.step (fun k => by rw [impl_Graph_ways.l2, if_neg (by omega)]; rfl) hr
  | succ d ih =>
    intro y nx h hn hr
    refine Ev.step (fun k => by rw [impl_Graph_ways.l2, if_pos (by omega), if_pos (by omega), if_pos (by omega), if_pos (by omega)]) ?_
    exact iw_l3 g hg h12 Q out L X Q2 KK row _ nx y (by omega) hn (ih (y + 1) _ (by omega) (by rw [wayRow_length]; exact hn) hr)
theorem iw_l1 (g : List (List Int)) (hg : Rows2 g) (h12 : g.length ≤ 12) (q : Nat) (hq : q ≤ 100) (out : List (List Int)) (ho : out.length ≤ 12) (x : Nat) (hx : x < g.length) {res : List (List Int)} (d : Nat) : ∀ (kk : Nat) (row : List Int), kk + d = q → row.length = g.length →
    Ev (fun k => impl_Graph_ways.l0 k (q : Int) (g.length : Int) (out ++ [wayIter g d row]) (g.length : Int) ((x + 1 : Nat) : Int) g) res → Ev (fun k => impl_Graph_ways.l1 k (q : Int) (g.length : Int) out row (g.length : Int) (x : Int) (q : Int) (kk : Int) g) res := by
  induction d with
  | zero => intro kk row h hr hres; exact Ev.step (fun k => by rw [impl_Graph_ways.l1, if_neg (by omega), if_pos (by omega), wrap_succ hx (by omega)]; rfl) hres
  | succ d ih =>
    intro kk row h hr hres
    refine Ev.step (fun k => by rw [impl_Graph_ways.l1, if_pos (by omega), if_pos (by omega), if_pos (by omega), Int.toNat_natCast]) ?_
    refine iw_l2 g hg h12 q out g.length x q kk row hr g.length 0 _ (by omega) (by simp) ?_
    rw [wrap_succ (j := kk) (n := 1000) (by omega) (by omega)]
    exact ih (kk + 1) _ (by omega) (wayStep_length g row) hres
theorem iw_l0 (g : List (List Int)) (hg : Rows2 g) (h12 : g.length ≤ 12) (q : Nat) (hq : q ≤ 100) (d : Nat) : ∀ x : Nat, x + d = g.length → Ev (fun k => impl_Graph_ways.l0 k (q : Int) (g.length : Int) (waysTo g q x) (g.length : Int) (x : Int) g) (waysTo g q g.length) := by
  induction d with
  | zero =>
    intro x h
    obtain rfl : x = g.length := by omega
    exact ev_one (fun k => by rw [impl_Graph_ways.l0, if_neg (by omega)])
  | succ d ih =>
    intro x h
    have hi := ih (x + 1) (by omega)
    rw [waysTo_succ] at hi
    refine Ev.step (fun k => by rw [impl_Graph_ways.l0, if_pos (by omega), if_pos (by omega), if_pos (by omega), Option.bind_some, if_pos (by omega), Int.toNat_natCast, if_pos (by rw [List.length_replicate]; omega), Int.toNat_natCast]) ?_
    exact iw_l1 g hg h12 q hq _ (by rw [waysTo_length]; omega) x (by omega) q 0 _ (by omega) (by simp) hi
theorem implWays_ev (g : List (List Int)) (hg : Rows2 g) (h12 : g.length ≤ 12) (q : Nat) (hq : q ≤ 100) : Ev (fun k => impl_Graph_ways.f k g (q : Int)) (waysTo g q g.length) :=
  iw_l0 g hg h12 q hq g.length 0 (by omega)

/-- The sum over the states from j on, as both reckon it. -/
def dotFrom (ws vec : List Int) : Nat → Nat → Int → Int
  | 0, _, acc => acc
  | d + 1, j, acc => dotFrom ws vec d (j + 1) (wrap64 (acc + wrap64 (rd ws (j : Int) * rd vec (j : Int))))
def tooG (ws vec : List Int) (p x : Int) : Bool := decide (dotFrom ws vec ws.length 0 0 < shl .i64 (rd vec x) p)
theorem tooG_loop (ws vec : List Int) (p : Int) (hp : 0 ≤ p) (x : Nat) (hx : x < vec.length) (hl : ws.length = vec.length) (h12 : vec.length ≤ 100) (d : Nat) : ∀ (j : Nat) (acc : Int), j + d = ws.length →
    Ev (fun k => impl_tooGreat.l0 k vec p (x : Int) acc ws (ws.length : Int) (j : Int)) (decide (dotFrom ws vec d j acc < shl .i64 (rd vec (x : Int)) p)) := by
  induction d with
  | zero => intro j acc h; exact ev_one (fun k => by rw [impl_tooGreat.l0, if_neg (by omega), if_pos (by omega), if_pos (by omega), if_pos hp]; rfl)
  | succ d ih =>
    intro j acc h
    exact Ev.step (fun k => by rw [impl_tooGreat.l0, if_pos (by omega), if_pos (by omega), if_pos (by omega), if_pos (by omega), wrap_succ (j := j) (n := ws.length) (by omega) (by omega)]) (ih (j + 1) _ (by omega))
theorem tooG_ev (ws vec : List Int) (p : Int) (hp : 0 ≤ p) (x : Nat) (hx : x < vec.length) (hl : ws.length = vec.length) (h12 : vec.length ≤ 100) : Ev (fun k => impl_tooGreat.f k ws vec p (x : Int)) (tooG ws vec p (x : Int)) :=
  tooG_loop ws vec p hp x hx hl h12 ws.length 0 0 (by omega)
theorem spec_dot (g : List (List Int)) (q : Nat) (vec : List Int) (p : Int) (hp : 0 ≤ p ∧ p ≤ 8) (some : Bool) (x : Nat) (hx : x < vec.length) (hl : vec.length = g.length) (h12 : vec.length ≤ 12) {res : Bool} (d : Nat) : ∀ (j : Nat) (acc : Int), j + d = g.length →
    Ev (fun k => if dotFrom (wayOf g q x) vec d j acc < shl .i64 (rd vec (x : Int)) p then (Option.some false) else spec_IsCodeVector.l1 k p vec some (waysTo g q g.length) ((x + 1 : Nat) : Int)) res →
    Ev (fun k => spec_IsCodeVector.l2 k p vec some (waysTo g q g.length) (x : Int) acc (j : Int)) res := by
  have hu : IntKind.u64.wrap p = p := u64_in (by omega) (by omega)
  induction d with
  | zero =>
    intro j acc h hr
    exact Ev.step (fun k => by rw [spec_IsCodeVector.l2, if_neg (by omega), if_pos (by omega), if_pos (by omega), hu, if_pos hp.1, wrap_succ hx (by omega)]; rfl) hr
  | succ d ih =>
    intro j acc h hr
    have hw := waysTo_get g q g.length x (by omega)
    have hl2 := wayOf_length g q x
    exact Ev.step (fun k => by rw [spec_IsCodeVector.l2, if_pos (by omega), if_pos (by omega), if_pos (by rw [waysTo_length]; omega), if_pos (by omega), hw, if_pos (by omega), wrap_succ (j := j) (n := g.length) (by omega) (by omega)]) (ih (j + 1) _ (by omega) hr)
theorem spec_vec (g : List (List Int)) (q : Nat) (vec : List Int) (p : Int) (hp : 0 ≤ p ∧ p ≤ 8) (some : Bool) (hl : vec.length = g.length) (h12 : vec.length ≤ 12) (M : Int) (hM : Ev (fun k => slices_Max_int64_int64.f k vec) M) (hs : some = decide (M > 0)) (d : Nat) : ∀ x : Nat, x + d = vec.length →
    ∃ r, Ev (fun k => spec_IsCodeVector.l1 k p vec some (waysTo g q g.length) (x : Int)) r ∧ Ev (fun k => impl_IsCodeVector.l0 k p vec (waysTo g q g.length) (vec.length : Int) (x : Int)) r := by
  induction d with
  | zero =>
    intro x h
    refine ⟨some, ev_one (fun k => by rw [spec_IsCodeVector.l1, if_neg (by omega)]), ?_⟩
    rw [hs]
    exact Ev.step (fun k => by rw [impl_IsCodeVector.l0, if_neg (by omega)]) (Ev.bind hM (Ev.now _))
  | succ d ih =>
    intro x h
    have hx : x < vec.length := by omega
    obtain ⟨r, h1, h2⟩ := ih (x + 1) (by omega)
    have hw := waysTo_get g q g.length x (by omega)
    have hl2 := wayOf_length g q x
    have ht := tooG_ev (wayOf g q x) vec p hp.1 x hx (by omega) (by omega)
    have spec : ∀ r', Ev (fun k => if dotFrom (wayOf g q x) vec g.length 0 0 < shl .i64 (rd vec (x : Int)) p then (Option.some false) else spec_IsCodeVector.l1 k p vec some (waysTo g q g.length) ((x + 1 : Nat) : Int)) r' → Ev (fun k => spec_IsCodeVector.l1 k p vec some (waysTo g q g.length) (x : Int)) r' := fun r' hr' =>
      Ev.step (fun k => by rw [spec_IsCodeVector.l1, if_pos (by omega)]; rfl) (spec_dot g q vec p hp some x hx hl h12 g.length 0 0 (by omega) hr')
    unfold tooG at ht
    rw [hl2] at ht
    by_cases c : dotFrom (wayOf g q x) vec g.length 0 0 < shl .i64 (rd vec (x : Int)) p
    · rw [decide_eq_true c] at ht
      refine ⟨false, spec _ (ev_pos c (Ev.now _)), ?_⟩
      exact Ev.step (fun k => by rw [impl_IsCodeVector.l0, if_pos (by omega), if_pos (by omega), if_pos (by rw [waysTo_length]; omega), hw]) (Ev.bind ht (ev_pos rfl (Ev.now _)))
    · rw [decide_eq_false c] at ht
      refine ⟨r, spec _ (ev_neg c h1), ?_⟩
      exact Ev.step (fun k => by rw [impl_IsCodeVector.l0, if_pos (by omega), if_pos (by omega), if_pos (by rw [waysTo_length]; omega), hw, wrap_succ hx (by omega)]) (Ev.bind ht (ev_neg Bool.false_ne_true h2))
theorem max_loop (l : List Int) (hn : l.length ≤ 1000) (d : Nat) : ∀ (j : Nat) (m : Int), j + d = l.length →
    ∃ M, Ev (fun k => slices_Max_int64_int64.l0 k l m (j : Int)) M ∧ (M > 0 ↔ m > 0 ∨ ∃ x ∈ l.drop j, x > 0) := by
  induction d with
  | zero =>
    intro j m h
    refine ⟨m, ev_one (fun k => by rw [slices_Max_int64_int64.l0, if_neg (by omega)]), ?_⟩
    rw [List.drop_eq_nil_of_le (by omega)]
    simp
  | succ d ih =>
    intro j m h
    have hj : j < l.length := by omega
    obtain ⟨M, h1, h2⟩ := ih (j + 1) (mx m (rd l (j : Int))) (by omega)
    refine ⟨M, Ev.step (fun k => by rw [slices_Max_int64_int64.l0, if_pos (by omega), if_pos (by omega), wrap_succ hj (by omega)]) h1, ?_⟩
    rw [h2, rd_get _ _ hj, drop_cons _ _ hj]
    have hm : mx m l[j] > 0 ↔ m > 0 ∨ l[j] > 0 := by unfold mx; split <;> omega
    rw [hm]
    simp only [List.mem_cons]
    constructor
    · rintro ((h | h) | ⟨x, hx, h⟩)
      · exact .inl h
      · exact .inr ⟨_, .inl rfl, h⟩
      · exact .inr ⟨x, .inr hx, h⟩
    · rintro (h | ⟨x, rfl | hx, h⟩)
      · exact .inl (.inl h)
      · exact .inl (.inr h)
      · exact .inr ⟨x, hx, h⟩
theorem max_ev (l : List Int) (h0 : 0 < l.length) (hn : l.length ≤ 1000) : ∃ M, Ev (fun k => slices_Max_int64_int64.f k l) M ∧ (M > 0 ↔ ∃ x ∈ l, x > 0) := by
  obtain ⟨M, h1, h2⟩ := max_loop l hn (l.length - 1) 1 (rd l ((0 : Nat) : Int)) (by omega)
  refine ⟨M, ?_, ?_⟩
  · refine Ev.congr (fun k => ?_) h1
    unfold slices_Max_int64_int64.f
    rw [if_neg (by omega), if_pos (by omega)]
    rfl
  · rw [h2, rd_get _ _ h0]
    constructor
    · rintro (h | ⟨x, hx, h⟩)
      · exact ⟨_, List.getElem_mem h0, h⟩
      · exact ⟨x, List.mem_of_mem_drop hx, h⟩
    · rintro ⟨x, hx, h⟩
      have := drop_cons l 0 h0
      rw [List.drop_zero] at this
      rw [this] at hx
      rcases List.mem_cons.1 hx with rfl | hx
      · exact .inl h
      · exact .inr ⟨x, hx, h⟩
/-- The reference's look over the numbers. -/
theorem spec_range (g : List (List Int)) (vec : List Int) (p : Int) (q : Nat) (hn : vec.length ≤ 12) {W : List (List Int)} (hW : Ev (fun k => spec_l02Ways.f k g (q : Int)) W) (d : Nat) : ∀ (j : Nat) (s : Bool), j + d = vec.length →
    (((vec.drop j).all fun x => decide (0 ≤ x ∧ x ≤ 30)) = false → Ev (fun k => spec_IsCodeVector.l0 k p (q : Int) vec s (j : Int) g) false) ∧
    (((vec.drop j).all fun x => decide (0 ≤ x ∧ x ≤ 30)) = true → ∀ r, Ev (fun k => spec_IsCodeVector.l1 k p vec (s || (vec.drop j).any fun x => decide (x > 0)) W 0) r → Ev (fun k => spec_IsCodeVector.l0 k p (q : Int) vec s (j : Int) g) r) := by
  induction d with
  | zero =>
    intro j s h
    rw [List.drop_eq_nil_of_le (by omega)]
    refine ⟨(fun h => by cases h), fun _ r hr => ?_⟩
    rw [List.any_nil, Bool.or_false] at hr
    exact Ev.step (fun k => by rw [spec_IsCodeVector.l0, if_neg (by omega)]) (Ev.bind hW hr)
  | succ d ih =>
    intro j s h
    have hj : j < vec.length := by omega
    have hw := wrap_succ hj (by omega)
    rw [drop_cons _ _ hj, List.all_cons, List.any_cons]
    by_cases c : 0 ≤ vec[j] ∧ vec[j] ≤ 30
    · rw [decide_eq_true c, Bool.true_and]
      have st : ∀ r, Ev (fun k => spec_IsCodeVector.l0 k p (q : Int) vec (s || decide (vec[j] > 0)) ((j + 1 : Nat) : Int) g) r → Ev (fun k => spec_IsCodeVector.l0 k p (q : Int) vec s (j : Int) g) r := by
        intro r hr
        cases s with
        | true =>
          rw [Bool.true_or] at hr
          exact Ev.step (fun k => by rw [spec_IsCodeVector.l0, if_pos (by omega), if_pos (by omega), rd_get _ _ hj, spec_in, decide_eq_true c, Option.bind_some, if_pos rfl, if_pos rfl, hw]) hr
        | false =>
          rw [Bool.false_or] at hr
          exact Ev.step (fun k => by rw [spec_IsCodeVector.l0, if_pos (by omega), if_pos (by omega), rd_get _ _ hj, spec_in, decide_eq_true c, Option.bind_some, if_pos rfl, if_neg Bool.false_ne_true, hw]) hr
      obtain ⟨h1, h2⟩ := ih (j + 1) (s || decide (vec[j] > 0)) (by omega)
      refine ⟨fun h => st _ (h1 h), fun h r hr => st _ (h2 h r ?_)⟩
      rw [Bool.or_assoc]
      exact hr
    · rw [decide_eq_false c, Bool.false_and]
      refine ⟨fun _ => ?_, (fun h => by cases h)⟩
      exact ev_one (fun k => by rw [spec_IsCodeVector.l0, if_pos (by omega), if_pos (by omega), rd_get _ _ hj, spec_in, decide_eq_false c, Option.bind_some, if_neg Bool.false_ne_true])
theorem rate_f (p q : Int) : spec_l02Rate.f p q = some (decide ((1 ≤ p ∧ p ≤ 8) ∧ (1 ≤ q ∧ q ≤ 8))) := by
  unfold spec_l02Rate.f
  rw [spec_in, spec_in]
  by_cases c : 1 ≤ p ∧ p ≤ 8
  · simp [c]
  · simp [c]
theorem exp_f (p : Int) : impl_isExponent.f p = some (decide (1 ≤ p ∧ p ≤ 8)) := by
  unfold impl_isExponent.f
  rw [impl_in]
  rfl
theorem codeVec_both (g : List (List Int)) (p q : Int) (vec : List Int) (hr : ∀ r ∈ g, r.length ≤ 9223372036854775807) (hv : vec.length ≤ 1048576) :
    ∃ r, Ev (fun k => spec_IsCodeVector.f k g p q vec) r ∧ Ev (fun k => impl_IsCodeVector.f k g p q vec) r := by
  have hs := specIs_ev g
  have hi := implVG_ev g hr
  have sno : Ev (fun k => spec_IsCodeVector.j0 k p q vec true g) false := ev_one (fun k => by rw [spec_IsCodeVector.j0, if_pos rfl])
  have ino : Ev (fun k => impl_IsCodeVector.j0 k p q vec true g) false := ev_one (fun k => by rw [impl_IsCodeVector.j0, if_pos rfl])
  unfold spec_IsCodeVector.f impl_IsCodeVector.f
  cases e : VG g with
  | false =>
    rw [e] at hs hi
    exact ⟨false, Ev.bind hs (ev_neg Bool.false_ne_true sno), Ev.bind hi (ev_neg Bool.false_ne_true ino)⟩
  | true =>
    rw [e] at hs hi
    by_cases cp : 1 ≤ p ∧ p ≤ 8
    · by_cases cq : 1 ≤ q ∧ q ≤ 8
      · have er : spec_l02Rate.f p q = some true := by rw [rate_f, decide_eq_true ⟨cp, cq⟩]
        have e1 : impl_isExponent.f p = some true := by rw [exp_f, decide_eq_true cp]
        have e2 : impl_isExponent.f q = some true := by rw [exp_f, decide_eq_true cq]
        have g12 := (VG_iff e).1
        suffices h : ∃ r, Ev (fun k => spec_IsCodeVector.j0 k p q vec ((vec.length : Int) != (g.length : Int)) g) r ∧ Ev (fun k => if (vec.length : Int) = (g.length : Int) then ((impl_areIn.f k vec 0 30).bind fun t216 => (impl_IsCodeVector.j0 k p q vec (!t216) g)) else impl_IsCodeVector.j0 k p q vec true g) r by
          obtain ⟨r, h1, h2⟩ := h
          exact ⟨r, Ev.bind hs (ev_pos rfl (ev_to er (ev_pos rfl h1))), Ev.bind hi (ev_pos rfl (ev_to e1 (ev_pos rfl (ev_to e2 (ev_pos rfl h2)))))⟩
        by_cases cl : (vec.length : Int) = (g.length : Int)
        · have hl : vec.length = g.length := by omega
          obtain ⟨n, rfl⟩ := Int.eq_ofNat_of_zero_le (show 0 ≤ q by omega)
          have hg := rows2_of e
          have hsw := specWays_ev g hg (by omega) n (by omega)
          have hiw := implWays_ev g hg (by omega) n (by omega)
          have ha := areIn_ev vec 0 30 (by omega)
          obtain ⟨r1, r2⟩ := spec_range g vec p n (by omega) hsw vec.length 0 false (by omega)
          rw [List.drop_zero] at r1 r2
          have enq : ((vec.length : Int) != (g.length : Int)) = false := by simp [cl]
          rw [enq]
          have sj : ∀ r, Ev (fun k => spec_IsCodeVector.l0 k p (n : Int) vec false 0 g) r → Ev (fun k => spec_IsCodeVector.j0 k p (n : Int) vec false g) r := fun r h => Ev.step (fun k => by rw [spec_IsCodeVector.j0, if_neg Bool.false_ne_true]) h
          cases ea : vec.all fun x => decide (0 ≤ x ∧ x ≤ 30) with
          | false =>
            rw [ea] at ha
            exact ⟨false, sj _ (r1 ea), ev_pos cl (Ev.bind ha ino)⟩
          | true =>
            rw [ea] at ha
            obtain ⟨M, hM, hM2⟩ := max_ev vec (by omega) (by omega)
            have es : (false || vec.any fun x => decide (x > 0)) = decide (M > 0) := by
              rw [Bool.false_or, Bool.eq_iff_iff, List.any_eq_true, decide_eq_true_iff, hM2]
              simp
            obtain ⟨r, h1, h2⟩ := spec_vec g n vec p (by omega) (decide (M > 0)) hl (by omega) M hM rfl vec.length 0 (by omega)
            refine ⟨r, sj _ (r2 ea r ?_), ev_pos cl (Ev.bind ha ?_)⟩
            · rw [es]; exact h1
            · exact Ev.step (fun k => by rw [impl_IsCodeVector.j0, if_neg (by decide)]) (Ev.bind hiw h2)
        · have enq : ((vec.length : Int) != (g.length : Int)) = true := by simp [cl]
          rw [enq]
          exact ⟨false, sno, ev_neg cl ino⟩
      · have er : spec_l02Rate.f p q = some false := by rw [rate_f, decide_eq_false (fun h => cq h.2)]
        have e1 : impl_isExponent.f p = some true := by rw [exp_f, decide_eq_true cp]
        have e2 : impl_isExponent.f q = some false := by rw [exp_f, decide_eq_false cq]
        exact ⟨false, Ev.bind hs (ev_pos rfl (ev_to er (ev_neg Bool.false_ne_true sno))), Ev.bind hi (ev_pos rfl (ev_to e1 (ev_pos rfl (ev_to e2 (ev_neg Bool.false_ne_true ino)))))⟩
    · have er : spec_l02Rate.f p q = some false := by rw [rate_f, decide_eq_false (fun h => cp h.1)]
      have e1 : impl_isExponent.f p = some false := by rw [exp_f, decide_eq_false cp]
      exact ⟨false, Ev.bind hs (ev_pos rfl (ev_to er (ev_neg Bool.false_ne_true sno))), Ev.bind hi (ev_pos rfl (ev_to e1 (ev_neg Bool.false_ne_true ino)))⟩
theorem FnExactIsCodeVector : laws_FnExactIsCodeVector.Pure := by
  intro g p q vec hn hl _ _ hvn hvw
  apply Ev.rounds
  unfold laws_FnExactIsCodeVector.f
  by_cases cv : (vec.length : Int) > 1048576
  · exact ev_pos cv (Ev.now _)
  · refine ev_neg cv ?_
    obtain ⟨r, hr, hp⟩ := szGraph_ev g hn (fun x hx => (hl x hx).1)
    refine Ev.bind hr ?_
    by_cases c : r < 0
    · exact ev_pos c (Ev.now _)
    · obtain ⟨h1, h2⟩ := hp (by omega)
      have ht := toGraph_ev g h1 h2
      have hv := toInt64S_ev vec (by omega)
      obtain ⟨v, hs, hi⟩ := codeVec_both g p q vec (fun x hx => (hl x hx).1) (by omega)
      exact ev_neg c (Ev.bind ht (Ev.bind hv (Ev.bind hs (Ev.bind ht (Ev.bind hv (Ev.bind hi (ev_neg (by simp) (Ev.bind ht (Ev.bind (eqGraph_ev g h1 h2) (ev_pos rfl (Ev.bind hv (Ev.bind (eqInt64S_ev vec (by omega)) (ev_pos rfl (Ev.now _))))))))))))))

end Go.Proofs.Ytanndepgepgfoaa.Pure
