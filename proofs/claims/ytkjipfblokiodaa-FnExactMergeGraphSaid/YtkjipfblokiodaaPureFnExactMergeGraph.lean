/-
The plain law of FnExactMergeGraph: both make the same graph and the same classes, and what is marked is held; conditions: those of the statement.
-/
import Derived.Test.YtkjipfblokiodaaQFnExactMergeGraphx8
namespace Go.Proofs.Ytkjipfblokiodaa.Pure
open Go.RowKit Go.Proofs.Ytkjipfblokiodaa.QFnExactMergeGraph Go.Proofs.YtkjipfblokiodaaW.PrintWords Go.Proofs.YtkjipfblokiodaaW.PrintLast Go.Proofs.YtkjipfblokiodaaW.PrintMore
set_option linter.unusedVariables false

theorem ev_one {α : Type} {g : Nat → Option α} {r : α} (h : ∀ k, g (k + 1) = some r) : Ev g r :=
  ⟨1, fun k hk => by obtain ⟨m, rfl⟩ : ∃ m, k = m + 1 := ⟨k - 1, by omega⟩; exact h m⟩
theorem wrap64_in {x : Int} (h0 : -9223372036854775808 ≤ x) (h1 : x ≤ 9223372036854775807) : wrap64 x = x := by
  unfold wrap64; omega
theorem u64_in {x : Int} (h0 : 0 ≤ x) (h1 : x ≤ 18446744073709551615) : IntKind.u64.wrap x = x := by
  simp [IntKind.wrap, IntKind.bits, IntKind.signed]; omega
theorem i64_in {x : Int} (h0 : -9223372036854775808 ≤ x) (h1 : x ≤ 9223372036854775807) : IntKind.i64.wrap x = x := by
  rw [IntKind.wrap_i64]; omega
theorem and_one (x : Int) : Go.bits .and .i64 x 1 = x % 2 := by
  have h : (BitVec.ofInt 64 x &&& BitVec.ofInt 64 1).toNat = (x % 2).toNat := by
    have e1 : BitVec.ofInt 64 1 = 1#64 := by decide
    rw [e1, BitVec.toNat_and, BitVec.toNat_ofInt]
    have e2 : (1#64).toNat = 1 := by decide
    rw [e2, Nat.and_one_is_mod]
    omega
  show IntKind.i64.wrap (((BitVec.ofInt 64 x &&& BitVec.ofInt 64 1).toNat : Nat) : Int) = x % 2
  rw [h, i64_in (by omega) (by omega)]
  omega
theorem wf_i64 {x : Int} (h : (Lit.int .i64 x).wf = true) : -9223372036854775808 ≤ x ∧ x ≤ 9223372036854775807 := by
  simp [Lit.wf, IntKind.min, IntKind.max, IntKind.signed, IntKind.bits] at h
  omega
theorem pow_pos_int (d : Nat) : (0 : Int) < 2 ^ d := Int.pow_pos (by decide)
theorem pow_le_int {a b : Nat} (h : a ≤ b) : (2 : Int) ^ a ≤ 2 ^ b := by
  have := Nat.pow_le_pow_right (n := 2) (by decide) h
  exact_mod_cast this

theorem ev_pos {α : Type} {c : Prop} [Decidable c] {g h : Nat → Option α} {r : α} (hc : c) (hg : Ev g r) : Ev (fun k => if c then g k else h k) r := by
  obtain ⟨K, hK⟩ := hg
  exact ⟨K, fun k hk => (if_pos hc).trans (hK k hk)⟩
theorem ev_neg {α : Type} {c : Prop} [Decidable c] {g h : Nat → Option α} {r : α} (hc : ¬ c) (hg : Ev h r) : Ev (fun k => if c then g k else h k) r := by
  obtain ⟨K, hK⟩ := hg
  exact ⟨K, fun k hk => (if_neg hc).trans (hK k hk)⟩
theorem ev_some {α β : Type} {f : Nat → α → Option β} {a : α} {r : β} (h : Ev (fun k => f k a) r) : Ev (fun k => (some a).bind (f k)) r := h
theorem ev_to {α β : Type} {x : Option α} {f : Nat → α → Option β} {a : α} {r : β} (e : x = some a) (h : Ev (fun k => f k a) r) : Ev (fun k => x.bind (f k)) r := by subst e; exact h
theorem ev_det {α : Type} {g : Nat → Option α} {r r' : α} (h : Ev g r) (h' : Ev g r') : r = r' := by
  obtain ⟨K, hK⟩ := h
  obtain ⟨K', hK'⟩ := h'
  have h1 := hK (max K K') (Nat.le_max_left _ _)
  have h2 := hK' (max K K') (Nat.le_max_right _ _)
  rw [h1] at h2
  exact Option.some.inj h2
theorem wrap_succ {j n : Nat} (h : j < n) (hn : n ≤ 9223372036854775807) : wrap64 ((j : Int) + 1) = ((j + 1 : Nat) : Int) := by
  rw [wrap64_in (by omega) (by omega)]; omega
theorem nat0 (j : Nat) : (0 : Int) ≤ (j : Int) := Int.natCast_nonneg j
theorem rd_nat (l : List Int) (j : Nat) : rd l (j : Int) = l.getD j 0 := by unfold rd; rw [Int.toNat_natCast]
theorem rd_get (l : List Int) (j : Nat) (h : j < l.length) : rd l (j : Int) = l[j] := by rw [rd_nat, List.getD_eq_getElem?_getD, List.getElem?_eq_getElem h]; rfl
theorem drop_cons {α : Type} (l : List α) (j : Nat) (h : j < l.length) : l.drop j = l[j] :: l.drop (j + 1) := List.drop_eq_getElem_cons h
theorem take_snoc' {α : Type} (l : List α) (j : Nat) (h : j < l.length) : l.take (j + 1) = l.take j ++ [l[j]] := List.take_succ_eq_append_getElem h
theorem set_take {α : Type} (acc : List α) (j : Nat) (x : α) (h : j < acc.length) : (acc.set j x).take (j + 1) = acc.take j ++ [x] := by
  rw [List.take_set, List.take_succ_eq_append_getElem h, List.set_append_right _ _ (by simp; omega)]
  have : (acc.take j).length = j := by rw [List.length_take]; omega
  rw [this, Nat.sub_self]
  rfl
theorem take_all {α : Type} {a b : List α} {n : Nat} (ha : a.length = n) (hb : b.length = n) (h : a.take n = b.take n) : a = b := by
  rw [List.take_of_length_le (by omega), List.take_of_length_le (by omega)] at h; exact h
theorem w01 : wrap64 (0 + 1) = 1 := by unfold wrap64; decide
theorem w11 : wrap64 (1 + 1) = 2 := by unfold wrap64; decide

theorem spec_in (a b c : Int) : spec_l00In.f a b c = some (decide (b ≤ a ∧ a ≤ c)) := by
  unfold spec_l00In.f
  by_cases h : a ≥ b
  · rw [if_pos h]; congr 1; have : b ≤ a := h; simp [this]
  · rw [if_neg h]; congr 1; have : ¬ b ≤ a := h; simp [this]
theorem impl_in (a b c : Int) : impl_within.f a b c = some (decide (b ≤ a ∧ a ≤ c)) := by
  unfold impl_within.f
  by_cases h : a ≥ b
  · rw [if_pos h]; congr 1; have : b ≤ a := h; simp [this]
  · rw [if_neg h]; congr 1; have : ¬ b ≤ a := h; simp [this]

theorem rdL_get (l : List (List Int)) (j : Nat) (h : j < l.length) : rd_L1 l (j : Int) = l[j] := by
  unfold rd_L1; rw [Int.toNat_natCast, List.getD_eq_getElem?_getD, List.getElem?_eq_getElem h]; rfl

theorem toInt64S_loop (l : List Int) (hn : l.length ≤ 1048576) (d : Nat) : ∀ (j : Nat) (acc : List Int), j + d = l.length → acc.length = l.length → acc.take j = l.take j →
    Ev (fun k => laws_toInt64S.l0 k l acc (j : Int)) l := by
  induction d with
  | zero =>
    intro j acc h1 h2 h3
    obtain rfl : acc = l := take_all (n := j) (by omega) (by omega) h3
    exact ev_one (fun k => by rw [laws_toInt64S.l0, if_neg (by omega)])
  | succ d ih =>
    intro j acc h1 h2 h3
    have hj : j < l.length := by omega
    refine Ev.step (fun k => ?_) (ih (j + 1) (acc.set j l[j]) (by omega) (by simpa using h2) (by rw [set_take _ _ _ (by omega), take_snoc' _ _ hj, h3]))
    rw [laws_toInt64S.l0, if_pos (by omega), if_pos (by omega), if_pos (by omega), wrap_succ hj (by omega), rd_get _ _ hj, Int.toNat_natCast]
theorem toInt64S_ev (l : List Int) (hn : l.length ≤ 1048576) : Ev (fun k => laws_toInt64S.f k l) l := by
  refine Ev.congr (fun k => ?_) (toInt64S_loop l hn l.length 0 (List.replicate l.length 0) (by omega) (by simp) (by simp))
  unfold laws_toInt64S.f
  rw [if_pos (by omega), if_pos (by omega), Int.toNat_natCast]
  rfl
theorem eqInt64S_loop (l : List Int) (hn : l.length ≤ 1048576) (d : Nat) : ∀ j : Nat, j + d = l.length → Ev (fun k => laws_eqInt64S.l0 k l l (j : Int)) true := by
  induction d with
  | zero => intro j h; exact ev_one (fun k => by rw [laws_eqInt64S.l0, if_neg (by omega)])
  | succ d ih =>
    intro j h
    refine Ev.step (fun k => ?_) (ih (j + 1) (by omega))
    rw [laws_eqInt64S.l0, if_pos (by omega), if_pos (by omega), if_pos (by omega), if_pos rfl, wrap_succ (n := l.length) (by omega) (by omega)]
theorem eqInt64S_ev (l : List Int) (hn : l.length ≤ 1048576) : Ev (fun k => laws_eqInt64S.f k l l) true := by
  refine Ev.congr (fun k => ?_) (eqInt64S_loop l hn l.length 0 (by omega))
  unfold laws_eqInt64S.f
  rw [if_pos rfl]
  rfl

theorem toInt64SS_loop (l : List (List Int)) (hn : l.length ≤ 1048576) (hr : ∀ r ∈ l, r.length ≤ 1048576) (d : Nat) : ∀ (j : Nat) (acc : List (List Int)), j + d = l.length → acc.length = l.length → acc.take j = l.take j →
    Ev (fun k => laws_toInt64SS.l0 k l acc (j : Int)) l := by
  induction d with
  | zero =>
    intro j acc h1 h2 h3
    obtain rfl : acc = l := take_all (n := j) (by omega) (by omega) h3
    exact ev_one (fun k => by rw [laws_toInt64SS.l0, if_neg (by omega)])
  | succ d ih =>
    intro j acc h1 h2 h3
    have hj : j < l.length := by omega
    refine Ev.step (fun k => by rw [laws_toInt64SS.l0, if_pos (by omega), if_pos (by omega), rdL_get _ _ hj]) ?_
    refine Ev.bind (toInt64S_ev l[j] (hr _ (List.getElem_mem hj))) (ev_pos (by omega) ?_)
    rw [wrap_succ hj (by omega), Int.toNat_natCast]
    exact ih (j + 1) (acc.set j l[j]) (by omega) (by simpa using h2) (by rw [set_take _ _ _ (by omega), take_snoc' _ _ hj, h3])
theorem toInt64SS_ev (l : List (List Int)) (hn : l.length ≤ 1048576) (hr : ∀ r ∈ l, r.length ≤ 1048576) : Ev (fun k => laws_toInt64SS.f k l) l := by
  refine Ev.congr (fun k => ?_) (toInt64SS_loop l hn hr l.length 0 (List.replicate l.length []) (by omega) (by simp) (by simp))
  unfold laws_toInt64SS.f
  rw [if_pos (by omega), if_pos (by omega), Int.toNat_natCast]
  rfl
theorem eqInt64SS_loop (l : List (List Int)) (hn : l.length ≤ 1048576) (hr : ∀ r ∈ l, r.length ≤ 1048576) (d : Nat) : ∀ j : Nat, j + d = l.length → Ev (fun k => laws_eqInt64SS.l0 k l l (j : Int)) true := by
  induction d with
  | zero => intro j h; exact ev_one (fun k => by rw [laws_eqInt64SS.l0, if_neg (by omega)])
  | succ d ih =>
    intro j h
    have hj : j < l.length := by omega
    refine Ev.step (fun k => by rw [laws_eqInt64SS.l0, if_pos (by omega), if_pos (by omega), if_pos (by omega), rdL_get _ _ hj]) ?_
    refine Ev.bind (eqInt64S_ev l[j] (hr _ (List.getElem_mem hj))) (ev_pos rfl ?_)
    rw [wrap_succ hj (by omega)]
    exact ih (j + 1) (by omega)
theorem eqInt64SS_ev (l : List (List Int)) (hn : l.length ≤ 1048576) (hr : ∀ r ∈ l, r.length ≤ 1048576) : Ev (fun k => laws_eqInt64SS.f k l l) true := by
  refine Ev.congr (fun k => ?_) (eqInt64SS_loop l hn hr l.length 0 (by omega))
  unfold laws_eqInt64SS.f
  rw [if_pos rfl]
  rfl

theorem toGraph_ev (l : List (List Int)) (hn : l.length ≤ 1048576) (hr : ∀ r ∈ l, r.length ≤ 1048576) : Ev (fun k => laws_toGraph.f k l) l := by
  unfold laws_toGraph.f
  exact Ev.bind (toInt64SS_ev l hn hr) (Ev.now _)
theorem eqGraph_ev (l : List (List Int)) (hn : l.length ≤ 1048576) (hr : ∀ r ∈ l, r.length ≤ 1048576) : Ev (fun k => laws_eqGraph.f k l l) true := by
  unfold laws_eqGraph.f
  exact Ev.bind (eqInt64SS_ev l hn hr) (Ev.now _)
theorem szSS_loop (l : List (List Int)) (hn : l.length ≤ 9223372036854775807) (hl : ∀ r ∈ l, r.length ≤ 9223372036854775807) (d : Nat) : ∀ (j : Nat) (left : Int), j + d = l.length → 0 ≤ left → left ≤ 1048576 →
    (∃ r, Ev (fun k => laws_szInt64SS.l0 k l left (j : Int)) r ∧ (0 ≤ r → ∀ x ∈ l.drop j, x.length ≤ 1048576)) := by
  induction d with
  | zero =>
    intro j left h h0 h1
    refine ⟨left, ev_one (fun k => by rw [laws_szInt64SS.l0, if_neg (by omega)]), fun _ x hx => ?_⟩
    rw [List.drop_eq_nil_of_le (by omega)] at hx
    cases hx
  | succ d ih =>
    intro j left h h0 h1
    have hj : j < l.length := by omega
    have hlen := hl _ (List.getElem_mem hj)
    have hw : wrap64 (left - (l[j].length : Int)) = left - (l[j].length : Int) := wrap64_in (by omega) (by omega)
    by_cases c : left - (l[j].length : Int) < 0
    · refine ⟨-1, ev_one (fun k => ?_), fun h => by omega⟩
      rw [laws_szInt64SS.l0, if_pos (by omega), if_pos (by omega), rdL_get _ _ hj]
      unfold laws_szInt64S.f
      rw [hw, if_pos c]
      rfl
    · obtain ⟨r, hr, hp⟩ := ih (j + 1) (left - (l[j].length : Int)) (by omega) (by omega) (by omega)
      refine ⟨r, Ev.step (fun k => ?_) hr, fun h0 x hx => ?_⟩
      · rw [laws_szInt64SS.l0, if_pos (by omega), if_pos (by omega), rdL_get _ _ hj]
        unfold laws_szInt64S.f
        rw [hw, if_neg c, Option.bind_some, if_neg c, wrap_succ hj (by omega)]
      · rw [drop_cons _ _ hj] at hx
        rcases List.mem_cons.1 hx with rfl | hx
        · omega
        · exact hp h0 x hx
theorem szGraph_ev (l : List (List Int)) (hn : l.length ≤ 9223372036854775807) (hl : ∀ r ∈ l, r.length ≤ 9223372036854775807) :
    ∃ r, Ev (fun k => laws_szGraph.f k l 1048576) r ∧ (0 ≤ r → l.length ≤ 1048576 ∧ ∀ x ∈ l, x.length ≤ 1048576) := by
  have hw : wrap64 (1048576 - (l.length : Int)) = 1048576 - (l.length : Int) := wrap64_in (by omega) (by omega)
  by_cases c : 1048576 - (l.length : Int) < 0
  · refine ⟨-1, ?_, fun h => by omega⟩
    refine Ev.congr (fun k => ?_) (Ev.now _)
    unfold laws_szGraph.f laws_szInt64SS.f
    rw [hw, if_pos c]
    rfl
  · obtain ⟨r, hr, hp⟩ := szSS_loop l hn hl l.length 0 (1048576 - (l.length : Int)) (by omega) (by omega) (by omega)
    by_cases c2 : r < 0
    · refine ⟨-1, ?_, fun h => by omega⟩
      refine Ev.congr (fun k => by unfold laws_szGraph.f laws_szInt64SS.f; rw [hw, if_neg c]) ?_
      exact Ev.bind hr (ev_pos c2 (Ev.now _))
    · refine ⟨r, ?_, fun h0 => ⟨by omega, fun x hx => hp h0 x (by simpa using hx)⟩⟩
      refine Ev.congr (fun k => by unfold laws_szGraph.f laws_szInt64SS.f; rw [hw, if_neg c]) ?_
      exact Ev.bind hr (ev_neg c2 (Ev.now _))

/-- A row of a valid graph with n states. -/
def okRow (n : Int) (r : List Int) : Bool := decide (r.length = 2) && (decide (-1 ≤ rd r 0 ∧ rd r 0 ≤ n - 1) && (decide (-1 ≤ rd r 1 ∧ rd r 1 ≤ n - 1) && !(decide (rd r 0 < 0) && decide (rd r 1 < 0))))
def VG (g : List (List Int)) : Bool := decide (1 ≤ (g.length : Int) ∧ (g.length : Int) ≤ 12) && g.all (okRow g.length)
theorem row_two {r : List Int} (h : r.length = 2) : ∃ a b, r = [a, b] := by
  match r, h with
  | [a, b], _ => exact ⟨a, b, rfl⟩
theorem okRow_not {n : Int} {r : List Int} (h : ¬ r.length = 2) : okRow n r = false := by simp [okRow, h]
theorem okRow_two (n a b : Int) : okRow n [a, b] = (decide (-1 ≤ a ∧ a ≤ n - 1) && (decide (-1 ≤ b ∧ b ≤ n - 1) && !(decide (a < 0) && decide (b < 0)))) := rfl
theorem rd0 (a b : Int) : rd [a, b] 0 = a := rfl
theorem rd1 (a b : Int) : rd [a, b] 1 = b := rfl
theorem len2 (a b : Int) : (([a, b] : List Int).length : Int) = 2 := rfl
theorem VG_iff {g : List (List Int)} (h : VG g = true) : (1 ≤ g.length ∧ g.length ≤ 12) ∧ ∀ r ∈ g, ∃ a b, r = [a, b] ∧ (-1 ≤ a ∧ a ≤ (g.length : Int) - 1) ∧ (-1 ≤ b ∧ b ≤ (g.length : Int) - 1) ∧ ¬ (a < 0 ∧ b < 0) := by
  simp only [VG, Bool.and_eq_true, decide_eq_true_eq, List.all_eq_true] at h
  refine ⟨by omega, fun r hr => ?_⟩
  have h2 := h.2 r hr
  by_cases hl : r.length = 2
  · obtain ⟨a, b, rfl⟩ := row_two hl
    rw [okRow_two] at h2
    simp only [Bool.and_eq_true, decide_eq_true_eq, Bool.not_eq_true', Bool.and_eq_false_imp, decide_eq_false_iff_not] at h2
    exact ⟨a, b, rfl, h2.1, h2.2.1, fun h => h2.2.2 h.1 h.2⟩
  · rw [okRow_not hl] at h2; cases h2

theorem areIn_loop (l : List Int) (lo hi : Int) (hn : l.length ≤ 9223372036854775807) (d : Nat) : ∀ j : Nat, j + d = l.length →
    Ev (fun k => impl_areIn.l0 k lo hi l (l.length : Int) (j : Int)) ((l.drop j).all fun x => decide (lo ≤ x ∧ x ≤ hi)) := by
  induction d with
  | zero =>
    intro j h
    rw [List.drop_eq_nil_of_le (by omega)]
    exact ev_one (fun k => by rw [impl_areIn.l0, if_neg (by omega)]; rfl)
  | succ d ih =>
    intro j h
    have hj : j < l.length := by omega
    rw [drop_cons _ _ hj, List.all_cons]
    by_cases c : lo ≤ l[j] ∧ l[j] ≤ hi
    · rw [decide_eq_true c, Bool.true_and]
      refine Ev.step (fun k => ?_) (ih (j + 1) (by omega))
      rw [impl_areIn.l0, if_pos (by omega), if_pos (by omega), if_pos (by omega), rd_get _ _ hj, impl_in, decide_eq_true c, Option.bind_some, if_pos rfl, wrap_succ hj hn]
    · rw [decide_eq_false c, Bool.false_and]
      refine ev_one (fun k => ?_)
      rw [impl_areIn.l0, if_pos (by omega), if_pos (by omega), if_pos (by omega), rd_get _ _ hj, impl_in, decide_eq_false c, Option.bind_some, if_neg (by decide)]
theorem areIn_ev (l : List Int) (lo hi : Int) (hn : l.length ≤ 9223372036854775807) : Ev (fun k => impl_areIn.f k l lo hi) (l.all fun x => decide (lo ≤ x ∧ x ≤ hi)) :=
  areIn_loop l lo hi hn l.length 0 (by omega)

theorem specVG_loop (g : List (List Int)) (h12 : g.length ≤ 12) (d : Nat) : ∀ j : Nat, j + d = g.length →
    Ev (fun k => spec_l02Is.l0 k (g.length : Int) (j : Int) g) ((g.drop j).all (okRow g.length)) := by
  have hw : wrap64 ((g.length : Int) - 1) = (g.length : Int) - 1 := wrap64_in (by omega) (by omega)
  induction d with
  | zero =>
    intro j h
    rw [List.drop_eq_nil_of_le (by omega)]
    exact ev_one (fun k => by rw [spec_l02Is.l0, if_neg (by omega)]; rfl)
  | succ d ih =>
    intro j h
    have hj : j < g.length := by omega
    have hs := wrap_succ hj (by omega)
    rw [drop_cons _ _ hj, List.all_cons]
    by_cases hl : (g[j]).length = 2
    · obtain ⟨a, b, e⟩ := row_two hl
      have hi := ih (j + 1) (by omega)
      rw [e, okRow_two]
      refine Ev.step (fun k => by rw [spec_l02Is.l0, if_pos (by omega), if_pos (by omega), rdL_get _ _ hj, e, if_pos (len2 a b), if_pos (by rw [len2]; decide), if_pos (by rw [len2]; decide), rd0, rd1, spec_in, spec_in, hw, Option.bind_some, Option.bind_some, hs]) ?_
      by_cases ca : -1 ≤ a ∧ a ≤ (g.length : Int) - 1
      · rw [decide_eq_true ca, Bool.true_and]
        refine ev_pos rfl ?_
        by_cases cb : -1 ≤ b ∧ b ≤ (g.length : Int) - 1
        · rw [decide_eq_true cb, Bool.true_and]
          refine ev_pos rfl ?_
          by_cases a0 : a < 0
          · refine ev_pos a0 ?_
            by_cases b0 : b < 0
            · refine ev_pos b0 ?_
              simpa [a0, b0] using Ev.now false
            · refine ev_neg b0 ?_
              simpa [a0, b0] using hi
          · refine ev_neg a0 ?_
            simpa [a0] using hi
        · rw [decide_eq_false cb, Bool.false_and, Bool.false_and]
          exact ev_neg (by decide) (Ev.now _)
      · rw [decide_eq_false ca, Bool.false_and, Bool.false_and]
        exact ev_neg (by decide) (Ev.now _)
    · rw [okRow_not hl, Bool.false_and]
      refine ev_one (fun k => ?_)
      rw [spec_l02Is.l0, if_pos (by omega), if_pos (by omega), rdL_get _ _ hj, if_neg (by omega)]
theorem specIs_ev (g : List (List Int)) : Ev (fun k => spec_l02Is.f k g) (VG g) := by
  by_cases c : 1 ≤ (g.length : Int) ∧ (g.length : Int) ≤ 12
  · have h := specVG_loop g (by omega) g.length 0 (by omega)
    unfold VG
    rw [decide_eq_true c, Bool.true_and]
    refine Ev.congr (fun k => ?_) h
    unfold spec_l02Is.f
    rw [spec_in, decide_eq_true c]
    rfl
  · refine Ev.congr (fun k => ?_) (Ev.now _)
    unfold spec_l02Is.f VG
    rw [spec_in, decide_eq_false c]
    rfl

theorem implVG_loop (g : List (List Int)) (h12 : g.length ≤ 12) (hr : ∀ r ∈ g, r.length ≤ 9223372036854775807) (d : Nat) : ∀ j : Nat, j + d = g.length →
    Ev (fun k => impl_ValidGraph.l0 k (g.length : Int) g (g.length : Int) (j : Int)) ((g.drop j).all (okRow g.length)) := by
  have hw : wrap64 ((g.length : Int) - 1) = (g.length : Int) - 1 := wrap64_in (by omega) (by omega)
  induction d with
  | zero =>
    intro j h
    rw [List.drop_eq_nil_of_le (by omega)]
    exact ev_one (fun k => by rw [impl_ValidGraph.l0, if_neg (by omega)]; rfl)
  | succ d ih =>
    intro j h
    have hj : j < g.length := by omega
    have hs := wrap_succ hj (by omega)
    rw [drop_cons _ _ hj, List.all_cons]
    by_cases hl : (g[j]).length = 2
    · obtain ⟨a, b, e⟩ := row_two hl
      have hi := ih (j + 1) (by omega)
      rw [e, okRow_two]
      have ha := areIn_ev [a, b] (-1) ((g.length : Int) - 1) (show 2 ≤ 9223372036854775807 by decide)
      refine Ev.step (fun k => by rw [impl_ValidGraph.l0, if_pos (by omega), if_pos (by omega), if_pos (by omega), rdL_get _ _ hj, e, if_pos (len2 a b), hw, if_pos (show (0 : Int) < (([a, b] : List Int).length : Int) by rw [len2]; decide), if_pos (show (1 : Int) < (([a, b] : List Int).length : Int) by rw [len2]; decide), rd0, rd1, hs]) (Ev.bind ha ?_)
      by_cases ca : -1 ≤ a ∧ a ≤ (g.length : Int) - 1
      · by_cases cb : -1 ≤ b ∧ b ≤ (g.length : Int) - 1
        · rw [decide_eq_true ca, decide_eq_true cb, Bool.true_and, Bool.true_and]
          refine ev_pos (by simp [ca, cb]) ?_
          by_cases a0 : a < 0
          · refine ev_pos a0 ?_
            by_cases b0 : b < 0
            · refine ev_pos b0 ?_
              simpa [a0, b0] using Ev.now false
            · refine ev_neg b0 ?_
              simpa [a0, b0] using hi
          · refine ev_neg a0 ?_
            simpa [a0] using hi
        · rw [decide_eq_false cb, Bool.false_and, Bool.and_false, Bool.false_and]
          exact ev_neg (by simp [cb]) (Ev.now _)
      · rw [decide_eq_false ca, Bool.false_and, Bool.false_and]
        exact ev_neg (by simp [ca]) (Ev.now _)
    · rw [okRow_not hl, Bool.false_and]
      refine ev_one (fun k => ?_)
      rw [impl_ValidGraph.l0, if_pos (by omega), if_pos (by omega), if_pos (by omega), rdL_get _ _ hj, if_neg (by omega)]
theorem implVG_ev (g : List (List Int)) (hr : ∀ r ∈ g, r.length ≤ 9223372036854775807) : Ev (fun k => impl_ValidGraph.f k g) (VG g) := by
  by_cases c : 1 ≤ (g.length : Int) ∧ (g.length : Int) ≤ 12
  · have h := implVG_loop g (by omega) hr g.length 0 (by omega)
    unfold VG
    rw [decide_eq_true c, Bool.true_and]
    refine Ev.congr (fun k => ?_) h
    unfold impl_ValidGraph.f
    rw [impl_in, decide_eq_true c]
    rfl
  · refine Ev.congr (fun k => ?_) (Ev.now _)
    unfold impl_ValidGraph.f VG
    rw [impl_in, decide_eq_false c]
    rfl

/-- A valid graph's rows, as places in lists. -/
def Rows2 (g : List (List Int)) : Prop := ∀ j : Nat, j < g.length → ∃ a b, rd_L1 g (j : Int) = [a, b] ∧ a < (g.length : Int) ∧ b < (g.length : Int) ∧ -1 ≤ a ∧ -1 ≤ b
theorem rows2_of {g : List (List Int)} (h : VG g = true) : Rows2 g := by
  intro j hj
  obtain ⟨_, h2⟩ := VG_iff h
  obtain ⟨a, b, e, ha, hb, _⟩ := h2 g[j] (List.getElem_mem hj)
  exact ⟨a, b, by rw [rdL_get _ _ hj, e], by omega, by omega, ha.1, hb.1⟩

/-- n numbers from a on. -/
def seqF (a : Int) (n : Nat) : List Int := (List.range n).map fun (i : Nat) => a + (i : Int)
theorem seqF_length (a : Int) (n : Nat) : (seqF a n).length = n := by simp [seqF]
theorem seqF_succ (a : Int) (n : Nat) : seqF a (n + 1) = seqF a n ++ [a + (n : Int)] := by simp [seqF, List.range_succ]
theorem seqF_rd (a : Int) (n j : Nat) (h : j < n) : rd (seqF a n) (j : Int) = a + (j : Int) := by
  rw [rd_get _ _ (by rw [seqF_length]; exact h)]; simp [seqF]
theorem markF_loop (a : Int) (n : Nat) (h0 : 0 ≤ a) (hn : a + n ≤ 4611686018427387904) (d : Nat) : ∀ (j : Nat) (l : List Int), j + d = n → l.length = n → l.take j = seqF a j →
    Ev (fun k => laws_markInt64S.l0 k l (a + (j : Int)) (j : Int)) (a + (n : Int), seqF a n) := by
  induction d with
  | zero =>
    intro j l h hl ht
    obtain rfl : j = n := by omega
    have e : l = seqF a j := by rw [← ht, List.take_of_length_le (by omega)]
    exact ev_one (fun k => by rw [laws_markInt64S.l0, if_neg (by omega), e])
  | succ d ih =>
    intro j l h hl ht
    have hw := wrap_succ (j := j) (n := n) (by omega) (by omega)
    have hw2 : wrap64 (a + (j : Int) + 1) = a + ((j + 1 : Nat) : Int) := by rw [wrap64_in (by omega) (by omega)]; omega
    exact Ev.step (fun k => by rw [laws_markInt64S.l0, if_pos (by omega), if_pos (by omega), hw, hw2, Int.toNat_natCast]) (ih (j + 1) _ (by omega) (by rw [List.length_set]; exact hl) (by rw [set_take _ _ _ (by omega), ht, seqF_succ]))
theorem markF_ev (l : List Int) (a : Int) (h0 : 0 ≤ a) (hn : a + l.length ≤ 4611686018427387904) : Ev (fun k => laws_markInt64S.f k l a) (a + (l.length : Int), seqF a l.length) := by
  have h := markF_loop a l.length h0 hn l.length 0 l (by omega) rfl rfl
  rwa [show a + ((0 : Nat) : Int) = a by omega] at h
theorem heldF_loop (a : Int) (n : Nat) (h0 : 0 ≤ a) (hn : a + n ≤ 4611686018427387904) (d : Nat) : ∀ j : Nat, j + d = n → Ev (fun k => laws_heldInt64S.l0 k (seqF a n) (a + (j : Int)) (j : Int)) (a + (n : Int)) := by
  have hl := seqF_length a n
  induction d with
  | zero =>
    intro j h
    obtain rfl : j = n := by omega
    exact ev_one (fun k => by rw [laws_heldInt64S.l0, if_neg (by omega)])
  | succ d ih =>
    intro j h
    have hw := wrap_succ (j := j) (n := n) (by omega) (by omega)
    have hw2 : wrap64 (a + (j : Int) + 1) = a + ((j + 1 : Nat) : Int) := by rw [wrap64_in (by omega) (by omega)]; omega
    have hr := seqF_rd a n j (by omega)
    exact Ev.step (fun k => by rw [laws_heldInt64S.l0, if_pos (by omega), if_pos (by omega), if_pos hr, hw, hw2]) (ih (j + 1) (by omega))
theorem heldF_ev (a : Int) (n : Nat) (h0 : 0 ≤ a) (hn : a + n ≤ 4611686018427387904) : Ev (fun k => laws_heldInt64S.f k (seqF a n) a) (a + (n : Int)) := by
  have h := heldF_loop a n h0 hn n 0 (by omega)
  rwa [show a + ((0 : Nat) : Int) = a by omega] at h
/-- The marks of a table, row by row. -/
def markT : Int → List (List Int) → List (List Int)
  | _, [] => []
  | a, r :: t => seqF a r.length :: markT (a + (r.length : Int)) t
def totT : List (List Int) → Int
  | [] => 0
  | r :: t => (r.length : Int) + totT t
theorem totT_nonneg : ∀ t, 0 ≤ totT t
  | [] => Int.le_refl _
  | r :: t => by have := totT_nonneg t; show 0 ≤ (r.length : Int) + totT t; omega
theorem totT_le (n : Nat) : ∀ t : List (List Int), (∀ r ∈ t, r.length ≤ n) → totT t ≤ (t.length * n : Nat)
  | [], _ => by simp [totT]
  | r :: t, h => by
    have h1 := totT_le n t (fun x hx => h x (List.mem_cons_of_mem _ hx))
    have h2 := h r List.mem_cons_self
    show (r.length : Int) + totT t ≤ (((t.length + 1) * n : Nat) : Int)
    rw [Nat.add_mul, Nat.one_mul]
    omega
theorem markT_length : ∀ (t : List (List Int)) (a : Int), (markT a t).length = t.length
  | [], _ => rfl
  | r :: t, a => by show (markT _ t).length + 1 = t.length + 1; rw [markT_length t]
theorem mid_rdL (pre t : List (List Int)) (r : List Int) : rd_L1 (pre ++ r :: t) (pre.length : Int) = r := by
  rw [rdL_get _ _ (by simp)]; simp
theorem mid_getD (pre t : List (List Int)) (r : List Int) : (pre ++ r :: t).getD ((pre.length : Int)).toNat [] = r := by
  rw [Int.toNat_natCast]; simp
theorem mid_set (pre t : List (List Int)) (r x : List Int) : (pre ++ r :: t).set pre.length x = (pre ++ [x]) ++ t := by
  rw [List.set_append_right _ _ (Nat.le_refl _), Nat.sub_self]; simp
theorem markT_loop : ∀ (t pre : List (List Int)) (a : Int), 0 ≤ a → a + totT t ≤ 4611686018427387904 → pre.length + t.length ≤ 4611686018427387904 →
    Ev (fun k => laws_markInt64SS.l0 k (pre ++ t) a (pre.length : Int)) (a + totT t, pre ++ markT a t)
  | [], pre, a, h0, h1, h2 => ev_one (fun k => by rw [laws_markInt64SS.l0, if_neg (by simp)]; simp [totT, markT])
  | r :: t, pre, a, h0, h1, h2 => by
    have ht := totT_nonneg t
    have h1' : a + ((r.length : Int) + totT t) ≤ 4611686018427387904 := h1
    have hl : (pre ++ r :: t).length = pre.length + (t.length + 1) := by simp
    have h2' : pre.length + (t.length + 1) ≤ 4611686018427387904 := h2
    have hw := wrap_succ (j := pre.length) (n := pre.length + 1) (by omega) (by omega)
    have hm := markF_ev r a h0 (by omega)
    have ih := markT_loop t (pre ++ [seqF a r.length]) (a + (r.length : Int)) (by omega) (by omega) (by simp; omega)
    have e1 : (pre ++ [seqF a r.length]).length = pre.length + 1 := by simp
    rw [e1] at ih
    have e2 : (a + (r.length : Int) + totT t, (pre ++ [seqF a r.length]) ++ markT (a + (r.length : Int)) t) = (a + totT (r :: t), pre ++ markT a (r :: t)) := by
      show _ = (a + ((r.length : Int) + totT t), pre ++ seqF a r.length :: markT (a + (r.length : Int)) t)
      rw [show a + ((r.length : Int) + totT t) = a + (r.length : Int) + totT t by omega]; simp
    rw [e2] at ih
    refine Ev.step (fun k => by rw [laws_markInt64SS.l0, if_pos (by rw [hl]; omega), if_pos (by omega), mid_getD, hw]) (Ev.bind hm ?_)
    show Ev (fun k => laws_markInt64SS.l0 k ((pre ++ r :: t).set ((pre.length : Int)).toNat (seqF a r.length)) (a + (r.length : Int)) _) _
    rw [Int.toNat_natCast, mid_set]
    exact ih
theorem heldT_loop : ∀ (t pre : List (List Int)) (a : Int), 0 ≤ a → a + totT t ≤ 4611686018427387904 → pre.length + t.length ≤ 4611686018427387904 →
    Ev (fun k => laws_heldInt64SS.l0 k (pre ++ markT a t) a (pre.length : Int)) (a + totT t)
  | [], pre, a, h0, h1, h2 => ev_one (fun k => by rw [laws_heldInt64SS.l0, if_neg (by simp [markT])]; simp [totT])
  | r :: t, pre, a, h0, h1, h2 => by
    have ht := totT_nonneg t
    have h1' : a + ((r.length : Int) + totT t) ≤ 4611686018427387904 := h1
    have hl : (pre ++ markT a (r :: t)).length = pre.length + (t.length + 1) := by rw [List.length_append, markT_length]; rfl
    have h2' : pre.length + (t.length + 1) ≤ 4611686018427387904 := h2
    have hw := wrap_succ (j := pre.length) (n := pre.length + 1) (by omega) (by omega)
    have hm := heldF_ev a r.length h0 (by omega)
    have ih := heldT_loop t (pre ++ [seqF a r.length]) (a + (r.length : Int)) (by omega) (by omega) (by simp; omega)
    have e1 : (pre ++ [seqF a r.length]).length = pre.length + 1 := by simp
    rw [e1] at ih
    have e2 : (pre ++ [seqF a r.length]) ++ markT (a + (r.length : Int)) t = pre ++ markT a (r :: t) := by
      show _ = pre ++ seqF a r.length :: markT (a + (r.length : Int)) t
      simp
    rw [e2, show a + (r.length : Int) + totT t = a + totT (r :: t) from by show _ = a + ((r.length : Int) + totT t); omega] at ih
    refine Ev.step (fun k => by rw [laws_heldInt64SS.l0, if_pos (by rw [hl]; omega), if_pos (by omega), show rd_L1 (pre ++ markT a (r :: t)) (pre.length : Int) = seqF a r.length from mid_rdL _ _ _, hw]) (Ev.bind hm (ev_neg (show ¬ (a + (r.length : Int) < 0) by omega) ih))
theorem markT_ev (t : List (List Int)) (h1 : totT t ≤ 4611686018427387903) (h2 : t.length ≤ 4611686018427387904) : Ev (fun k => laws_markInt64SS.f k t 1) (1 + totT t, markT 1 t) :=
  markT_loop t [] 1 (by decide) (by omega) (by simpa using h2)

theorem heldT_ev (t : List (List Int)) (h1 : totT t ≤ 4611686018427387903) (h2 : t.length ≤ 4611686018427387904) : Ev (fun k => laws_heldGraph.f k (markT 1 t) 1) (1 + totT t) := by
  have h0 := totT_nonneg t
  unfold laws_heldGraph.f
  exact Ev.bind (heldT_loop t [] 1 (by decide) (by omega) (by simpa using h2)) (ev_neg (by omega) (Ev.now _))
namespace Th
def run (e : Int → Bool → Int) : Int → List Bool → Int
  | x, [] => x
  | x, b :: l => if e x b < 0 then -1 else run e (e x b) l
def ok (e : Int → Bool → Int) (x : Int) (s : List Bool) : Prop := 0 ≤ run e x s
def Apx (e : Int → Bool → Int) (k : Nat) (x y : Int) : Prop := ∀ s : List Bool, s.length ≤ k → (ok e x s ↔ ok e y s)
def Alike (e : Int → Bool → Int) (x y : Int) : Prop := ∀ s : List Bool, ok e x s ↔ ok e y s
section
variable {e : Int → Bool → Int} {k : Nat} {x y z : Int}
theorem ok_nil (hx : 0 ≤ x) : ok e x [] := hx
theorem ok_cons (b : Bool) (l : List Bool) : ok e x (b :: l) ↔ 0 ≤ e x b ∧ ok e (e x b) l := by
  unfold ok
  show 0 ≤ (if e x b < 0 then -1 else run e (e x b) l) ↔ _
  by_cases c : e x b < 0
  · rw [if_pos c]; omega
  · rw [if_neg c]; omega
theorem apx_zero (hx : 0 ≤ x) (hy : 0 ≤ y) : Apx e 0 x y := by
  intro s hs
  obtain rfl : s = [] := List.eq_nil_of_length_eq_zero (by omega)
  exact ⟨fun _ => hy, fun _ => hx⟩
theorem apx_succ (hx : 0 ≤ x) (hy : 0 ≤ y) : Apx e (k + 1) x y ↔ ∀ b, (0 ≤ e x b ↔ 0 ≤ e y b) ∧ (0 ≤ e x b → Apx e k (e x b) (e y b)) := by
  constructor
  · intro h b
    have h1 := h [b] (by simp)
    rw [ok_cons, ok_cons] at h1
    have h2 : 0 ≤ e x b ↔ 0 ≤ e y b := ⟨fun a => (h1.1 ⟨a, a⟩).1, fun a => (h1.2 ⟨a, a⟩).1⟩
    refine ⟨h2, fun h3 s hs => ?_⟩
    have h4 := h (b :: s) (by simp; omega)
    rw [ok_cons, ok_cons] at h4
    exact ⟨fun a => (h4.1 ⟨h3, a⟩).2, fun a => (h4.2 ⟨h2.1 h3, a⟩).2⟩
  · intro h s hs
    cases s with
    | nil => exact ⟨fun _ => hy, fun _ => hx⟩
    | cons b l =>
      obtain ⟨h1, h2⟩ := h b
      rw [ok_cons, ok_cons]
      simp only [List.length_cons] at hs
      exact ⟨fun a => ⟨h1.1 a.1, (h2 a.1 l (by omega)).1 a.2⟩, fun a => ⟨h1.2 a.1, (h2 (h1.2 a.1) l (by omega)).2 a.2⟩⟩
theorem Apx.mono {j : Nat} (h : Apx e k x y) (hj : j ≤ k) : Apx e j x y := fun s hs => h s (by omega)
theorem Apx.refl : Apx e k x x := fun _ _ => Iff.rfl
theorem Apx.symm (h : Apx e k x y) : Apx e k y x := fun s hs => (h s hs).symm
theorem Apx.trans (h : Apx e k x y) (g : Apx e k y z) : Apx e k x z := fun s hs => (h s hs).trans (g s hs)
end
/-- The firsts of a relation below n. -/
def isF (R : Nat → Nat → Prop) (x : Nat) : Prop := ∀ y, y < x → ¬ R y x
open Classical in
noncomputable def cnt (R : Nat → Nat → Prop) : Nat → Nat
  | 0 => 0
  | n + 1 => cnt R n + (if isF R n then 1 else 0)
theorem cnt_le (R : Nat → Nat → Prop) (n : Nat) : cnt R n ≤ n := by
  induction n with
  | zero => exact Nat.le_refl _
  | succ n ih => rw [cnt]; split <;> omega
theorem cnt_mono (R S : Nat → Nat → Prop) (h : ∀ x y, S x y → R x y) (n : Nat) : cnt R n ≤ cnt S n := by
  induction n with
  | zero => exact Nat.le_refl _
  | succ n ih =>
    rw [cnt, cnt]
    have : isF R n → isF S n := fun a y hy hs => a y hy (h _ _ hs)
    by_cases c : isF R n
    · rw [if_pos c, if_pos (this c)]; omega
    · rw [if_neg c]; split <;> omega
theorem cnt_same (R S : Nat → Nat → Prop) (h : ∀ x y, S x y → R x y) (n : Nat) (he : cnt R n = cnt S n) : ∀ x, x < n → isF S x → isF R x := by
  induction n with
  | zero => intro x hx; omega
  | succ n ih =>
    intro x hx hs
    rw [cnt, cnt] at he
    have hm := cnt_mono R S h n
    have h1 : isF R n → isF S n := fun a y hy hs => a y hy (h _ _ hs)
    by_cases c : isF R n
    · rw [if_pos c, if_pos (h1 c)] at he
      by_cases hxn : x = n
      · subst hxn; exact c
      · exact ih (by omega) x (by omega) hs
    · rw [if_neg c] at he
      by_cases c2 : isF S n
      · rw [if_pos c2] at he; omega
      · rw [if_neg c2] at he
        by_cases hxn : x = n
        · subst hxn; exact absurd hs c2
        · exact ih (by omega) x (by omega) hs
theorem has_first (R : Nat → Nat → Prop) (hr : ∀ x, R x x) (ht : ∀ x y z, R x y → R y z → R x z) (x : Nat) : ∃ y, y ≤ x ∧ isF R y ∧ R y x := by
  induction x using Nat.strongRecOn with
  | ind x ih =>
    by_cases c : isF R x
    · exact ⟨x, Nat.le_refl _, c, hr x⟩
    · unfold isF at c
      obtain ⟨y, hy⟩ := Classical.not_forall.1 c
      obtain ⟨hy1, hy2⟩ := Classical.not_imp.1 hy
      obtain ⟨z, h1, h2, h3⟩ := ih y hy1
      exact ⟨z, by omega, h2, ht _ _ _ h3 (Classical.not_not.1 hy2)⟩
/-- As many firsts: the same relation. -/
theorem cnt_stable (R S : Nat → Nat → Prop) (h : ∀ x y, S x y → R x y) (hr : ∀ x, S x x) (hs : ∀ x y, S x y → S y x) (ht : ∀ x y z, S x y → S y z → S x z) (rs : ∀ x y, R x y → R y x) (rt : ∀ x y z, R x y → R y z → R x z)
    (n : Nat) (he : cnt R n = cnt S n) : ∀ x y, x < n → y < n → R x y → S x y := by
  intro x y hx hy hxy
  obtain ⟨a, a1, a2, a3⟩ := has_first S hr ht x
  obtain ⟨b, b1, b2, b3⟩ := has_first S hr ht y
  have a4 := cnt_same R S h n he a (by omega) a2
  have b4 := cnt_same R S h n he b (by omega) b2
  have hab : R a b := rt _ _ _ (h _ _ a3) (rt _ _ _ hxy (rs _ _ (h _ _ b3)))
  have e : a = b := by
    rcases Nat.lt_trichotomy a b with q | q | q
    · exact absurd hab (b4 a q)
    · exact q
    · exact absurd (rs _ _ hab) (a4 b q)
  subst e
  exact ht _ _ _ (hs _ _ a3) b3
theorem grow_or (f : Nat → Nat) (n : Nat) (hf : ∀ r, f r ≤ n) (h1 : 1 ≤ f 0) (hm : ∀ r, f r ≤ f (r + 1)) : ∃ r, r < n ∧ f r = f (r + 1) := by
  refine Classical.byContradiction fun c => ?_
  have g : ∀ r, r ≤ n → r + 1 ≤ f r := by
    intro r
    induction r with
    | zero => intro _; exact h1
    | succ r ih =>
      intro hr
      have := ih (by omega)
      have h2 := hm r
      have h3 : f r ≠ f (r + 1) := fun q => c ⟨r, by omega, q⟩
      omega
  have := g n (Nat.le_refl _)
  have := hf n
  omega
section
variable {e : Int → Bool → Int} {n : Nat}
theorem apx_stable (hn : ∀ (x : Int) (b : Bool), 0 ≤ x → x < n → e x b < n) (r : Nat) (h : ∀ x y : Int, 0 ≤ x → x < n → 0 ≤ y → y < n → Apx e r x y → Apx e (r + 1) x y) :
    ∀ (k : Nat) (x y : Int), 0 ≤ x → x < n → 0 ≤ y → y < n → Apx e r x y → Apx e (r + k) x y := by
  intro k
  induction k with
  | zero => intro x y _ _ _ _ a; exact a
  | succ k ih =>
    intro x y x0 x1 y0 y1 a
    have b := h x y x0 x1 y0 y1 a
    rw [apx_succ x0 y0] at b
    have : Apx e (r + k + 1) x y := by
      rw [apx_succ x0 y0]
      intro c
      refine ⟨(b c).1, fun q => ih _ _ q (hn x c x0 x1) ((b c).1.1 q) (hn y c y0 y1) ((b c).2 q)⟩
    exact this
/-- As many rounds as there are states tell all that can be told. -/
theorem apx_alike (hn : ∀ (x : Int) (b : Bool), 0 ≤ x → x < n → e x b < n) (m : Nat) (hm : n ≤ m) (x y : Int) (x0 : 0 ≤ x) (x1 : x < n) (y0 : 0 ≤ y) (y1 : y < n) (h : Apx e m x y) : Alike e x y := by
  obtain ⟨r, r1, r2⟩ := grow_or (fun r => cnt (fun a b => Apx e r (a : Int) (b : Int)) n) n (fun r => cnt_le _ n)
    (by
      show 1 ≤ cnt _ n
      obtain ⟨q, rfl⟩ : ∃ q, n = q + 1 := ⟨n - 1, by omega⟩
      clear h hm x1 y1 hn
      induction q with
      | zero => rw [cnt, if_pos (show isF _ 0 from fun y hy => absurd hy (Nat.not_lt_zero _))]; omega
      | succ q ih => rw [cnt]; omega)
    (fun r => cnt_mono _ _ (fun a b g => g.mono (Nat.le_succ _)) n)
  have hst := cnt_stable (fun a b => Apx e r (a : Int) (b : Int)) (fun a b => Apx e (r + 1) (a : Int) (b : Int)) (fun a b g => g.mono (Nat.le_succ _)) (fun _ => Apx.refl) (fun _ _ g => g.symm) (fun _ _ _ g h => g.trans h) (fun _ _ g => g.symm) (fun _ _ _ g h => g.trans h) n r2
  have hall := apx_stable hn r (fun a b a0 a1 b0 b1 g => by
    obtain ⟨p, rfl⟩ := Int.eq_ofNat_of_zero_le a0
    obtain ⟨q, rfl⟩ := Int.eq_ofNat_of_zero_le b0
    exact hst p q (by omega) (by omega) g)
  intro s
  exact hall s.length x y x0 x1 y0 y1 (h.mono (by omega)) s (by omega)
end
end Th

namespace Th
def vf : Nat → List Bool → Nat
  | v, [] => v
  | v, b :: l => vf (2 * v + b.toNat) l
theorem vf_ge (l : List Bool) : ∀ v, v ≤ vf v l := by
  induction l with
  | nil => intro v; exact Nat.le_refl _
  | cons b l ih => intro v; have := ih (2 * v + b.toNat); show v ≤ vf (2 * v + b.toNat) l; omega
theorem vf_snoc (l : List Bool) (b : Bool) : ∀ v, vf v (l ++ [b]) = 2 * vf v l + b.toNat := by
  induction l with
  | nil => intro v; rfl
  | cons c l ih => intro v; show vf _ (l ++ [b]) = 2 * vf _ l + _; exact ih _
theorem run_snoc {e : Int → Bool → Int} (l : List Bool) (b : Bool) : ∀ x : Int, 0 ≤ run e x l → run e x (l ++ [b]) = if e (run e x l) b < 0 then -1 else e (run e x l) b := by
  induction l with
  | nil => intro x _; rfl
  | cons c l ih =>
    intro x h
    have h' : 0 ≤ (if e x c < 0 then -1 else run e (e x c) l) := h
    show (if e x c < 0 then -1 else run e (e x c) (l ++ [b])) = _
    by_cases q : e x c < 0
    · rw [if_pos q] at h'; omega
    · rw [if_neg q] at h' ⊢
      have e1 : run e x (c :: l) = run e (e x c) l := by show (if e x c < 0 then -1 else run e (e x c) l) = _; rw [if_neg q]
      rw [e1]
      exact ih _ h'
abbrev Item := Int × Int × List Bool
abbrev val (s : List Bool) : Nat := vf 1 s
/-- What is told in what order: L the list, the items ahead of i done, of item i the bits below b. -/
structure Inv (e f : Int → Bool → Int) (n m : Nat) (x0 y0 : Int) (L : List Item) (i b : Nat) : Prop where
  root : L[0]? = some (x0, y0, [])
  rng : ∀ (j : Nat) t, L[j]? = some t → 0 ≤ t.1 ∧ t.1 < n ∧ 0 ≤ t.2.1 ∧ t.2.1 < m
  runs : ∀ (j : Nat) t, L[j]? = some t → run e x0 t.2.2 = t.1 ∧ run f y0 t.2.2 = t.2.1
  sorted : ∀ (j k : Nat) t u, L[j]? = some t → L[k]? = some u → j < k → val t.2.2 < val u.2.2
  dist : ∀ (j k : Nat) t u, L[j]? = some t → L[k]? = some u → j < k → ¬ (t.1 = u.1 ∧ t.2.1 = u.2.1)
  fin : ∀ (j : Nat) t (c : Bool), L[j]? = some t → (j < i ∨ (j = i ∧ c.toNat < b)) → 0 ≤ e t.1 c → 0 ≤ f t.2.1 c ∧ ∃ (k : Nat) (u : Item), L[k]? = some u ∧ u.1 = e t.1 c ∧ u.2.1 = f t.2.1 c ∧ val u.2.2 ≤ 2 * val t.2.2 + c.toNat
  top : ∀ (j : Nat) t u, L[j]? = some t → L[i]? = some u → val t.2.2 < 2 * val u.2.2 + b
section
variable {e f : Int → Bool → Int} {n m : Nat} {x0 y0 : Int} {L : List Item} {i b : Nat}
/-- The least that tells is not below what isn't done yet. -/
theorem Inv.least (h : Inv e f n m x0 y0 L i b) (V : Nat) (hV : ∀ (j : Nat) t (c : Bool), L[j]? = some t → ¬ (j < i ∨ (j = i ∧ c.toNat < b)) → V ≤ 2 * val t.2.2 + c.toNat) :
    ∀ (rest : List Bool) (j : Nat) (t : Item) (v : Nat), L[j]? = some t → val t.2.2 ≤ v → ok e t.1 rest → ¬ ok f t.2.1 rest → V ≤ vf v rest := by
  intro rest
  induction rest with
  | nil => intro j t v hj _ _ h2; exact absurd (h.rng j t hj).2.2.1 h2
  | cons c rest ih =>
    intro j t v hj hv h1 h2
    rw [ok_cons] at h1 h2
    show V ≤ vf (2 * v + c.toNat) rest
    by_cases q : j < i ∨ (j = i ∧ c.toNat < b)
    · obtain ⟨g1, k, u, hk, e1, e2, hu⟩ := h.fin j t c hj q h1.1
      refine ih k u _ hk (by omega) (by rw [e1]; exact h1.2) (by rw [e2]; exact fun a => h2 ⟨g1, a⟩)
    · have := hV j t c hj q
      have := vf_ge rest (2 * v + c.toNat)
      omega
theorem Inv.lt (h : Inv e f n m x0 y0 L i b) : 0 < L.length := by
  have := h.root
  rcases Nat.eq_zero_or_pos L.length with q | q
  · rw [List.eq_nil_of_length_eq_zero q] at this; cases this
  · exact q
/-- Nothing is left to be done: nothing tells. -/
theorem Inv.none_tells (h : Inv e f n m x0 y0 L i b) (hi : L.length ≤ i) : ∀ own, ok e x0 own → ok f y0 own := by
  intro own h1
  refine Classical.byContradiction fun h2 => ?_
  have := h.least (vf 1 own + 1) (fun j t c hj q => by
    have : j < L.length := (List.getElem?_eq_some_iff.1 hj).1
    omega) own 0 (x0, y0, []) 1 h.root (Nat.le_refl _) h1 h2
  omega
/-- A bit of item i that the one allows and the other does not: the first telling bits. -/
theorem Inv.found (h : Inv e f n m x0 y0 L i b) (c : Bool) (hc : c.toNat = b) (t : Item) (ht : L[i]? = some t) (h1 : 0 ≤ e t.1 c) (h2 : f t.2.1 c < 0) :
    ok e x0 (t.2.2 ++ [c]) ∧ ¬ ok f y0 (t.2.2 ++ [c]) ∧ ∀ own, ok e x0 own → ¬ ok f y0 own → val (t.2.2 ++ [c]) ≤ val own := by
  obtain ⟨r1, r2⟩ := h.runs i t ht
  obtain ⟨g1, g2, g3, g4⟩ := h.rng i t ht
  refine ⟨?_, ?_, ?_⟩
  · unfold ok; rw [run_snoc _ _ _ (by omega), r1, if_neg (by omega)]; exact h1
  · unfold ok; rw [run_snoc _ _ _ (by omega), r2, if_pos h2]; decide
  · intro own o1 o2
    unfold val
    rw [vf_snoc]
    refine h.least _ (fun j u d hj q => ?_) own 0 (x0, y0, []) 1 h.root (Nat.le_refl _) o1 o2
    rcases Nat.lt_trichotomy j i with p | p | p
    · exact absurd (Or.inl p) q
    · subst p
      rw [ht] at hj
      obtain rfl := Option.some.inj hj
      have : ¬ d.toNat < b := fun p => q (.inr ⟨rfl, p⟩)
      show 2 * vf 1 t.2.2 + c.toNat ≤ 2 * vf 1 t.2.2 + d.toNat
      omega
    · have := h.sorted i j t u ht hj p
      have hb : c.toNat ≤ 1 := by cases c <;> decide
      show 2 * vf 1 t.2.2 + c.toNat ≤ 2 * vf 1 u.2.2 + d.toNat
      have h5 : vf 1 t.2.2 < vf 1 u.2.2 := this
      omega
theorem Inv.start (hx : 0 ≤ x0 ∧ x0 < n) (hy : 0 ≤ y0 ∧ y0 < m) : Inv e f n m x0 y0 [(x0, y0, [])] 0 0 := by
  have one : ∀ (j : Nat) (t : Item), [((x0, y0, []) : Item)][j]? = some t → j = 0 ∧ t = (x0, y0, []) := by
    intro j t h
    cases j with
    | zero => exact ⟨rfl, (Option.some.inj h).symm⟩
    | succ j => simp at h
  refine ⟨rfl, ?_, ?_, ?_, ?_, ?_, ?_⟩
  · intro j t h; obtain ⟨rfl, rfl⟩ := one j t h; exact ⟨hx.1, hx.2, hy.1, hy.2⟩
  · intro j t h; obtain ⟨rfl, rfl⟩ := one j t h; exact ⟨rfl, rfl⟩
  · intro j k t u h g q; obtain ⟨rfl, rfl⟩ := one j t h; obtain ⟨rfl, rfl⟩ := one k u g; omega
  · intro j k t u h g q; obtain ⟨rfl, rfl⟩ := one j t h; obtain ⟨rfl, rfl⟩ := one k u g; omega
  · intro j t c h q; omega
  · intro j t u h g; obtain ⟨rfl, rfl⟩ := one j t h; obtain ⟨_, rfl⟩ := one 0 u g; show vf 1 [] < 2 * vf 1 [] + 0; decide
/-- The one bit doesn't allow it, or the pair is known. -/
theorem Inv.keep (h : Inv e f n m x0 y0 L i b) (c : Bool) (hc : c.toNat = b) (t : Item) (ht : L[i]? = some t)
    (hk : 0 ≤ e t.1 c → 0 ≤ f t.2.1 c ∧ ∃ (k : Nat) (u : Item), L[k]? = some u ∧ u.1 = e t.1 c ∧ u.2.1 = f t.2.1 c) : Inv e f n m x0 y0 L i (b + 1) := by
  refine ⟨h.root, h.rng, h.runs, h.sorted, h.dist, ?_, ?_⟩
  · intro j u d hj q h0
    by_cases p : j < i ∨ (j = i ∧ d.toNat < b)
    · exact h.fin j u d hj p h0
    · have hji : j = i := by omega
      subst hji
      rw [ht] at hj
      obtain rfl := Option.some.inj hj
      have hd : d = c := by
        have : d.toNat = c.toNat := by omega
        cases d <;> cases c <;> first | rfl | (exact absurd this (by decide))
      subst hd
      obtain ⟨g1, k, u, hk1, hk2, hk3⟩ := hk h0
      refine ⟨g1, k, u, hk1, hk2, hk3, ?_⟩
      have := h.top k u t hk1 ht
      omega
  · intro j u v hj hv
    have := h.top j u v hj hv
    omega
theorem get_snoc {α : Type} (L : List α) (a : α) (j : Nat) (t : α) : (L ++ [a])[j]? = some t ↔ L[j]? = some t ∨ (j = L.length ∧ t = a) := by
  rw [List.getElem?_append]
  by_cases c : j < L.length
  · rw [if_pos c]
    constructor
    · exact Or.inl
    · rintro (q | ⟨q, _⟩)
      · exact q
      · omega
  · rw [if_neg c]
    constructor
    · intro q
      right
      obtain ⟨k, hk⟩ : ∃ k, k = j - L.length := ⟨_, rfl⟩
      rw [← hk] at q
      cases k with
      | zero => exact ⟨by omega, (Option.some.inj q).symm⟩
      | succ k => simp at q
    · rintro (q | ⟨q, r⟩)
      · exact absurd (List.getElem?_eq_some_iff.1 q).1 c
      · subst q; subst r; simp
theorem Inv.push (h : Inv e f n m x0 y0 L i b) (c : Bool) (hc : c.toNat = b) (t : Item) (ht : L[i]? = some t) (h1 : 0 ≤ e t.1 c) (h2 : 0 ≤ f t.2.1 c) (l1 : e t.1 c < n) (l2 : f t.2.1 c < m)
    (hn : ∀ (k : Nat) (u : Item), L[k]? = some u → ¬ (u.1 = e t.1 c ∧ u.2.1 = f t.2.1 c)) : Inv e f n m x0 y0 (L ++ [(e t.1 c, f t.2.1 c, t.2.2 ++ [c])]) i (b + 1) := by
  obtain ⟨r1, r2⟩ := h.runs i t ht
  obtain ⟨g1, g2, g3, g4⟩ := h.rng i t ht
  have hil : i < L.length := (List.getElem?_eq_some_iff.1 ht).1
  have hv : val (t.2.2 ++ [c]) = 2 * val t.2.2 + c.toNat := vf_snoc _ _ _
  refine ⟨?_, ?_, ?_, ?_, ?_, ?_, ?_⟩
  · rw [get_snoc]; exact Or.inl h.root
  · intro j u hj
    rcases (get_snoc _ _ _ _).1 hj with q | ⟨_, rfl⟩
    · exact h.rng j u q
    · exact ⟨h1, l1, h2, l2⟩
  · intro j u hj
    rcases (get_snoc _ _ _ _).1 hj with q | ⟨_, rfl⟩
    · exact h.runs j u q
    · refine ⟨?_, ?_⟩
      · show run e x0 (t.2.2 ++ [c]) = e t.1 c
        rw [run_snoc _ _ _ (by omega), r1, if_neg (by omega)]
      · show run f y0 (t.2.2 ++ [c]) = f t.2.1 c
        rw [run_snoc _ _ _ (by omega), r2, if_neg (by omega)]
  · intro j k u v hj hk q
    rcases (get_snoc _ _ _ _).1 hj with p | ⟨pj, rfl⟩
    · rcases (get_snoc _ _ _ _).1 hk with r | ⟨_, rfl⟩
      · exact h.sorted j k u v p r q
      · have := h.top j u t p ht
        show val u.2.2 < val (t.2.2 ++ [c])
        omega
    · rcases (get_snoc _ _ _ _).1 hk with r | ⟨_, rfl⟩
      · have := (List.getElem?_eq_some_iff.1 r).1; omega
      · omega
  · intro j k u v hj hk q
    rcases (get_snoc _ _ _ _).1 hj with p | ⟨pj, rfl⟩
    · rcases (get_snoc _ _ _ _).1 hk with r | ⟨_, rfl⟩
      · exact h.dist j k u v p r q
      · exact hn j u p
    · rcases (get_snoc _ _ _ _).1 hk with r | ⟨_, rfl⟩
      · have := (List.getElem?_eq_some_iff.1 r).1; omega
      · omega
  · intro j u d hj q h0
    have hj' : L[j]? = some u := by
      rcases (get_snoc _ _ _ _).1 hj with p | ⟨pj, _⟩
      · exact p
      · omega
    by_cases p : j < i ∨ (j = i ∧ d.toNat < b)
    · obtain ⟨a1, k, w, a2, a3, a4, a5⟩ := h.fin j u d hj' p h0
      exact ⟨a1, k, w, (get_snoc _ _ _ _).2 (.inl a2), a3, a4, a5⟩
    · have hji : j = i := by omega
      subst hji
      rw [ht] at hj'
      obtain rfl := Option.some.inj hj'
      have hd : d = c := by
        have : d.toNat = c.toNat := by omega
        cases d <;> cases c <;> first | rfl | (exact absurd this (by decide))
      subst hd
      refine ⟨h2, L.length, _, (get_snoc _ _ _ _).2 (.inr ⟨rfl, rfl⟩), rfl, rfl, ?_⟩
      show val (t.2.2 ++ [d]) ≤ _
      omega
  · intro j u v hj hv2
    have hv' : L[i]? = some v := by
      rcases (get_snoc _ _ _ _).1 hv2 with p | ⟨pj, _⟩
      · exact p
      · omega
    rw [ht] at hv'
    obtain rfl := Option.some.inj hv'
    rcases (get_snoc _ _ _ _).1 hj with p | ⟨_, rfl⟩
    · have := h.top j u t p ht; omega
    · show val (t.2.2 ++ [c]) < _
      omega
theorem Inv.next (h : Inv e f n m x0 y0 L i 2) (hi : i < L.length) : Inv e f n m x0 y0 L (i + 1) 0 := by
  refine ⟨h.root, h.rng, h.runs, h.sorted, h.dist, ?_, ?_⟩
  · intro j t c hj q h0
    refine h.fin j t c hj ?_ h0
    have : c.toNat < 2 := by cases c <;> decide
    omega
  · intro j t u hj hu
    have h1 := h.top j t L[i] hj (List.getElem?_eq_getElem hi)
    have h2 := h.sorted i (i + 1) L[i] u (List.getElem?_eq_getElem hi) hu (by omega)
    omega
/-- Numbers below n that differ from one another are at most n. -/
theorem few (n : Nat) : ∀ (l : List Int), (∀ (j : Nat) x, l[j]? = some x → 0 ≤ x ∧ x < n) → (∀ (j k : Nat) x y, l[j]? = some x → l[k]? = some y → j < k → x ≠ y) → l.length ≤ n := by
  induction n with
  | zero =>
    intro l h _
    cases l with
    | nil => exact Nat.le_refl _
    | cons a l => have := h 0 a rfl; omega
  | succ n ih =>
    intro l h1 h2
    by_cases c : ∃ j : Nat, l[j]? = some (n : Int)
    · obtain ⟨j, hj⟩ := c
      have hjl : j < l.length := (List.getElem?_eq_some_iff.1 hj).1
      have := ih (l.eraseIdx j) (fun k x hk => by
          rw [List.getElem?_eraseIdx] at hk
          split at hk
          · have := h1 k x hk
            have : x ≠ n := h2 k j x n hk hj (by omega)
            omega
          · have := h1 _ x hk
            have : (n : Int) ≠ x := h2 j (k + 1) n x hj hk (by omega)
            omega) (fun k k' x y hk hk' q => by
          rw [List.getElem?_eraseIdx] at hk hk'
          split at hk <;> split at hk'
          · exact h2 _ _ x y hk hk' q
          · exact h2 _ _ x y hk hk' (by omega)
          · omega
          · exact h2 _ _ x y hk hk' (by omega))
      rw [List.length_eraseIdx_of_lt hjl] at this
      omega
    · have := ih l (fun k x hk => by
        have := h1 k x hk
        have : x ≠ n := fun q => c ⟨k, by rw [hk, q]⟩
        omega) h2
      omega
theorem Inv.bound (h : Inv e f n m x0 y0 L i b) : L.length ≤ n * m := by
  have := few (n * m) (L.map fun t => t.1 * m + t.2.1) (fun j x hj => by
    rw [List.getElem?_map] at hj
    obtain ⟨t, ht, rfl⟩ := Option.map_eq_some_iff.1 hj
    obtain ⟨a1, a2, a3, a4⟩ := h.rng j t ht
    have q1 : 0 ≤ t.1 * (m : Int) := Int.mul_nonneg a1 (Int.natCast_nonneg _)
    have q2 : (t.1 + 1) * (m : Int) ≤ (n : Int) * (m : Int) := Int.mul_le_mul_of_nonneg_right (by omega) (Int.natCast_nonneg _)
    rw [Int.add_mul, Int.one_mul] at q2
    rw [Int.natCast_mul]
    omega) (fun j k x y hj hk q => by
    rw [List.getElem?_map] at hj hk
    obtain ⟨t, ht, rfl⟩ := Option.map_eq_some_iff.1 hj
    obtain ⟨u, hu, rfl⟩ := Option.map_eq_some_iff.1 hk
    obtain ⟨a1, a2, a3, a4⟩ := h.rng j t ht
    obtain ⟨b1, b2, b3, b4⟩ := h.rng k u hu
    have hd := h.dist j k t u ht hu q
    intro he
    have e1 : t.1 = u.1 := by
      rcases Int.lt_trichotomy t.1 u.1 with p | p | p
      · have : (t.1 + 1) * (m : Int) ≤ u.1 * m := Int.mul_le_mul_of_nonneg_right (by omega) (Int.natCast_nonneg _)
        rw [Int.add_mul, Int.one_mul] at this
        omega
      · exact p
      · have : (u.1 + 1) * (m : Int) ≤ t.1 * m := Int.mul_le_mul_of_nonneg_right (by omega) (Int.natCast_nonneg _)
        rw [Int.add_mul, Int.one_mul] at this
        omega
    rw [e1] at he
    exact hd ⟨e1, by omega⟩)
  rw [List.length_map] at this
  exact this
end
end Th

namespace Th
/-- c numbers the classes of R by their firsts. -/
def Num (R : Nat → Nat → Prop) (c : List Int) : Prop := ∀ (x : Nat) v, c[x]? = some v → ∃ y, y ≤ x ∧ isF R y ∧ R y x ∧ v = (cnt R y : Int)
structure Eqv (R : Nat → Nat → Prop) : Prop where
  refl : ∀ x, R x x
  symm : ∀ {x y}, R x y → R y x
  trans : ∀ {x y z}, R x y → R y z → R x z
section
variable {R S : Nat → Nat → Prop}
theorem first_uniq (h : Eqv R) {a b x : Nat} (ha : isF R a) (hb : isF R b) (h1 : R a x) (h2 : R b x) : a = b := by
  have hab := h.trans h1 (h.symm h2)
  rcases Nat.lt_trichotomy a b with q | q | q
  · exact absurd hab (hb a q)
  · exact q
  · exact absurd (h.symm hab) (ha b q)
theorem cnt_succ_of (n : Nat) (h : isF R n) : cnt R (n + 1) = cnt R n + 1 := by rw [cnt, if_pos h]
theorem cnt_succ_not (n : Nat) (h : ¬ isF R n) : cnt R (n + 1) = cnt R n := by rw [cnt, if_neg h]; rfl
theorem cnt_le_of (a b : Nat) (h : a ≤ b) : cnt R a ≤ cnt R b := by
  induction b with
  | zero => rw [show a = 0 by omega]; exact Nat.le_refl _
  | succ b ih =>
    by_cases c : a = b + 1
    · rw [c]; exact Nat.le_refl _
    · have := ih (by omega)
      rw [cnt]; split <;> omega
theorem cnt_lt_of {a b : Nat} (ha : isF R a) (h : a < b) : cnt R a < cnt R b := by
  have h1 := cnt_succ_of a ha
  have h2 := cnt_le_of (R := R) (a + 1) b h
  omega
theorem Num.eq (h : Eqv R) {c d : List Int} (hc : Num R c) (hd : Num R d) (hl : c.length = d.length) : c = d := by
  refine List.ext_getElem? fun x => ?_
  by_cases q : x < c.length
  · have e1 := List.getElem?_eq_getElem q
    have e2 := List.getElem?_eq_getElem (hl ▸ q)
    obtain ⟨y, y1, y2, y3, y4⟩ := hc x _ e1
    obtain ⟨z, z1, z2, z3, z4⟩ := hd x _ e2
    rw [e1, e2, y4, z4, first_uniq h y2 z2 y3 z3]
  · rw [List.getElem?_eq_none (by omega), List.getElem?_eq_none (by omega)]
theorem Num.iff (h : Eqv R) {c : List Int} (hc : Num R c) {x y : Nat} {v w : Int} (hx : c[x]? = some v) (hy : c[y]? = some w) : v = w ↔ R x y := by
  obtain ⟨a, a1, a2, a3, a4⟩ := hc x v hx
  obtain ⟨b, b1, b2, b3, b4⟩ := hc y w hy
  constructor
  · intro e
    have e2 : cnt R a = cnt R b := by omega
    have : a = b := by
      rcases Nat.lt_trichotomy a b with q | q | q
      · have := cnt_lt_of a2 q; omega
      · exact q
      · have := cnt_lt_of b2 q; omega
    subst this
    exact h.trans (h.symm a3) b3
  · intro e
    have : a = b := first_uniq h a2 b2 (h.trans a3 e) b3
    subst this
    omega
theorem Num.lt {c : List Int} (hc : Num R c) {x : Nat} {v : Int} (hx : c[x]? = some v) : 0 ≤ v ∧ v < (cnt R (x + 1) : Nat) := by
  obtain ⟨a, a1, a2, a3, a4⟩ := hc x v hx
  have := cnt_lt_of a2 (show a < x + 1 by omega)
  omega
theorem Num.first (h : Eqv R) {c : List Int} (hc : Num R c) {x : Nat} {v : Int} (hx : c[x]? = some v) : v = (cnt R x : Nat) ↔ isF R x := by
  obtain ⟨a, a1, a2, a3, a4⟩ := hc x v hx
  constructor
  · intro e
    by_cases q : a = x
    · subst q; exact a2
    · have := cnt_lt_of a2 (show a < x by omega)
      omega
  · intro e
    rw [a4, first_uniq h a2 e a3 (h.refl x)]
theorem Num.snoc {c : List Int} (hc : Num R c) {v : Int} (h : ∃ y, y ≤ c.length ∧ isF R y ∧ R y c.length ∧ v = (cnt R y : Int)) : Num R (c ++ [v]) := by
  intro x w hx
  rw [List.getElem?_append] at hx
  split at hx
  · exact hc x w hx
  · rename_i q
    have hx2 : x - c.length = 0 := by
      rcases Nat.eq_zero_or_pos (x - c.length) with p | p
      · exact p
      · rw [List.getElem?_eq_none (by simp; omega)] at hx; cases hx
    rw [hx2] at hx
    have : x = c.length := by omega
    subst this
    obtain rfl := Option.some.inj hx
    exact h
theorem Num.nil : Num R [] := by intro x v h; simp at h
theorem cnt_congr (n : Nat) (h : ∀ x y, x < n → y < n → (R x y ↔ S x y)) : cnt R n = cnt S n ∧ ∀ x, x < n → (isF R x ↔ isF S x) := by
  have hf : ∀ x, x < n → (isF R x ↔ isF S x) := fun x hx => ⟨fun a y hy hs => a y hy ((h y x (by omega) hx).2 hs), fun a y hy hs => a y hy ((h y x (by omega) hx).1 hs)⟩
  refine ⟨?_, hf⟩
  have : ∀ m, m ≤ n → cnt R m = cnt S m := by
    intro m
    induction m with
    | zero => intro _; rfl
    | succ m ih =>
      intro hm
      rw [cnt, cnt, ih (by omega)]
      by_cases q : isF R m
      · rw [if_pos q, if_pos ((hf m (by omega)).1 q)]
      · rw [if_neg q, if_neg (fun p => q ((hf m (by omega)).2 p))]
  exact this n (Nat.le_refl _)
theorem Num.congr {c : List Int} (hc : Num R c) (h : ∀ x y, x < c.length → y < c.length → (R x y ↔ S x y)) : Num S c := by
  intro x v hx
  have hxl : x < c.length := (List.getElem?_eq_some_iff.1 hx).1
  obtain ⟨y, y1, y2, y3, y4⟩ := hc x v hx
  have hc2 := cnt_congr (R := R) (S := S) y (fun a b ha hb => h a b (by omega) (by omega))
  have hc3 := cnt_congr (R := R) (S := S) c.length h
  exact ⟨y, y1, (hc3.2 y (by omega)).1 y2, (h y x (by omega) hxl).1 y3, by rw [y4, hc2.1]⟩
open Classical in
/-- The firsts below n, in order. -/
noncomputable def fsts (R : Nat → Nat → Prop) : Nat → List Nat
  | 0 => []
  | n + 1 => fsts R n ++ (if isF R n then [n] else [])
theorem fsts_length (n : Nat) : (fsts R n).length = cnt R n := by
  induction n with
  | zero => rfl
  | succ n ih => rw [fsts, cnt, List.length_append, ih]; by_cases q : isF R n <;> simp [q]
theorem fsts_of (n : Nat) (h : isF R n) : fsts R (n + 1) = fsts R n ++ [n] := by rw [fsts, if_pos h]
theorem fsts_not (n : Nat) (h : ¬ isF R n) : fsts R (n + 1) = fsts R n := by rw [fsts, if_neg h, List.append_nil]
theorem fsts_get (n : Nat) : ∀ (i y : Nat), (fsts R n)[i]? = some y → isF R y ∧ y < n ∧ cnt R y = i := by
  induction n with
  | zero => intro i y h; simp [fsts] at h
  | succ n ih =>
    intro i y h
    by_cases q : isF R n
    · rw [fsts_of n q, List.getElem?_append] at h
      split at h
      · obtain ⟨a, b, c⟩ := ih i y h; exact ⟨a, by omega, c⟩
      · rename_i p
        rw [fsts_length] at p h
        have h0 : i - cnt R n = 0 := by
          rcases Nat.eq_zero_or_pos (i - cnt R n) with r | r
          · exact r
          · rw [List.getElem?_eq_none (by simp; omega)] at h; cases h
        rw [h0] at h
        obtain rfl := Option.some.inj h
        exact ⟨q, Nat.lt_succ_self _, by omega⟩
    · rw [fsts_not n q] at h
      obtain ⟨a, b, c⟩ := ih i y h; exact ⟨a, by omega, c⟩
theorem fsts_has (n : Nat) : ∀ y, isF R y → y < n → (fsts R n)[cnt R y]? = some y := by
  induction n with
  | zero => intro y _ h; omega
  | succ n ih =>
    intro y h1 h2
    by_cases c : y = n
    · subst c
      rw [fsts_of y h1, List.getElem?_append_right (by rw [fsts_length]; exact Nat.le_refl _), fsts_length, Nat.sub_self]
      rfl
    · have h3 := ih y h1 (by omega)
      rw [fsts, List.getElem?_append_left (List.getElem?_eq_some_iff.1 h3).1, h3]
end
end Th

/-- The bits as text. -/
def bc (c : Bool) : UInt8 := if c then 49 else 48
def txt (s : List Bool) : ByteArray := ⟨(s.map bc).toArray⟩
theorem txt_size (s : List Bool) : (txt s).size = s.length := by
  show (s.map bc).toArray.size = _
  rw [List.size_toArray, List.length_map]
theorem txt_l (s : List Bool) : (txt s).data.toList = s.map bc := rfl
theorem txt_snoc (s : List Bool) (c : Bool) : txt s ++ (⟨#[bc c]⟩ : ByteArray) = txt (s ++ [c]) := by
  apply ByteArray.ext
  apply Array.toList_inj.1
  rw [ByteArray.data_append, Array.toList_append]
  show s.map bc ++ [bc c] = (s ++ [c]).map bc
  rw [List.map_append]
  rfl
theorem bitOf_f (c : Bool) : impl_bitOf.f c = some (⟨#[bc c]⟩ : ByteArray) := by cases c <;> rfl
/-- A bit's edge in a valid graph. -/
def ed (g : List (List Int)) (x : Int) (c : Bool) : Int := rd (rd_L1 g x) (if c then 1 else 0)
theorem ed_facts {g : List (List Int)} (hv : VG g = true) {x : Int} (h0 : 0 ≤ x) (h1 : x < g.length) : (rd_L1 g x).length = 2 ∧ ∀ c, -1 ≤ ed g x c ∧ ed g x c < g.length := by
  obtain ⟨j, rfl⟩ := Int.eq_ofNat_of_zero_le h0
  obtain ⟨a, b, e, ha, hb, ha2, hb2⟩ := rows2_of hv j (by omega)
  unfold ed
  rw [e]
  exact ⟨rfl, fun c => by cases c
                          · exact ⟨ha2, ha⟩
                          · exact ⟨hb2, hb⟩⟩
theorem vf_pos (l : List Bool) : ∀ v, 1 ≤ v → v * 2 ^ l.length ≤ Th.vf v l ∧ Th.vf v l < (v + 1) * 2 ^ l.length := by
  induction l with
  | nil => intro v _; simp [Th.vf]
  | cons b l ih =>
    intro v hv
    have h := ih (2 * v + b.toNat) (by omega)
    have hb : b.toNat ≤ 1 := by cases b <;> decide
    show v * 2 ^ (l.length + 1) ≤ Th.vf (2 * v + b.toNat) l ∧ Th.vf (2 * v + b.toNat) l < (v + 1) * 2 ^ (l.length + 1)
    rw [Nat.pow_succ]
    have p1 : (2 * v + b.toNat) * 2 ^ l.length = 2 * v * 2 ^ l.length + b.toNat * 2 ^ l.length := Nat.add_mul _ _ _
    have p2 : (2 * v + b.toNat + 1) * 2 ^ l.length = 2 * v * 2 ^ l.length + b.toNat * 2 ^ l.length + 2 ^ l.length := by rw [Nat.add_mul, Nat.add_mul, Nat.one_mul]
    have p3 : v * (2 ^ l.length * 2) = 2 * v * 2 ^ l.length := by rw [Nat.mul_comm (2 ^ l.length) 2, ← Nat.mul_assoc, Nat.mul_comm v 2]
    have p4 : (v + 1) * (2 ^ l.length * 2) = 2 * v * 2 ^ l.length + 2 * 2 ^ l.length := by rw [Nat.add_mul, p3, Nat.one_mul, Nat.mul_comm (2 ^ l.length) 2]
    have p5 : b.toNat * 2 ^ l.length ≤ 1 * 2 ^ l.length := Nat.mul_le_mul_right _ hb
    rw [p1, p2] at h
    rw [p3, p4]
    omega
theorem vf_inj (l : List Bool) : ∀ (m : List Bool) (u v : Nat), 1 ≤ u → 1 ≤ v → l.length = m.length → Th.vf u l = Th.vf v m → u = v ∧ l = m := by
  induction l with
  | nil =>
    intro m u v _ _ hl h
    cases m with
    | nil => exact ⟨h, rfl⟩
    | cons _ _ => cases hl
  | cons b l ih =>
    intro m u v hu hv hl h
    cases m with
    | nil => cases hl
    | cons c m =>
      have h2 := ih m (2 * u + b.toNat) (2 * v + c.toNat) (by omega) (by omega) (Nat.succ.inj hl) h
      obtain ⟨e, e2⟩ := h2
      have hb : b.toNat ≤ 1 := by cases b <;> decide
      have hc : c.toNat ≤ 1 := by cases c <;> decide
      have e3 : b.toNat = c.toNat := by omega
      refine ⟨by omega, ?_⟩
      rw [e2]
      cases b <;> cases c <;> first | rfl | (exact absurd e3 (by decide))
theorem val_len {s t : List Bool} (h : Th.val s ≤ Th.val t) : s.length ≤ t.length := by
  have h1 := (vf_pos s 1 (Nat.le_refl _)).1
  have h2 := (vf_pos t 1 (Nat.le_refl _)).2
  refine Nat.le_of_not_lt fun c => ?_
  have h3 : 2 ^ (t.length + 1) ≤ 2 ^ s.length := Nat.pow_le_pow_right (by decide) c
  rw [Nat.pow_succ] at h3
  have h4 : Th.vf 1 s ≤ Th.vf 1 t := h
  omega
theorem val_inj {s t : List Bool} (h : Th.val s = Th.val t) : s = t := by
  have h1 := val_len (Nat.le_of_eq h)
  have h2 := val_len (Nat.le_of_eq h.symm)
  exact (vf_inj s t 1 1 (Nat.le_refl _) (Nat.le_refl _) (by omega) h).2
/-- What the first telling bits are. -/
def TellP (g h : List (List Int)) (x y : Int) (r : ByteArray × Bool) : Prop :=
  (r.2 = true ∧ ∃ s, r.1 = txt s ∧ s.length ≤ 144 ∧ Th.ok (ed g) x s ∧ ¬ Th.ok (ed h) y s ∧ ∀ own, Th.ok (ed g) x own → ¬ Th.ok (ed h) y own → Th.val s ≤ Th.val own) ∨
  (r.2 = false ∧ r.1 = (⟨#[]⟩ : ByteArray) ∧ ∀ own, Th.ok (ed g) x own → Th.ok (ed h) y own)
theorem TellP.uniq {g h : List (List Int)} {x y : Int} {r r' : ByteArray × Bool} (a : TellP g h x y r) (b : TellP g h x y r') : r = r' := by
  rcases a with ⟨a1, s, a2, -, a3, a4, a5⟩ | ⟨a1, a2, a3⟩ <;> rcases b with ⟨b1, t, b2, -, b3, b4, b5⟩ | ⟨b1, b2, b3⟩
  · have e := val_inj (Nat.le_antisymm (a5 t b3 b4) (b5 s a3 a4))
    subst e
    exact Prod.ext (a2.trans b2.symm) (a1.trans b1.symm)
  · exact absurd (b3 s a3) a4
  · exact absurd (a3 t b3) b4
  · exact Prod.ext (a2.trans b2.symm) (a1.trans b1.symm)
/-- An item is no longer than its place. -/
def Short (L : List Th.Item) : Prop := ∀ (j : Nat) t, L[j]? = some t → t.2.2.length ≤ j
theorem Short.push {L : List Th.Item} (h : Short L) {i : Nat} {t : Th.Item} (ht : L[i]? = some t) (a b : Int) (c : Bool) : Short (L ++ [(a, b, t.2.2 ++ [c])]) := by
  intro j u hj
  rcases (Th.get_snoc _ _ _ _).1 hj with p | ⟨p, rfl⟩
  · exact h j u p
  · have h1 := h i t ht
    have h2 := (List.getElem?_eq_some_iff.1 ht).1
    show (t.2.2 ++ [c]).length ≤ j
    rw [List.length_append]
    show t.2.2.length + 1 ≤ j
    omega
def Seen (sn : List (Int × Int)) (L : List Th.Item) : Prop := sn.length = L.length ∧ ∀ p, p ∈ sn ↔ ∃ t ∈ L, p = (t.1, t.2.1)
theorem Seen.push {sn : List (Int × Int)} {L : List Th.Item} (h : Seen sn L) (a b : Int) (s : List Bool) : Seen ((a, b) :: sn) (L ++ [(a, b, s)]) := by
  refine ⟨by rw [List.length_cons, List.length_append, h.1]; rfl, fun p => ?_⟩
  rw [List.mem_cons, h.2]
  constructor
  · rintro (rfl | ⟨t, ht, rfl⟩)
    · exact ⟨_, List.mem_append.2 (.inr (List.mem_singleton.2 rfl)), rfl⟩
    · exact ⟨t, List.mem_append.2 (.inl ht), rfl⟩
  · rintro ⟨t, ht, rfl⟩
    rcases List.mem_append.1 ht with q | q
    · exact .inr ⟨t, q, rfl⟩
    · rw [List.mem_singleton.1 q]; exact .inl rfl
theorem wf_small {x : Int} (h0 : -100 ≤ x) (h1 : x ≤ 100) : (Lit.int .i64 x).wf = true := by
  have e1 : IntKind.i64.min = -9223372036854775808 := rfl
  have e2 : IntKind.i64.max = 9223372036854775807 := rfl
  unfold Lit.wf
  simp only [e1, e2, decide_eq_true_eq, Bool.and_eq_true]
  omega
def toQ (t : Th.Item) : S78 := ⟨⟨t.1, t.2.1⟩, txt t.2.2⟩
theorem rdQ {L : List Th.Item} {i : Nat} {t : Th.Item} (h : L[i]? = some t) : rd_T78 ((L.drop i).map toQ) 0 = toQ t := by
  have hl := (List.getElem?_eq_some_iff.1 h)
  have e : L.drop i = t :: L.drop (i + 1) := by rw [drop_cons L i hl.1, hl.2]
  rw [e]
  rfl
section
variable (g h : List (List Int)) (vg : VG g = true) (vh : VG h = true) (x0 y0 : Int)
include vg vh
theorem impl_tell_loop (N : Nat) (hN : N = g.length * h.length) (d : Nat) : ∀ (L : List Th.Item) (i b : Nat) (sn : List (Int × Int)) (t : Th.Item), Th.Inv (ed g) (ed h) g.length h.length x0 y0 L i b → Short L → Seen sn L → L[i]? = some t → b ≤ 2 → 3 * N ≤ 3 * i + b + d →
    ∃ r, TellP g h x0 y0 r ∧ Ev (fun k => impl_telling.l1 k sn ((L.drop i).map toQ) (b : Int) g h t.1 t.2.1 (txt t.2.2)) r := by
  have g12 := (VG_iff vg).1.2
  have h12 := (VG_iff vh).1.2
  have hNb : N ≤ 144 := by rw [hN]; exact Nat.mul_le_mul g12 h12
  induction d with
  | zero =>
    intro L i b sn t hI _ _ ht hb hd
    have := hI.bound
    have := (List.getElem?_eq_some_iff.1 ht).1
    omega
  | succ d ih =>
    intro L i b sn t hI hS hSn ht hb hd
    have hL := hI.bound
    rw [← hN] at hL
    have hil := (List.getElem?_eq_some_iff.1 ht).1
    obtain ⟨r1, r2, r3, r4⟩ := hI.rng i t ht
    obtain ⟨lg, eg⟩ := ed_facts vg r1 r2
    obtain ⟨lh, eh⟩ := ed_facts vh r3 r4
    have hst := hS i t ht
    by_cases cb : b = 2
    · subst cb
      have hI2 := hI.next hil
      have hdr : ((L.drop i).map toQ).length = L.length - i := by rw [List.length_map, List.length_drop]
      by_cases ce : i + 1 < L.length
      · obtain ⟨t2, ht2⟩ : ∃ t2, L[i + 1]? = some t2 := ⟨_, List.getElem?_eq_getElem ce⟩
        obtain ⟨r, p, e⟩ := ih L (i + 1) 0 sn t2 hI2 hS hSn ht2 (by omega) (by omega)
        refine ⟨r, p, Ev.step (fun k => ?_) (Ev.step (g := fun k => impl_telling.l0 k sn ((L.drop (i + 1)).map toQ) g h) (fun k => ?_) e)⟩
        · rw [impl_telling.l1, if_neg (by omega), if_pos (by omega), ← List.map_drop, List.drop_drop]
          rfl
        · rw [impl_telling.l0, if_pos (by rw [List.length_map, List.length_drop]; omega), if_pos (by rw [List.length_map, List.length_drop]; omega), rdQ ht2]
          rfl
      · refine ⟨((⟨#[]⟩ : ByteArray), false), .inr ⟨rfl, rfl, hI2.none_tells (by omega)⟩, Ev.step (fun k => ?_) (ev_one (g := fun k => impl_telling.l0 k sn ((L.drop (i + 1)).map toQ) g h) (fun k => ?_))⟩
        · rw [impl_telling.l1, if_neg (by omega), if_pos (by omega), ← List.map_drop, List.drop_drop]
          rfl
        · rw [impl_telling.l0, if_neg (by rw [List.length_map, List.length_drop]; omega)]
    · obtain ⟨c, hc, hci⟩ : ∃ c : Bool, c.toNat = b ∧ (b : Int) = (if c then 1 else 0) := by
        have : b = 0 ∨ b = 1 := by omega
        rcases this with rfl | rfl
        · exact ⟨false, rfl, rfl⟩
        · exact ⟨true, rfl, rfl⟩
      have hbit : ((b : Int) == 1) = c := by rw [hci]; cases c <;> rfl
      have hbc : impl_bitOf.f ((b : Int) == 1) = some (⟨#[bc c]⟩ : ByteArray) := by rw [hbit, bitOf_f]
      have he : rd (rd_L1 g t.1) (b : Int) = ed g t.1 c := by rw [hci]; rfl
      have hf : rd (rd_L1 h t.2.1) (b : Int) = ed h t.2.1 c := by rw [hci]; rfl
      have hw := Aside0.mk (show wrap64 ((b : Int) + 1) = ((b + 1 : Nat) : Int) by rw [wrap64_in (by omega) (by omega)]; omega)
      have hz1 : (⟨#[bc c]⟩ : ByteArray).size = 1 := rfl
      have q1 : (txt t.2.2).size + (⟨#[bc c]⟩ : ByteArray).size ≤ 9223372036854775807 := by rw [hz1, txt_size]; omega
      have e1 := eg c
      have e2 := eh c
      have hstep : ∀ k, impl_telling.l1 (k + 1) sn ((L.drop i).map toQ) (b : Int) g h t.1 t.2.1 (txt t.2.2) = (if ed g t.1 c < 0 then (impl_telling.l1 k sn ((L.drop i).map toQ) ((b + 1 : Nat) : Int) g h t.1 t.2.1 (txt t.2.2)) else (if ed h t.2.1 c < 0 then (some (txt t.2.2 ++ (⟨#[bc c]⟩ : ByteArray), true)) else (if (Lit.int .i64 (ed g t.1 c)).wf = true ∧ (Lit.int .i64 (ed h t.2.1 c)).wf = true ∧ sn.length < 1000000 then (if (ed g t.1 c, ed h t.2.1 c) ∈ sn then (impl_telling.l1 k sn ((L.drop i).map toQ) ((b + 1 : Nat) : Int) g h t.1 t.2.1 (txt t.2.2)) else (if ((L.drop i).map toQ).length < 4398046511104 then (impl_telling.l1 k ((ed g t.1 c, ed h t.2.1 c) :: sn) ((L.drop i).map toQ ++ [(⟨(⟨ed g t.1 c, ed h t.2.1 c⟩ : S75), txt t.2.2 ++ (⟨#[bc c]⟩ : ByteArray)⟩ : S78)]) ((b + 1 : Nat) : Int) g h t.1 t.2.1 (txt t.2.2)) else (none))) else none))) := by
        intro k
        rw [impl_telling.l1, if_pos (by omega), if_pos r1, if_pos r2, if_pos (by omega), if_pos (by omega), if_pos r3, if_pos r4, if_pos (by omega), hbc, Option.bind_some, if_pos q1, he, hf, hw.out]
      by_cases c1 : ed g t.1 c < 0
      · obtain ⟨r, p, e⟩ := ih L i (b + 1) sn t (hI.keep c hc t ht (fun q => by omega)) hS hSn ht (by omega) (by omega)
        exact ⟨r, p, Ev.step (fun k => by rw [hstep, if_pos c1]) e⟩
      · by_cases c2 : ed h t.2.1 c < 0
        · obtain ⟨f1, f2, f3⟩ := hI.found c hc t ht (by omega) c2
          refine ⟨(txt (t.2.2 ++ [c]), true), .inl ⟨rfl, _, rfl, by rw [List.length_append]; show t.2.2.length + 1 ≤ 144; omega, f1, f2, f3⟩, ev_one (fun k => ?_)⟩
          rw [hstep, if_neg c1, if_pos c2, txt_snoc]
        · have hwf : (Lit.int .i64 (ed g t.1 c)).wf = true ∧ (Lit.int .i64 (ed h t.2.1 c)).wf = true ∧ sn.length < 1000000 := ⟨wf_small (by omega) (by omega), wf_small (by omega) (by omega), by rw [hSn.1]; omega⟩
          by_cases c3 : (ed g t.1 c, ed h t.2.1 c) ∈ sn
          · obtain ⟨u, hu, eu⟩ := (hSn.2 _).1 c3
            obtain ⟨j, hj⟩ := List.getElem?_of_mem hu
            injection eu with eu1 eu2
            obtain ⟨r, p, e⟩ := ih L i (b + 1) sn t (hI.keep c hc t ht (fun q => ⟨by omega, j, u, hj, eu1.symm, eu2.symm⟩)) hS hSn ht (by omega) (by omega)
            exact ⟨r, p, Ev.step (fun k => by rw [hstep, if_neg c1, if_neg c2, if_pos hwf, if_pos c3]) e⟩
          · have hI2 := hI.push c hc t ht (by omega) (by omega) e1.2 e2.2 (fun k u hk q => c3 ((hSn.2 _).2 ⟨u, List.mem_of_getElem? hk, by rw [q.1, q.2]⟩))
            have ht2 : (L ++ [(ed g t.1 c, ed h t.2.1 c, t.2.2 ++ [c])])[i]? = some t := by rw [List.getElem?_append_left hil]; exact ht
            obtain ⟨r, p, e⟩ := ih _ i (b + 1) ((ed g t.1 c, ed h t.2.1 c) :: sn) t hI2 (hS.push ht _ _ _) (hSn.push _ _ _) ht2 (by omega) (by omega)
            refine ⟨r, p, Ev.step (fun k => ?_) e⟩
            rw [hstep, if_neg c1, if_neg c2, if_pos hwf, if_neg c3, if_pos (by rw [List.length_map, List.length_drop]; omega), txt_snoc, List.drop_append_of_le_length (by omega), List.map_append]
            rfl
theorem impl_tell (hx : 0 ≤ x0 ∧ x0 < g.length) (hy : 0 ≤ y0 ∧ y0 < h.length) : ∃ r, TellP g h x0 y0 r ∧ Ev (fun k => impl_telling.f k g h x0 y0) r := by
  have g12 := (VG_iff vg).1.2
  have h12 := (VG_iff vh).1.2
  obtain ⟨r, p, e⟩ := impl_tell_loop g h vg vh x0 y0 _ rfl (3 * (g.length * h.length)) [(x0, y0, [])] 0 0 [(x0, y0)] (x0, y0, []) (Th.Inv.start hx hy)
    (fun j t hj => by
      cases j with
      | zero => rw [← Option.some.inj hj]; exact Nat.le_refl _
      | succ j => simp at hj)
    ⟨rfl, fun p => by simp⟩ rfl (by omega) (by omega)
  refine ⟨r, p, ?_⟩
  unfold impl_telling.f
  refine ev_pos ⟨wf_small (by omega) (by omega), wf_small (by omega) (by omega)⟩ (Ev.step (fun k => ?_) e)
  rw [impl_telling.l0, if_pos (by show ((1 : Nat) : Int) > 0; decide), if_pos (by show (0 : Int) < ((1 : Nat) : Int); decide)]
  rfl
end

def RA (g : List (List Int)) (x y : Nat) : Prop := Th.Alike (ed g) (x : Int) (y : Int)
theorem RA.eqv (g : List (List Int)) : Th.Eqv (RA g) := ⟨fun _ _ => Iff.rfl, fun h s => (h s).symm, fun h k s => (h s).trans (k s)⟩
theorem alike_ev (g : List (List Int)) (vg : VG g = true) (x y : Nat) (hx : x < g.length) (hy : y < g.length) : ∃ b, Ev (fun k => impl_Graph_alike.f k g (x : Int) (y : Int)) b ∧ (b = true ↔ RA g x y) := by
  obtain ⟨r, p, e⟩ := impl_tell g g vg vg (x : Int) (y : Int) ⟨by omega, by omega⟩ ⟨by omega, by omega⟩
  obtain ⟨r', p', e'⟩ := impl_tell g g vg vg (y : Int) (x : Int) ⟨by omega, by omega⟩ ⟨by omega, by omega⟩
  unfold impl_Graph_alike.f
  rcases p with ⟨p1, s, -, -, p3, p4, -⟩ | ⟨p1, -, p3⟩
  · refine ⟨false, Ev.bind e (Ev.bind e' (ev_pos p1 (Ev.now _))), fun h => (by cases h), fun h => absurd ((h s).1 p3) p4⟩
  · rcases p' with ⟨q1, s, -, -, q3, q4, -⟩ | ⟨q1, -, q3⟩
    · refine ⟨false, Ev.bind e (Ev.bind e' (ev_neg (by rw [p1]; exact Bool.false_ne_true) ?_)), fun h => (by cases h), fun h => absurd ((h s).2 q3) q4⟩
      rw [q1]; exact Ev.now _
    · refine ⟨true, Ev.bind e (Ev.bind e' (ev_neg (by rw [p1]; exact Bool.false_ne_true) ?_)), fun _ s => ⟨p3 s, q3 s⟩, fun _ => rfl⟩
      rw [q1]; exact Ev.now _
theorem index_loop (g : List (List Int)) (vg : VG g = true) (x : Nat) (hx : x < g.length) (fs : List Nat) (hf : ∀ y ∈ fs, y < g.length) (hn : fs.length ≤ 100) (d : Nat) : ∀ i : Nat, i + d = fs.length →
    ∃ r : Int, Ev (fun k => slices_IndexFunc_int64_int64.l0 k (fs.map Int.ofNat) g (x : Int) (i : Int)) r ∧ ((r = -1 ∧ ∀ y ∈ fs.drop i, ¬ RA g x y) ∨ ∃ (j y : Nat), r = (j : Int) ∧ fs[j]? = some y ∧ RA g x y) := by
  have hl : (fs.map Int.ofNat).length = fs.length := List.length_map _
  induction d with
  | zero =>
    intro i hi
    refine ⟨-1, ev_one (fun k => by rw [slices_IndexFunc_int64_int64.l0, if_neg (by omega)]), .inl ⟨rfl, ?_⟩⟩
    rw [List.drop_eq_nil_of_le (by omega)]
    intro y hy; cases hy
  | succ d ih =>
    intro i hi
    have hil : i < fs.length := by omega
    have hy := hf _ (List.getElem_mem hil)
    have hr : rd (fs.map Int.ofNat) (i : Int) = ((fs[i] : Nat) : Int) := by
      rw [rd_get _ _ (by omega), List.getElem_map]; rfl
    have hw := Aside0.mk (wrap_succ (j := i) (n := fs.length) hil (by omega))
    obtain ⟨b, e, hb⟩ := alike_ev g vg x fs[i] hx hy
    cases b with
    | true =>
      refine ⟨(i : Int), Ev.step (fun k => ?_) (Ev.bind (f := fun k b => if b = true then some (i : Int) else slices_IndexFunc_int64_int64.l0 k (fs.map Int.ofNat) g (x : Int) (wrap64 ((i : Int) + 1))) e (ev_pos rfl (Ev.now _))), .inr ⟨i, fs[i], rfl, List.getElem?_eq_getElem hil, hb.1 rfl⟩⟩
      rw [slices_IndexFunc_int64_int64.l0, if_pos (by omega), if_pos (by omega), hr]
    | false =>
      obtain ⟨r, r1, r2⟩ := ih (i + 1) (by omega)
      refine ⟨r, Ev.step (fun k => ?_) (Ev.bind (f := fun k b => if b = true then some (i : Int) else slices_IndexFunc_int64_int64.l0 k (fs.map Int.ofNat) g (x : Int) (wrap64 ((i : Int) + 1))) e (ev_neg Bool.false_ne_true ?_)), ?_⟩
      · rw [slices_IndexFunc_int64_int64.l0, if_pos (by omega), if_pos (by omega), hr]
      · rw [hw.out]; exact r1
      · rcases r2 with ⟨r3, r4⟩ | r3
        · refine .inl ⟨r3, fun y hy2 => ?_⟩
          rw [drop_cons fs i hil] at hy2
          rcases List.mem_cons.1 hy2 with rfl | q
          · exact fun h => Bool.false_ne_true (hb.2 h)
          · exact r4 y q
        · exact .inr r3
/-- A state's class, -1 of none. -/
def clsI (tc : List Int) (z : Int) : Int := if z < 0 then -1 else rd tc z
def rowM (g : List (List Int)) (tc : List Int) (y : Nat) : List Int := [clsI tc (ed g (y : Int) false), clsI tc (ed g (y : Int) true)]
def outM (g : List (List Int)) (tc : List Int) (fs : List Nat) : List (List Int) := fs.map (rowM g tc)
theorem mg_row (g : List (List Int)) (tc F : List Int) (L i : Int) (out : List (List Int)) (ho : out.length ≤ 1000) (a b : Int) (ha : a < tc.length) (hb : b < tc.length) (R : (List (List Int)) × List Int × Bool)
    (hR : Ev (fun k => impl_MergeGraph.l1 k tc F L (wrap64 (i + 1)) g (out ++ [[clsI tc a, clsI tc b]])) R) : Ev (fun k => impl_MergeGraph.l2 k tc [-1, -1] F L i [a, b] 2 0 g out) R := by
  have l2 : (([a, b] : List Int).length : Int) = 2 := rfl
  have s3 : ∀ e, e = [clsI tc a, clsI tc b] → Ev (fun k => impl_MergeGraph.l2 k tc e F L i [a, b] 2 2 g out) R := by
    intro e he
    subst he
    exact Ev.step (fun k => by rw [impl_MergeGraph.l2, if_neg (by decide), if_pos (by omega)]) hR
  have s2 : ∀ e, e = [clsI tc a, -1] → Ev (fun k => impl_MergeGraph.l2 k tc e F L i [a, b] 2 1 g out) R := by
    intro e he
    have r1 : rd [a, b] 1 = b := rfl
    have el : ((e.length : Nat) : Int) = 2 := by rw [he]; rfl
    by_cases c : b ≥ 0
    · refine Ev.step (fun k => ?_) (s3 (e.set (1 : Int).toNat (rd tc b)) (by rw [he]; show [clsI tc a, rd tc b] = _; rw [show clsI tc b = rd tc b from if_neg (by omega)]))
      rw [impl_MergeGraph.l2, if_pos (by decide), if_pos (by decide), l2, if_pos (by decide), r1, if_pos c, if_pos c, if_pos hb, el, if_pos (by decide), w11]
    · refine Ev.step (fun k => ?_) (s3 e (by rw [he, show clsI tc b = -1 from if_pos (by omega)]))
      rw [impl_MergeGraph.l2, if_pos (by decide), if_pos (by decide), l2, if_pos (by decide), r1, if_neg c, w11]
  have r0 : rd [a, b] 0 = a := rfl
  have el : (((([-1, -1] : List Int)).length : Nat) : Int) = 2 := rfl
  by_cases c : a ≥ 0
  · refine Ev.step (fun k => ?_) (s2 (([-1, -1] : List Int).set (0 : Int).toNat (rd tc a)) (by show [rd tc a, -1] = _; rw [show clsI tc a = rd tc a from if_neg (by omega)]))
    rw [impl_MergeGraph.l2, if_pos (by decide), if_pos (by decide), l2, if_pos (by decide), r0, if_pos c, if_pos c, if_pos ha, el, if_pos (by decide), w01]
  · refine Ev.step (fun k => ?_) (s2 [-1, -1] (by rw [show clsI tc a = -1 from if_pos (by omega)]))
    rw [impl_MergeGraph.l2, if_pos (by decide), if_pos (by decide), l2, if_pos (by decide), r0, if_neg c, w01]
theorem mg_l1 (g : List (List Int)) (vg : VG g = true) (tc : List Int) (hto : tc.length = g.length) (fs : List Nat) (hf : ∀ y ∈ fs, y < g.length) (hn : fs.length ≤ 100) (d : Nat) : ∀ i : Nat, i + d = fs.length →
    Ev (fun k => impl_MergeGraph.l1 k tc (fs.map Int.ofNat) (fs.length : Int) (i : Int) g (outM g tc (fs.take i))) (outM g tc fs, tc, true) := by
  have hl : (fs.map Int.ofNat).length = fs.length := List.length_map _
  induction d with
  | zero =>
    intro i hi
    rw [List.take_of_length_le (by omega)]
    exact ev_one (fun k => by rw [impl_MergeGraph.l1, if_neg (by omega)])
  | succ d ih =>
    intro i hi
    have hil : i < fs.length := by omega
    have hy := hf _ (List.getElem_mem hil)
    have hr : rd (fs.map Int.ofNat) (i : Int) = ((fs[i] : Nat) : Int) := by
      rw [rd_get _ _ (by omega), List.getElem_map]; rfl
    have hw := Aside0.mk (wrap_succ (j := i) (n := fs.length) hil (by omega))
    obtain ⟨a, b, e, ha, hb, -, -⟩ := rows2_of vg fs[i] hy
    have ea : ed g ((fs[i] : Nat) : Int) false = a := by unfold ed; rw [e]; rfl
    have eb : ed g ((fs[i] : Nat) : Int) true = b := by unfold ed; rw [e]; rfl
    have hol : (outM g tc (fs.take i)).length ≤ 1000 := by
      unfold outM; rw [List.length_map, List.length_take]; omega
    have i2 := ih (i + 1) (by omega)
    have et : outM g tc (fs.take (i + 1)) = outM g tc (fs.take i) ++ [[clsI tc a, clsI tc b]] := by
      unfold outM
      rw [take_snoc' fs i hil, List.map_append]
      show _ ++ [rowM g tc fs[i]] = _
      unfold rowM
      rw [ea, eb]
    rw [et, ← hw.out] at i2
    refine Ev.step (fun k => ?_) (mg_row g tc (fs.map Int.ofNat) (fs.length : Int) (i : Int) _ hol a b (by omega) (by omega) _ i2)
    rw [impl_MergeGraph.l1, if_pos (by omega), if_pos (by omega), if_pos (by omega), hr, if_pos (by omega), if_pos (by omega), e]
    rfl
theorem mg_l0 (g : List (List Int)) (vg : VG g = true) (d : Nat) : ∀ (x : Nat) (tc : List Int), x + d = g.length → tc.length = x → Th.Num (RA g) tc →
    ∃ tc', tc'.length = g.length ∧ Th.Num (RA g) tc' ∧ Ev (fun k => impl_MergeGraph.l0 k ((Th.fsts (RA g) x).map Int.ofNat) tc (g.length : Int) (x : Int) g) (outM g tc' (Th.fsts (RA g) g.length), tc', true) := by
  have g12 := (VG_iff vg).1
  have fl : ∀ x, (Th.fsts (RA g) x).length ≤ x := fun x => by rw [Th.fsts_length]; exact Th.cnt_le _ _
  have fm : ∀ x, ∀ y ∈ Th.fsts (RA g) x, Th.isF (RA g) y ∧ y < x ∧ (Th.fsts (RA g) x)[Th.cnt (RA g) y]? = some y := fun x y hy => by
    obtain ⟨j, hj⟩ := List.getElem?_of_mem hy
    have h1 := Th.fsts_get x j y hj
    exact ⟨h1.1, h1.2.1, Th.fsts_has x y h1.1 h1.2.1⟩
  induction d with
  | zero =>
    intro x tc hx hl hN
    obtain rfl : x = g.length := by omega
    refine ⟨tc, by omega, hN, ?_⟩
    have h1 := mg_l1 g vg tc (by omega) (Th.fsts (RA g) g.length) (fun y hy => (fm _ y hy).2.1) (by have := fl g.length; omega) (Th.fsts (RA g) g.length).length 0 (by omega)
    refine Ev.step (fun k => ?_) h1
    rw [impl_MergeGraph.l0, if_neg (by omega), List.length_map]
    rfl
  | succ d ih =>
    intro x tc hx hl hN
    have hxl : x < g.length := by omega
    have hw := Aside0.mk (wrap_succ (j := x) (n := g.length) hxl (by omega))
    obtain ⟨r, r1, r2⟩ := index_loop g vg x hxl (Th.fsts (RA g) x) (fun y hy => by have := (fm x y hy).2.1; omega) (by have := fl x; omega) (Th.fsts (RA g) x).length 0 (by omega)
    have r1' : Ev (fun k => slices_IndexFunc_int64_int64.f k ((Th.fsts (RA g) x).map Int.ofNat) g (x : Int)) r := r1
    have hml : ((Th.fsts (RA g) x).map Int.ofNat).length = Th.cnt (RA g) x := by rw [List.length_map, Th.fsts_length]
    have hcl := Th.cnt_le (RA g) x
    rcases r2 with ⟨rfl, r3⟩ | ⟨j, y, rfl, r3, r4⟩
    · have hF : Th.isF (RA g) x := by
        intro y hy hR
        obtain ⟨z, z1, z2, z3⟩ := Th.has_first (RA g) (RA.eqv g).refl (fun _ _ _ => (RA.eqv g).trans) y
        have hz := List.mem_of_getElem? (Th.fsts_has x z z2 (by omega))
        exact r3 z (by rw [List.drop_zero]; exact hz) ((RA.eqv g).symm ((RA.eqv g).trans z3 hR))
      obtain ⟨tc', t1, t2, t3⟩ := ih (x + 1) (tc ++ [((Th.cnt (RA g) x : Nat) : Int)]) (by omega) (by rw [List.length_append, hl]; rfl) (hN.snoc ⟨x, by omega, hF, by rw [hl]; exact (RA.eqv g).refl x, rfl⟩)
      refine ⟨tc', t1, t2, Ev.step (fun k => ?_) (Ev.bind (f := fun k t => if t < 0 then (if ((Th.fsts (RA g) x).map Int.ofNat).length < 17592186044416 then (if tc.length < 17592186044416 then (impl_MergeGraph.l0 k ((Th.fsts (RA g) x).map Int.ofNat ++ [(x : Int)]) (tc ++ [(((Th.fsts (RA g) x).map Int.ofNat).length : Int)]) (g.length : Int) (wrap64 ((x : Int) + 1)) g) else (none)) else (none)) else (if tc.length < 17592186044416 then (impl_MergeGraph.l0 k ((Th.fsts (RA g) x).map Int.ofNat) (tc ++ [t]) (g.length : Int) (wrap64 ((x : Int) + 1)) g) else (none))) r1' ?_)⟩
      · rw [impl_MergeGraph.l0, if_pos (by omega)]
      · refine ev_pos (by decide) (ev_pos (by omega) (ev_pos (by omega) ?_))
        rw [hml, hw.out]
        rw [Th.fsts_of x hF, List.map_append] at t3
        exact t3
    · have hy := Th.fsts_get x j y r3
      have hF : ¬ Th.isF (RA g) x := fun q => q y hy.2.1 ((RA.eqv g).symm r4)
      obtain ⟨tc', t1, t2, t3⟩ := ih (x + 1) (tc ++ [(j : Int)]) (by omega) (by rw [List.length_append, hl]; rfl) (hN.snoc ⟨y, by omega, hy.1, by rw [hl]; exact (RA.eqv g).symm r4, by rw [hy.2.2]⟩)
      refine ⟨tc', t1, t2, Ev.step (fun k => ?_) (Ev.bind (f := fun k t => if t < 0 then (if ((Th.fsts (RA g) x).map Int.ofNat).length < 17592186044416 then (if tc.length < 17592186044416 then (impl_MergeGraph.l0 k ((Th.fsts (RA g) x).map Int.ofNat ++ [(x : Int)]) (tc ++ [(((Th.fsts (RA g) x).map Int.ofNat).length : Int)]) (g.length : Int) (wrap64 ((x : Int) + 1)) g) else (none)) else (none)) else (if tc.length < 17592186044416 then (impl_MergeGraph.l0 k ((Th.fsts (RA g) x).map Int.ofNat) (tc ++ [t]) (g.length : Int) (wrap64 ((x : Int) + 1)) g) else (none))) r1' ?_)⟩
      · rw [impl_MergeGraph.l0, if_pos (by omega)]
      · refine ev_neg (by omega) (ev_pos (by omega) ?_)
        rw [hw.out]
        rw [Th.fsts_not x hF] at t3
        exact t3
theorem merge_ev (g : List (List Int)) (vg : VG g = true) : ∃ tc, tc.length = g.length ∧ Th.Num (RA g) tc ∧ Ev (fun k => impl_MergeGraph.f k g) (outM g tc (Th.fsts (RA g) g.length), tc, true) := by
  obtain ⟨tc, t1, t2, t3⟩ := mg_l0 g vg g.length 0 [] (by omega) rfl Th.Num.nil
  have hvg := implVG_ev g (fun r hr => by obtain ⟨a, b, rfl, _⟩ := (VG_iff vg).2 r hr; exact (by decide : 2 ≤ 9223372036854775807))
  rw [vg] at hvg
  refine ⟨tc, t1, t2, ?_⟩
  unfold impl_MergeGraph.f
  exact Ev.bind hvg (ev_pos rfl t3)

def RK (g : List (List Int)) (r : Nat) (x y : Nat) : Prop := Th.Apx (ed g) r (x : Int) (y : Int)
theorem RK.eqv (g : List (List Int)) (r : Nat) : Th.Eqv (RK g r) := ⟨fun _ => Th.Apx.refl, fun h => h.symm, fun h k => h.trans k⟩
theorem class_f (g : List (List Int)) (c : List Int) (hc : c.length = g.length) (z : Int) (h1 : z < g.length) : spec_l02Class.f c z = some (clsI c z) := by
  unfold spec_l02Class.f clsI
  by_cases p : z < 0
  · rw [if_pos p, if_pos p]
  · rw [if_neg p, if_neg p, if_pos (by omega), if_pos (by omega)]
/-- Two numbers' classes are the same: both are no states, or both are of one class. -/
theorem cls_same (g : List (List Int)) (R : Nat → Nat → Prop) (hR : Th.Eqv R) (c : List Int) (hc : c.length = g.length) (hN : Th.Num R c) (a b : Int) (a1 : a < g.length) (b1 : b < g.length) : clsI c a = clsI c b ↔ (a < 0 ∧ b < 0) ∨ (0 ≤ a ∧ 0 ≤ b ∧ R a.toNat b.toNat) := by
  have get : ∀ z : Int, 0 ≤ z → z < g.length → ∃ h : z.toNat < c.length, clsI c z = c[z.toNat] := fun z z0 z1 => by
    obtain ⟨m, rfl⟩ := Int.eq_ofNat_of_zero_le z0
    refine ⟨by omega, ?_⟩
    unfold clsI
    rw [if_neg (by omega), rd_get _ _ (by omega)]
    rfl
  by_cases p : a < 0
  · have e1 : clsI c a = -1 := if_pos p
    by_cases q : b < 0
    · have e2 : clsI c b = -1 := if_pos q
      exact ⟨fun _ => .inl ⟨p, q⟩, fun _ => by rw [e1, e2]⟩
    · obtain ⟨h, e⟩ := get b (by omega) b1
      have := (hN.lt (List.getElem?_eq_getElem h)).1
      rw [e1, e]
      constructor
      · intro k; omega
      · rintro (⟨_, k⟩ | ⟨k, _⟩) <;> omega
  · obtain ⟨h, e⟩ := get a (by omega) a1
    by_cases q : b < 0
    · have e2 : clsI c b = -1 := if_pos q
      have := (hN.lt (List.getElem?_eq_getElem h)).1
      rw [e2, e]
      constructor
      · intro k; omega
      · rintro (⟨k, _⟩ | ⟨_, k, _⟩) <;> omega
    · obtain ⟨h', e'⟩ := get b (by omega) b1
      rw [e, e', hN.iff hR (List.getElem?_eq_getElem h) (List.getElem?_eq_getElem h')]
      constructor
      · intro k; exact .inr ⟨by omega, by omega, k⟩
      · rintro (⟨k, _⟩ | ⟨_, _, k⟩)
        · omega
        · exact k
/-- What one round asks of two states. -/
theorem round_iff (g : List (List Int)) (vg : VG g = true) (r : Nat) (c : List Int) (hc : c.length = g.length) (hN : Th.Num (RK g r) c) (y x : Nat) (hy : y < g.length) (hx : x < g.length) :
    RK g (r + 1) y x ↔ rd c (y : Int) = rd c (x : Int) ∧ clsI c (ed g (y : Int) false) = clsI c (ed g (x : Int) false) ∧ clsI c (ed g (y : Int) true) = clsI c (ed g (x : Int) true) := by
  obtain ⟨-, ex⟩ := ed_facts vg (Int.natCast_nonneg x) (show (x : Int) < g.length by omega)
  obtain ⟨-, ey⟩ := ed_facts vg (Int.natCast_nonneg y) (show (y : Int) < g.length by omega)
  have h0 : rd c (y : Int) = rd c (x : Int) ↔ RK g r y x := by
    rw [rd_get _ _ (show y < c.length by omega), rd_get _ _ (show x < c.length by omega)]
    exact hN.iff (RK.eqv g r) (List.getElem?_eq_getElem (by omega)) (List.getElem?_eq_getElem (by omega))
  have hb : ∀ b, clsI c (ed g (y : Int) b) = clsI c (ed g (x : Int) b) ↔ ((0 ≤ ed g (y : Int) b ↔ 0 ≤ ed g (x : Int) b) ∧ (0 ≤ ed g (y : Int) b → Th.Apx (ed g) r (ed g (y : Int) b) (ed g (x : Int) b))) := by
    intro b
    rw [cls_same g (RK g r) (RK.eqv g r) c hc hN _ _ (ey b).2 (ex b).2]
    constructor
    · rintro (⟨p, q⟩ | ⟨p, q, k⟩)
      · exact ⟨by omega, fun k => by omega⟩
      · refine ⟨by omega, fun _ => ?_⟩
        have : Th.Apx (ed g) r (((ed g (y : Int) b).toNat : Nat) : Int) (((ed g (x : Int) b).toNat : Nat) : Int) := k
        rw [Int.toNat_of_nonneg p, Int.toNat_of_nonneg q] at this
        exact this
    · rintro ⟨p, k⟩
      by_cases q : 0 ≤ ed g (y : Int) b
      · refine .inr ⟨q, p.1 q, ?_⟩
        show Th.Apx (ed g) r (((ed g (y : Int) b).toNat : Nat) : Int) (((ed g (x : Int) b).toNat : Nat) : Int)
        rw [Int.toNat_of_nonneg q, Int.toNat_of_nonneg (p.1 q)]
        exact k q
      · exact .inl ⟨by omega, by omega⟩
  rw [h0, hb, hb]
  have hs := Th.apx_succ (e := ed g) (k := r) (Int.natCast_nonneg y) (Int.natCast_nonneg x)
  constructor
  · intro h
    have h2 := hs.1 h
    exact ⟨h.mono (Nat.le_succ r), h2 false, h2 true⟩
  · rintro ⟨-, p, q⟩
    refine hs.2 (fun b => ?_)
    cases b
    · exact p
    · exact q
theorem rows_at (g : List (List Int)) (vg : VG g = true) (x : Nat) (hx : x < g.length) : ((rd_L1 g (x : Int)).length : Int) = 2 ∧ rd (rd_L1 g (x : Int)) 0 = ed g (x : Int) false ∧ rd (rd_L1 g (x : Int)) 1 = ed g (x : Int) true ∧ (∀ b, ed g (x : Int) b < g.length) := by
  obtain ⟨l, e⟩ := ed_facts vg (Int.natCast_nonneg x) (show (x : Int) < g.length by omega)
  exact ⟨by rw [l]; rfl, rfl, rfl, fun b => (e b).2⟩
theorem sm_l2 (g : List (List Int)) (vg : VG g = true) (r : Nat) (c : List Int) (hc : c.length = g.length) (hN : Th.Num (RK g r) c) (x : Nat) (hx : x < g.length) (nx : List Int) (hnl : nx.length = x) (hM : Th.Num (RK g (r + 1)) nx) (rnd : Int) (d : Nat) :
    ∀ y : Nat, y + d = x → (∀ z, z < y → ¬ RK g (r + 1) z x) → ∃ v, Th.Num (RK g (r + 1)) (nx ++ [v]) ∧
      ∀ R, Ev (fun k => spec_MergeGraph.l1 k (g.length : Int) c rnd (nx ++ [v]) ((Th.cnt (RK g (r + 1)) (x + 1) : Nat) : Int) ((x + 1 : Nat) : Int) g) R → Ev (fun k => spec_MergeGraph.l2 k (g.length : Int) c rnd nx ((Th.cnt (RK g (r + 1)) x : Nat) : Int) (x : Int) ((Th.cnt (RK g (r + 1)) x : Nat) : Int) (y : Int) g) R := by
  have g12 := (VG_iff vg).1
  have hcx := Th.cnt_le (RK g (r + 1)) x
  have E := RK.eqv g (r + 1)
  have hwx := Aside0.mk (wrap_succ (j := x) (n := g.length) hx (by omega))
  induction d with
  | zero =>
    intro y hy hno
    obtain rfl : y = x := by omega
    have hF : Th.isF (RK g (r + 1)) y := hno
    refine ⟨((Th.cnt (RK g (r + 1)) y : Nat) : Int), hM.snoc ⟨y, by omega, hF, by rw [hnl]; exact E.refl y, rfl⟩, fun R hR => ?_⟩
    rw [Th.cnt_succ_of y hF] at hR
    have hw := Aside0.mk (show wrap64 (((Th.cnt (RK g (r + 1)) y : Nat) : Int) + 1) = ((Th.cnt (RK g (r + 1)) y + 1 : Nat) : Int) by rw [wrap64_in (by omega) (by omega)]; omega)
    exact Ev.step (fun k => by rw [spec_MergeGraph.l2, if_neg (by omega), if_pos rfl, if_pos (by omega), hw.out, hwx.out]) hR
  | succ d ih =>
    intro y hy hno
    have hyx : y < x := by omega
    have hyg : y < g.length := by omega
    have hw := Aside0.mk (wrap_succ (j := y) (n := g.length) hyg (by omega))
    obtain ⟨ly, y0, y1, yb⟩ := rows_at g vg y hyg
    obtain ⟨lx, x0, x1, xb⟩ := rows_at g vg x hx
    have hiff := round_iff g vg r c hc hN y x hyg hx
    have next : ¬ RK g (r + 1) y x → ∃ v, Th.Num (RK g (r + 1)) (nx ++ [v]) ∧
      ∀ R, Ev (fun k => spec_MergeGraph.l1 k (g.length : Int) c rnd (nx ++ [v]) ((Th.cnt (RK g (r + 1)) (x + 1) : Nat) : Int) ((x + 1 : Nat) : Int) g) R → Ev (fun k => spec_MergeGraph.l2 k (g.length : Int) c rnd nx ((Th.cnt (RK g (r + 1)) x : Nat) : Int) (x : Int) ((Th.cnt (RK g (r + 1)) x : Nat) : Int) ((y + 1 : Nat) : Int) g) R := fun hn =>
      ih (y + 1) (by omega) (fun z hz => by
        by_cases q : z = y
        · rw [q]; exact hn
        · exact hno z (by omega))
    by_cases p0 : rd c (y : Int) = rd c (x : Int)
    · by_cases p1 : clsI c (ed g (y : Int) false) = clsI c (ed g (x : Int) false)
      · by_cases p2 : clsI c (ed g (y : Int) true) = clsI c (ed g (x : Int) true)
        · have hR0 := hiff.2 ⟨p0, p1, p2⟩
          have hyn : y < nx.length := by omega
          have hF : ¬ Th.isF (RK g (r + 1)) x := fun q => q y hyx hR0
          obtain ⟨z, z1, z2, z3, z4⟩ := hM y _ (List.getElem?_eq_getElem hyn)
          have hlt := hM.lt (List.getElem?_eq_getElem hyn)
          have hle := Th.cnt_le_of (R := RK g (r + 1)) (y + 1) x (by omega)
          have hry := rd_get nx y hyn
          refine ⟨nx[y], hM.snoc ⟨z, by omega, z2, by rw [hnl]; exact E.trans z3 hR0, z4⟩, fun R hR => Ev.step (fun k => ?_) hR⟩
          rw [Th.cnt_succ_not x hF]
          rw [spec_MergeGraph.l2, if_pos (by omega), if_pos (by omega), if_pos (by omega), if_pos (by omega), if_pos (by omega), if_pos p0, if_pos (by omega), if_pos (by omega), y0, class_f g c hc _ (yb false), Option.bind_some, if_pos (by omega), if_pos (by omega), x0, class_f g c hc _ (xb false), Option.bind_some, if_pos p1, if_pos (by omega), y1, class_f g c hc _ (yb true), Option.bind_some, if_pos (by omega), x1, class_f g c hc _ (xb true), Option.bind_some, if_pos p2, if_pos (by omega), hry, if_neg (by omega), if_pos (by omega), hwx.out]
        · obtain ⟨v, v1, v2⟩ := next (fun q => p2 (hiff.1 q).2.2)
          refine ⟨v, v1, fun R hR => Ev.step (fun k => ?_) (v2 R hR)⟩
          rw [spec_MergeGraph.l2, if_pos (by omega), if_pos (by omega), if_pos (by omega), if_pos (by omega), if_pos (by omega), if_pos p0, if_pos (by omega), if_pos (by omega), y0, class_f g c hc _ (yb false), Option.bind_some, if_pos (by omega), if_pos (by omega), x0, class_f g c hc _ (xb false), Option.bind_some, if_pos p1, if_pos (by omega), y1, class_f g c hc _ (yb true), Option.bind_some, if_pos (by omega), x1, class_f g c hc _ (xb true), Option.bind_some, if_neg p2, hw.out]
      · obtain ⟨v, v1, v2⟩ := next (fun q => p1 (hiff.1 q).2.1)
        refine ⟨v, v1, fun R hR => Ev.step (fun k => ?_) (v2 R hR)⟩
        rw [spec_MergeGraph.l2, if_pos (by omega), if_pos (by omega), if_pos (by omega), if_pos (by omega), if_pos (by omega), if_pos p0, if_pos (by omega), if_pos (by omega), y0, class_f g c hc _ (yb false), Option.bind_some, if_pos (by omega), if_pos (by omega), x0, class_f g c hc _ (xb false), Option.bind_some, if_neg p1, hw.out]
    · obtain ⟨v, v1, v2⟩ := next (fun q => p0 (hiff.1 q).1)
      refine ⟨v, v1, fun R hR => Ev.step (fun k => ?_) (v2 R hR)⟩
      rw [spec_MergeGraph.l2, if_pos (by omega), if_pos (by omega), if_pos (by omega), if_pos (by omega), if_pos (by omega), if_neg p0, hw.out]
theorem sm_l1 (g : List (List Int)) (vg : VG g = true) (r : Nat) (c : List Int) (hc : c.length = g.length) (hN : Th.Num (RK g r) c) (rnd : Int) (d : Nat) : ∀ (x : Nat) (nx : List Int), x + d = g.length → nx.length = x → Th.Num (RK g (r + 1)) nx →
    ∃ nx', nx'.length = g.length ∧ Th.Num (RK g (r + 1)) nx' ∧ ∀ R, Ev (fun k => spec_MergeGraph.l0 k (g.length : Int) nx' (wrap64 (rnd + 1)) g) R → Ev (fun k => spec_MergeGraph.l1 k (g.length : Int) c rnd nx ((Th.cnt (RK g (r + 1)) x : Nat) : Int) (x : Int) g) R := by
  induction d with
  | zero =>
    intro x nx hx hl hM
    exact ⟨nx, by omega, hM, fun R hR => Ev.step (fun k => by rw [spec_MergeGraph.l1, if_neg (by omega)]) hR⟩
  | succ d ih =>
    intro x nx hx hl hM
    obtain ⟨v, v1, v2⟩ := sm_l2 g vg r c hc hN x (by omega) nx hl hM rnd x 0 (by omega) (fun z hz => by omega)
    obtain ⟨nx', e1, e2, e3⟩ := ih (x + 1) (nx ++ [v]) (by omega) (by rw [List.length_append, hl]; rfl) v1
    refine ⟨nx', e1, e2, fun R hR => Ev.step (fun k => ?_) (v2 R (e3 R hR))⟩
    rw [spec_MergeGraph.l1, if_pos (by omega)]
    rfl
theorem sm_l0 (g : List (List Int)) (vg : VG g = true) (d : Nat) : ∀ (r : Nat) (c : List Int), r + d = g.length + 1 → c.length = g.length → Th.Num (RK g r) c →
    ∃ c', c'.length = g.length ∧ Th.Num (RK g (g.length + 1)) c' ∧ ∀ R, Ev (fun k => spec_MergeGraph.l3 k (g.length : Int) c' 0 g ([] : List (List Int))) R → Ev (fun k => spec_MergeGraph.l0 k (g.length : Int) c (r : Int) g) R := by
  have g12 := (VG_iff vg).1
  induction d with
  | zero =>
    intro r c hr hc hN
    obtain rfl : r = g.length + 1 := by omega
    exact ⟨c, hc, hN, fun R hR => Ev.step (fun k => by rw [spec_MergeGraph.l0, if_neg (by omega)]) hR⟩
  | succ d ih =>
    intro r c hr hc hN
    have hw := Aside0.mk (wrap_succ (j := r) (n := g.length + 1) (by omega) (by omega))
    obtain ⟨nx, e1, e2, e3⟩ := sm_l1 g vg r c hc hN (r : Int) g.length 0 [] (by omega) rfl Th.Num.nil
    obtain ⟨c', f1, f2, f3⟩ := ih (r + 1) nx (by omega) e1 e2
    refine ⟨c', f1, f2, fun R hR => Ev.step (fun k => ?_) (e3 R (by rw [hw.out]; exact f3 R hR))⟩
    rw [spec_MergeGraph.l0, if_pos (by omega)]
    rfl
theorem sm_l3 (g : List (List Int)) (vg : VG g = true) (c : List Int) (hc : c.length = g.length) (hN : Th.Num (RA g) c) (d : Nat) : ∀ x : Nat, x + d = g.length →
    Ev (fun k => spec_MergeGraph.l3 k (g.length : Int) c (x : Int) g (outM g c (Th.fsts (RA g) x))) (outM g c (Th.fsts (RA g) g.length), c, true) := by
  have g12 := (VG_iff vg).1
  induction d with
  | zero =>
    intro x hx
    obtain rfl : x = g.length := by omega
    exact ev_one (fun k => by rw [spec_MergeGraph.l3, if_neg (by omega)])
  | succ d ih =>
    intro x hx
    have hxg : x < g.length := by omega
    have hw := Aside0.mk (wrap_succ (j := x) (n := g.length) hxg (by omega))
    obtain ⟨lx, x0, x1, xb⟩ := rows_at g vg x hxg
    have hol : (outM g c (Th.fsts (RA g) x)).length = Th.cnt (RA g) x := by unfold outM; rw [List.length_map, Th.fsts_length]
    have hcl := Th.cnt_le (RA g) x
    have hr : rd c (x : Int) = c[x]'(by omega) := rd_get _ _ (by omega)
    have hfi := hN.first (RA.eqv g) (List.getElem?_eq_getElem (show x < c.length by omega))
    have i := ih (x + 1) (by omega)
    by_cases hF : Th.isF (RA g) x
    · have he : rd c (x : Int) = ((outM g c (Th.fsts (RA g) x)).length : Int) := by rw [hr, hol]; exact hfi.2 hF
      rw [Th.fsts_of x hF] at i
      have eo : outM g c (Th.fsts (RA g) x ++ [x]) = outM g c (Th.fsts (RA g) x) ++ [[clsI c (ed g (x : Int) false), clsI c (ed g (x : Int) true)]] := by
        unfold outM
        rw [List.map_append]
        rfl
      rw [eo] at i
      refine Ev.step (fun k => ?_) i
      rw [spec_MergeGraph.l3, if_pos (by omega), if_pos (by omega), if_pos (by omega), if_pos he, if_pos (by omega), if_pos (by omega), x0, class_f g c hc _ (xb false), Option.bind_some, if_pos (by omega), x1, class_f g c hc _ (xb true), Option.bind_some, if_pos (by omega), hw.out]
    · have he : ¬ rd c (x : Int) = ((outM g c (Th.fsts (RA g) x)).length : Int) := by rw [hr, hol]; exact fun q => hF (hfi.1 q)
      rw [Th.fsts_not x hF] at i
      refine Ev.step (fun k => ?_) i
      rw [spec_MergeGraph.l3, if_pos (by omega), if_pos (by omega), if_pos (by omega), if_neg he, hw.out]
theorem spec_merge_ev (g : List (List Int)) (vg : VG g = true) : ∃ c, c.length = g.length ∧ Th.Num (RA g) c ∧ Ev (fun k => spec_MergeGraph.f k g) (outM g c (Th.fsts (RA g) g.length), c, true) := by
  have g12 := (VG_iff vg).1
  have hs := specIs_ev g
  rw [vg] at hs
  have h0 : Th.Num (RK g 0) (List.replicate g.length 0) := by
    intro x v hx
    have hv := List.getElem?_eq_some_iff.1 hx
    have : v = 0 := by rw [← hv.2, List.getElem_replicate]
    refine ⟨0, Nat.zero_le _, fun y hy => absurd hy (Nat.not_lt_zero _), Th.apx_zero (Int.natCast_nonneg _) (Int.natCast_nonneg _), by rw [this]; rfl⟩
  obtain ⟨c, c1, c2, c3⟩ := sm_l0 g vg (g.length + 1) 0 _ (by omega) (by rw [List.length_replicate]) h0
  have hn : ∀ (x : Int) (b : Bool), 0 ≤ x → x < (g.length : Int) → ed g x b < (g.length : Int) := fun x b q0 q1 => ((ed_facts vg q0 q1).2 b).2
  have hA : Th.Num (RA g) c := c2.congr (fun x y hx hy => by
    constructor
    · intro h
      exact Th.apx_alike hn (g.length + 1) (by omega) (x : Int) (y : Int) (Int.natCast_nonneg x) (by omega) (Int.natCast_nonneg y) (by omega) h
    · intro h s _
      exact h s)
  have h3 := sm_l3 g vg c c1 hA g.length 0 (by omega)
  refine ⟨c, c1, hA, ?_⟩
  unfold spec_MergeGraph.f
  exact Ev.bind hs (ev_pos rfl (ev_pos (Int.natCast_nonneg _) (ev_pos (by rw [Int.toNat_natCast]; omega) (by rw [Int.toNat_natCast]; exact c3 _ h3))))

theorem merge_both (g : List (List Int)) (hg : ∀ r ∈ g, r.length ≤ 9223372036854775807) : ∃ T R b, Ev (fun k => spec_MergeGraph.f k g) (T, R, b) ∧ Ev (fun k => impl_MergeGraph.f k g) (T, R, b) ∧ T.length ≤ 1000 ∧ (∀ r ∈ T, r.length ≤ 1000) ∧ R.length ≤ 1000 := by
  cases e : VG g with
  | false =>
    have hs := specIs_ev g
    have hi := implVG_ev g hg
    rw [e] at hs hi
    refine ⟨[], [], false, ?_, ?_, by decide, fun r hr => (by cases hr), by decide⟩
    · unfold spec_MergeGraph.f; exact Ev.bind hs (ev_neg Bool.false_ne_true (Ev.now _))
    · unfold impl_MergeGraph.f; exact Ev.bind hi (ev_neg Bool.false_ne_true (Ev.now _))
  | true =>
    obtain ⟨c, c1, c2, c3⟩ := spec_merge_ev g e
    obtain ⟨d, d1, d2, d3⟩ := merge_ev g e
    obtain rfl : c = d := Th.Num.eq (RA.eqv g) c2 d2 (by omega)
    have g12 := (VG_iff e).1
    refine ⟨_, _, _, c3, d3, ?_, fun r hr => ?_, by omega⟩
    · unfold outM; rw [List.length_map, Th.fsts_length]
      have := Th.cnt_le (RA g) g.length
      omega
    · obtain ⟨y, _, rfl⟩ := List.mem_map.1 hr
      exact (by decide : 2 ≤ 1000)
theorem FnExactMergeGraph (g : List (List Int)) (hn : g.length ≤ 9223372036854775807) (hl : ∀ r ∈ g, r.length ≤ 9223372036854775807 ∧ ∀ x ∈ r, (Lit.int .i64 x).wf = true) :
    (∃ k t, laws_szGraph.f k g 1048576 = some t ∧ t < 0) ∨
    ∃ k t r TX TG rr rr2 b mx m m2, laws_szGraph.f k g 1048576 = some t ∧ 0 ≤ t ∧ 0 ≤ mx ∧ 0 ≤ m ∧ 0 ≤ m2 ∧ List.length TG = List.length r ∧ List.length rr2 = List.length rr ∧ laws_toGraph.f k g = some g ∧ spec_MergeGraph.f k g = some (r, rr, b) ∧ impl_MergeGraph.f k g = some (r, rr, b) ∧ laws_eqGraph.f k r r = some true ∧ laws_eqInt64S.f k rr rr = some true ∧ laws_eqGraph.f k g g = some true ∧ laws_markInt64SS.f k g 1 = some (mx, TX) ∧ laws_markInt64SS.f k r 1 = some (m, TG) ∧ laws_markInt64S.f k rr m = some (m2, rr2) ∧ laws_heldGraph.f k TG 1 = some m ∧ laws_heldInt64S.f k rr2 m = some m2 := by
  obtain ⟨t, ht, hp⟩ := szGraph_ev g hn (fun x hx => (hl x hx).1)
  by_cases c : t < 0
  · obtain ⟨K, hK⟩ := ht
    exact .inl ⟨K, t, hK K (Nat.le_refl _), c⟩
  · obtain ⟨g1, g2⟩ := hp (by omega)
    obtain ⟨T, R, b, hs, hi, hT, hTr, hR⟩ := merge_both g (fun x hx => (hl x hx).1)
    have h3 := totT_le 1048576 g g2
    have h0 := totT_nonneg g
    have hb : totT g ≤ 4611686018427387903 := by
      have : g.length * 1048576 ≤ 1048576 * 1048576 := Nat.mul_le_mul_right _ g1
      omega
    have h4 := totT_le 1000 T hTr
    have h5 := totT_nonneg T
    have hb2 : totT T ≤ 1000000 := by
      have : T.length * 1000 ≤ 1000 * 1000 := Nat.mul_le_mul_right _ hT
      omega
    obtain ⟨K0, e0⟩ := ht
    obtain ⟨K1, e1⟩ := hs
    obtain ⟨K2, e2⟩ := hi
    obtain ⟨K3, e3⟩ := eqGraph_ev T (by omega) (fun r hr => by have := hTr r hr; omega)
    obtain ⟨K4, e4⟩ := eqInt64S_ev R (by omega)
    obtain ⟨K5, e5⟩ := eqGraph_ev g g1 g2
    obtain ⟨K6, e6⟩ := markT_ev g hb (by omega)
    obtain ⟨K7, e7⟩ := markT_ev T (by omega) (by omega)
    obtain ⟨K8, e8⟩ := markF_ev R (1 + totT T) (by omega) (by omega)
    obtain ⟨K9, e9⟩ := heldT_ev T (by omega) (by omega)
    obtain ⟨K10, e10⟩ := heldF_ev (1 + totT T) R.length (by omega) (by omega)
    obtain ⟨K11, e11⟩ := toGraph_ev g g1 g2
    refine .inr ⟨K0 + K1 + K2 + K3 + K4 + K5 + K6 + K7 + K8 + K9 + K10 + K11, t, T, markT 1 g, markT 1 T, R, seqF (1 + totT T) R.length, b, 1 + totT g, 1 + totT T, 1 + totT T + (R.length : Int), e0 _ (by omega), by omega, by omega, by omega, by omega, markT_length T 1, seqF_length _ _, e11 _ (by omega), e1 _ (by omega), e2 _ (by omega), e3 _ (by omega), e4 _ (by omega), e5 _ (by omega), e6 _ (by omega), e7 _ (by omega), e8 _ (by omega), e9 _ (by omega), e10 _ (by omega)⟩

end Go.Proofs.Ytkjipfblokiodaa.Pure
