/-
The law FnExactCodeVector answers true for every graph and all numbers; there are no conditions beside the row's own bounds.
-/
import Derived.Test.YtanndepgepgfoabQFnExactCodeVectorx8
namespace Go.Proofs.Ytanndepgepgfoab.Pure
open Go.RowKit Go.Proofs.Ytanndepgepgfoab.QFnExactCodeVector Go.Proofs.YtanndepgepgfoabW.PrintWords Go.Proofs.YtanndepgepgfoabW.PrintLast Go.Proofs.YtanndepgepgfoabW.PrintMore
set_option linter.unusedVariables false

theorem ev_one {α : Type} {g : Nat → Option α} {r : α} (h : ∀ k, g (k + 1) = some r) : Ev g r :=
  ⟨1, fun k hk => by obtain ⟨m, rfl⟩ : ∃ m, k = m + 1 := ⟨k - 1, by omega⟩; exact h m⟩
theorem wrap64_in {x : Int} (h0 : -9223372036854775808 ≤ x) (h1 : x ≤ 9223372036854775807) : wrap64 x = x := by
  unfold wrap64; omega
theorem u64_in {x : Int} (h0 : 0 ≤ x) (h1 : x ≤ 18446744073709551615) : IntKind.u64.wrap x = x := by
  simp [IntKind.wrap, IntKind.bits, IntKind.signed]; omega
theorem i64_in {x : Int} (h0 : -9223372036854775808 ≤ x) (h1 : x ≤ 9223372036854775807) : IntKind.i64.wrap x = x := by
  rw [IntKind.wrap_i64]; omega
theorem and_one (x : Int) : Go.bits .and .i64 x 1 = x % 2 := by
  have h : (BitVec.ofInt 64 x &&& BitVec.ofInt 64 1).toNat = (x % 2).toNat := by
    have e1 : BitVec.ofInt 64 1 = 1#64 := by decide
    rw [e1, BitVec.toNat_and, BitVec.toNat_ofInt]
    have e2 : (1#64).toNat = 1 := by decide
    rw [e2, Nat.and_one_is_mod]
    omega
  show IntKind.i64.wrap (((BitVec.ofInt 64 x &&& BitVec.ofInt 64 1).toNat : Nat) : Int) = x % 2
  rw [h, i64_in (by omega) (by omega)]
  omega
theorem wf_i64 {x : Int} (h : (Lit.int .i64 x).wf = true) : -9223372036854775808 ≤ x ∧ x ≤ 9223372036854775807 := by
  simp [Lit.wf, IntKind.min, IntKind.max, IntKind.signed, IntKind.bits] at h
  omega
theorem pow_pos_int (d : Nat) : (0 : Int) < 2 ^ d := Int.pow_pos (by decide)
theorem pow_le_int {a b : Nat} (h : a ≤ b) : (2 : Int) ^ a ≤ 2 ^ b := by
  have := Nat.pow_le_pow_right (n := 2) (by decide) h
  exact_mod_cast this

theorem ev_pos {α : Type} {c : Prop} [Decidable c] {g h : Nat → Option α} {r : α} (hc : c) (hg : Ev g r) : Ev (fun k => if c then g k else h k) r := by
  obtain ⟨K, hK⟩ := hg
  exact ⟨K, fun k hk => (if_pos hc).trans (hK k hk)⟩
theorem ev_neg {α : Type} {c : Prop} [Decidable c] {g h : Nat → Option α} {r : α} (hc : ¬ c) (hg : Ev h r) : Ev (fun k => if c then g k else h k) r := by
  obtain ⟨K, hK⟩ := hg
  exact ⟨K, fun k hk => (if_neg hc).trans (hK k hk)⟩
theorem ev_some {α β : Type} {f : Nat → α → Option β} {a : α} {r : β} (h : Ev (fun k => f k a) r) : Ev (fun k => (some a).bind (f k)) r := h
theorem ev_to {α β : Type} {x : Option α} {f : Nat → α → Option β} {a : α} {r : β} (e : x = some a) (h : Ev (fun k => f k a) r) : Ev (fun k => x.bind (f k)) r := by subst e; exact h
theorem ev_det {α : Type} {g : Nat → Option α} {r r' : α} (h : Ev g r) (h' : Ev g r') : r = r' := by
  obtain ⟨K, hK⟩ := h
  obtain ⟨K', hK'⟩ := h'
  have h1 := hK (max K K') (Nat.le_max_left _ _)
  have h2 := hK' (max K K') (Nat.le_max_right _ _)
  rw [h1] at h2
  exact Option.some.inj h2
theorem wrap_succ {j n : Nat} (h : j < n) (hn : n ≤ 9223372036854775807) : wrap64 ((j : Int) + 1) = ((j + 1 : Nat) : Int) := by
  rw [wrap64_in (by omega) (by omega)]; omega
theorem nat0 (j : Nat) : (0 : Int) ≤ (j : Int) := Int.natCast_nonneg j
theorem rd_nat (l : List Int) (j : Nat) : rd l (j : Int) = l.getD j 0 := by unfold rd; rw [Int.toNat_natCast]
theorem rd_get (l : List Int) (j : Nat) (h : j < l.length) : rd l (j : Int) = l[j] := by rw [rd_nat, List.getD_eq_getElem?_getD, List.getElem?_eq_getElem h]; rfl
theorem drop_cons {α : Type} (l : List α) (j : Nat) (h : j < l.length) : l.drop j = l[j] :: l.drop (j + 1) := List.drop_eq_getElem_cons h
theorem take_snoc' {α : Type} (l : List α) (j : Nat) (h : j < l.length) : l.take (j + 1) = l.take j ++ [l[j]] := List.take_succ_eq_append_getElem h
theorem set_take {α : Type} (acc : List α) (j : Nat) (x : α) (h : j < acc.length) : (acc.set j x).take (j + 1) = acc.take j ++ [x] := by
  rw [List.take_set, List.take_succ_eq_append_getElem h, List.set_append_right _ _ (by simp; omega)]
  have : (acc.take j).length = j := by rw [List.length_take]; omega
  rw [this, Nat.sub_self]
  rfl
theorem take_all {α : Type} {a b : List α} {n : Nat} (ha : a.length = n) (hb : b.length = n) (h : a.take n = b.take n) : a = b := by
  rw [List.take_of_length_le (by omega), List.take_of_length_le (by omega)] at h; exact h
theorem w01 : wrap64 (0 + 1) = 1 := by unfold wrap64; decide
theorem w11 : wrap64 (1 + 1) = 2 := by unfold wrap64; decide

theorem spec_in (a b c : Int) : spec_l00In.f a b c = some (decide (b ≤ a ∧ a ≤ c)) := by
  unfold spec_l00In.f
  by_cases h : a ≥ b
  · rw [if_pos h]; congr 1; have : b ≤ a := h; simp [this]
  · rw [if_neg h]; congr 1; have : ¬ b ≤ a := h; simp [this]
theorem impl_in (a b c : Int) : impl_within.f a b c = some (decide (b ≤ a ∧ a ≤ c)) := by
  unfold impl_within.f
  by_cases h : a ≥ b
  · rw [if_pos h]; congr 1; have : b ≤ a := h; simp [this]
  · rw [if_neg h]; congr 1; have : ¬ b ≤ a := h; simp [this]

theorem rdL_get (l : List (List Int)) (j : Nat) (h : j < l.length) : rd_L1 l (j : Int) = l[j] := by
  unfold rd_L1; rw [Int.toNat_natCast, List.getD_eq_getElem?_getD, List.getElem?_eq_getElem h]; rfl

theorem toInt64S_loop (l : List Int) (hn : l.length ≤ 1048576) (d : Nat) : ∀ (j : Nat) (acc : List Int), j + d = l.length → acc.length = l.length → acc.take j = l.take j →
    Ev (fun k => laws_toInt64S.l0 k l acc (j : Int)) l := by
  induction d with
  | zero =>
    intro j acc h1 h2 h3
    obtain rfl : acc = l := take_all (n := j) (by omega) (by omega) h3
    exact ev_one (fun k => by rw [laws_toInt64S.l0, if_neg (by omega)])
  | succ d ih =>
    intro j acc h1 h2 h3
    have hj : j < l.length := by omega
    refine Ev.step (fun k => ?_) (ih (j + 1) (acc.set j l[j]) (by omega) (by simpa using h2) (by rw [set_take _ _ _ (by omega), take_snoc' _ _ hj, h3]))
    rw [laws_toInt64S.l0, if_pos (by omega), if_pos (by omega), if_pos (by omega), wrap_succ hj (by omega), rd_get _ _ hj, Int.toNat_natCast]
theorem toInt64S_ev (l : List Int) (hn : l.length ≤ 1048576) : Ev (fun k => laws_toInt64S.f k l) l := by
  refine Ev.congr (fun k => ?_) (toInt64S_loop l hn l.length 0 (List.replicate l.length 0) (by omega) (by simp) (by simp))
  unfold laws_toInt64S.f
  rw [if_pos (by omega), if_pos (by omega), Int.toNat_natCast]
  rfl
theorem eqInt64S_loop (l : List Int) (hn : l.length ≤ 1048576) (d : Nat) : ∀ j : Nat, j + d = l.length → Ev (fun k => laws_eqInt64S.l0 k l l (j : Int)) true := by
  induction d with
  | zero => intro j h; exact ev_one (fun k => by rw [laws_eqInt64S.l0, if_neg (by omega)])
  | succ d ih =>
    intro j h
    refine Ev.step (fun k => ?_) (ih (j + 1) (by omega))
    rw [laws_eqInt64S.l0, if_pos (by omega), if_pos (by omega), if_pos (by omega), if_pos rfl, wrap_succ (n := l.length) (by omega) (by omega)]
theorem eqInt64S_ev (l : List Int) (hn : l.length ≤ 1048576) : Ev (fun k => laws_eqInt64S.f k l l) true := by
  refine Ev.congr (fun k => ?_) (eqInt64S_loop l hn l.length 0 (by omega))
  unfold laws_eqInt64S.f
  rw [if_pos rfl]
  rfl

theorem toInt64SS_loop (l : List (List Int)) (hn : l.length ≤ 1048576) (hr : ∀ r ∈ l, r.length ≤ 1048576) (d : Nat) : ∀ (j : Nat) (acc : List (List Int)), j + d = l.length → acc.length = l.length → acc.take j = l.take j →
    Ev (fun k => laws_toInt64SS.l0 k l acc (j : Int)) l := by
  induction d with
  | zero =>
    intro j acc h1 h2 h3
    obtain rfl : acc = l := take_all (n := j) (by omega) (by omega) h3
    exact ev_one (fun k => by rw [laws_toInt64SS.l0, if_neg (by omega)])
  | succ d ih =>
    intro j acc h1 h2 h3
    have hj : j < l.length := by omega
    refine Ev.step (fun k => by rw [laws_toInt64SS.l0, if_pos (by omega), if_pos (by omega), rdL_get _ _ hj]) ?_
    refine Ev.bind (toInt64S_ev l[j] (hr _ (List.getElem_mem hj))) (ev_pos (by omega) ?_)
    rw [wrap_succ hj (by omega), Int.toNat_natCast]
    exact ih (j + 1) (acc.set j l[j]) (by omega) (by simpa using h2) (by rw [set_take _ _ _ (by omega), take_snoc' _ _ hj, h3])
theorem toInt64SS_ev (l : List (List Int)) (hn : l.length ≤ 1048576) (hr : ∀ r ∈ l, r.length ≤ 1048576) : Ev (fun k => laws_toInt64SS.f k l) l := by
  refine Ev.congr (fun k => ?_) (toInt64SS_loop l hn hr l.length 0 (List.replicate l.length []) (by omega) (by simp) (by simp))
  unfold laws_toInt64SS.f
  rw [if_pos (by omega), if_pos (by omega), Int.toNat_natCast]
  rfl
theorem eqInt64SS_loop (l : List (List Int)) (hn : l.length ≤ 1048576) (hr : ∀ r ∈ l, r.length ≤ 1048576) (d : Nat) : ∀ j : Nat, j + d = l.length → Ev (fun k => laws_eqInt64SS.l0 k l l (j : Int)) true := by
  induction d with
  | zero => intro j h; exact ev_one (fun k => by rw [laws_eqInt64SS.l0, if_neg (by omega)])
  | succ d ih =>
    intro j h
    have hj : j < l.length := by omega
    refine Ev.step (fun k => by rw [laws_eqInt64SS.l0, if_pos (by omega), if_pos (by omega), if_pos (by omega), rdL_get _ _ hj]) ?_
    refine Ev.bind (eqInt64S_ev l[j] (hr _ (List.getElem_mem hj))) (ev_pos rfl ?_)
    rw [wrap_succ hj (by omega)]
    exact ih (j + 1) (by omega)
theorem eqInt64SS_ev (l : List (List Int)) (hn : l.length ≤ 1048576) (hr : ∀ r ∈ l, r.length ≤ 1048576) : Ev (fun k => laws_eqInt64SS.f k l l) true := by
  refine Ev.congr (fun k => ?_) (eqInt64SS_loop l hn hr l.length 0 (by omega))
  unfold laws_eqInt64SS.f
  rw [if_pos rfl]
  rfl

theorem toGraph_ev (l : List (List Int)) (hn : l.length ≤ 1048576) (hr : ∀ r ∈ l, r.length ≤ 1048576) : Ev (fun k => laws_toGraph.f k l) l := by
  unfold laws_toGraph.f
  exact Ev.bind (toInt64SS_ev l hn hr) (Ev.now _)
theorem eqGraph_ev (l : List (List Int)) (hn : l.length ≤ 1048576) (hr : ∀ r ∈ l, r.length ≤ 1048576) : Ev (fun k => laws_eqGraph.f k l l) true := by
  unfold laws_eqGraph.f
  exact Ev.bind (eqInt64SS_ev l hn hr) (Ev.now _)
theorem szSS_loop (l : List (List Int)) (hn : l.length ≤ 9223372036854775807) (hl : ∀ r ∈ l, r.length ≤ 9223372036854775807) (d : Nat) : ∀ (j : Nat) (left : Int), j + d = l.length → 0 ≤ left → left ≤ 1048576 →
    (∃ r, Ev (fun k => laws_szInt64SS.l0 k l left (j : Int)) r ∧ (0 ≤ r → ∀ x ∈ l.drop j, x.length ≤ 1048576)) := by
  induction d with
  | zero =>
    intro j left h h0 h1
    refine ⟨left, ev_one (fun k => by rw [laws_szInt64SS.l0, if_neg (by omega)]), fun _ x hx => ?_⟩
    rw [List.drop_eq_nil_of_le (by omega)] at hx
    cases hx
  | succ d ih =>
    intro j left h h0 h1
    have hj : j < l.length := by omega
    have hlen := hl _ (List.getElem_mem hj)
    have hw : wrap64 (left - (l[j].length : Int)) = left - (l[j].length : Int) := wrap64_in (by omega) (by omega)
    by_cases c : left - (l[j].length : Int) < 0
    · refine ⟨-1, ev_one (fun k => ?_), fun h => by omega⟩
      rw [laws_szInt64SS.l0, if_pos (by omega), if_pos (by omega), rdL_get _ _ hj]
      unfold laws_szInt64S.f
      rw [hw, if_pos c]
      rfl
    · obtain ⟨r, hr, hp⟩ := ih (j + 1) (left - (l[j].length : Int)) (by omega) (by omega) (by omega)
      refine ⟨r, Ev.step (fun k => ?_) hr, fun h0 x hx => ?_⟩
      · rw [laws_szInt64SS.l0, if_pos (by omega), if_pos (by omega), rdL_get _ _ hj]
        unfold laws_szInt64S.f
        rw [hw, if_neg c, Option.bind_some, if_neg c, wrap_succ hj (by omega)]
      · rw [drop_cons _ _ hj] at hx
        rcases List.mem_cons.1 hx with rfl | hx
        · omega
        · exact hp h0 x hx
theorem szGraph_ev (l : List (List Int)) (hn : l.length ≤ 9223372036854775807) (hl : ∀ r ∈ l, r.length ≤ 9223372036854775807) :
    ∃ r, Ev (fun k => laws_szGraph.f k l 1048576) r ∧ (0 ≤ r → l.length ≤ 1048576 ∧ ∀ x ∈ l, x.length ≤ 1048576) := by
  have hw : wrap64 (1048576 - (l.length : Int)) = 1048576 - (l.length : Int) := wrap64_in (by omega) (by omega)
  by_cases c : 1048576 - (l.length : Int) < 0
  · refine ⟨-1, ?_, fun h => by omega⟩
    refine Ev.congr (fun k => ?_) (Ev.now _)
    unfold laws_szGraph.f laws_szInt64SS.f
    rw [hw, if_pos c]
    rfl
  · obtain ⟨r, hr, hp⟩ := szSS_loop l hn hl l.length 0 (1048576 - (l.length : Int)) (by omega) (by omega) (by omega)
    by_cases c2 : r < 0
    · refine ⟨-1, ?_, fun h => by omega⟩
      refine Ev.congr (fun k => by unfold laws_szGraph.f laws_szInt64SS.f; rw [hw, if_neg c]) ?_
      exact Ev.bind hr (ev_pos c2 (Ev.now _))
    · refine ⟨r, ?_, fun h0 => ⟨by omega, fun x hx => hp h0 x (by simpa using hx)⟩⟩
      refine Ev.congr (fun k => by unfold laws_szGraph.f laws_szInt64SS.f; rw [hw, if_neg c]) ?_
      exact Ev.bind hr (ev_neg c2 (Ev.now _))

/-- A row of a valid graph with n states. -/
def okRow (n : Int) (r : List Int) : Bool := decide (r.length = 2) && (decide (-1 ≤ rd r 0 ∧ rd r 0 ≤ n - 1) && (decide (-1 ≤ rd r 1 ∧ rd r 1 ≤ n - 1) && !(decide (rd r 0 < 0) && decide (rd r 1 < 0))))
def VG (g : List (List Int)) : Bool := decide (1 ≤ (g.length : Int) ∧ (g.length : Int) ≤ 12) && g.all (okRow g.length)
theorem row_two {r : List Int} (h : r.length = 2) : ∃ a b, r = [a, b] := by
  match r, h with
  | [a, b], _ => exact ⟨a, b, rfl⟩
theorem okRow_not {n : Int} {r : List Int} (h : ¬ r.length = 2) : okRow n r = false := by simp [okRow, h]
theorem okRow_two (n a b : Int) : okRow n [a, b] = (decide (-1 ≤ a ∧ a ≤ n - 1) && (decide (-1 ≤ b ∧ b ≤ n - 1) && !(decide (a < 0) && decide (b < 0)))) := rfl
theorem rd0 (a b : Int) : rd [a, b] 0 = a := rfl
theorem rd1 (a b : Int) : rd [a, b] 1 = b := rfl
theorem len2 (a b : Int) : (([a, b] : List Int).length : Int) = 2 := rfl
theorem VG_iff {g : List (List Int)} (h : VG g = true) : (1 ≤ g.length ∧ g.length ≤ 12) ∧ ∀ r ∈ g, ∃ a b, r = [a, b] ∧ (-1 ≤ a ∧ a ≤ (g.length : Int) - 1) ∧ (-1 ≤ b ∧ b ≤ (g.length : Int) - 1) ∧ ¬ (a < 0 ∧ b < 0) := by
  simp only [VG, Bool.and_eq_true, decide_eq_true_eq, List.all_eq_true] at h
  refine ⟨by omega, fun r hr => ?_⟩
  have h2 := h.2 r hr
  by_cases hl : r.length = 2
  · obtain ⟨a, b, rfl⟩ := row_two hl
    rw [okRow_two] at h2
    simp only [Bool.and_eq_true, decide_eq_true_eq, Bool.not_eq_true', Bool.and_eq_false_imp, decide_eq_false_iff_not] at h2
    exact ⟨a, b, rfl, h2.1, h2.2.1, fun h => h2.2.2 h.1 h.2⟩
  · rw [okRow_not hl] at h2; cases h2

theorem areIn_loop (l : List Int) (lo hi : Int) (hn : l.length ≤ 9223372036854775807) (d : Nat) : ∀ j : Nat, j + d = l.length →
    Ev (fun k => impl_areIn.l0 k lo hi l (l.length : Int) (j : Int)) ((l.drop j).all fun x => decide (lo ≤ x ∧ x ≤ hi)) := by
  induction d with
  | zero =>
    intro j h
    rw [List.drop_eq_nil_of_le (by omega)]
    exact ev_one (fun k => by rw [impl_areIn.l0, if_neg (by omega)]; rfl)
  | succ d ih =>
    intro j h
    have hj : j < l.length := by omega
    rw [drop_cons _ _ hj, List.all_cons]
    by_cases c : lo ≤ l[j] ∧ l[j] ≤ hi
    · rw [decide_eq_true c, Bool.true_and]
      refine Ev.step (fun k => ?_) (ih (j + 1) (by omega))
      rw [impl_areIn.l0, if_pos (by omega), if_pos (by omega), if_pos (by omega), rd_get _ _ hj, impl_in, decide_eq_true c, Option.bind_some, if_pos rfl, wrap_succ hj hn]
    · rw [decide_eq_false c, Bool.false_and]
      refine ev_one (fun k => ?_)
      rw [impl_areIn.l0, if_pos (by omega), if_pos (by omega), if_pos (by omega), rd_get _ _ hj, impl_in, decide_eq_false c, Option.bind_some, if_neg (by decide)]
theorem areIn_ev (l : List Int) (lo hi : Int) (hn : l.length ≤ 9223372036854775807) : Ev (fun k => impl_areIn.f k l lo hi) (l.all fun x => decide (lo ≤ x ∧ x ≤ hi)) :=
  areIn_loop l lo hi hn l.length 0 (by omega)

theorem specVG_loop (g : List (List Int)) (h12 : g.length ≤ 12) (d : Nat) : ∀ j : Nat, j + d = g.length →
    Ev (fun k => spec_l02Is.l0 k (g.length : Int) (j : Int) g) ((g.drop j).all (okRow g.length)) := by
  have hw : wrap64 ((g.length : Int) - 1) = (g.length : Int) - 1 := wrap64_in (by omega) (by omega)
  induction d with
  | zero =>
    intro j h
    rw [List.drop_eq_nil_of_le (by omega)]
    exact ev_one (fun k => by rw [spec_l02Is.l0, if_neg (by omega)]; rfl)
  | succ d ih =>
    intro j h
    have hj : j < g.length := by omega
    have hs := wrap_succ hj (by omega)
    rw [drop_cons _ _ hj, List.all_cons]
    by_cases hl : (g[j]).length = 2
    · obtain ⟨a, b, e⟩ := row_two hl
      have hi := ih (j + 1) (by omega)
      rw [e, okRow_two]
      refine Ev.step (fun k => by rw [spec_l02Is.l0, if_pos (by omega), if_pos (by omega), rdL_get _ _ hj, e, if_pos (len2 a b), if_pos (by rw [len2]; decide), if_pos (by rw [len2]; decide), rd0, rd1, spec_in, spec_in, hw, Option.bind_some, Option.bind_some, hs]) ?_
      by_cases ca : -1 ≤ a ∧ a ≤ (g.length : Int) - 1
      · rw [decide_eq_true ca, Bool.true_and]
        refine ev_pos rfl ?_
        by_cases cb : -1 ≤ b ∧ b ≤ (g.length : Int) - 1
        · rw [decide_eq_true cb, Bool.true_and]
          refine ev_pos rfl ?_
          by_cases a0 : a < 0
          · refine ev_pos a0 ?_
            by_cases b0 : b < 0
            · refine ev_pos b0 ?_
              simpa [a0, b0] using Ev.now false
            · refine ev_neg b0 ?_
              simpa [a0, b0] using hi
          · refine ev_neg a0 ?_
            simpa [a0] using hi
        · rw [decide_eq_false cb, Bool.false_and, Bool.false_and]
          exact ev_neg (by decide) (Ev.now _)
      · rw [decide_eq_false ca, Bool.false_and, Bool.false_and]
        exact ev_neg (by decide) (Ev.now _)
    · rw [okRow_not hl, Bool.false_and]
      refine ev_one (fun k => ?_)
      rw [spec_l02Is.l0, if_pos (by omega), if_pos (by omega), rdL_get _ _ hj, if_neg (by omega)]
theorem specIs_ev (g : List (List Int)) : Ev (fun k => spec_l02Is.f k g) (VG g) := by
  by_cases c : 1 ≤ (g.length : Int) ∧ (g.length : Int) ≤ 12
  · have h := specVG_loop g (by omega) g.length 0 (by omega)
    unfold VG
    rw [decide_eq_true c, Bool.true_and]
    refine Ev.congr (fun k => ?_) h
    unfold spec_l02Is.f
    rw [spec_in, decide_eq_true c]
    rfl
  · refine Ev.congr (fun k => ?_) (Ev.now _)
    unfold spec_l02Is.f VG
    rw [spec_in, decide_eq_false c]
    rfl

theorem implVG_loop (g : List (List Int)) (h12 : g.length ≤ 12) (hr : ∀ r ∈ g, r.length ≤ 9223372036854775807) (d : Nat) : ∀ j : Nat, j + d = g.length →
    Ev (fun k => impl_ValidGraph.l0 k (g.length : Int) g (g.length : Int) (j : Int)) ((g.drop j).all (okRow g.length)) := by
  have hw : wrap64 ((g.length : Int) - 1) = (g.length : Int) - 1 := wrap64_in (by omega) (by omega)
  induction d with
  | zero =>
    intro j h
    rw [List.drop_eq_nil_of_le (by omega)]
    exact ev_one (fun k => by rw [impl_ValidGraph.l0, if_neg (by omega)]; rfl)
  | succ d ih =>
    intro j h
    have hj : j < g.length := by omega
    have hs := wrap_succ hj (by omega)
    rw [drop_cons _ _ hj, List.all_cons]
    by_cases hl : (g[j]).length = 2
    · obtain ⟨a, b, e⟩ := row_two hl
      have hi := ih (j + 1) (by omega)
      rw [e, okRow_two]
      have ha := areIn_ev [a, b] (-1) ((g.length : Int) - 1) (show 2 ≤ 9223372036854775807 by decide)
      refine Ev.step (fun k => by rw [impl_ValidGraph.l0, if_pos (by omega), if_pos (by omega), if_pos (by omega), rdL_get _ _ hj, e, if_pos (len2 a b), hw, if_pos (show (0 : Int) < (([a, b] : List Int).length : Int) by rw [len2]; decide), if_pos (show (1 : Int) < (([a, b] : List Int).length : Int) by rw [len2]; decide), rd0, rd1, hs]) (Ev.bind ha ?_)
      by_cases ca : -1 ≤ a ∧ a ≤ (g.length : Int) - 1
      · by_cases cb : -1 ≤ b ∧ b ≤ (g.length : Int) - 1
        · rw [decide_eq_true ca, decide_eq_true cb, Bool.true_and, Bool.true_and]
          refine ev_pos (by simp [ca, cb]) ?_
          by_cases a0 : a < 0
          · refine ev_pos a0 ?_
            by_cases b0 : b < 0
            · refine ev_pos b0 ?_
              simpa [a0, b0] using Ev.now false
            · refine ev_neg b0 ?_
              simpa [a0, b0] using hi
          · refine ev_neg a0 ?_
            simpa [a0] using hi
        · rw [decide_eq_false cb, Bool.false_and, Bool.and_false, Bool.false_and]
          exact ev_neg (by simp [cb]) (Ev.now _)
      · rw [decide_eq_false ca, Bool.false_and, Bool.false_and]
        exact ev_neg (by simp [ca]) (Ev.now _)
    · rw [okRow_not hl, Bool.false_and]
      refine ev_one (fun k => ?_)
      rw [impl_ValidGraph.l0, if_pos (by omega), if_pos (by omega), if_pos (by omega), rdL_get _ _ hj, if_neg (by omega)]
theorem implVG_ev (g : List (List Int)) (hr : ∀ r ∈ g, r.length ≤ 9223372036854775807) : Ev (fun k => impl_ValidGraph.f k g) (VG g) := by
  by_cases c : 1 ≤ (g.length : Int) ∧ (g.length : Int) ≤ 12
  · have h := implVG_loop g (by omega) hr g.length 0 (by omega)
    unfold VG
    rw [decide_eq_true c, Bool.true_and]
    refine Ev.congr (fun k => ?_) h
    unfold impl_ValidGraph.f
    rw [impl_in, decide_eq_true c]
    rfl
  · refine Ev.congr (fun k => ?_) (Ev.now _)
    unfold impl_ValidGraph.f VG
    rw [impl_in, decide_eq_false c]
    rfl

def addE (z m : Int) (nx : List Int) : List Int := if z ≥ 0 then nx.set z.toNat (wrap64 (rd nx z + m)) else nx
def wayRow (g : List (List Int)) (row nx : List Int) (y : Int) : List Int := addE (rd (rd_L1 g y) 1) (rd row y) (addE (rd (rd_L1 g y) 0) (rd row y) nx)
def wayFrom (g : List (List Int)) (row : List Int) : Nat → Nat → List Int → List Int
  | 0, _, nx => nx
  | d + 1, j, nx => wayFrom g row d (j + 1) (wayRow g row nx j)
def wayStep (g : List (List Int)) (row : List Int) : List Int := wayFrom g row g.length 0 (List.replicate g.length 0)
def wayIter (g : List (List Int)) : Nat → List Int → List Int
  | 0, r => r
  | k + 1, r => wayIter g k (wayStep g r)
def wayOf (g : List (List Int)) (q x : Nat) : List Int := wayIter g q ((List.replicate g.length 0).set x 1)
def waysTo (g : List (List Int)) (q x : Nat) : List (List Int) := (List.range x).map (wayOf g q)
theorem addE_length (z m : Int) (nx : List Int) : (addE z m nx).length = nx.length := by unfold addE; split <;> simp
theorem wayRow_length (g : List (List Int)) (row nx : List Int) (y : Int) : (wayRow g row nx y).length = nx.length := by unfold wayRow; rw [addE_length, addE_length]
theorem wayFrom_length (g : List (List Int)) (row : List Int) (d : Nat) : ∀ (j : Nat) (nx : List Int), (wayFrom g row d j nx).length = nx.length := by
  induction d with
  | zero => intro j nx; rfl
  | succ d ih => intro j nx; show (wayFrom g row d (j + 1) (wayRow g row nx j)).length = _; rw [ih, wayRow_length]
theorem wayStep_length (g : List (List Int)) (row : List Int) : (wayStep g row).length = g.length := by unfold wayStep; rw [wayFrom_length, List.length_replicate]
theorem wayIter_length (g : List (List Int)) (k : Nat) : ∀ row : List Int, row.length = g.length → (wayIter g k row).length = g.length := by
  induction k with
  | zero => intro row h; exact h
  | succ k ih => intro row h; exact ih _ (wayStep_length g row)
theorem wayOf_length (g : List (List Int)) (q x : Nat) : (wayOf g q x).length = g.length := wayIter_length g q _ (by simp)
theorem waysTo_length (g : List (List Int)) (q x : Nat) : (waysTo g q x).length = x := by simp [waysTo]
theorem waysTo_succ (g : List (List Int)) (q x : Nat) : waysTo g q (x + 1) = waysTo g q x ++ [wayOf g q x] := by simp [waysTo, List.range_succ]
theorem waysTo_get (g : List (List Int)) (q n x : Nat) (h : x < n) : rd_L1 (waysTo g q n) (x : Int) = wayOf g q x := by
  rw [rdL_get _ _ (by rw [waysTo_length]; exact h)]; simp [waysTo]
/-- A valid graph's rows, as places in lists. -/
def Rows2 (g : List (List Int)) : Prop := ∀ j : Nat, j < g.length → ∃ a b, rd_L1 g (j : Int) = [a, b] ∧ a < (g.length : Int) ∧ b < (g.length : Int) ∧ -1 ≤ a ∧ -1 ≤ b
theorem rows2_of {g : List (List Int)} (h : VG g = true) : Rows2 g := by
  intro j hj
  obtain ⟨_, h2⟩ := VG_iff h
  obtain ⟨a, b, e, ha, hb, _⟩ := h2 g[j] (List.getElem_mem hj)
  exact ⟨a, b, by rw [rdL_get _ _ hj, e], by omega, by omega, ha.1, hb.1⟩

theorem sw_l3 (g : List (List Int)) (hg : Rows2 g) (h12 : g.length ≤ 12) (Q : Int) (out : List (List Int)) (X : Int) (row : List Int) (KK : Int) (nx : List Int) (y : Nat) (hy : y < g.length) (hrow : row.length = g.length) (hnx : nx.length = g.length) {res : List (List Int)}
    (h : Ev (fun k => spec_l02Ways.l2 k Q (g.length : Int) out X row KK (wayRow g row nx (y : Int)) ((y + 1 : Nat) : Int) g) res) : Ev (fun k => spec_l02Ways.l3 k Q (g.length : Int) out X row KK nx (y : Int) 0 g) res := by
  obtain ⟨a, b, e, ha, hb, _, _⟩ := hg y hy
  have el := len2 a b
  have two : ∀ nx' : List Int, nx'.length = g.length → nx' = addE a (rd row (y : Int)) nx → Ev (fun k => spec_l02Ways.l3 k Q (g.length : Int) out X row KK nx' (y : Int) 1 g) res := by
    intro nx' hl he
    simp only [wayRow, e, rd0, rd1, ← he] at h
    by_cases cb : b ≥ 0
    · have eP : addE b (rd row (y : Int)) nx' = nx'.set b.toNat (wrap64 (rd nx' b + rd row (y : Int))) := by rw [addE, if_pos cb]
      rw [eP] at h
      refine Ev.step (fun k => by rw [spec_l02Ways.l3, if_pos (by decide), if_pos (by omega), if_pos (by omega), if_pos (by decide), e, if_pos (by rw [el]; decide), rd1, if_pos cb, if_pos cb, if_pos (by omega), if_pos (by omega), w11]) ?_
      exact Ev.step (fun k => by rw [spec_l02Ways.l3, if_neg (by decide), wrap_succ hy (by omega)]) h
    · have eP : addE b (rd row (y : Int)) nx' = nx' := by rw [addE, if_neg cb]
      rw [eP] at h
      refine Ev.step (fun k => by rw [spec_l02Ways.l3, if_pos (by decide), if_pos (by omega), if_pos (by omega), if_pos (by decide), e, if_pos (by rw [el]; decide), rd1, if_neg cb, w11]) ?_
      exact Ev.step (fun k => by rw [spec_l02Ways.l3, if_neg (by decide), wrap_succ hy (by omega)]) h
  by_cases ca : a ≥ 0
  · have eP : addE a (rd row (y : Int)) nx = nx.set a.toNat (wrap64 (rd nx a + rd row (y : Int))) := by rw [addE, if_pos ca]
    refine Ev.step (fun k => by rw [spec_l02Ways.l3, if_pos (by decide), if_pos (by omega), if_pos (by omega), if_pos (by decide), e, if_pos (by rw [el]; decide), rd0, if_pos ca, if_pos ca, if_pos (by omega), if_pos (by omega), w01]) ?_
    exact two _ (by simpa using hnx) eP.symm
  · have eP : addE a (rd row (y : Int)) nx = nx := by rw [addE, if_neg ca]
    refine Ev.step (fun k => by rw [spec_l02Ways.l3, if_pos (by decide), if_pos (by omega), if_pos (by omega), if_pos (by decide), e, if_pos (by rw [el]; decide), rd0, if_neg ca, w01]) ?_
    exact two _ hnx eP.symm
theorem sw_l2 (g : List (List Int)) (hg : Rows2 g) (h12 : g.length ≤ 12) (Q : Int) (out : List (List Int)) (X : Int) (row : List Int) (KK : Int) (hrow : row.length = g.length) {res : List (List Int)} (d : Nat) : ∀ (y : Nat) (nx : List Int), y + d = g.length → nx.length = g.length →
    Ev (fun k => spec_l02Ways.l1 k Q (g.length : Int) out X (wayFrom g row d y nx) (wrap64 (KK + 1)) g) res → Ev (fun k => spec_l02Ways.l2 k Q (g.length : Int) out X row KK nx (y : Int) g) res := by
  induction d with
  | zero => intro y nx h hn hr; exact Ev.step (fun k => by rw [spec_l02Ways.l2, if_neg (by omega)]; rfl) hr
  | succ d ih =>
    intro y nx h hn hr
    refine Ev.step (fun k => by rw [spec_l02Ways.l2, if_pos (by omega)]) ?_
    exact sw_l3 g hg h12 Q out X row KK nx y (by omega) hrow hn (ih (y + 1) _ (by omega) (by rw [wayRow_length]; exact hn) hr)
theorem sw_l1 (g : List (List Int)) (hg : Rows2 g) (h12 : g.length ≤ 12) (q : Nat) (hq : q ≤ 100) (out : List (List Int)) (ho : out.length ≤ 12) (x : Nat) (hx : x < g.length) {res : List (List Int)} (d : Nat) : ∀ (kk : Nat) (row : List Int), kk + d = q → row.length = g.length →
    Ev (fun k => spec_l02Ways.l0 k (q : Int) (g.length : Int) (out ++ [wayIter g d row]) ((x + 1 : Nat) : Int) g) res → Ev (fun k => spec_l02Ways.l1 k (q : Int) (g.length : Int) out (x : Int) row (kk : Int) g) res := by
  induction d with
  | zero => intro kk row h hr hres; exact Ev.step (fun k => by rw [spec_l02Ways.l1, if_neg (by omega), if_pos (by omega), wrap_succ hx (by omega)]; rfl) hres
  | succ d ih =>
    intro kk row h hr hres
    refine Ev.step (fun k => by rw [spec_l02Ways.l1, if_pos (by omega), if_pos (by omega), if_pos (by omega), Int.toNat_natCast]) ?_
    refine sw_l2 g hg h12 q out x row kk hr g.length 0 _ (by omega) (by simp) ?_
    rw [wrap_succ (j := kk) (n := 1000) (by omega) (by omega)]
    exact ih (kk + 1) _ (by omega) (wayStep_length g row) hres
theorem sw_l0 (g : List (List Int)) (hg : Rows2 g) (h12 : g.length ≤ 12) (q : Nat) (hq : q ≤ 100) (d : Nat) : ∀ x : Nat, x + d = g.length → Ev (fun k => spec_l02Ways.l0 k (q : Int) (g.length : Int) (waysTo g q x) (x : Int) g) (waysTo g q g.length) := by
  induction d with
  | zero =>
    intro x h
    obtain rfl : x = g.length := by omega
    exact ev_one (fun k => by rw [spec_l02Ways.l0, if_neg (by omega)])
  | succ d ih =>
    intro x h
    have hi := ih (x + 1) (by omega)
    rw [waysTo_succ] at hi
    refine Ev.step (fun k => by rw [spec_l02Ways.l0, if_pos (by omega), if_pos (by omega), if_pos (by omega), Option.bind_some, if_pos (by omega), Int.toNat_natCast, if_pos (by rw [List.length_replicate]; omega), Int.toNat_natCast]) ?_
    exact sw_l1 g hg h12 q hq _ (by rw [waysTo_length]; omega) x (by omega) q 0 _ (by omega) (by simp) hi
theorem specWays_ev (g : List (List Int)) (hg : Rows2 g) (h12 : g.length ≤ 12) (q : Nat) (hq : q ≤ 100) : Ev (fun k => spec_l02Ways.f k g (q : Int)) (waysTo g q g.length) :=
  sw_l0 g hg h12 q hq g.length 0 (by omega)

theorem iw_l3 (g : List (List Int)) (hg : Rows2 g) (h12 : g.length ≤ 12) (Q : Int) (out : List (List Int)) (L X Q2 KK : Int) (row : List Int) (N : Int) (nx : List Int) (y : Nat) (hy : y < g.length) (hnx : nx.length = g.length) {res : List (List Int)}
    (h : Ev (fun k => impl_Graph_ways.l2 k Q (g.length : Int) out (wayRow g row nx (y : Int)) L X Q2 KK row N ((y + 1 : Nat) : Int) g) res) : Ev (fun k => impl_Graph_ways.l3 k Q (g.length : Int) out nx (rd row (y : Int)) L X Q2 KK row N (y : Int) (rd_L1 g (y : Int)) ((rd_L1 g (y : Int)).length : Int) 0 g) res := by
  obtain ⟨a, b, e, ha, hb, _, _⟩ := hg y hy
  have el := len2 a b
  rw [e]
  have two : ∀ nx' : List Int, nx'.length = g.length → nx' = addE a (rd row (y : Int)) nx → Ev (fun k => impl_Graph_ways.l3 k Q (g.length : Int) out nx' (rd row (y : Int)) L X Q2 KK row N (y : Int) [a, b] (([a, b] : List Int).length : Int) 1 g) res := by
    intro nx' hl he
    simp only [wayRow, e, rd0, rd1, ← he] at h
    by_cases cb : b ≥ 0
    · have eP : addE b (rd row (y : Int)) nx' = nx'.set b.toNat (wrap64 (rd nx' b + rd row (y : Int))) := by rw [addE, if_pos cb]
      rw [eP] at h
      refine Ev.step (fun k => by rw [impl_Graph_ways.l3, if_pos (by rw [el]; decide), if_pos (by decide), if_pos (by rw [el]; decide), rd1, if_pos cb, if_pos cb, if_pos (by omega), w11]) ?_
      exact Ev.step (fun k => by rw [impl_Graph_ways.l3, if_neg (by rw [el]; decide), wrap_succ hy (by omega)]) h
    · have eP : addE b (rd row (y : Int)) nx' = nx' := by rw [addE, if_neg cb]
      rw [eP] at h
      refine Ev.step (fun k => by rw [impl_Graph_ways.l3, if_pos (by rw [el]; decide), if_pos (by decide), if_pos (by rw [el]; decide), rd1, if_neg cb, w11]) ?_
      exact Ev.step (fun k => by rw [impl_Graph_ways.l3, if_neg (by rw [el]; decide), wrap_succ hy (by omega)]) h
  by_cases ca : a ≥ 0
  · have eP : addE a (rd row (y : Int)) nx = nx.set a.toNat (wrap64 (rd nx a + rd row (y : Int))) := by rw [addE, if_pos ca]
    refine Ev.step (fun k => by rw [impl_Graph_ways.l3, if_pos (by rw [el]; decide), if_pos (by decide), if_pos (by rw [el]; decide), rd0, if_pos ca, if_pos ca, if_pos (by omega), w01]) ?_
    exact two _ (by simpa using hnx) eP.symm
  · have eP : addE a (rd row (y : Int)) nx = nx := by rw [addE, if_neg ca]
    refine Ev.step (fun k => by rw [impl_Graph_ways.l3, if_pos (by rw [el]; decide), if_pos (by decide), if_pos (by rw [el]; decide), rd0, if_neg ca, w01]) ?_
    exact two _ hnx eP.symm
theorem iw_l2 (g : List (List Int)) (hg : Rows2 g) (h12 : g.length ≤ 12) (Q : Int) (out : List (List Int)) (L X Q2 KK : Int) (row : List Int) (hrow : row.length = g.length) {res : List (List Int)} (d : Nat) : ∀ (y : Nat) (nx : List Int), y + d = g.length → nx.length = g.length →
    Ev (fun k => impl_Graph_ways.l1 k Q (g.length : Int) out (wayFrom g row d y nx) L X Q2 (wrap64 (KK + 1)) g) res → Ev (fun k => impl_Graph_ways.l2 k Q (g.length : Int) out nx L X Q2 KK row (row.length : Int) (y : Int) g) res := by
  induction d with
  | zero => intro y nx h hn hr; exact Ev.step (fun k => by rw [impl_Graph_ways.l2, if_neg (by omega)]; rfl) hr
  | succ d ih =>
    intro y nx h hn hr
    refine Ev.step (fun k => by rw [impl_Graph_ways.l2, if_pos (by omega), if_pos (by omega), if_pos (by omega), if_pos (by omega)]) ?_
    exact iw_l3 g hg h12 Q out L X Q2 KK row _ nx y (by omega) hn (ih (y + 1) _ (by omega) (by rw [wayRow_length]; exact hn) hr)
theorem iw_l1 (g : List (List Int)) (hg : Rows2 g) (h12 : g.length ≤ 12) (q : Nat) (hq : q ≤ 100) (out : List (List Int)) (ho : out.length ≤ 12) (x : Nat) (hx : x < g.length) {res : List (List Int)} (d : Nat) : ∀ (kk : Nat) (row : List Int), kk + d = q → row.length = g.length →
    Ev (fun k => impl_Graph_ways.l0 k (q : Int) (g.length : Int) (out ++ [wayIter g d row]) (g.length : Int) ((x + 1 : Nat) : Int) g) res → Ev (fun k => impl_Graph_ways.l1 k (q : Int) (g.length : Int) out row (g.length : Int) (x : Int) (q : Int) (kk : Int) g) res := by
  induction d with
  | zero => intro kk row h hr hres; exact Ev.step (fun k => by rw [impl_Graph_ways.l1, if_neg (by omega), if_pos (by omega), wrap_succ hx (by omega)]; rfl) hres
  | succ d ih =>
    intro kk row h hr hres
    refine Ev.step (fun k => by rw [impl_Graph_ways.l1, if_pos (by omega), if_pos (by omega), if_pos (by omega), Int.toNat_natCast]) ?_
    refine iw_l2 g hg h12 q out g.length x q kk row hr g.length 0 _ (by omega) (by simp) ?_
    rw [wrap_succ (j := kk) (n := 1000) (by omega) (by omega)]
    exact ih (kk + 1) _ (by omega) (wayStep_length g row) hres
theorem iw_l0 (g : List (List Int)) (hg : Rows2 g) (h12 : g.length ≤ 12) (q : Nat) (hq : q ≤ 100) (d : Nat) : ∀ x : Nat, x + d = g.length → Ev (fun k => impl_Graph_ways.l0 k (q : Int) (g.length : Int) (waysTo g q x) (g.length : Int) (x : Int) g) (waysTo g q g.length) := by
  induction d with
  | zero =>
    intro x h
    obtain rfl : x = g.length := by omega
    exact ev_one (fun k => by rw [impl_Graph_ways.l0, if_neg (by omega)])
  | succ d ih =>
    intro x h
    have hi := ih (x + 1) (by omega)
    rw [waysTo_succ] at hi
    refine Ev.step (fun k => by rw [impl_Graph_ways.l0, if_pos (by omega), if_pos (by omega), if_pos (by omega), Option.bind_some, if_pos (by omega), Int.toNat_natCast, if_pos (by rw [List.length_replicate]; omega), Int.toNat_natCast]) ?_
    exact iw_l1 g hg h12 q hq _ (by rw [waysTo_length]; omega) x (by omega) q 0 _ (by omega) (by simp) hi
theorem implWays_ev (g : List (List Int)) (hg : Rows2 g) (h12 : g.length ≤ 12) (q : Nat) (hq : q ≤ 100) : Ev (fun k => impl_Graph_ways.f k g (q : Int)) (waysTo g q g.length) :=
  iw_l0 g hg h12 q hq g.length 0 (by omega)

/-- The sum over the states from j on, as both reckon it. -/
def dotFrom (ws vec : List Int) : Nat → Nat → Int → Int
  | 0, _, acc => acc
  | d + 1, j, acc => dotFrom ws vec d (j + 1) (wrap64 (acc + wrap64 (rd ws (j : Int) * rd vec (j : Int))))
def tooG (ws vec : List Int) (p x : Int) : Bool := decide (dotFrom ws vec ws.length 0 0 < shl .i64 (rd vec x) p)
theorem tooG_loop (ws vec : List Int) (p : Int) (hp : 0 ≤ p) (x : Nat) (hx : x < vec.length) (hl : ws.length = vec.length) (h12 : vec.length ≤ 100) (d : Nat) : ∀ (j : Nat) (acc : Int), j + d = ws.length →
    Ev (fun k => impl_tooGreat.l0 k vec p (x : Int) acc ws (ws.length : Int) (j : Int)) (decide (dotFrom ws vec d j acc < shl .i64 (rd vec (x : Int)) p)) := by
  induction d with
  | zero => intro j acc h; exact ev_one (fun k => by rw [impl_tooGreat.l0, if_neg (by omega), if_pos (by omega), if_pos (by omega), if_pos hp]; rfl)
  | succ d ih =>
    intro j acc h
    exact Ev.step (fun k => by rw [impl_tooGreat.l0, if_pos (by omega), if_pos (by omega), if_pos (by omega), if_pos (by omega), wrap_succ (j := j) (n := ws.length) (by omega) (by omega)]) (ih (j + 1) _ (by omega))
theorem tooG_ev (ws vec : List Int) (p : Int) (hp : 0 ≤ p) (x : Nat) (hx : x < vec.length) (hl : ws.length = vec.length) (h12 : vec.length ≤ 100) : Ev (fun k => impl_tooGreat.f k ws vec p (x : Int)) (tooG ws vec p (x : Int)) :=
  tooG_loop ws vec p hp x hx hl h12 ws.length 0 0 (by omega)
theorem max_loop (l : List Int) (hn : l.length ≤ 1000) (d : Nat) : ∀ (j : Nat) (m : Int), j + d = l.length →
    ∃ M, Ev (fun k => slices_Max_int64_int64.l0 k l m (j : Int)) M ∧ (M > 0 ↔ m > 0 ∨ ∃ x ∈ l.drop j, x > 0) := by
  induction d with
  | zero =>
    intro j m h
    refine ⟨m, ev_one (fun k => by rw [slices_Max_int64_int64.l0, if_neg (by omega)]), ?_⟩
    rw [List.drop_eq_nil_of_le (by omega)]
    simp
  | succ d ih =>
    intro j m h
    have hj : j < l.length := by omega
    obtain ⟨M, h1, h2⟩ := ih (j + 1) (mx m (rd l (j : Int))) (by omega)
    refine ⟨M, Ev.step (fun k => by rw [slices_Max_int64_int64.l0, if_pos (by omega), if_pos (by omega), wrap_succ hj (by omega)]) h1, ?_⟩
    rw [h2, rd_get _ _ hj, drop_cons _ _ hj]
    have hm : mx m l[j] > 0 ↔ m > 0 ∨ l[j] > 0 := by unfold mx; split <;> omega
    rw [hm]
    simp only [List.mem_cons]
    constructor
    · rintro ((h | h) | ⟨x, hx, h⟩)
      · exact .inl h
      · exact .inr ⟨_, .inl rfl, h⟩
      · exact .inr ⟨x, .inr hx, h⟩
    · rintro (h | ⟨x, rfl | hx, h⟩)
      · exact .inl (.inl h)
      · exact .inl (.inr h)
      · exact .inr ⟨x, hx, h⟩
theorem max_ev (l : List Int) (h0 : 0 < l.length) (hn : l.length ≤ 1000) : ∃ M, Ev (fun k => slices_Max_int64_int64.f k l) M ∧ (M > 0 ↔ ∃ x ∈ l, x > 0) := by
  obtain ⟨M, h1, h2⟩ := max_loop l hn (l.length - 1) 1 (rd l ((0 : Nat) : Int)) (by omega)
  refine ⟨M, ?_, ?_⟩
  · refine Ev.congr (fun k => ?_) h1
    unfold slices_Max_int64_int64.f
    rw [if_neg (by omega), if_pos (by omega)]
    rfl
  · rw [h2, rd_get _ _ h0]
    constructor
    · rintro (h | ⟨x, hx, h⟩)
      · exact ⟨_, List.getElem_mem h0, h⟩
      · exact ⟨x, List.mem_of_mem_drop hx, h⟩
    · rintro ⟨x, hx, h⟩
      have := drop_cons l 0 h0
      rw [List.drop_zero] at this
      rw [this] at hx
      rcases List.mem_cons.1 hx with rfl | hx
      · exact .inl h
      · exact .inr ⟨x, hx, h⟩
theorem rate_f (p q : Int) : spec_l02Rate.f p q = some (decide ((1 ≤ p ∧ p ≤ 8) ∧ (1 ≤ q ∧ q ≤ 8))) := by
  unfold spec_l02Rate.f
  rw [spec_in, spec_in]
  by_cases c : 1 ≤ p ∧ p ≤ 8
  · simp [c]
  · simp [c]
theorem exp_f (p : Int) : impl_isExponent.f p = some (decide (1 ≤ p ∧ p ≤ 8)) := by
  unfold impl_isExponent.f
  rw [impl_in]
  rfl
theorem addE_in (z m : Int) (nx : List Int) (M c : Int) (hm : 0 ≤ m ∧ m ≤ M) (hc : 0 ≤ c ∧ c ≤ 4000000000000000000) (hM : M ≤ 4000000000000000000) (h : ∀ e ∈ nx, 0 ≤ e ∧ e ≤ c) : ∀ e ∈ addE z m nx, 0 ≤ e ∧ e ≤ c + M := by
  intro e he
  unfold addE at he
  split at he
  · rcases List.mem_or_eq_of_mem_set he with he | he
    · have := h e he; omega
    · have hr : 0 ≤ rd nx z ∧ rd nx z ≤ c := by
        unfold rd
        rw [List.getD_eq_getElem?_getD]
        cases q : nx[z.toNat]? with
        | none => simp; omega
        | some v => simp; exact h v (List.mem_of_getElem? q)
      rw [wrap64_in (by omega) (by omega)] at he
      omega
  · have := h e he; omega
theorem wayRow_in (g : List (List Int)) (row nx : List Int) (y : Int) (M c : Int) (hr : 0 ≤ rd row y ∧ rd row y ≤ M) (hc : 0 ≤ c ∧ c ≤ 1000000000000000000) (hM : M ≤ 1000000000000000000) (h : ∀ e ∈ nx, 0 ≤ e ∧ e ≤ c) : ∀ e ∈ wayRow g row nx y, 0 ≤ e ∧ e ≤ c + 2 * M := by
  intro e he
  have h1 := addE_in (rd (rd_L1 g y) 0) (rd row y) nx M c hr (by omega) (by omega) h
  have h2 := addE_in (rd (rd_L1 g y) 1) (rd row y) _ M (c + M) hr (by omega) (by omega) h1 e he
  omega
theorem wayFrom_in (g : List (List Int)) (row : List Int) (M : Int) (hM : 0 ≤ M ∧ M ≤ 10000000000000000) (hr : ∀ y : Nat, 0 ≤ rd row (y : Int) ∧ rd row (y : Int) ≤ M) (d : Nat) : ∀ (j : Nat) (nx : List Int), j + d ≤ 12 → (∀ e ∈ nx, 0 ≤ e ∧ e ≤ (j : Int) * (2 * M)) → ∀ e ∈ wayFrom g row d j nx, 0 ≤ e ∧ e ≤ ((j + d : Nat) : Int) * (2 * M) := by
  induction d with
  | zero => intro j nx _ h e he; exact h e he
  | succ d ih =>
    intro j nx hj h e he
    have hb : (j : Int) * (2 * M) ≤ 12 * (2 * M) := Int.mul_le_mul_of_nonneg_right (by omega) (by omega)
    have h0 : 0 ≤ (j : Int) * (2 * M) := Int.mul_nonneg (by omega) (by omega)
    have h1 := wayRow_in g row nx (j : Int) M ((j : Int) * (2 * M)) (hr j) (by omega) (by omega) h
    have es : (j : Int) * (2 * M) + 2 * M = ((j + 1 : Nat) : Int) * (2 * M) := by rw [Int.natCast_add, Int.add_mul]; simp
    rw [es] at h1
    have := ih (j + 1) _ (by omega) h1 e he
    rwa [show j + 1 + d = j + (d + 1) by omega] at this
theorem rd_in {l : List Int} {c : Int} (hc : 0 ≤ c) (h : ∀ e ∈ l, 0 ≤ e ∧ e ≤ c) (y : Nat) : 0 ≤ rd l (y : Int) ∧ rd l (y : Int) ≤ c := by
  rw [rd_nat, List.getD_eq_getElem?_getD]
  cases q : l[y]? with
  | none => simp; omega
  | some v => simp; exact h v (List.mem_of_getElem? q)
theorem wayStep_in (g : List (List Int)) (h12 : g.length ≤ 12) (row : List Int) (M : Int) (hM : 0 ≤ M ∧ M ≤ 10000000000000000) (h : ∀ e ∈ row, 0 ≤ e ∧ e ≤ M) : ∀ e ∈ wayStep g row, 0 ≤ e ∧ e ≤ 24 * M := by
  intro e he
  have := wayFrom_in g row M hM (rd_in hM.1 h) g.length 0 (List.replicate g.length 0) (by omega) (by intro e he; rw [(List.mem_replicate.1 he).2]; simp) e he
  have hb : ((0 + g.length : Nat) : Int) * (2 * M) ≤ 12 * (2 * M) := Int.mul_le_mul_of_nonneg_right (by omega) (by omega)
  omega
theorem wayIter_in (g : List (List Int)) (h12 : g.length ≤ 12) (k : Nat) : ∀ (row : List Int) (M : Int), 0 ≤ M → M * 24 ^ k ≤ 110075314176 → (∀ e ∈ row, 0 ≤ e ∧ e ≤ M) → ∀ e ∈ wayIter g k row, 0 ≤ e ∧ e ≤ 110075314176 := by
  induction k with
  | zero => intro row M h0 hM h e he; have := h e he; rw [Int.pow_zero, Int.mul_one] at hM; omega
  | succ k ih =>
    intro row M h0 hM h e he
    have hp : (1 : Int) ≤ 24 ^ k := by have : (0 : Int) < 24 ^ k := Int.pow_pos (by decide); omega
    have e1 : M * 24 ^ (k + 1) = (24 * M) * 24 ^ k := by rw [Int.pow_succ, Int.mul_comm (24 ^ k) 24, ← Int.mul_assoc, Int.mul_comm M 24]
    rw [e1] at hM
    have h1 : 24 * M * 1 ≤ 24 * M * 24 ^ k := Int.mul_le_mul_of_nonneg_left hp (by omega)
    exact ih (wayStep g row) (24 * M) (by omega) hM (wayStep_in g h12 row M (by omega) h) e he
theorem wayOf_in (g : List (List Int)) (h12 : g.length ≤ 12) (q x : Nat) (hq : q ≤ 8) (y : Nat) : 0 ≤ rd (wayOf g q x) (y : Int) ∧ rd (wayOf g q x) (y : Int) ≤ 110075314176 := by
  refine rd_in (by decide) (wayIter_in g h12 q _ 1 (by decide) ?_ ?_) y
  · have h1 : (24 : Int) ^ q ≤ 24 ^ 8 := by
      have := Nat.pow_le_pow_right (n := 24) (by decide) hq
      exact_mod_cast this
    rw [Int.one_mul]
    exact Int.le_trans h1 (by decide)
  · intro e he
    rcases List.mem_or_eq_of_mem_set he with he | he
    · rw [(List.mem_replicate.1 he).2]; omega
    · omega

def dotZ (ws vec : List Int) : Nat → Nat → Int
  | 0, _ => 0
  | d + 1, j => rd ws (j : Int) * rd vec (j : Int) + dotZ ws vec d (j + 1)
def Small (vec : List Int) : Prop := ∀ y : Nat, 0 ≤ rd vec (y : Int) ∧ rd vec (y : Int) ≤ 30
def WsIn (ws : List Int) : Prop := ∀ y : Nat, 0 ≤ rd ws (y : Int) ∧ rd ws (y : Int) ≤ 110075314176
def LeV (u v : List Int) : Prop := ∀ y : Nat, rd u (y : Int) ≤ rd v (y : Int)
theorem prod_in {a b : Int} (ha : 0 ≤ a ∧ a ≤ 110075314176) (hb : 0 ≤ b ∧ b ≤ 30) : 0 ≤ a * b ∧ a * b ≤ 3302259425280 :=
  ⟨Int.mul_nonneg ha.1 hb.1, Int.le_trans (Int.mul_le_mul ha.2 hb.2 hb.1 (by decide)) (by decide)⟩
theorem dotFrom_eq (ws vec : List Int) (hw : WsIn ws) (hv : Small vec) (d : Nat) : ∀ (j : Nat) (acc : Int), j + d ≤ 12 → 0 ≤ acc → acc ≤ (j : Int) * 3302259425280 → dotFrom ws vec d j acc = acc + dotZ ws vec d j := by
  induction d with
  | zero => intro j acc _ _ _; show acc = acc + 0; omega
  | succ d ih =>
    intro j acc hj h0 h1
    have hp := prod_in (hw j) (hv j)
    show dotFrom ws vec d (j + 1) (wrap64 (acc + wrap64 (rd ws (j : Int) * rd vec (j : Int)))) = acc + (rd ws (j : Int) * rd vec (j : Int) + dotZ ws vec d (j + 1))
    rw [wrap64_in (x := rd ws (j : Int) * rd vec (j : Int)) (by omega) (by omega), wrap64_in (by omega) (by omega), ih (j + 1) _ (by omega) (by omega) (by omega)]
    omega
theorem dotZ_mono (ws u v : List Int) (hw : WsIn ws) (h : LeV u v) (d : Nat) : ∀ j : Nat, dotZ ws u d j ≤ dotZ ws v d j := by
  induction d with
  | zero => intro j; exact Int.le_refl _
  | succ d ih => intro j; exact Int.add_le_add (Int.mul_le_mul_of_nonneg_left (h j) (hw j).1) (ih (j + 1))
theorem dotZ_nonneg (ws v : List Int) (hw : WsIn ws) (hv : Small v) (d : Nat) : ∀ j : Nat, 0 ≤ dotZ ws v d j := by
  induction d with
  | zero => intro j; exact Int.le_refl _
  | succ d ih => intro j; exact Int.add_nonneg (prod_in (hw j) (hv j)).1 (ih (j + 1))
theorem rd_set_same (l : List Int) (x : Nat) (v : Int) (h : x < l.length) : rd (l.set x v) (x : Int) = v := by
  rw [rd_nat, List.getD_eq_getElem?_getD, List.getElem?_set_self h]; rfl
theorem rd_set_other (l : List Int) (x y : Nat) (v : Int) (h : y ≠ x) : rd (l.set x v) (y : Int) = rd l (y : Int) := by
  rw [rd_nat, rd_nat, List.getD_eq_getElem?_getD, List.getD_eq_getElem?_getD, List.getElem?_set_ne (Ne.symm h)]
theorem set_rd (l : List Int) (x : Nat) (h : x < l.length) : l.set x (rd l (x : Int)) = l := by
  rw [rd_get _ _ h]; simp
theorem small_set {l : List Int} (hl : Small l) (x : Nat) (v : Int) (h : 0 ≤ v ∧ v ≤ 30) : Small (l.set x v) := by
  intro y
  by_cases c : x < l.length
  · by_cases e : y = x
    · subst e; rw [rd_set_same _ _ _ c]; exact h
    · rw [rd_set_other _ _ _ _ e]; exact hl y
  · rw [List.set_eq_of_length_le (by omega)]; exact hl y
theorem shl_zero (p : Int) : shl .i64 0 p = 0 := by unfold shl; rw [Int.zero_mul]; exact i64_in (by decide) (by decide)
section
variable (ws : List Int) (hw : WsIn ws) (h12 : ws.length ≤ 12) (p : Int)
include hw h12
theorem tooG_zero (v : List Int) (hv : Small v) (x : Nat) (h : rd v (x : Int) = 0) : tooG ws v p (x : Int) = false := by
  unfold tooG
  have := dotZ_nonneg ws v hw hv ws.length 0
  rw [dotFrom_eq ws v hw hv ws.length 0 0 (by omega) (by omega) (by omega), h, shl_zero]
  exact decide_eq_false (by omega)
theorem tooG_up (u v : List Int) (hu : Small u) (hv : Small v) (x : Nat) (he : rd u (x : Int) = rd v (x : Int)) (h : LeV u v) (ht : tooG ws u p (x : Int) = false) : tooG ws v p (x : Int) = false := by
  unfold tooG at *
  have hm := dotZ_mono ws u v hw h ws.length 0
  rw [dotFrom_eq ws u hw hu ws.length 0 0 (by omega) (by omega) (by omega)] at ht
  rw [dotFrom_eq ws v hw hv ws.length 0 0 (by omega) (by omega) (by omega)]
  have ht2 := of_decide_eq_false ht
  rw [he] at ht2
  exact decide_eq_false (by omega)
end
/-- The greatest number of at most m that is not too great at x. -/
def mostF (ws vec : List Int) (p : Int) (x : Nat) : Nat → Nat
  | 0 => 0
  | m + 1 => if tooG ws (vec.set x ((m + 1 : Nat) : Int)) p (x : Int) = true then mostF ws vec p x m else m + 1
theorem mostF_le (ws vec : List Int) (p : Int) (x : Nat) (m : Nat) : mostF ws vec p x m ≤ m := by
  induction m with
  | zero => exact Nat.le_refl _
  | succ m ih => unfold mostF; split <;> omega
theorem mostF_stop (ws vec : List Int) (p : Int) (x : Nat) (m : Nat) (h : mostF ws vec p x m = m) : m = 0 ∨ tooG ws (vec.set x (m : Int)) p (x : Int) = false := by
  cases m with
  | zero => exact .inl rfl
  | succ m =>
    unfold mostF at h
    split at h
    · have := mostF_le ws vec p x m; omega
    · rename_i c; exact .inr (by simpa using c)
theorem mostF_ge (ws vec : List Int) (p : Int) (x : Nat) (n : Nat) (hn : tooG ws (vec.set x (n : Int)) p (x : Int) = false) (m : Nat) : n ≤ m → n ≤ mostF ws vec p x m := by
  induction m with
  | zero => intro h; omega
  | succ m ih =>
    intro h
    unfold mostF
    split
    · rename_i c
      by_cases e : n = m + 1
      · subst e; rw [hn] at c; cases c
      · exact ih (by omega)
    · omega
/-- The sum of the numbers. -/
def sumV : List Int → Nat
  | [] => 0
  | a :: l => a.toNat + sumV l
theorem sumV_set (l : List Int) (x : Nat) (v : Int) (h : x < l.length) : sumV (l.set x v) + (rd l (x : Int)).toNat = sumV l + v.toNat := by
  induction l generalizing x with
  | nil => cases h
  | cons a l ih =>
    cases x with
    | zero => show v.toNat + sumV l + a.toNat = a.toNat + sumV l + v.toNat; omega
    | succ x =>
      have := ih x (by simpa using h)
      have e : rd (a :: l) ((x + 1 : Nat) : Int) = rd l (x : Int) := by rw [rd_nat, rd_nat]; rfl
      rw [e]
      show a.toNat + sumV (l.set x v) + (rd l (x : Int)).toNat = a.toNat + sumV l + v.toNat
      omega
theorem impl_at (W : List (List Int)) (ws vec : List Int) (p : Int) (hp : 0 ≤ p) (x n : Nat) (hx : x < vec.length) (hxW : x < W.length) (hW : rd_L1 W (x : Int) = ws) (hl : ws.length = vec.length) (h12 : vec.length ≤ 12) {r : List Int × Bool} (m : Nat) (hm30 : m ≤ 30) :
    ∀ ch : Bool, Ev (fun k => impl_CodeVector.l1 k p W (vec.set x ((mostF ws vec p x m : Nat) : Int)) (ch || decide (mostF ws vec p x m < m)) (n : Int) ((x + 1 : Nat) : Int)) r → Ev (fun k => impl_CodeVector.l2 k p W (vec.set x (m : Int)) ch (x : Int) (n : Int) (x : Int)) r := by
  have hw := Aside0.mk (wrap_succ (j := x) (n := vec.length) hx (by omega))
  induction m with
  | zero =>
    intro ch h
    have hs : (vec.set x ((0 : Nat) : Int)).length = vec.length := List.length_set
    have hr : rd (vec.set x ((0 : Nat) : Int)) (x : Int) = ((0 : Nat) : Int) := rd_set_same _ _ _ hx
    have e : (ch || decide (mostF ws vec p x 0 < 0)) = ch := by simp
    rw [e] at h
    exact Ev.step (fun k => by rw [impl_CodeVector.l2, if_pos (by omega), if_pos (by omega), if_neg (by omega), hw.out]; rfl) h
  | succ m ih =>
    intro ch h
    have hs : (vec.set x ((m + 1 : Nat) : Int)).length = vec.length := List.length_set
    have hr : rd (vec.set x ((m + 1 : Nat) : Int)) (x : Int) = ((m + 1 : Nat) : Int) := rd_set_same _ _ _ hx
    have ht := tooG_ev ws (vec.set x ((m + 1 : Nat) : Int)) p hp x (by omega) (by omega) (by omega)
    have hle := mostF_le ws vec p x m
    have hwm := Aside0.mk (show wrap64 (((m + 1 : Nat) : Int) - 1) = (m : Int) by rw [wrap64_in (by omega) (by omega)]; omega)
    by_cases c : tooG ws (vec.set x ((m + 1 : Nat) : Int)) p (x : Int) = true
    · rw [c] at ht
      have e : mostF ws vec p x (m + 1) = mostF ws vec p x m := by rw [mostF, if_pos c]
      rw [e] at h
      have e2 : (ch || decide (mostF ws vec p x m < m + 1)) = (true || decide (mostF ws vec p x m < m)) := by rw [decide_eq_true (by omega)]; simp
      rw [e2] at h
      refine Ev.step (fun k => by rw [impl_CodeVector.l2, if_pos (by omega), if_pos (by omega), if_pos (by omega), if_pos (by omega), hW]) (Ev.bind ht (ev_pos rfl ?_))
      rw [hr, hwm.out, Int.toNat_natCast, List.set_set]
      exact ih (by omega) true h
    · rw [Bool.eq_false_iff.mpr c] at ht
      have e : mostF ws vec p x (m + 1) = m + 1 := by rw [mostF, if_neg c]
      rw [e] at h
      have e2 : (ch || decide (m + 1 < m + 1)) = ch := by simp
      rw [e2] at h
      refine Ev.step (fun k => by rw [impl_CodeVector.l2, if_pos (by omega), if_pos (by omega), if_pos (by omega), if_pos (by omega), hW]) (Ev.bind ht (ev_neg Bool.false_ne_true ?_))
      rw [hw.out]
      exact h
theorem spec_most_sum (ws vec : List Int) (p : Int) (hp : 0 ≤ p ∧ p ≤ 8) (x : Nat) (hx : x < vec.length) (hl : ws.length = vec.length) (h12 : vec.length ≤ 12) (n : Int) {r : Int} (d : Nat) : ∀ (j : Nat) (acc : Int), j + d = vec.length →
    Ev (fun k => if dotFrom ws (vec.set x n) d j acc ≥ shl .i64 n p then some n else spec_l02Most.l0 k ws vec (x : Int) p (wrap64 (n - 1))) r → Ev (fun k => spec_l02Most.l1 k ws vec (x : Int) p n acc (j : Int)) r := by
  have hu : IntKind.u64.wrap p = p := u64_in (by omega) (by omega)
  induction d with
  | zero => intro j acc h hr; exact Ev.step (fun k => by rw [spec_l02Most.l1, if_neg (by omega), hu, if_pos hp.1]; rfl) hr
  | succ d ih =>
    intro j acc h hr
    have hw := Aside0.mk (wrap_succ (j := j) (n := vec.length) (by omega) (by omega))
    by_cases e : j = x
    · subst e
      have hs : rd (vec.set j n) (j : Int) = n := rd_set_same _ _ _ hx
      refine Ev.step (fun k => by rw [spec_l02Most.l1, if_pos (by omega), if_pos rfl, if_pos (by omega), if_pos (by omega), hw.out]) (ih (j + 1) (wrap64 (acc + wrap64 (rd ws (j : Int) * n))) (by omega) ?_)
      have : dotFrom ws (vec.set j n) (d + 1) j acc = dotFrom ws (vec.set j n) d (j + 1) (wrap64 (acc + wrap64 (rd ws (j : Int) * n))) := by
        show dotFrom ws (vec.set j n) d (j + 1) (wrap64 (acc + wrap64 (rd ws (j : Int) * rd (vec.set j n) (j : Int)))) = _
        rw [hs]
      rw [← this]; exact hr
    · have hs : rd (vec.set x n) (j : Int) = rd vec (j : Int) := rd_set_other _ _ _ _ e
      refine Ev.step (fun k => by rw [spec_l02Most.l1, if_pos (by omega), if_neg (by omega), if_pos (by omega), if_pos (by omega), hw.out]) (ih (j + 1) (wrap64 (acc + wrap64 (rd ws (j : Int) * rd vec (j : Int)))) (by omega) ?_)
      have : dotFrom ws (vec.set x n) (d + 1) j acc = dotFrom ws (vec.set x n) d (j + 1) (wrap64 (acc + wrap64 (rd ws (j : Int) * rd vec (j : Int)))) := by
        show dotFrom ws (vec.set x n) d (j + 1) (wrap64 (acc + wrap64 (rd ws (j : Int) * rd (vec.set x n) (j : Int)))) = _
        rw [hs]
      rw [← this]; exact hr
theorem spec_most (ws vec : List Int) (p : Int) (hp : 0 ≤ p ∧ p ≤ 8) (x : Nat) (hx : x < vec.length) (hl : ws.length = vec.length) (h12 : vec.length ≤ 12) (m : Nat) (hm : m ≤ 30) : Ev (fun k => spec_l02Most.l0 k ws vec (x : Int) p (m : Int)) ((mostF ws vec p x m : Nat) : Int) := by
  induction m with
  | zero => exact ev_one (fun k => by rw [spec_l02Most.l0, if_neg (by omega)]; rfl)
  | succ m ih =>
    have hr : rd (vec.set x ((m + 1 : Nat) : Int)) (x : Int) = ((m + 1 : Nat) : Int) := rd_set_same _ _ _ hx
    have hwm : wrap64 (((m + 1 : Nat) : Int) - 1) = (m : Int) := by rw [wrap64_in (by omega) (by omega)]; omega
    refine Ev.step (fun k => by rw [spec_l02Most.l0, if_pos (by omega)]; rfl) (spec_most_sum ws vec p hp x hx hl h12 ((m + 1 : Nat) : Int) vec.length 0 0 (by omega) ?_)
    rw [hwm]
    have et : tooG ws (vec.set x ((m + 1 : Nat) : Int)) p (x : Int) = decide (dotFrom ws (vec.set x ((m + 1 : Nat) : Int)) vec.length 0 0 < shl .i64 ((m + 1 : Nat) : Int) p) := by unfold tooG; rw [hr, hl]
    by_cases c : dotFrom ws (vec.set x ((m + 1 : Nat) : Int)) vec.length 0 0 ≥ shl .i64 ((m + 1 : Nat) : Int) p
    · have e : mostF ws vec p x (m + 1) = m + 1 := by rw [mostF, if_neg (by rw [et, decide_eq_false (by omega)]; decide)]
      rw [e]; exact ev_pos c (Ev.now _)
    · have e : mostF ws vec p x (m + 1) = mostF ws vec p x m := by rw [mostF, if_pos (by rw [et, decide_eq_true (by omega)])]
      rw [e]; exact ev_neg c (ih (by omega))

theorem LeV.refl (u : List Int) : LeV u u := fun _ => Int.le_refl _
theorem LeV.trans {u v z : List Int} (h : LeV u v) (k : LeV v z) : LeV u z := fun y => Int.le_trans (h y) (k y)
theorem leV_set (l : List Int) (x : Nat) (v : Int) (h : v ≤ rd l (x : Int)) : LeV (l.set x v) l := by
  intro y
  by_cases c : x < l.length
  · by_cases e : y = x
    · subst e; rw [rd_set_same _ _ _ c]; exact h
    · rw [rd_set_other _ _ _ _ e]; exact Int.le_refl _
  · rw [List.set_eq_of_length_le (by omega)]; exact Int.le_refl _
theorem leV_into (u l : List Int) (x : Nat) (v : Int) (h : LeV u l) (hv : rd u (x : Int) ≤ v) : LeV u (l.set x v) := by
  intro y
  by_cases c : x < l.length
  · by_cases e : y = x
    · subst e; rw [rd_set_same _ _ _ c]; exact hv
    · rw [rd_set_other _ _ _ _ e]; exact h y
  · rw [List.set_eq_of_length_le (by omega)]; exact h y
section
variable (g : List (List Int)) (h12 : g.length ≤ 12) (q : Nat) (hq : q ≤ 8) (p : Int) (hp : 0 ≤ p ∧ p ≤ 8)
include h12 hq hp
/-- One look over all states, as both do it. -/
theorem sweep (d : Nat) : ∀ (x : Nat) (vec : List Int) (ch : Bool), x + d = g.length → vec.length = g.length → Small vec →
    ∃ vec' ch', vec'.length = g.length ∧ Small vec' ∧ LeV vec' vec ∧ sumV vec' ≤ sumV vec ∧ (ch = true → ch' = true) ∧ (ch' = false → vec' = vec ∧ ∀ y : Nat, x ≤ y → y < g.length → tooG (wayOf g q y) vec p (y : Int) = false) ∧ (ch' = true → ch = true ∨ sumV vec' < sumV vec) ∧
      (∀ u, u.length = g.length → Small u → LeV u vec → (∀ y : Nat, y < g.length → tooG (wayOf g q y) u p (y : Int) = false) → LeV u vec') ∧
      (∀ r, Ev (fun k => spec_CodeVector.l1 k p (waysTo g q g.length) vec' ch') r → Ev (fun k => spec_CodeVector.l2 k p (waysTo g q g.length) vec ch (x : Int)) r) ∧
      (∀ r, Ev (fun k => impl_CodeVector.l0 k p (waysTo g q g.length) vec' ch') r → Ev (fun k => impl_CodeVector.l1 k p (waysTo g q g.length) vec ch (g.length : Int) (x : Int)) r) := by
  have hWl := waysTo_length g q g.length
  induction d with
  | zero =>
    intro x vec ch hx hl hs
    refine ⟨vec, ch, hl, hs, LeV.refl _, Nat.le_refl _, fun h => h, fun _ => ⟨rfl, fun y h1 h2 => by omega⟩, fun h => .inl h, fun u _ _ h _ => h, fun r hr => Ev.step (fun k => by rw [spec_CodeVector.l2, if_neg (by omega)]) hr, fun r hr => Ev.step (fun k => by rw [impl_CodeVector.l1, if_neg (by omega)]) hr⟩
  | succ d ih =>
    intro x vec ch hx hl hs
    have hxl : x < vec.length := by omega
    have hW := waysTo_get g q g.length x (by omega)
    have hwl := wayOf_length g q x
    have hwin : WsIn (wayOf g q x) := fun y => wayOf_in g h12 q x hq y
    obtain ⟨m, hm⟩ : ∃ m : Nat, rd vec (x : Int) = (m : Int) := ⟨(rd vec (x : Int)).toNat, by have := hs x; omega⟩
    have hm30 : m ≤ 30 := by have := hs x; omega
    have hle := mostF_le (wayOf g q x) vec p x m
    obtain ⟨n, hn⟩ : ∃ n, n = mostF (wayOf g q x) vec p x m := ⟨_, rfl⟩
    have hw := Aside0.mk (wrap_succ (j := x) (n := g.length) (by omega) (by omega))
    have hset : vec.set x (m : Int) = vec := by rw [← hm]; exact set_rd _ _ hxl
    have hsp : Ev (fun k => spec_l02Most.f k (wayOf g q x) vec (x : Int) p (m : Int)) ((mostF (wayOf g q x) vec p x m : Nat) : Int) := spec_most (wayOf g q x) vec p hp x hxl (by omega) (by omega) m hm30
    rw [← hn] at hle hsp
    have hs1 : Small (vec.set x (n : Int)) := small_set hs x _ (by omega)
    have hl1 : (vec.set x (n : Int)).length = g.length := by rw [List.length_set]; exact hl
    have hle1 : LeV (vec.set x (n : Int)) vec := leV_set vec x _ (by omega)
    have hsum := sumV_set vec x (n : Int) hxl
    rw [hm] at hsum
    obtain ⟨v2, c2, i1, i2, i3, i4, i5, i6, i7, i8, i9, i10⟩ := ih (x + 1) (vec.set x (n : Int)) (ch || decide (n < m)) (by omega) hl1 hs1
    refine ⟨v2, c2, i1, i2, i3.trans hle1, by omega, fun h => i5 (by rw [h]; rfl), ?_, ?_, ?_, ?_, ?_⟩
    · intro h
      obtain ⟨e, hall⟩ := i6 h
      have hnm : n = m := by
        by_cases c : n < m
        · have := i5 (by rw [decide_eq_true c]; simp)
          rw [h] at this; cases this
        · omega
      subst hnm
      rw [hset] at e hall
      refine ⟨e, fun y h1 h2 => ?_⟩
      by_cases c : y = x
      · subst c
        rcases mostF_stop (wayOf g q y) vec p y n hn.symm with h0 | h0
        · subst h0
          exact tooG_zero (wayOf g q y) hwin (by omega) p vec hs y hm
        · rwa [hset] at h0
      · exact hall y (by omega) h2
    · intro h
      rcases i7 h with h1 | h1
      · cases ch with
        | true => exact .inl rfl
        | false =>
          rw [Bool.false_or, decide_eq_true_iff] at h1
          exact .inr (by omega)
      · exact .inr (by omega)
    · intro u hul hus hu hall
      refine i8 u hul hus (leV_into u vec x _ hu ?_) hall
      obtain ⟨a, ha⟩ : ∃ a : Nat, rd u (x : Int) = (a : Int) := ⟨(rd u (x : Int)).toNat, by have := hus x; omega⟩
      have ham : a ≤ m := by have := hu x; omega
      have hua : tooG (wayOf g q x) (vec.set x (a : Int)) p (x : Int) = false := by
        refine tooG_up (wayOf g q x) hwin (by omega) p u _ hus (small_set hs x _ (by omega)) x (by rw [rd_set_same _ _ _ hxl]; exact ha) (leV_into u vec x _ hu (by omega)) (hall x (by omega))
      have := mostF_ge (wayOf g q x) vec p x a hua m ham
      omega
    · intro r hr
      have hr2 := i9 r hr
      refine Ev.step (fun k => by rw [spec_CodeVector.l2, if_pos (by omega), if_pos (by omega), if_pos (by omega), hW, hm]) (Ev.bind hsp ?_)
      rw [hw.out]
      by_cases c : n < m
      · rw [decide_eq_true c, Bool.or_true] at hr2
        exact ev_pos (by omega) (by rw [Int.toNat_natCast]; exact hr2)
      · have hnm : n = m := by omega
        rw [decide_eq_false c, Bool.or_false, hnm, hset] at hr2
        exact ev_neg (by omega) hr2
    · intro r hr
      have hr2 := i10 r hr
      have h2 := impl_at (waysTo g q g.length) (wayOf g q x) vec p hp.1 x g.length hxl (by omega) hW (by omega) (by omega) (r := r) m hm30 ch
      rw [← hn, hset] at h2
      exact Ev.step (fun k => by rw [impl_CodeVector.l1, if_pos (by omega)]) (h2 hr2)
theorem sweeps (N : Nat) : ∀ (vec : List Int), sumV vec ≤ N → vec.length = g.length → Small vec →
    ∃ v, v.length = g.length ∧ Small v ∧ LeV v vec ∧ (∀ y : Nat, y < g.length → tooG (wayOf g q y) v p (y : Int) = false) ∧
      (∀ u, u.length = g.length → Small u → LeV u vec → (∀ y : Nat, y < g.length → tooG (wayOf g q y) u p (y : Int) = false) → LeV u v) ∧
      (∀ r, Ev (fun k => spec_CodeVector.l3 k v 0) r → Ev (fun k => spec_CodeVector.l1 k p (waysTo g q g.length) vec true) r) ∧
      (∀ r, Ev (fun k => (slices_Max_int64_int64.f k v).bind fun t206 => (if t206 = 0 then (some (([] : List Int), false)) else (some (v, true)))) r → Ev (fun k => impl_CodeVector.l0 k p (waysTo g q g.length) vec true) r) := by
  induction N with
  | zero =>
    intro vec hN hl hs
    obtain ⟨v, c, i1, i2, i3, i4, _, i6, i7, i8, i9, i10⟩ := sweep g h12 q hq p hp g.length 0 vec false (by omega) hl hs
    have hc : c = false := by
      cases c with
      | false => rfl
      | true => rcases i7 rfl with h | h
                · cases h
                · omega
    subst hc
    obtain ⟨rfl, hall⟩ := i6 rfl
    refine ⟨v, hl, hs, LeV.refl _, fun y hy => hall y (by omega) hy, fun u h1 h2 h3 h4 => h3, fun r hr => ?_, fun r hr => ?_⟩
    · exact Ev.step (fun k => by rw [spec_CodeVector.l1, if_pos rfl]; rfl) (i9 r (Ev.step (fun k => by rw [spec_CodeVector.l1, if_neg Bool.false_ne_true]) hr))
    · exact Ev.step (fun k => by rw [impl_CodeVector.l0, if_pos rfl, hl]; rfl) (i10 r (Ev.step (fun k => by rw [impl_CodeVector.l0, if_neg Bool.false_ne_true]) hr))
  | succ N ih =>
    intro vec hN hl hs
    obtain ⟨v, c, i1, i2, i3, i4, _, i6, i7, i8, i9, i10⟩ := sweep g h12 q hq p hp g.length 0 vec false (by omega) hl hs
    cases c with
    | false =>
      obtain ⟨rfl, hall⟩ := i6 rfl
      refine ⟨v, hl, hs, LeV.refl _, fun y hy => hall y (by omega) hy, fun u h1 h2 h3 h4 => h3, fun r hr => ?_, fun r hr => ?_⟩
      · exact Ev.step (fun k => by rw [spec_CodeVector.l1, if_pos rfl]; rfl) (i9 r (Ev.step (fun k => by rw [spec_CodeVector.l1, if_neg Bool.false_ne_true]) hr))
      · exact Ev.step (fun k => by rw [impl_CodeVector.l0, if_pos rfl, hl]; rfl) (i10 r (Ev.step (fun k => by rw [impl_CodeVector.l0, if_neg Bool.false_ne_true]) hr))
    | true =>
      have hlt : sumV v < sumV vec := by
        rcases i7 rfl with h | h
        · cases h
        · exact h
      obtain ⟨z, j1, j2, j3, j4, j5, j6, j7⟩ := ih v (by omega) i1 i2
      refine ⟨z, j1, j2, j3.trans i3, j4, fun u h1 h2 h3 h4 => j5 u h1 h2 (i8 u h1 h2 h3 h4) h4, fun r hr => ?_, fun r hr => ?_⟩
      · exact Ev.step (fun k => by rw [spec_CodeVector.l1, if_pos rfl]; rfl) (i9 r (j6 r hr))
      · exact Ev.step (fun k => by rw [impl_CodeVector.l0, if_pos rfl, hl]; rfl) (i10 r (j7 r hr))
end
theorem max_ge (l : List Int) (hn : l.length ≤ 1000) (d : Nat) : ∀ (j : Nat) (m : Int), j + d = l.length → ∃ M, Ev (fun k => slices_Max_int64_int64.l0 k l m (j : Int)) M ∧ m ≤ M := by
  induction d with
  | zero => intro j m h; exact ⟨m, ev_one (fun k => by rw [slices_Max_int64_int64.l0, if_neg (by omega)]), Int.le_refl _⟩
  | succ d ih =>
    intro j m h
    obtain ⟨M, h1, h2⟩ := ih (j + 1) (mx m (rd l (j : Int))) (by omega)
    refine ⟨M, Ev.step (fun k => by rw [slices_Max_int64_int64.l0, if_pos (by omega), if_pos (by omega), wrap_succ (j := j) (n := l.length) (by omega) (by omega)]) h1, ?_⟩
    unfold mx at h2
    split at h2 <;> omega
theorem max_zero (l : List Int) (h0 : 0 < l.length) (hn : l.length ≤ 1000) (hs : Small l) : ∃ M, Ev (fun k => slices_Max_int64_int64.f k l) M ∧ 0 ≤ M ∧ (M > 0 ↔ ∃ x ∈ l, x > 0) := by
  obtain ⟨M, h1, h2⟩ := max_ev l h0 hn
  obtain ⟨M', h3, h4⟩ := max_ge l hn (l.length - 1) 1 (rd l ((0 : Nat) : Int)) (by omega)
  have h5 : Ev (fun k => slices_Max_int64_int64.f k l) M' := by
    refine Ev.congr (fun k => ?_) h3
    unfold slices_Max_int64_int64.f
    rw [if_neg (by omega), if_pos (by omega)]
    rfl
  have := ev_det h1 h5
  subst this
  exact ⟨M, h1, by have := (hs 0).1; omega, h2⟩
theorem spec_some (v : List Int) (hn : v.length ≤ 1000) (d : Nat) : ∀ j : Nat, j + d = v.length → Ev (fun k => spec_CodeVector.l3 k v (j : Int)) (if (v.drop j).any (fun x => decide (x > 0)) = true then (v, true) else ([], false)) := by
  induction d with
  | zero =>
    intro j h
    rw [List.drop_eq_nil_of_le (by omega)]
    exact ev_one (fun k => by rw [spec_CodeVector.l3, if_neg (by omega)]; rfl)
  | succ d ih =>
    intro j h
    have hj : j < v.length := by omega
    rw [drop_cons _ _ hj, List.any_cons]
    by_cases c : v[j] > 0
    · rw [decide_eq_true c, Bool.true_or, if_pos rfl]
      exact ev_one (fun k => by rw [spec_CodeVector.l3, if_pos (by omega), if_pos (by omega), rd_get _ _ hj, if_pos c])
    · rw [decide_eq_false c, Bool.false_or]
      exact Ev.step (fun k => by rw [spec_CodeVector.l3, if_pos (by omega), if_pos (by omega), rd_get _ _ hj, if_neg c, wrap_succ hj (by omega)]) (ih (j + 1) (by omega))
theorem rep_loop (g : List (List Int)) (h12 : g.length ≤ 12) (p most : Int) (W : List (List Int)) {r : List Int × Bool} (h : Ev (fun k => spec_CodeVector.l1 k p W (List.replicate g.length most) true) r) (d : Nat) : ∀ j : Nat, j + d = g.length → Ev (fun k => spec_CodeVector.l0 k p most W (List.replicate j most) (j : Int) g) r := by
  induction d with
  | zero =>
    intro j hj
    obtain rfl : j = g.length := by omega
    exact Ev.step (fun k => by rw [spec_CodeVector.l0, if_neg (by omega)]) h
  | succ d ih =>
    intro j hj
    have e : List.replicate (j + 1) most = List.replicate j most ++ [most] := List.replicate_succ'
    have := ih (j + 1) (by omega)
    rw [e] at this
    exact Ev.step (fun k => by rw [spec_CodeVector.l0, if_pos (by omega), if_pos (by rw [List.length_replicate]; omega), wrap_succ (j := j) (n := g.length) (by omega) (by omega)]) this
/-- What both say of a valid graph with numbers in their bounds: the greatest code vector, if some number of it is not 0. -/
theorem codeVector_yes (g : List (List Int)) (hv : VG g = true) (q : Nat) (hq : 1 ≤ q ∧ q ≤ 8) (p : Int) (hp : 1 ≤ p ∧ p ≤ 8) (most : Int) (hm : 1 ≤ most ∧ most ≤ 30) :
    ∃ v, v.length = g.length ∧ Small v ∧ LeV v (List.replicate g.length most) ∧ (∀ y : Nat, y < g.length → tooG (wayOf g q y) v p (y : Int) = false) ∧
      (∀ u, u.length = g.length → Small u → LeV u (List.replicate g.length most) → (∀ y : Nat, y < g.length → tooG (wayOf g q y) u p (y : Int) = false) → LeV u v) ∧
      Ev (fun k => spec_CodeVector.f k g p (q : Int) most) (if v.any (fun x => decide (x > 0)) = true then (v, true) else ([], false)) ∧
      Ev (fun k => impl_CodeVector.f k g p (q : Int) most) (if v.any (fun x => decide (x > 0)) = true then (v, true) else ([], false)) := by
  have h12 := (VG_iff hv).1
  have hg := rows2_of hv
  have hs : Small (List.replicate g.length most) := by
    intro y
    rw [rd_nat, List.getD_eq_getElem?_getD, List.getElem?_replicate]
    split <;> simp <;> omega
  obtain ⟨v, i1, i2, i3, i4, i5, i6, i7⟩ := sweeps g (by omega) q (by omega) p (by omega) _ (List.replicate g.length most) (Nat.le_refl _) (by simp) hs
  refine ⟨v, i1, i2, i3, i4, i5, ?_, ?_⟩
  · have hsi := specIs_ev g
    rw [hv] at hsi
    unfold spec_CodeVector.f
    refine Ev.bind hsi (ev_pos rfl (ev_to (rate_f _ _) ?_))
    rw [decide_eq_true (show (1 ≤ p ∧ p ≤ 8) ∧ (1 ≤ (q : Int) ∧ (q : Int) ≤ 8) by omega)]
    refine ev_pos rfl (ev_to (spec_in _ _ _) ?_)
    rw [decide_eq_true (show 1 ≤ most ∧ most ≤ 30 by omega)]
    refine Ev.step (fun k => by rw [spec_CodeVector.j0, if_neg (by decide)]) (Ev.bind (specWays_ev g hg h12.2 q (by omega)) ?_)
    exact rep_loop g h12.2 p most _ (i6 _ (by have := spec_some v (by omega) v.length 0 (by omega); rwa [List.drop_zero] at this)) g.length 0 (by omega)
  · have hvi := implVG_ev g (fun r hr => by obtain ⟨a, b, rfl, _⟩ := (VG_iff hv).2 r hr; exact (by decide : 2 ≤ 9223372036854775807))
    rw [hv] at hvi
    have e1 : impl_isExponent.f p = some true := by rw [exp_f, decide_eq_true hp]
    have e2 : impl_isExponent.f (q : Int) = some true := by rw [exp_f, decide_eq_true (by omega)]
    unfold impl_CodeVector.f
    refine Ev.bind hvi (ev_pos rfl (ev_to e1 (ev_pos rfl (ev_to e2 (ev_pos rfl (ev_to (impl_in _ _ _) ?_))))))
    rw [decide_eq_true (show 1 ≤ most ∧ most ≤ 30 by omega)]
    have e3 : slices_Repeat_int64_int64.f [most] (g.length : Int) = some (List.replicate g.length most) := by
      unfold slices_Repeat_int64_int64.f
      rw [if_pos ⟨rfl, by omega, by omega⟩]; rfl
    refine Ev.step (fun k => by rw [impl_CodeVector.j0, if_neg (by decide)]) (Ev.bind (implWays_ev g hg h12.2 q (by omega)) (ev_to e3 (i7 _ ?_)))
    obtain ⟨M, m1, m2, m3⟩ := max_zero v (by omega) (by omega) i2
    refine Ev.bind m1 ?_
    by_cases c : M > 0
    · have hany : v.any (fun x => decide (x > 0)) = true := by
        obtain ⟨x, hx, h⟩ := m3.1 c
        exact List.any_eq_true.2 ⟨x, hx, decide_eq_true h⟩
      rw [if_pos hany]
      exact ev_neg (by omega) (Ev.now _)
    · have hany : ¬ v.any (fun x => decide (x > 0)) = true := by
        intro h
        obtain ⟨x, hx, h⟩ := List.any_eq_true.1 h
        exact c (m3.2 ⟨x, hx, of_decide_eq_true h⟩)
      rw [if_neg hany]
      exact ev_pos (by omega) (Ev.now _)

/-- n numbers from a on. -/
def seqF (a : Int) (n : Nat) : List Int := (List.range n).map fun (i : Nat) => a + (i : Int)
theorem seqF_length (a : Int) (n : Nat) : (seqF a n).length = n := by simp [seqF]
theorem seqF_succ (a : Int) (n : Nat) : seqF a (n + 1) = seqF a n ++ [a + (n : Int)] := by simp [seqF, List.range_succ]
theorem seqF_rd (a : Int) (n j : Nat) (h : j < n) : rd (seqF a n) (j : Int) = a + (j : Int) := by
  rw [rd_get _ _ (by rw [seqF_length]; exact h)]; simp [seqF]
theorem markF_loop (a : Int) (n : Nat) (h0 : 0 ≤ a) (hn : a + n ≤ 4611686018427387904) (d : Nat) : ∀ (j : Nat) (l : List Int), j + d = n → l.length = n → l.take j = seqF a j →
    Ev (fun k => laws_markInt64S.l0 k l (a + (j : Int)) (j : Int)) (a + (n : Int), seqF a n) := by
  induction d with
  | zero =>
    intro j l h hl ht
    obtain rfl : j = n := by omega
    have e : l = seqF a j := by rw [← ht, List.take_of_length_le (by omega)]
    exact ev_one (fun k => by rw [laws_markInt64S.l0, if_neg (by omega), e])
  | succ d ih =>
    intro j l h hl ht
    have hw := wrap_succ (j := j) (n := n) (by omega) (by omega)
    have hw2 : wrap64 (a + (j : Int) + 1) = a + ((j + 1 : Nat) : Int) := by rw [wrap64_in (by omega) (by omega)]; omega
    exact Ev.step (fun k => by rw [laws_markInt64S.l0, if_pos (by omega), if_pos (by omega), hw, hw2, Int.toNat_natCast]) (ih (j + 1) _ (by omega) (by rw [List.length_set]; exact hl) (by rw [set_take _ _ _ (by omega), ht, seqF_succ]))
theorem markF_ev (l : List Int) (a : Int) (h0 : 0 ≤ a) (hn : a + l.length ≤ 4611686018427387904) : Ev (fun k => laws_markInt64S.f k l a) (a + (l.length : Int), seqF a l.length) := by
  have h := markF_loop a l.length h0 hn l.length 0 l (by omega) rfl rfl
  rwa [show a + ((0 : Nat) : Int) = a by omega] at h
theorem heldF_loop (a : Int) (n : Nat) (h0 : 0 ≤ a) (hn : a + n ≤ 4611686018427387904) (d : Nat) : ∀ j : Nat, j + d = n → Ev (fun k => laws_heldInt64S.l0 k (seqF a n) (a + (j : Int)) (j : Int)) (a + (n : Int)) := by
  have hl := seqF_length a n
  induction d with
  | zero =>
    intro j h
    obtain rfl : j = n := by omega
    exact ev_one (fun k => by rw [laws_heldInt64S.l0, if_neg (by omega)])
  | succ d ih =>
    intro j h
    have hw := wrap_succ (j := j) (n := n) (by omega) (by omega)
    have hw2 : wrap64 (a + (j : Int) + 1) = a + ((j + 1 : Nat) : Int) := by rw [wrap64_in (by omega) (by omega)]; omega
    have hr := seqF_rd a n j (by omega)
    exact Ev.step (fun k => by rw [laws_heldInt64S.l0, if_pos (by omega), if_pos (by omega), if_pos hr, hw, hw2]) (ih (j + 1) (by omega))
theorem heldF_ev (a : Int) (n : Nat) (h0 : 0 ≤ a) (hn : a + n ≤ 4611686018427387904) : Ev (fun k => laws_heldInt64S.f k (seqF a n) a) (a + (n : Int)) := by
  have h := heldF_loop a n h0 hn n 0 (by omega)
  rwa [show a + ((0 : Nat) : Int) = a by omega] at h
/-- The marks of a table, row by row. -/
def markT : Int → List (List Int) → List (List Int)
  | _, [] => []
  | a, r :: t => seqF a r.length :: markT (a + (r.length : Int)) t
def totT : List (List Int) → Int
  | [] => 0
  | r :: t => (r.length : Int) + totT t
theorem totT_nonneg : ∀ t, 0 ≤ totT t
  | [] => Int.le_refl _
  | r :: t => by have := totT_nonneg t; show 0 ≤ (r.length : Int) + totT t; omega
theorem totT_le (n : Nat) : ∀ t : List (List Int), (∀ r ∈ t, r.length ≤ n) → totT t ≤ (t.length * n : Nat)
  | [], _ => by simp [totT]
  | r :: t, h => by
    have h1 := totT_le n t (fun x hx => h x (List.mem_cons_of_mem _ hx))
    have h2 := h r List.mem_cons_self
    show (r.length : Int) + totT t ≤ (((t.length + 1) * n : Nat) : Int)
    rw [Nat.add_mul, Nat.one_mul]
    omega
theorem markT_length : ∀ (t : List (List Int)) (a : Int), (markT a t).length = t.length
  | [], _ => rfl
  | r :: t, a => by show (markT _ t).length + 1 = t.length + 1; rw [markT_length t]
theorem mid_rdL (pre t : List (List Int)) (r : List Int) : rd_L1 (pre ++ r :: t) (pre.length : Int) = r := by
  rw [rdL_get _ _ (by simp)]; simp
theorem mid_getD (pre t : List (List Int)) (r : List Int) : (pre ++ r :: t).getD ((pre.length : Int)).toNat [] = r := by
  rw [Int.toNat_natCast]; simp
theorem mid_set (pre t : List (List Int)) (r x : List Int) : (pre ++ r :: t).set pre.length x = (pre ++ [x]) ++ t := by
  rw [List.set_append_right _ _ (Nat.le_refl _), Nat.sub_self]; simp
theorem markT_loop : ∀ (t pre : List (List Int)) (a : Int), 0 ≤ a → a + totT t ≤ 4611686018427387904 → pre.length + t.length ≤ 4611686018427387904 →
    Ev (fun k => laws_markInt64SS.l0 k (pre ++ t) a (pre.length : Int)) (a + totT t, pre ++ markT a t)
  | [], pre, a, h0, h1, h2 => ev_one (fun k => by rw [laws_markInt64SS.l0, if_neg (by simp)]; simp [totT, markT])
  | r :: t, pre, a, h0, h1, h2 => by
    have ht := totT_nonneg t
    have h1' : a + ((r.length : Int) + totT t) ≤ 4611686018427387904 := h1
    have hl : (pre ++ r :: t).length = pre.length + (t.length + 1) := by simp
    have h2' : pre.length + (t.length + 1) ≤ 4611686018427387904 := h2
    have hw := wrap_succ (j := pre.length) (n := pre.length + 1) (by omega) (by omega)
    have hm := markF_ev r a h0 (by omega)
    have ih := markT_loop t (pre ++ [seqF a r.length]) (a + (r.length : Int)) (by omega) (by omega) (by simp; omega)
    have e1 : (pre ++ [seqF a r.length]).length = pre.length + 1 := by simp
    rw [e1] at ih
    have e2 : (a + (r.length : Int) + totT t, (pre ++ [seqF a r.length]) ++ markT (a + (r.length : Int)) t) = (a + totT (r :: t), pre ++ markT a (r :: t)) := by
      show _ = (a + ((r.length : Int) + totT t), pre ++ seqF a r.length :: markT (a + (r.length : Int)) t)
      rw [show a + ((r.length : Int) + totT t) = a + (r.length : Int) + totT t by omega]; simp
    rw [e2] at ih
    refine Ev.step (fun k => by rw [laws_markInt64SS.l0, if_pos (by rw [hl]; omega), if_pos (by omega), mid_getD, hw]) (Ev.bind hm ?_)
    show Ev (fun k => laws_markInt64SS.l0 k ((pre ++ r :: t).set ((pre.length : Int)).toNat (seqF a r.length)) (a + (r.length : Int)) _) _
    rw [Int.toNat_natCast, mid_set]
    exact ih
theorem markT_ev (t : List (List Int)) (h1 : totT t ≤ 4611686018427387903) (h2 : t.length ≤ 4611686018427387904) : Ev (fun k => laws_markInt64SS.f k t 1) (1 + totT t, markT 1 t) :=
  markT_loop t [] 1 (by decide) (by omega) (by simpa using h2)

theorem valued_ways {S I : Nat → Option (List Int × Bool)} {r : List Int} {b : Bool} (g : List (List Int)) (hn : g.length ≤ 9223372036854775807) (hl : ∀ x ∈ g, x.length ≤ 9223372036854775807) (hs : Ev S (r, b)) (hi : Ev I (r, b)) (hrl : r.length ≤ 1048576) :
    (∃ k t, laws_szGraph.f k g 1048576 = some t ∧ t < 0) ∨
    ∃ k t r r2 T2 b m m2, laws_szGraph.f k g 1048576 = some t ∧ 0 ≤ t ∧ 0 ≤ m ∧ 0 ≤ m2 ∧ r2.length = r.length ∧ laws_toGraph.f k g = some g ∧ S k = some (r, b) ∧ I k = some (r, b) ∧ laws_eqInt64S.f k r r = some true ∧ laws_eqGraph.f k g g = some true ∧ laws_markInt64SS.f k g 1 = some (m, T2) ∧ laws_markInt64S.f k r 1 = some (m2, r2) ∧ laws_heldInt64S.f k r2 1 = some m2 := by
  obtain ⟨t, ht, hp⟩ := szGraph_ev g hn hl
  by_cases c : t < 0
  · obtain ⟨K, hK⟩ := ht
    exact .inl ⟨K, t, hK K (Nat.le_refl _), c⟩
  · obtain ⟨g1, g2⟩ := hp (by omega)
    have h3 := totT_le 1048576 g g2
    have h0 := totT_nonneg g
    have hb : totT g ≤ 4611686018427387903 := by
      have : g.length * 1048576 ≤ 1048576 * 1048576 := Nat.mul_le_mul_right _ g1
      omega
    obtain ⟨K0, e0⟩ := ht
    obtain ⟨K1, e1⟩ := hs
    obtain ⟨K2, e2⟩ := hi
    obtain ⟨K3, e3⟩ := eqInt64S_ev r hrl
    obtain ⟨K4, e4⟩ := eqGraph_ev g g1 g2
    obtain ⟨K5, e5⟩ := markT_ev g hb (by omega)
    obtain ⟨K6, e6⟩ := markF_ev r 1 (by decide) (by omega)
    obtain ⟨K7, e7⟩ := heldF_ev 1 r.length (by decide) (by omega)
    obtain ⟨K8, e8⟩ := toGraph_ev g g1 g2
    refine .inr ⟨K0 + K1 + K2 + K3 + K4 + K5 + K6 + K7 + K8, t, r, seqF 1 r.length, markT 1 g, b, 1 + totT g, 1 + (r.length : Int), e0 _ (by omega), by omega, by omega, by omega, seqF_length _ _, e8 _ (by omega), e1 _ (by omega), e2 _ (by omega), e3 _ (by omega), e4 _ (by omega), e5 _ (by omega), e6 _ (by omega), e7 _ (by omega)⟩

theorem vector_both (g : List (List Int)) (p q most : Int) (hl : ∀ x ∈ g, x.length ≤ 9223372036854775807) : ∃ r b, Ev (fun k => spec_CodeVector.f k g p q most) (r, b) ∧ Ev (fun k => impl_CodeVector.f k g p q most) (r, b) ∧ r.length ≤ 1048576 := by
  have hs := specIs_ev g
  have hi := implVG_ev g hl
  have sno : Ev (fun k => spec_CodeVector.j0 k p q most true g) ([], false) := ev_one (fun k => by rw [spec_CodeVector.j0, if_pos rfl])
  have ino : Ev (fun k => impl_CodeVector.j0 k p q most true g) ([], false) := ev_one (fun k => by rw [impl_CodeVector.j0, if_pos rfl])
  cases e : VG g with
  | false =>
    rw [e] at hs hi
    unfold spec_CodeVector.f impl_CodeVector.f
    exact ⟨[], false, Ev.bind hs (ev_neg Bool.false_ne_true sno), Ev.bind hi (ev_neg Bool.false_ne_true ino), by decide⟩
  | true =>
    by_cases cp : 1 ≤ p ∧ p ≤ 8
    · by_cases cq : 1 ≤ q ∧ q ≤ 8
      · by_cases cm : 1 ≤ most ∧ most ≤ 30
        · obtain ⟨n, rfl⟩ := Int.eq_ofNat_of_zero_le (show 0 ≤ q by omega)
          obtain ⟨v, v1, _, _, _, _, v6, v7⟩ := codeVector_yes g e n (by omega) p cp most cm
          have h12 := (VG_iff e).1.2
          by_cases c : v.any (fun x => decide (x > 0)) = true
          · rw [if_pos c] at v6 v7
            exact ⟨v, true, v6, v7, by omega⟩
          · rw [if_neg c] at v6 v7
            exact ⟨[], false, v6, v7, by decide⟩
        · rw [e] at hs hi
          have er : spec_l02Rate.f p q = some true := by rw [rate_f, decide_eq_true ⟨cp, cq⟩]
          have e1 : impl_isExponent.f p = some true := by rw [exp_f, decide_eq_true cp]
          have e2 : impl_isExponent.f q = some true := by rw [exp_f, decide_eq_true cq]
          have e3 : spec_l00In.f most 1 30 = some false := by rw [spec_in, decide_eq_false cm]
          have e4 : impl_within.f most 1 30 = some false := by rw [impl_in, decide_eq_false cm]
          unfold spec_CodeVector.f impl_CodeVector.f
          exact ⟨[], false, Ev.bind hs (ev_pos rfl (ev_to er (ev_pos rfl (ev_to e3 sno)))), Ev.bind hi (ev_pos rfl (ev_to e1 (ev_pos rfl (ev_to e2 (ev_pos rfl (ev_to e4 ino)))))), by decide⟩
      · rw [e] at hs hi
        have er : spec_l02Rate.f p q = some false := by rw [rate_f, decide_eq_false (fun h => cq h.2)]
        have e1 : impl_isExponent.f p = some true := by rw [exp_f, decide_eq_true cp]
        have e2 : impl_isExponent.f q = some false := by rw [exp_f, decide_eq_false cq]
        unfold spec_CodeVector.f impl_CodeVector.f
        exact ⟨[], false, Ev.bind hs (ev_pos rfl (ev_to er (ev_neg Bool.false_ne_true sno))), Ev.bind hi (ev_pos rfl (ev_to e1 (ev_pos rfl (ev_to e2 (ev_neg Bool.false_ne_true ino))))), by decide⟩
    · rw [e] at hs hi
      have er : spec_l02Rate.f p q = some false := by rw [rate_f, decide_eq_false (fun h => cp h.1)]
      have e1 : impl_isExponent.f p = some false := by rw [exp_f, decide_eq_false cp]
      unfold spec_CodeVector.f impl_CodeVector.f
      exact ⟨[], false, Ev.bind hs (ev_pos rfl (ev_to er (ev_neg Bool.false_ne_true sno))), Ev.bind hi (ev_pos rfl (ev_to e1 (ev_neg Bool.false_ne_true ino))), by decide⟩
theorem FnExactCodeVector (g : List (List Int)) (p q most : Int) (hn : g.length ≤ 9223372036854775807) (hl : ∀ r ∈ g, r.length ≤ 9223372036854775807 ∧ ∀ x ∈ r, (Lit.int .i64 x).wf = true) :
    (∃ k t, laws_szGraph.f k g 1048576 = some t ∧ t < 0) ∨
    ∃ k t r r2 T2 b m m2, laws_szGraph.f k g 1048576 = some t ∧ 0 ≤ t ∧ 0 ≤ m ∧ 0 ≤ m2 ∧ r2.length = r.length ∧ laws_toGraph.f k g = some g ∧ spec_CodeVector.f k g p q most = some (r, b) ∧ impl_CodeVector.f k g p q most = some (r, b) ∧ laws_eqInt64S.f k r r = some true ∧ laws_eqGraph.f k g g = some true ∧ laws_markInt64SS.f k g 1 = some (m, T2) ∧ laws_markInt64S.f k r 1 = some (m2, r2) ∧ laws_heldInt64S.f k r2 1 = some m2 := by
  obtain ⟨r, b, h1, h2, h3⟩ := vector_both g p q most (fun x hx => (hl x hx).1)
  exact valued_ways g hn (fun x hx => (hl x hx).1) h1 h2 h3

end Go.Proofs.Ytanndepgepgfoab.Pure
