/-
The law FnExactRankOfBits answers true for every graph, every number and every text; there are no conditions beside the row's own bounds.
-/
import Derived.Test.YtanndepgepgfoabDoorQFnExactRankOfBitsx8
namespace Go.Proofs.YtanndepgepgfoabDoor.Pure
open Go.RowKit Go.Proofs.YtanndepgepgfoabDoor.QFnExactRankOfBits Go.Proofs.YtanndepgepgfoabDoorW.PrintWords Go.Proofs.YtanndepgepgfoabDoorW.PrintLast Go.Proofs.YtanndepgepgfoabDoorW.PrintMore
set_option linter.unusedVariables false

theorem ev_one {α : Type} {g : Nat → Option α} {r : α} (h : ∀ k, g (k + 1) = some r) : Ev g r :=
  ⟨1, fun k hk => by obtain ⟨m, rfl⟩ : ∃ m, k = m + 1 := ⟨k - 1, by omega⟩; exact h m⟩
theorem wrap64_in {x : Int} (h0 : -9223372036854775808 ≤ x) (h1 : x ≤ 9223372036854775807) : wrap64 x = x := by
  unfold wrap64; omega
theorem u64_in {x : Int} (h0 : 0 ≤ x) (h1 : x ≤ 18446744073709551615) : IntKind.u64.wrap x = x := by
  simp [IntKind.wrap, IntKind.bits, IntKind.signed]; omega
theorem i64_in {x : Int} (h0 : -9223372036854775808 ≤ x) (h1 : x ≤ 9223372036854775807) : IntKind.i64.wrap x = x := by
  rw [IntKind.wrap_i64]; omega
theorem and_one (x : Int) : Go.bits .and .i64 x 1 = x % 2 := by
  have h : (BitVec.ofInt 64 x &&& BitVec.ofInt 64 1).toNat = (x % 2).toNat := by
    have e1 : BitVec.ofInt 64 1 = 1#64 := by decide
    rw [e1, BitVec.toNat_and, BitVec.toNat_ofInt]
    have e2 : (1#64).toNat = 1 := by decide
    rw [e2, Nat.and_one_is_mod]
    omega
  show IntKind.i64.wrap (((BitVec.ofInt 64 x &&& BitVec.ofInt 64 1).toNat : Nat) : Int) = x % 2
  rw [h, i64_in (by omega) (by omega)]
  omega
theorem wf_i64 {x : Int} (h : (Lit.int .i64 x).wf = true) : -9223372036854775808 ≤ x ∧ x ≤ 9223372036854775807 := by
  simp [Lit.wf, IntKind.min, IntKind.max, IntKind.signed, IntKind.bits] at h
  omega
theorem pow_pos_int (d : Nat) : (0 : Int) < 2 ^ d := Int.pow_pos (by decide)
theorem pow_le_int {a b : Nat} (h : a ≤ b) : (2 : Int) ^ a ≤ 2 ^ b := by
  have := Nat.pow_le_pow_right (n := 2) (by decide) h
  exact_mod_cast this

theorem ev_pos {α : Type} {c : Prop} [Decidable c] {g h : Nat → Option α} {r : α} (hc : c) (hg : Ev g r) : Ev (fun k => if c then g k else h k) r := by
  obtain ⟨K, hK⟩ := hg
  exact ⟨K, fun k hk => (if_pos hc).trans (hK k hk)⟩
theorem ev_neg {α : Type} {c : Prop} [Decidable c] {g h : Nat → Option α} {r : α} (hc : ¬ c) (hg : Ev h r) : Ev (fun k => if c then g k else h k) r := by
  obtain ⟨K, hK⟩ := hg
  exact ⟨K, fun k hk => (if_neg hc).trans (hK k hk)⟩
theorem ev_some {α β : Type} {f : Nat → α → Option β} {a : α} {r : β} (h : Ev (fun k => f k a) r) : Ev (fun k => (some a).bind (f k)) r := h
theorem ev_to {α β : Type} {x : Option α} {f : Nat → α → Option β} {a : α} {r : β} (e : x = some a) (h : Ev (fun k => f k a) r) : Ev (fun k => x.bind (f k)) r := by subst e; exact h
theorem ev_det {α : Type} {g : Nat → Option α} {r r' : α} (h : Ev g r) (h' : Ev g r') : r = r' := by
  obtain ⟨K, hK⟩ := h
  obtain ⟨K', hK'⟩ := h'
  have h1 := hK (max K K') (Nat.le_max_left _ _)
  have h2 := hK' (max K K') (Nat.le_max_right _ _)
  rw [h1] at h2
  exact Option.some.inj h2
theorem wrap_succ {j n : Nat} (h : j < n) (hn : n ≤ 9223372036854775807) : wrap64 ((j : Int) + 1) = ((j + 1 : Nat) : Int) := by
  rw [wrap64_in (by omega) (by omega)]; omega
theorem nat0 (j : Nat) : (0 : Int) ≤ (j : Int) := Int.natCast_nonneg j
theorem rd_nat (l : List Int) (j : Nat) : rd l (j : Int) = l.getD j 0 := by unfold rd; rw [Int.toNat_natCast]
theorem rd_get (l : List Int) (j : Nat) (h : j < l.length) : rd l (j : Int) = l[j] := by rw [rd_nat, List.getD_eq_getElem?_getD, List.getElem?_eq_getElem h]; rfl
theorem drop_cons {α : Type} (l : List α) (j : Nat) (h : j < l.length) : l.drop j = l[j] :: l.drop (j + 1) := List.drop_eq_getElem_cons h
theorem take_snoc' {α : Type} (l : List α) (j : Nat) (h : j < l.length) : l.take (j + 1) = l.take j ++ [l[j]] := List.take_succ_eq_append_getElem h
theorem set_take {α : Type} (acc : List α) (j : Nat) (x : α) (h : j < acc.length) : (acc.set j x).take (j + 1) = acc.take j ++ [x] := by
  rw [List.take_set, List.take_succ_eq_append_getElem h, List.set_append_right _ _ (by simp; omega)]
  have : (acc.take j).length = j := by rw [List.length_take]; omega
  rw [this, Nat.sub_self]
  rfl
theorem take_all {α : Type} {a b : List α} {n : Nat} (ha : a.length = n) (hb : b.length = n) (h : a.take n = b.take n) : a = b := by
  rw [List.take_of_length_le (by omega), List.take_of_length_le (by omega)] at h; exact h
theorem w01 : wrap64 (0 + 1) = 1 := by unfold wrap64; decide
theorem w11 : wrap64 (1 + 1) = 2 := by unfold wrap64; decide

theorem spec_in (a b c : Int) : spec_l00In.f a b c = some (decide (b ≤ a ∧ a ≤ c)) := by
  unfold spec_l00In.f
  by_cases h : a ≥ b
  · rw [if_pos h]; congr 1; have : b ≤ a := h; simp [this]
  · rw [if_neg h]; congr 1; have : ¬ b ≤ a := h; simp [this]
theorem impl_in (a b c : Int) : impl_within.f a b c = some (decide (b ≤ a ∧ a ≤ c)) := by
  unfold impl_within.f
  by_cases h : a ≥ b
  · rw [if_pos h]; congr 1; have : b ≤ a := h; simp [this]
  · rw [if_neg h]; congr 1; have : ¬ b ≤ a := h; simp [this]

theorem rdL_get (l : List (List Int)) (j : Nat) (h : j < l.length) : rd_L1 l (j : Int) = l[j] := by
  unfold rd_L1; rw [Int.toNat_natCast, List.getD_eq_getElem?_getD, List.getElem?_eq_getElem h]; rfl

theorem toInt64S_loop (l : List Int) (hn : l.length ≤ 1048576) (d : Nat) : ∀ (j : Nat) (acc : List Int), j + d = l.length → acc.length = l.length → acc.take j = l.take j →
    Ev (fun k => laws_toInt64S.l0 k l acc (j : Int)) l := by
  induction d with
  | zero =>
    intro j acc h1 h2 h3
    obtain rfl : acc = l := take_all (n := j) (by omega) (by omega) h3
    exact ev_one (fun k => by rw [laws_toInt64S.l0, if_neg (by omega)])
  | succ d ih =>
    intro j acc h1 h2 h3
    have hj : j < l.length := by omega
    refine Ev.step (fun k => ?_) (ih (j + 1) (acc.set j l[j]) (by omega) (by simpa using h2) (by rw [set_take _ _ _ (by omega), take_snoc' _ _ hj, h3]))
    rw [laws_toInt64S.l0, if_pos (by omega), if_pos (by omega), if_pos (by omega), wrap_succ hj (by omega), rd_get _ _ hj, Int.toNat_natCast]
theorem toInt64S_ev (l : List Int) (hn : l.length ≤ 1048576) : Ev (fun k => laws_toInt64S.f k l) l := by
  refine Ev.congr (fun k => ?_) (toInt64S_loop l hn l.length 0 (List.replicate l.length 0) (by omega) (by simp) (by simp))
  unfold laws_toInt64S.f
  rw [if_pos (by omega), if_pos (by omega), Int.toNat_natCast]
  rfl
theorem eqInt64S_loop (l : List Int) (hn : l.length ≤ 1048576) (d : Nat) : ∀ j : Nat, j + d = l.length → Ev (fun k => laws_eqInt64S.l0 k l l (j : Int)) true := by
  induction d with
  | zero => intro j h; exact ev_one (fun k => by rw [laws_eqInt64S.l0, if_neg (by omega)])
  | succ d ih =>
    intro j h
    refine Ev.step (fun k => ?_) (ih (j + 1) (by omega))
    rw [laws_eqInt64S.l0, if_pos (by omega), if_pos (by omega), if_pos (by omega), if_pos rfl, wrap_succ (n := l.length) (by omega) (by omega)]
theorem eqInt64S_ev (l : List Int) (hn : l.length ≤ 1048576) : Ev (fun k => laws_eqInt64S.f k l l) true := by
  refine Ev.congr (fun k => ?_) (eqInt64S_loop l hn l.length 0 (by omega))
  unfold laws_eqInt64S.f
  rw [if_pos rfl]
  rfl

theorem toInt64SS_loop (l : List (List Int)) (hn : l.length ≤ 1048576) (hr : ∀ r ∈ l, r.length ≤ 1048576) (d : Nat) : ∀ (j : Nat) (acc : List (List Int)), j + d = l.length → acc.length = l.length → acc.take j = l.take j →
    Ev (fun k => laws_toInt64SS.l0 k l acc (j : Int)) l := by
  induction d with
  | zero =>
    intro j acc h1 h2 h3
    obtain rfl : acc = l := take_all (n := j) (by omega) (by omega) h3
    exact ev_one (fun k => by rw [laws_toInt64SS.l0, if_neg (by omega)])
  | succ d ih =>
    intro j acc h1 h2 h3
    have hj : j < l.length := by omega
    refine Ev.step (fun k => by rw [laws_toInt64SS.l0, if_pos (by omega), if_pos (by omega), rdL_get _ _ hj]) ?_
    refine Ev.bind (toInt64S_ev l[j] (hr _ (List.getElem_mem hj))) (ev_pos (by omega) ?_)
    rw [wrap_succ hj (by omega), Int.toNat_natCast]
    exact ih (j + 1) (acc.set j l[j]) (by omega) (by simpa using h2) (by rw [set_take _ _ _ (by omega), take_snoc' _ _ hj, h3])
theorem toInt64SS_ev (l : List (List Int)) (hn : l.length ≤ 1048576) (hr : ∀ r ∈ l, r.length ≤ 1048576) : Ev (fun k => laws_toInt64SS.f k l) l := by
  refine Ev.congr (fun k => ?_) (toInt64SS_loop l hn hr l.length 0 (List.replicate l.length []) (by omega) (by simp) (by simp))
  unfold laws_toInt64SS.f
  rw [if_pos (by omega), if_pos (by omega), Int.toNat_natCast]
  rfl
theorem eqInt64SS_loop (l : List (List Int)) (hn : l.length ≤ 1048576) (hr : ∀ r ∈ l, r.length ≤ 1048576) (d : Nat) : ∀ j : Nat, j + d = l.length → Ev (fun k => laws_eqInt64SS.l0 k l l (j : Int)) true := by
  induction d with
  | zero => intro j h; exact ev_one (fun k => by rw [laws_eqInt64SS.l0, if_neg (by omega)])
  | succ d ih =>
    intro j h
    have hj : j < l.length := by omega
    refine Ev.step (fun k => by rw [laws_eqInt64SS.l0, if_pos (by omega), if_pos (by omega), if_pos (by omega), rdL_get _ _ hj]) ?_
    refine Ev.bind (eqInt64S_ev l[j] (hr _ (List.getElem_mem hj))) (ev_pos rfl ?_)
    rw [wrap_succ hj (by omega)]
    exact ih (j + 1) (by omega)
theorem eqInt64SS_ev (l : List (List Int)) (hn : l.length ≤ 1048576) (hr : ∀ r ∈ l, r.length ≤ 1048576) : Ev (fun k => laws_eqInt64SS.f k l l) true := by
  refine Ev.congr (fun k => ?_) (eqInt64SS_loop l hn hr l.length 0 (by omega))
  unfold laws_eqInt64SS.f
  rw [if_pos rfl]
  rfl

theorem toGraph_ev (l : List (List Int)) (hn : l.length ≤ 1048576) (hr : ∀ r ∈ l, r.length ≤ 1048576) : Ev (fun k => laws_toGraph.f k l) l := by
  unfold laws_toGraph.f
  exact Ev.bind (toInt64SS_ev l hn hr) (Ev.now _)
theorem eqGraph_ev (l : List (List Int)) (hn : l.length ≤ 1048576) (hr : ∀ r ∈ l, r.length ≤ 1048576) : Ev (fun k => laws_eqGraph.f k l l) true := by
  unfold laws_eqGraph.f
  exact Ev.bind (eqInt64SS_ev l hn hr) (Ev.now _)
theorem szSS_loop (l : List (List Int)) (hn : l.length ≤ 9223372036854775807) (hl : ∀ r ∈ l, r.length ≤ 9223372036854775807) (d : Nat) : ∀ (j : Nat) (left : Int), j + d = l.length → 0 ≤ left → left ≤ 1048576 →
    (∃ r, Ev (fun k => laws_szInt64SS.l0 k l left (j : Int)) r ∧ (0 ≤ r → ∀ x ∈ l.drop j, x.length ≤ 1048576)) := by
  induction d with
  | zero =>
    intro j left h h0 h1
    refine ⟨left, ev_one (fun k => by rw [laws_szInt64SS.l0, if_neg (by omega)]), fun _ x hx => ?_⟩
    rw [List.drop_eq_nil_of_le (by omega)] at hx
    cases hx
  | succ d ih =>
    intro j left h h0 h1
    have hj : j < l.length := by omega
    have hlen := hl _ (List.getElem_mem hj)
    have hw : wrap64 (left - (l[j].length : Int)) = left - (l[j].length : Int) := wrap64_in (by omega) (by omega)
    by_cases c : left - (l[j].length : Int) < 0
    · refine ⟨-1, ev_one (fun k => ?_), fun h => by omega⟩
      rw [laws_szInt64SS.l0, if_pos (by omega), if_pos (by omega), rdL_get _ _ hj]
      unfold laws_szInt64S.f
      rw [hw, if_pos c]
      rfl
    · obtain ⟨r, hr, hp⟩ := ih (j + 1) (left - (l[j].length : Int)) (by omega) (by omega) (by omega)
      refine ⟨r, Ev.step (fun k => ?_) hr, fun h0 x hx => ?_⟩
      · rw [laws_szInt64SS.l0, if_pos (by omega), if_pos (by omega), rdL_get _ _ hj]
        unfold laws_szInt64S.f
        rw [hw, if_neg c, Option.bind_some, if_neg c, wrap_succ hj (by omega)]
      · rw [drop_cons _ _ hj] at hx
        rcases List.mem_cons.1 hx with rfl | hx
        · omega
        · exact hp h0 x hx
theorem szGraph_ev (l : List (List Int)) (hn : l.length ≤ 9223372036854775807) (hl : ∀ r ∈ l, r.length ≤ 9223372036854775807) :
    ∃ r, Ev (fun k => laws_szGraph.f k l 1048576) r ∧ (0 ≤ r → l.length ≤ 1048576 ∧ ∀ x ∈ l, x.length ≤ 1048576) := by
  have hw : wrap64 (1048576 - (l.length : Int)) = 1048576 - (l.length : Int) := wrap64_in (by omega) (by omega)
  by_cases c : 1048576 - (l.length : Int) < 0
  · refine ⟨-1, ?_, fun h => by omega⟩
    refine Ev.congr (fun k => ?_) (Ev.now _)
    unfold laws_szGraph.f laws_szInt64SS.f
    rw [hw, if_pos c]
    rfl
  · obtain ⟨r, hr, hp⟩ := szSS_loop l hn hl l.length 0 (1048576 - (l.length : Int)) (by omega) (by omega) (by omega)
    by_cases c2 : r < 0
    · refine ⟨-1, ?_, fun h => by omega⟩
      refine Ev.congr (fun k => by unfold laws_szGraph.f laws_szInt64SS.f; rw [hw, if_neg c]) ?_
      exact Ev.bind hr (ev_pos c2 (Ev.now _))
    · refine ⟨r, ?_, fun h0 => ⟨by omega, fun x hx => hp h0 x (by simpa using hx)⟩⟩
      refine Ev.congr (fun k => by unfold laws_szGraph.f laws_szInt64SS.f; rw [hw, if_neg c]) ?_
      exact Ev.bind hr (ev_neg c2 (Ev.now _))

/-- A row of a valid graph with n states. -/
def okRow (n : Int) (r : List Int) : Bool := decide (r.length = 2) && (decide (-1 ≤ rd r 0 ∧ rd r 0 ≤ n - 1) && (decide (-1 ≤ rd r 1 ∧ rd r 1 ≤ n - 1) && !(decide (rd r 0 < 0) && decide (rd r 1 < 0))))
def VG (g : List (List Int)) : Bool := decide (1 ≤ (g.length : Int) ∧ (g.length : Int) ≤ 12) && g.all (okRow g.length)
theorem row_two {r : List Int} (h : r.length = 2) : ∃ a b, r = [a, b] := by
  match r, h with
  | [a, b], _ => exact ⟨a, b, rfl⟩
theorem okRow_not {n : Int} {r : List Int} (h : ¬ r.length = 2) : okRow n r = false := by simp [okRow, h]
theorem okRow_two (n a b : Int) : okRow n [a, b] = (decide (-1 ≤ a ∧ a ≤ n - 1) && (decide (-1 ≤ b ∧ b ≤ n - 1) && !(decide (a < 0) && decide (b < 0)))) := rfl
theorem rd0 (a b : Int) : rd [a, b] 0 = a := rfl
theorem rd1 (a b : Int) : rd [a, b] 1 = b := rfl
theorem len2 (a b : Int) : (([a, b] : List Int).length : Int) = 2 := rfl
theorem VG_iff {g : List (List Int)} (h : VG g = true) : (1 ≤ g.length ∧ g.length ≤ 12) ∧ ∀ r ∈ g, ∃ a b, r = [a, b] ∧ (-1 ≤ a ∧ a ≤ (g.length : Int) - 1) ∧ (-1 ≤ b ∧ b ≤ (g.length : Int) - 1) ∧ ¬ (a < 0 ∧ b < 0) := by
  simp only [VG, Bool.and_eq_true, decide_eq_true_eq, List.all_eq_true] at h
  refine ⟨by omega, fun r hr => ?_⟩
  have h2 := h.2 r hr
  by_cases hl : r.length = 2
  · obtain ⟨a, b, rfl⟩ := row_two hl
    rw [okRow_two] at h2
    simp only [Bool.and_eq_true, decide_eq_true_eq, Bool.not_eq_true', Bool.and_eq_false_imp, decide_eq_false_iff_not] at h2
    exact ⟨a, b, rfl, h2.1, h2.2.1, fun h => h2.2.2 h.1 h.2⟩
  · rw [okRow_not hl] at h2; cases h2

theorem areIn_loop (l : List Int) (lo hi : Int) (hn : l.length ≤ 9223372036854775807) (d : Nat) : ∀ j : Nat, j + d = l.length →
    Ev (fun k => impl_areIn.l0 k lo hi l (l.length : Int) (j : Int)) ((l.drop j).all fun x => decide (lo ≤ x ∧ x ≤ hi)) := by
  induction d with
  | zero =>
    intro j h
    rw [List.drop_eq_nil_of_le (by omega)]
    exact ev_one (fun k => by rw [impl_areIn.l0, if_neg (by omega)]; rfl)
  | succ d ih =>
    intro j h
    have hj : j < l.length := by omega
    rw [drop_cons _ _ hj, List.all_cons]
    by_cases c : lo ≤ l[j] ∧ l[j] ≤ hi
    · rw [decide_eq_true c, Bool.true_and]
      refine Ev.step (fun k => ?_) (ih (j + 1) (by omega))
      rw [impl_areIn.l0, if_pos (by omega), if_pos (by omega), if_pos (by omega), rd_get _ _ hj, impl_in, decide_eq_true c, Option.bind_some, if_pos rfl, wrap_succ hj hn]
    · rw [decide_eq_false c, Bool.false_and]
      refine ev_one (fun k => ?_)
      rw [impl_areIn.l0, if_pos (by omega), if_pos (by omega), if_pos (by omega), rd_get _ _ hj, impl_in, decide_eq_false c, Option.bind_some, if_neg (by decide)]
theorem areIn_ev (l : List Int) (lo hi : Int) (hn : l.length ≤ 9223372036854775807) : Ev (fun k => impl_areIn.f k l lo hi) (l.all fun x => decide (lo ≤ x ∧ x ≤ hi)) :=
  areIn_loop l lo hi hn l.length 0 (by omega)

theorem specVG_loop (g : List (List Int)) (h12 : g.length ≤ 12) (d : Nat) : ∀ j : Nat, j + d = g.length →
    Ev (fun k => spec_l02Is.l0 k (g.length : Int) (j : Int) g) ((g.drop j).all (okRow g.length)) := by
  have hw : wrap64 ((g.length : Int) - 1) = (g.length : Int) - 1 := wrap64_in (by omega) (by omega)
  induction d with
  | zero =>
    intro j h
    rw [List.drop_eq_nil_of_le (by omega)]
    exact ev_one (fun k => by rw [spec_l02Is.l0, if_neg (by omega)]; rfl)
  | succ d ih =>
    intro j h
    have hj : j < g.length := by omega
    have hs := wrap_succ hj (by omega)
    rw [drop_cons _ _ hj, List.all_cons]
    by_cases hl : (g[j]).length = 2
    · obtain ⟨a, b, e⟩ := row_two hl
      have hi := ih (j + 1) (by omega)
      rw [e, okRow_two]
      refine Ev.step (fun k => by rw [spec_l02Is.l0, if_pos (by omega), if_pos (by omega), rdL_get _ _ hj, e, if_pos (len2 a b), if_pos (by rw [len2]; decide), if_pos (by rw [len2]; decide), rd0, rd1, spec_in, spec_in, hw, Option.bind_some, Option.bind_some, hs]) ?_
      by_cases ca : -1 ≤ a ∧ a ≤ (g.length : Int) - 1
      · rw [decide_eq_true ca, Bool.true_and]
        refine ev_pos rfl ?_
        by_cases cb : -1 ≤ b ∧ b ≤ (g.length : Int) - 1
        · rw [decide_eq_true cb, Bool.true_and]
          refine ev_pos rfl ?_
          by_cases a0 : a < 0
          · refine ev_pos a0 ?_
            by_cases b0 : b < 0
            · refine ev_pos b0 ?_
              simpa [a0, b0] using Ev.now false
            · refine ev_neg b0 ?_
              simpa [a0, b0] using hi
          · refine ev_neg a0 ?_
            simpa [a0] using hi
        · rw [decide_eq_false cb, Bool.false_and, Bool.false_and]
          exact ev_neg (by decide) (Ev.now _)
      · rw [decide_eq_false ca, Bool.false_and, Bool.false_and]
        exact ev_neg (by decide) (Ev.now _)
    · rw [okRow_not hl, Bool.false_and]
      refine ev_one (fun k => ?_)
      rw [spec_l02Is.l0, if_pos (by omega), if_pos (by omega), rdL_get _ _ hj, if_neg (by omega)]
theorem specIs_ev (g : List (List Int)) : Ev (fun k => spec_l02Is.f k g) (VG g) := by
  by_cases c : 1 ≤ (g.length : Int) ∧ (g.length : Int) ≤ 12
  · have h := specVG_loop g (by omega) g.length 0 (by omega)
    unfold VG
    rw [decide_eq_true c, Bool.true_and]
    refine Ev.congr (fun k => ?_) h
    unfold spec_l02Is.f
    rw [spec_in, decide_eq_true c]
    rfl
  · refine Ev.congr (fun k => ?_) (Ev.now _)
    unfold spec_l02Is.f VG
    rw [spec_in, decide_eq_false c]
    rfl

theorem implVG_loop (g : List (List Int)) (h12 : g.length ≤ 12) (hr : ∀ r ∈ g, r.length ≤ 9223372036854775807) (d : Nat) : ∀ j : Nat, j + d = g.length →
    Ev (fun k => impl_ValidGraph.l0 k (g.length : Int) g (g.length : Int) (j : Int)) ((g.drop j).all (okRow g.length)) := by
  have hw : wrap64 ((g.length : Int) - 1) = (g.length : Int) - 1 := wrap64_in (by omega) (by omega)
  induction d with
  | zero =>
    intro j h
    rw [List.drop_eq_nil_of_le (by omega)]
    exact ev_one (fun k => by rw [impl_ValidGraph.l0, if_neg (by omega)]; rfl)
  | succ d ih =>
    intro j h
    have hj : j < g.length := by omega
    have hs := wrap_succ hj (by omega)
    rw [drop_cons _ _ hj, List.all_cons]
    by_cases hl : (g[j]).length = 2
    · obtain ⟨a, b, e⟩ := row_two hl
      have hi := ih (j + 1) (by omega)
      rw [e, okRow_two]
      have ha := areIn_ev [a, b] (-1) ((g.length : Int) - 1) (show 2 ≤ 9223372036854775807 by decide)
      refine Ev.step (fun k => by rw [impl_ValidGraph.l0, if_pos (by omega), if_pos (by omega), if_pos (by omega), rdL_get _ _ hj, e, if_pos (len2 a b), hw, if_pos (show (0 : Int) < (([a, b] : List Int).length : Int) by rw [len2]; decide), if_pos (show (1 : Int) < (([a, b] : List Int).length : Int) by rw [len2]; decide), rd0, rd1, hs]) (Ev.bind ha ?_)
      by_cases ca : -1 ≤ a ∧ a ≤ (g.length : Int) - 1
      · by_cases cb : -1 ≤ b ∧ b ≤ (g.length : Int) - 1
        · rw [decide_eq_true ca, decide_eq_true cb, Bool.true_and, Bool.true_and]
          refine ev_pos (by simp [ca, cb]) ?_
          by_cases a0 : a < 0
          · refine ev_pos a0 ?_
            by_cases b0 : b < 0
            · refine ev_pos b0 ?_
              simpa [a0, b0] using Ev.now false
            · refine ev_neg b0 ?_
              simpa [a0, b0] using hi
          · refine ev_neg a0 ?_
            simpa [a0] using hi
        · rw [decide_eq_false cb, Bool.false_and, Bool.and_false, Bool.false_and]
          exact ev_neg (by simp [cb]) (Ev.now _)
      · rw [decide_eq_false ca, Bool.false_and, Bool.false_and]
        exact ev_neg (by simp [ca]) (Ev.now _)
    · rw [okRow_not hl, Bool.false_and]
      refine ev_one (fun k => ?_)
      rw [impl_ValidGraph.l0, if_pos (by omega), if_pos (by omega), if_pos (by omega), rdL_get _ _ hj, if_neg (by omega)]
theorem implVG_ev (g : List (List Int)) (hr : ∀ r ∈ g, r.length ≤ 9223372036854775807) : Ev (fun k => impl_ValidGraph.f k g) (VG g) := by
  by_cases c : 1 ≤ (g.length : Int) ∧ (g.length : Int) ≤ 12
  · have h := implVG_loop g (by omega) hr g.length 0 (by omega)
    unfold VG
    rw [decide_eq_true c, Bool.true_and]
    refine Ev.congr (fun k => ?_) h
    unfold impl_ValidGraph.f
    rw [impl_in, decide_eq_true c]
    rfl
  · refine Ev.congr (fun k => ?_) (Ev.now _)
    unfold impl_ValidGraph.f VG
    rw [impl_in, decide_eq_false c]
    rfl

/-- A valid graph's rows, as places in lists. -/
def Rows2 (g : List (List Int)) : Prop := ∀ j : Nat, j < g.length → ∃ a b, rd_L1 g (j : Int) = [a, b] ∧ a < (g.length : Int) ∧ b < (g.length : Int) ∧ -1 ≤ a ∧ -1 ≤ b
theorem rows2_of {g : List (List Int)} (h : VG g = true) : Rows2 g := by
  intro j hj
  obtain ⟨_, h2⟩ := VG_iff h
  obtain ⟨a, b, e, ha, hb, _⟩ := h2 g[j] (List.getElem_mem hj)
  exact ⟨a, b, by rw [rdL_get _ _ hj, e], by omega, by omega, ha.1, hb.1⟩

theorem specState_ev (g : List (List Int)) (x : Int) : Ev (fun k => spec_l02State.f k g x) (VG g && decide (0 ≤ x ∧ x ≤ wrap64 ((g.length : Int) - 1))) := by
  have hs := specIs_ev g
  unfold spec_l02State.f
  cases e : VG g with
  | false => rw [e] at hs; exact Ev.bind hs (ev_neg Bool.false_ne_true (Ev.now _))
  | true => rw [e] at hs; exact Ev.bind hs (ev_pos rfl (ev_to (spec_in _ _ _) (Ev.now _)))
theorem implState_ev (g : List (List Int)) (hr : ∀ r ∈ g, r.length ≤ 9223372036854775807) (x : Int) : Ev (fun k => impl_isState.f k g x) (VG g && decide (0 ≤ x ∧ x ≤ wrap64 ((g.length : Int) - 1))) := by
  have hs := implVG_ev g hr
  unfold impl_isState.f
  cases e : VG g with
  | false => rw [e] at hs; exact Ev.bind hs (ev_neg Bool.false_ne_true (Ev.now _))
  | true => rw [e] at hs; exact Ev.bind hs (ev_pos rfl (ev_to (impl_in _ _ _) (Ev.now _)))
theorem state_in {g : List (List Int)} {x : Int} (h : (VG g && decide (0 ≤ x ∧ x ≤ wrap64 ((g.length : Int) - 1))) = true) : VG g = true ∧ g.length ≤ 12 ∧ ∃ j : Nat, x = (j : Int) ∧ j < g.length := by
  rw [Bool.and_eq_true, decide_eq_true_iff] at h
  obtain ⟨h1, h2, h3⟩ := h
  have h4 := (VG_iff h1).1
  rw [wrap64_in (by omega) (by omega)] at h3
  exact ⟨h1, h4.2, x.toNat, by omega, by omega⟩

def isBit (b : UInt8) : Bool := b.toNat == 48 || b.toNat == 49
def areB (l : List UInt8) : Bool := l.all isBit
theorem size_l (s : ByteArray) : s.size = s.data.toList.length := by rw [Array.length_toList]; rfl
theorem bt_l (s : ByteArray) (j : Nat) (h : j < s.data.toList.length) : bt s (j : Int) = ((s.data.toList[j].toNat : Nat) : Int) := by
  have h2 : ((j : Int)).toNat < s.size := by rw [Int.toNat_natCast, size_l]; exact h
  have h3 : j < s.data.size := by rw [Array.length_toList] at h; exact h
  have e : s[((j : Int)).toNat]'h2 = s.data[j] := rfl
  rw [← bt_at s j h2, e, Array.getElem_toList]
theorem cs_bit (b : UInt8) : ([48, 49] : List UInt8).contains b = isBit b := by
  have h1 : (b == 48) = (b.toNat == 48) := by rw [Bool.eq_iff_iff]; simp [← UInt8.toNat_inj]
  have h2 : (b == 49) = (b.toNat == 49) := by rw [Bool.eq_iff_iff]; simp [← UInt8.toNat_inj]
  unfold isBit
  rw [← h1, ← h2]
  show (match b == 48 with | true => true | false => (match b == 49 with | true => true | false => false)) = (b == 48 || b == 49)
  cases (b == 48) <;> cases (b == 49) <;> rfl
theorem drop_nil {p : UInt8 → Bool} (l : List UInt8) : l.dropWhile p = [] ↔ ∀ x ∈ l, p x = true := by
  induction l with
  | nil => simp
  | cons a t ih =>
    rw [List.dropWhile_cons]
    cases e : p a with
    | true => rw [if_pos rfl, ih]; simp [e]
    | false => rw [if_neg (by decide)]; simp [e]
theorem drop_all {p : UInt8 → Bool} (l : List UInt8) (h : (l.dropWhile p).all p = true) : l.all p = true := by
  induction l with
  | nil => rfl
  | cons a t ih =>
    rw [List.dropWhile_cons] at h
    cases e : p a with
    | true => rw [e, if_pos rfl] at h; rw [List.all_cons, e, ih h]; rfl
    | false => rw [e, if_neg (by decide)] at h; exact h
theorem trim_nil (l : List UInt8) : (Lib.trimS l [48, 49] == []) = areB l := by
  have e : (fun b => ([48, 49] : List UInt8).contains b) = isBit := funext cs_bit
  unfold Lib.trimS Lib.trimLeftS Lib.trimRightS areB
  rw [e]
  rw [Bool.eq_iff_iff, beq_iff_eq, drop_nil]
  constructor
  · intro h
    have h1 : (l.reverse.dropWhile isBit).all isBit = true := List.all_eq_true.2 (fun x hx => h x (List.mem_reverse.2 hx))
    have h2 := drop_all _ h1
    rw [List.all_reverse] at h2
    exact h2
  · intro h x hx
    have h3 := List.mem_reverse.1 hx
    have h4 : x ∈ l.reverse := (List.dropWhile_sublist _).subset h3
    exact List.all_eq_true.1 h x (List.mem_reverse.1 h4)

theorem specBits_loop (s : ByteArray) (hn : s.size ≤ 9223372036854775807) (d : Nat) : ∀ j : Nat, j + d = s.data.toList.length → Ev (fun k => spec_l01Bits.l0 k s (j : Int)) (areB (s.data.toList.drop j) && decide ((s.size : Int) ≤ 400)) := by
  have hs := size_l s
  induction d with
  | zero =>
    intro j h
    rw [List.drop_eq_nil_of_le (by omega)]
    exact ev_one (fun k => by rw [spec_l01Bits.l0, if_neg (by omega)]; rfl)
  | succ d ih =>
    intro j h
    have hj : j < s.data.toList.length := by omega
    have hb := bt_l s j hj
    have hw := wrap_succ hj (by omega)
    rw [drop_cons _ _ hj]
    unfold areB
    rw [List.all_cons]
    by_cases c1 : bt s (j : Int) = 48
    · have e : isBit s.data.toList[j] = true := by unfold isBit; have : s.data.toList[j].toNat = 48 := by omega
                                                   rw [this]; rfl
      rw [e, Bool.true_and]
      exact Ev.step (fun k => by rw [spec_l01Bits.l0, if_pos (by omega), if_pos (by omega), if_pos c1, hw]) (ih (j + 1) (by omega))
    · by_cases c2 : bt s (j : Int) = 49
      · have e : isBit s.data.toList[j] = true := by unfold isBit; have : s.data.toList[j].toNat = 49 := by omega
                                                     rw [this]; rfl
        rw [e, Bool.true_and]
        exact Ev.step (fun k => by rw [spec_l01Bits.l0, if_pos (by omega), if_pos (by omega), if_neg c1, if_pos c2, hw]) (ih (j + 1) (by omega))
      · have e : isBit s.data.toList[j] = false := by
          unfold isBit
          obtain ⟨n, hn⟩ : ∃ n, n = s.data.toList[j].toNat := ⟨_, rfl⟩
          rw [← hn] at hb ⊢
          have h1 : (n == 48) = false := beq_eq_false_iff_ne.2 (by omega)
          have h2 : (n == 49) = false := beq_eq_false_iff_ne.2 (by omega)
          rw [h1, h2]; rfl
        rw [e, Bool.false_and, Bool.false_and]
        exact ev_one (fun k => by rw [spec_l01Bits.l0, if_pos (by omega), if_pos (by omega), if_neg c1, if_neg c2])
def IB (s : ByteArray) : Bool := areB s.data.toList && decide ((s.size : Int) ≤ 400)
theorem specBits_ev (s : ByteArray) (hn : s.size ≤ 9223372036854775807) : Ev (fun k => spec_l01Bits.f k s) (IB s) := specBits_loop s hn s.data.toList.length 0 (by omega)

theorem areBits_f (s : ByteArray) (hn : s.size ≤ 9223372036854775807) : impl_areBits.f s = some (areB s.data.toList) := by
  unfold impl_areBits.f strings_Trim.f
  rw [if_pos ⟨rfl, hn⟩, Option.bind_some]
  have e : (⟨(Lib.trimS s.data.toList [48, 49]).toArray⟩ : ByteArray).toList = Lib.trimS s.data.toList [48, 49] := by
    rw [Lib.toList_data]
  rw [e, ← trim_nil]

theorem isBits_f (s : ByteArray) (hn : s.size ≤ 9223372036854775807) : impl_IsBits.f s = some (IB s) := by
  unfold impl_IsBits.f IB
  by_cases c : (s.size : Int) ≤ 400
  · rw [if_pos c, areBits_f s hn, decide_eq_true c, Bool.and_true]; rfl
  · rw [if_neg c, decide_eq_false c, Bool.and_false]

/-- Both walk a graph by bits, and stop at no state. -/
theorem run_both (g : List (List Int)) (hg : Rows2 g) (s : ByteArray) (hn : s.size ≤ 1000) (hb : areB s.data.toList = true) (d : Nat) : ∀ (j : Nat) (x : Int), j + d = s.size → -1 ≤ x → x < g.length →
    ∃ r, Ev (fun k => spec_l02Run.l0 k x s (j : Int) g) r ∧ Ev (fun k => impl_Graph_behind.l0 k x s (j : Int) g) r := by
  have hs := size_l s
  induction d with
  | zero => intro j x h h1 h2; exact ⟨_, ev_one (fun k => by rw [spec_l02Run.l0, if_neg (by omega)]), ev_one (fun k => by rw [impl_Graph_behind.l0, if_neg (by omega)])⟩
  | succ d ih =>
    intro j x h h1 h2
    have hj : j < s.data.toList.length := by omega
    have hw := wrap_succ (j := j) (n := s.size) (by omega) (by omega)
    have hbt := bt_l s j hj
    have hbit : s.data.toList[j].toNat = 48 ∨ s.data.toList[j].toNat = 49 := by
      have := List.all_eq_true.1 hb _ (List.getElem_mem hj)
      unfold isBit at this
      rw [Bool.or_eq_true, beq_iff_eq, beq_iff_eq] at this
      exact this
    by_cases cx : x ≥ 0
    · obtain ⟨y, rfl⟩ := Int.eq_ofNat_of_zero_le cx
      have cx' : ¬ ((y : Int) < 0) := by omega
      obtain ⟨a, b, e, ha, hb2, ha1, hb1⟩ := hg y (by omega)
      have el := len2 a b
      rcases hbit with hbit | hbit
      · have e0 : ((bt s (j : Int)) - 48) % 256 = 0 := by omega
        obtain ⟨r, h3, h4⟩ := ih (j + 1) a (by omega) ha1 ha
        exact ⟨r, Ev.step (fun k => by rw [spec_l02Run.l0, if_pos (by omega), if_pos cx, if_pos cx, if_pos (by omega), if_pos (by omega), e0, if_pos (by decide), e, if_pos (by rw [el]; decide), rd0, hw]) h3,
          Ev.step (fun k => by rw [impl_Graph_behind.l0, if_pos (by omega), if_pos cx, if_pos cx, if_pos (by omega), if_pos (by omega), e0, if_pos (by decide), e, if_pos (by rw [el]; decide), rd0, hw]) h4⟩
      · have e0 : ((bt s (j : Int)) - 48) % 256 = 1 := by omega
        obtain ⟨r, h3, h4⟩ := ih (j + 1) b (by omega) hb1 hb2
        exact ⟨r, Ev.step (fun k => by rw [spec_l02Run.l0, if_pos (by omega), if_pos cx, if_pos cx, if_pos (by omega), if_pos (by omega), e0, if_pos (by decide), e, if_pos (by rw [el]; decide), rd1, hw]) h3,
          Ev.step (fun k => by rw [impl_Graph_behind.l0, if_pos (by omega), if_pos cx, if_pos cx, if_pos (by omega), if_pos (by omega), e0, if_pos (by decide), e, if_pos (by rw [el]; decide), rd1, hw]) h4⟩
    · exact ⟨x, ev_one (fun k => by rw [spec_l02Run.l0, if_pos (by omega), if_neg cx]), ev_one (fun k => by rw [impl_Graph_behind.l0, if_pos (by omega), if_neg cx])⟩

theorem IB_of {s : ByteArray} (e : IB s = true) : s.size ≤ 400 ∧ areB s.data.toList = true := by
  unfold IB at e
  rw [Bool.and_eq_true, decide_eq_true_iff] at e
  exact ⟨by omega, e.1⟩
/-- The state behind bits, as both tell it: a state, or none. -/
theorem run_ev (g : List (List Int)) (hv : VG g = true) (x : Int) (hx : 0 ≤ x ∧ x < g.length) (s : ByteArray) (e : IB s = true) :
    ∃ r, Ev (fun k => spec_l02Run.f k g x s) r ∧ Ev (fun k => impl_Graph_behind.f k g x s) r := by
  obtain ⟨h4, hb⟩ := IB_of e
  exact run_both g (rows2_of hv) s (by omega) hb s.size 0 x (by omega) (by omega) hx.2
theorem implBehind_ev (g : List (List Int)) (hr : ∀ r ∈ g, r.length ≤ 9223372036854775807) (x : Int) (s : ByteArray) (hn : s.size ≤ 9223372036854775807) :
    (((VG g && decide (0 ≤ x ∧ x ≤ wrap64 ((g.length : Int) - 1))) && IB s) = false → Ev (fun k => impl_StateBehind.f k g x s) (0, false)) ∧
    (((VG g && decide (0 ≤ x ∧ x ≤ wrap64 ((g.length : Int) - 1))) && IB s) = true → ∀ r, Ev (fun k => impl_Graph_behind.f k g x s) r → Ev (fun k => impl_StateBehind.f k g x s) (if r < 0 then (0, false) else (r, true))) := by
  have hi := implState_ev g hr x
  have hb := isBits_f s hn
  have ino : Ev (fun k => impl_StateBehind.j0 k x s true g) (0, false) := ev_one (fun k => by rw [impl_StateBehind.j0, if_pos rfl])
  unfold impl_StateBehind.f
  cases e : (VG g && decide (0 ≤ x ∧ x ≤ wrap64 ((g.length : Int) - 1))) with
  | false =>
    rw [e] at hi
    rw [Bool.false_and]
    exact ⟨fun _ => Ev.bind hi (ev_neg Bool.false_ne_true ino), fun h => by cases h⟩
  | true =>
    rw [e] at hi
    rw [Bool.true_and]
    cases e2 : IB s with
    | false => rw [e2] at hb; exact ⟨fun _ => Ev.bind hi (ev_pos rfl (ev_to hb ino)), fun h => by cases h⟩
    | true =>
      rw [e2] at hb
      refine ⟨(fun h => by cases h), fun _ r hr => Ev.bind hi (ev_pos rfl (ev_to hb (Ev.step (fun k => by rw [impl_StateBehind.j0, if_neg (by decide)]) (Ev.bind hr ?_))))⟩
      by_cases c : r < 0
      · rw [show (if r < 0 then ((0 : Int), false) else (r, true)) = (0, false) from if_pos c]; exact ev_pos c (Ev.now _)
      · rw [show (if r < 0 then ((0 : Int), false) else (r, true)) = (r, true) from if_neg c]; exact ev_neg c (Ev.now _)

theorem allowed_both (g : List (List Int)) (hr : ∀ r ∈ g, r.length ≤ 9223372036854775807) (x : Int) (s : ByteArray) (hn : s.size ≤ 9223372036854775807) :
    ∃ r, Ev (fun k => spec_IsAllowed.f k g x s) r ∧ Ev (fun k => impl_IsAllowed.f k g x s) r := by
  obtain ⟨i0, i1⟩ := implBehind_ev g hr x s hn
  have hs := specState_ev g x
  have hb := specBits_ev s hn
  unfold spec_IsAllowed.f impl_IsAllowed.f
  cases e : (VG g && decide (0 ≤ x ∧ x ≤ wrap64 ((g.length : Int) - 1))) with
  | false =>
    rw [e, Bool.false_and] at i0
    rw [e] at hs
    exact ⟨false, Ev.bind hs (ev_neg Bool.false_ne_true (Ev.now _)), Ev.bind (i0 rfl) (Ev.now _)⟩
  | true =>
    rw [e, Bool.true_and] at i0 i1
    rw [e] at hs
    cases e2 : IB s with
    | false => rw [e2] at hb i0; exact ⟨false, Ev.bind hs (ev_pos rfl (Ev.bind hb (ev_neg Bool.false_ne_true (Ev.now _)))), Ev.bind (i0 rfl) (Ev.now _)⟩
    | true =>
      rw [e2] at hb i1
      obtain ⟨hv, h12, j, rfl, hj⟩ := state_in e
      obtain ⟨r, h1, h2⟩ := run_ev g hv j (by omega) s e2
      refine ⟨decide (r ≥ 0), Ev.bind hs (ev_pos rfl (Ev.bind hb (ev_pos rfl (Ev.bind h1 (Ev.now _))))), Ev.bind (i1 rfl r h2) ?_⟩
      by_cases c : r < 0
      · rw [if_pos c, decide_eq_false (by omega)]; exact Ev.now _
      · rw [if_neg c, decide_eq_true (by omega)]; exact Ev.now _

def addC (z : Int) (prev : List Int) (acc : Int) : Int := if z ≥ 0 then wrap64 (acc + rd prev z) else acc
def cntRow (g : List (List Int)) (prev : List Int) (y : Int) : Int := addC (rd (rd_L1 g y) 1) prev (addC (rd (rd_L1 g y) 0) prev 0)
def cntTo (g : List (List Int)) (prev : List Int) (n : Nat) : List Int := (List.range n).map fun (y : Nat) => cntRow g prev (y : Int)
def cntIter (g : List (List Int)) : Nat → List Int
  | 0 => List.replicate g.length 1
  | i + 1 => cntTo g (cntIter g i) g.length
def cntsTo (g : List (List Int)) (m : Nat) : List (List Int) := (List.range (m + 1)).map (cntIter g)
theorem cntTo_length (g : List (List Int)) (prev : List Int) (n : Nat) : (cntTo g prev n).length = n := by simp [cntTo]
theorem cntTo_succ (g : List (List Int)) (prev : List Int) (n : Nat) : cntTo g prev (n + 1) = cntTo g prev n ++ [cntRow g prev (n : Int)] := by simp [cntTo, List.range_succ]
theorem cntIter_length (g : List (List Int)) (i : Nat) : (cntIter g i).length = g.length := by
  cases i with
  | zero => simp [cntIter]
  | succ i => exact cntTo_length _ _ _
theorem cntsTo_length (g : List (List Int)) (m : Nat) : (cntsTo g m).length = m + 1 := by simp [cntsTo]
theorem cntsTo_succ (g : List (List Int)) (m : Nat) : cntsTo g (m + 1) = cntsTo g m ++ [cntIter g (m + 1)] := by
  unfold cntsTo
  rw [List.range_succ, List.map_append]
  rfl
theorem cntsTo_get (g : List (List Int)) (m j : Nat) (h : j ≤ m) : rd_L1 (cntsTo g m) (j : Int) = cntIter g j := by
  rw [rdL_get _ _ (by rw [cntsTo_length]; omega)]; simp [cntsTo]
theorem cntRow_of {g : List (List Int)} {y : Int} {a b : Int} (e : rd_L1 g y = [a, b]) (prev : List Int) : cntRow g prev y = addC b prev (addC a prev 0) := by
  unfold cntRow; rw [e]; rfl

theorem sc_l3 (g : List (List Int)) (hg : Rows2 g) (h12 : g.length ≤ 12) (Q : Int) (m : Nat) (row : List Int) (y : Nat) (hy : y < g.length) (hrow : row.length = y) {res : List (List Int)}
    (h : Ev (fun k => spec_l02Counts.l2 k Q (cntsTo g m) (m : Int) (row ++ [cntRow g (cntIter g m) (y : Int)]) ((y + 1 : Nat) : Int) g) res) : Ev (fun k => spec_l02Counts.l3 k Q (cntsTo g m) (m : Int) row (y : Int) 0 0 g) res := by
  obtain ⟨a, b, e, ha, hb, _, _⟩ := hg y hy
  have el := len2 a b
  have hm := cntsTo_length g m
  have hi := cntIter_length g m
  have hgm := cntsTo_get g m m (Nat.le_refl m)
  have two : ∀ acc : Int, acc = addC a (cntIter g m) 0 → Ev (fun k => spec_l02Counts.l3 k Q (cntsTo g m) (m : Int) row (y : Int) acc 1 g) res := by
    intro acc he
    rw [cntRow_of e, ← he] at h
    by_cases cb : b ≥ 0
    · rw [addC, if_pos cb] at h
      refine Ev.step (fun k => by rw [spec_l02Counts.l3, if_pos (by decide), if_pos (by omega), if_pos (by omega), if_pos (by decide), e, if_pos (by rw [el]; decide), rd1, if_pos cb, if_pos (by omega), if_pos (by omega), if_pos cb, hgm, if_pos (by omega), w11]) ?_
      exact Ev.step (fun k => by rw [spec_l02Counts.l3, if_neg (by decide), if_pos (by omega), wrap_succ hy (by omega)]) h
    · rw [addC, if_neg cb] at h
      refine Ev.step (fun k => by rw [spec_l02Counts.l3, if_pos (by decide), if_pos (by omega), if_pos (by omega), if_pos (by decide), e, if_pos (by rw [el]; decide), rd1, if_neg cb, w11]) ?_
      exact Ev.step (fun k => by rw [spec_l02Counts.l3, if_neg (by decide), if_pos (by omega), wrap_succ hy (by omega)]) h
  by_cases ca : a ≥ 0
  · refine Ev.step (fun k => by rw [spec_l02Counts.l3, if_pos (by decide), if_pos (by omega), if_pos (by omega), if_pos (by decide), e, if_pos (by rw [el]; decide), rd0, if_pos ca, if_pos (by omega), if_pos (by omega), if_pos ca, hgm, if_pos (by omega), w01]) ?_
    exact two _ (by rw [addC, if_pos ca])
  · refine Ev.step (fun k => by rw [spec_l02Counts.l3, if_pos (by decide), if_pos (by omega), if_pos (by omega), if_pos (by decide), e, if_pos (by rw [el]; decide), rd0, if_neg ca, w01]) ?_
    exact two _ (by rw [addC, if_neg ca])
theorem sc_l2 (g : List (List Int)) (hg : Rows2 g) (h12 : g.length ≤ 12) (Q : Int) (m : Nat) (hm : m ≤ 100) {res : List (List Int)} (h : Ev (fun k => spec_l02Counts.l1 k Q (cntsTo g (m + 1)) ((m + 1 : Nat) : Int) g) res) (d : Nat) : ∀ y : Nat, y + d = g.length →
    Ev (fun k => spec_l02Counts.l2 k Q (cntsTo g m) (m : Int) (cntTo g (cntIter g m) y) (y : Int) g) res := by
  induction d with
  | zero =>
    intro y hy
    obtain rfl : y = g.length := by omega
    rw [cntsTo_succ] at h
    exact Ev.step (fun k => by rw [spec_l02Counts.l2, if_neg (by omega), if_pos (by rw [cntsTo_length]; omega), wrap_succ (j := m) (n := 1000) (by omega) (by omega)]; rfl) h
  | succ d ih =>
    intro y hy
    refine Ev.step (fun k => by rw [spec_l02Counts.l2, if_pos (by omega)]) ?_
    refine sc_l3 g hg h12 Q m _ y (by omega) (cntTo_length _ _ _) ?_
    rw [← cntTo_succ]
    exact ih (y + 1) (by omega)
theorem sc_l1 (g : List (List Int)) (hg : Rows2 g) (h12 : g.length ≤ 12) (q : Nat) (hq : q ≤ 100) (d : Nat) : ∀ m : Nat, m + d = q → Ev (fun k => spec_l02Counts.l1 k (q : Int) (cntsTo g m) (m : Int) g) (cntsTo g q) := by
  induction d with
  | zero =>
    intro m h
    obtain rfl : m = q := by omega
    exact ev_one (fun k => by rw [spec_l02Counts.l1, if_neg (by omega)])
  | succ d ih =>
    intro m h
    exact Ev.step (fun k => by rw [spec_l02Counts.l1, if_pos (by omega)]; rfl) (sc_l2 g hg h12 q m (by omega) (ih (m + 1) (by omega)) g.length 0 (by omega))
theorem sc_l0 (g : List (List Int)) (h12 : g.length ≤ 12) (Q : Int) {res : List (List Int)} (h : Ev (fun k => spec_l02Counts.l1 k Q (cntsTo g 0) ((0 : Nat) : Int) g) res) (d : Nat) : ∀ j : Nat, j + d = g.length → Ev (fun k => spec_l02Counts.l0 k Q (List.replicate j 1) (j : Int) g) res := by
  induction d with
  | zero =>
    intro j hj
    obtain rfl : j = g.length := by omega
    exact Ev.step (fun k => by rw [spec_l02Counts.l0, if_neg (by omega)]; rfl) h
  | succ d ih =>
    intro j hj
    have hi := ih (j + 1) (by omega)
    rw [List.replicate_succ'] at hi
    exact Ev.step (fun k => by rw [spec_l02Counts.l0, if_pos (by omega), if_pos (by rw [List.length_replicate]; omega), wrap_succ (j := j) (n := g.length) (by omega) (by omega)]) hi
theorem specCounts_ev (g : List (List Int)) (hg : Rows2 g) (h12 : g.length ≤ 12) (q : Nat) (hq : q ≤ 100) : Ev (fun k => spec_l02Counts.f k g (q : Int)) (cntsTo g q) :=
  sc_l0 g h12 q (sc_l1 g hg h12 q hq q 0 (by omega)) g.length 0 (by omega)

theorem ic_l2 (g : List (List Int)) (hg : Rows2 g) (h12 : g.length ≤ 12) (tab : List (List Int)) (m : Nat) (row : List Int) (Q I : Int) (y : Nat) (hy : y < g.length) (hrow : row.length = y) {res : List (List Int)}
    (h : Ev (fun k => impl_Graph_counts.l1 k tab (cntIter g m) (row ++ [cntRow g (cntIter g m) (y : Int)]) Q I g (g.length : Int) ((y + 1 : Nat) : Int) g) res) : Ev (fun k => impl_Graph_counts.l2 k tab (cntIter g m) row 0 Q I g (g.length : Int) (y : Int) (rd_L1 g (y : Int)) ((rd_L1 g (y : Int)).length : Int) 0 g) res := by
  obtain ⟨a, b, e, ha, hb, _, _⟩ := hg y hy
  have el := len2 a b
  have hi := cntIter_length g m
  rw [e]
  have two : ∀ acc : Int, acc = addC a (cntIter g m) 0 → Ev (fun k => impl_Graph_counts.l2 k tab (cntIter g m) row acc Q I g (g.length : Int) (y : Int) [a, b] (([a, b] : List Int).length : Int) 1 g) res := by
    intro acc he
    rw [cntRow_of e, ← he] at h
    by_cases cb : b ≥ 0
    · rw [addC, if_pos cb] at h
      refine Ev.step (fun k => by rw [impl_Graph_counts.l2, if_pos (by rw [el]; decide), if_pos (by decide), if_pos (by rw [el]; decide), rd1, if_pos cb, if_pos cb, if_pos (by omega), w11]) ?_
      exact Ev.step (fun k => by rw [impl_Graph_counts.l2, if_neg (by rw [el]; decide), if_pos (by omega), wrap_succ hy (by omega)]) h
    · rw [addC, if_neg cb] at h
      refine Ev.step (fun k => by rw [impl_Graph_counts.l2, if_pos (by rw [el]; decide), if_pos (by decide), if_pos (by rw [el]; decide), rd1, if_neg cb, w11]) ?_
      exact Ev.step (fun k => by rw [impl_Graph_counts.l2, if_neg (by rw [el]; decide), if_pos (by omega), wrap_succ hy (by omega)]) h
  by_cases ca : a ≥ 0
  · refine Ev.step (fun k => by rw [impl_Graph_counts.l2, if_pos (by rw [el]; decide), if_pos (by decide), if_pos (by rw [el]; decide), rd0, if_pos ca, if_pos ca, if_pos (by omega), w01]) ?_
    exact two _ (by rw [addC, if_pos ca])
  · refine Ev.step (fun k => by rw [impl_Graph_counts.l2, if_pos (by rw [el]; decide), if_pos (by decide), if_pos (by rw [el]; decide), rd0, if_neg ca, w01]) ?_
    exact two _ (by rw [addC, if_neg ca])
theorem ic_l1 (g : List (List Int)) (hg : Rows2 g) (h12 : g.length ≤ 12) (Q : Int) (m : Nat) (hm : m ≤ 100) {res : List (List Int)} (h : Ev (fun k => impl_Graph_counts.l0 k (cntsTo g (m + 1)) Q ((m + 1 : Nat) : Int) g) res) (d : Nat) : ∀ y : Nat, y + d = g.length →
    Ev (fun k => impl_Graph_counts.l1 k (cntsTo g m) (cntIter g m) (cntTo g (cntIter g m) y) Q (m : Int) g (g.length : Int) (y : Int) g) res := by
  induction d with
  | zero =>
    intro y hy
    obtain rfl : y = g.length := by omega
    rw [cntsTo_succ] at h
    exact Ev.step (fun k => by rw [impl_Graph_counts.l1, if_neg (by omega), if_pos (by rw [cntsTo_length]; omega), wrap_succ (j := m) (n := 1000) (by omega) (by omega)]; rfl) h
  | succ d ih =>
    intro y hy
    refine Ev.step (fun k => by rw [impl_Graph_counts.l1, if_pos (by omega), if_pos (by omega), if_pos (by omega)]) ?_
    refine ic_l2 g hg h12 _ m _ Q m y (by omega) (cntTo_length _ _ _) ?_
    rw [← cntTo_succ]
    exact ih (y + 1) (by omega)
theorem ic_l0 (g : List (List Int)) (hg : Rows2 g) (h12 : g.length ≤ 12) (q : Nat) (hq : q ≤ 100) (d : Nat) : ∀ m : Nat, m + d = q → Ev (fun k => impl_Graph_counts.l0 k (cntsTo g m) (q : Int) (m : Int) g) (cntsTo g q) := by
  induction d with
  | zero =>
    intro m h
    obtain rfl : m = q := by omega
    exact ev_one (fun k => by rw [impl_Graph_counts.l0, if_neg (by omega)])
  | succ d ih =>
    intro m h
    have hm := cntsTo_length g m
    have hw : wrap64 (((cntsTo g m).length : Int) - 1) = (m : Int) := by rw [hm, wrap64_in (by omega) (by omega)]; omega
    exact Ev.step (fun k => by rw [impl_Graph_counts.l0, if_pos (by omega), hw, if_pos (by omega), if_pos (by omega), cntsTo_get g m m (Nat.le_refl m)]; rfl) (ic_l1 g hg h12 q m (by omega) (ih (m + 1) (by omega)) g.length 0 (by omega))
theorem implCounts_ev (g : List (List Int)) (hg : Rows2 g) (h12 : g.length ≤ 12) (q : Nat) (hq : q ≤ 100) : Ev (fun k => impl_Graph_counts.f k g (q : Int)) (cntsTo g q) := by
  unfold impl_Graph_counts.f
  refine ev_to (a := List.replicate g.length 1) ?_ (ic_l0 g hg h12 q hq q 0 (by omega))
  unfold slices_Repeat_int64_int64.f
  rw [if_pos ⟨rfl, by omega, by omega⟩, Int.toNat_natCast]
  rfl

theorem rank_both (g : List (List Int)) (hg : Rows2 g) (h12 : g.length ≤ 12) (s : ByteArray) (hn : s.size ≤ 60) (hb : areB s.data.toList = true) (d : Nat) : ∀ (j : Nat) (x acc : Int), j + d = s.size → -1 ≤ x → x < g.length → (∃ r, r ≥ 0 ∧ Ev (fun k => spec_l02Run.l0 k x s (j : Int) g) r) →
    ∃ v, Ev (fun k => spec_RankOfBits.l0 k s (cntsTo g s.size) acc x (j : Int) g) v ∧ Ev (fun k => impl_RankOfBits.l0 k s (cntsTo g s.size) acc x (s.size : Int) (j : Int) g) v := by
  have hs := size_l s
  have hl := cntsTo_length g s.size
  induction d with
  | zero => intro j x acc h h1 h2 _; exact ⟨_, ev_one (fun k => by rw [spec_RankOfBits.l0, if_neg (by omega)]), ev_one (fun k => by rw [impl_RankOfBits.l0, if_neg (by omega)])⟩
  | succ d ih =>
    rintro j x acc h h1 h2 ⟨r, hr0, hr⟩
    have hj : j < s.data.toList.length := by omega
    have hw := wrap_succ (j := j) (n := s.size) (by omega) (by omega)
    have hwd : wrap64 ((wrap64 ((s.size : Int) - 1)) - (j : Int)) = (d : Int) := by rw [wrap64_in (x := (s.size : Int) - 1) (by omega) (by omega), wrap64_in (by omega) (by omega)]; omega
    have hgd := cntsTo_get g s.size d (by omega)
    have hc := cntIter_length g d
    have hbt := bt_l s j hj
    have hbit : s.data.toList[j].toNat = 48 ∨ s.data.toList[j].toNat = 49 := by
      have := List.all_eq_true.1 hb _ (List.getElem_mem hj)
      unfold isBit at this
      rw [Bool.or_eq_true, beq_iff_eq, beq_iff_eq] at this
      exact this
    have cx : x ≥ 0 := by
      by_cases c : x ≥ 0
      · exact c
      · have := ev_det hr (ev_one (r := x) (fun k => by rw [spec_l02Run.l0, if_pos (by omega), if_neg c]))
        omega
    obtain ⟨y, rfl⟩ := Int.eq_ofNat_of_zero_le cx
    obtain ⟨a, b, e, ha, hb2, ha1, hb1⟩ := hg y (by omega)
    have el := len2 a b
    rcases hbit with hbit | hbit
    · have e0 : ((bt s (j : Int)) - 48) % 256 = 0 := by omega
      have n49 : ¬ bt s (j : Int) = 49 := by omega
      obtain ⟨r', h3, _⟩ := run_both g hg s (by omega) hb d (j + 1) a (by omega) ha1 ha
      have hr2 := ev_det hr (Ev.step (fun k => by rw [spec_l02Run.l0, if_pos (by omega), if_pos cx, if_pos cx, if_pos (by omega), if_pos (by omega), e0, if_pos (by decide), e, if_pos (by rw [el]; decide), rd0, hw]) h3)
      obtain ⟨v, h5, h6⟩ := ih (j + 1) a acc (by omega) ha1 ha ⟨r', by omega, h3⟩
      exact ⟨v, Ev.step (fun k => by rw [spec_RankOfBits.l0, if_pos (by omega), if_pos (by omega), if_neg n49, if_pos cx, if_pos (by omega), e0, if_pos (by decide), e, if_pos (by rw [el]; decide), rd0, hw]) h5,
        Ev.step (fun k => by rw [impl_RankOfBits.l0, if_pos (by omega), if_pos cx, if_pos (by omega), e, if_pos (by rw [el]; decide), if_pos (by omega), if_pos (by omega), if_neg n49, e0, if_pos (by decide), if_pos (by rw [el]; decide), rd0, hw]) h6⟩
    · have e0 : ((bt s (j : Int)) - 48) % 256 = 1 := by omega
      have n49 : bt s (j : Int) = 49 := by omega
      obtain ⟨r', h3, _⟩ := run_both g hg s (by omega) hb d (j + 1) b (by omega) hb1 hb2
      have hr2 := ev_det hr (Ev.step (fun k => by rw [spec_l02Run.l0, if_pos (by omega), if_pos cx, if_pos cx, if_pos (by omega), if_pos (by omega), e0, if_pos (by decide), e, if_pos (by rw [el]; decide), rd1, hw]) h3)
      by_cases ca : a ≥ 0
      · obtain ⟨v, h5, h6⟩ := ih (j + 1) b (wrap64 (acc + rd (cntIter g d) a)) (by omega) hb1 hb2 ⟨r', by omega, h3⟩
        exact ⟨v, Ev.step (fun k => by rw [spec_RankOfBits.l0, if_pos (by omega), if_pos (by omega), if_pos n49, if_pos cx, if_pos (by omega), e, if_pos (by rw [el]; decide), rd0, if_pos ca, hwd, if_pos (by omega), if_pos (by omega), if_pos ca, hgd, if_pos (by omega), e0, if_pos (by decide), if_pos (by rw [el]; decide), rd1, hw]) h5,
          Ev.step (fun k => by rw [impl_RankOfBits.l0, if_pos (by omega), if_pos cx, if_pos (by omega), e, if_pos (by rw [el]; decide), if_pos (by omega), if_pos (by omega), if_pos n49, rd0, if_pos ca, hwd, if_pos (by omega), if_pos (by omega), if_pos ca, hgd, if_pos (by omega), e0, if_pos (by decide), if_pos (by rw [el]; decide), rd1, hw]) h6⟩
      · obtain ⟨v, h5, h6⟩ := ih (j + 1) b acc (by omega) hb1 hb2 ⟨r', by omega, h3⟩
        exact ⟨v, Ev.step (fun k => by rw [spec_RankOfBits.l0, if_pos (by omega), if_pos (by omega), if_pos n49, if_pos cx, if_pos (by omega), e, if_pos (by rw [el]; decide), rd0, if_neg ca, e0, if_pos (by decide), if_pos (by rw [el]; decide), rd1, hw]) h5,
          Ev.step (fun k => by rw [impl_RankOfBits.l0, if_pos (by omega), if_pos cx, if_pos (by omega), e, if_pos (by rw [el]; decide), if_pos (by omega), if_pos (by omega), if_pos n49, rd0, if_neg ca, e0, if_pos (by decide), if_pos (by rw [el]; decide), rd1, hw]) h6⟩
theorem allowed_yes (g : List (List Int)) (x : Int) (s : ByteArray) (hn : s.size ≤ 9223372036854775807) (h : Ev (fun k => spec_IsAllowed.f k g x s) true) :
    VG g = true ∧ IB s = true ∧ (∃ j : Nat, x = (j : Int) ∧ j < g.length) ∧ ∃ r, r ≥ 0 ∧ Ev (fun k => spec_l02Run.l0 k x s 0 g) r := by
  have hs := specState_ev g x
  have hb := specBits_ev s hn
  cases e : (VG g && decide (0 ≤ x ∧ x ≤ wrap64 ((g.length : Int) - 1))) with
  | false =>
    rw [e] at hs
    have h2 : Ev (fun k => spec_IsAllowed.f k g x s) false := by unfold spec_IsAllowed.f; exact Ev.bind hs (ev_neg Bool.false_ne_true (Ev.now _))
    exact absurd (ev_det h h2) (by decide)
  | true =>
    rw [e] at hs
    cases e2 : IB s with
    | false =>
      rw [e2] at hb
      have h2 : Ev (fun k => spec_IsAllowed.f k g x s) false := by unfold spec_IsAllowed.f; exact Ev.bind hs (ev_pos rfl (Ev.bind hb (ev_neg Bool.false_ne_true (Ev.now _))))
      exact absurd (ev_det h h2) (by decide)
    | true =>
      rw [e2] at hb
      obtain ⟨hv, h12, j, rfl, hj⟩ := state_in e
      obtain ⟨r, h1, _⟩ := run_ev g hv j (by omega) s e2
      have h2 : Ev (fun k => spec_IsAllowed.f k g j s) (decide (r ≥ 0)) := by unfold spec_IsAllowed.f; exact Ev.bind hs (ev_pos rfl (Ev.bind hb (ev_pos rfl (Ev.bind h1 (Ev.now _)))))
      exact ⟨hv, rfl, ⟨j, rfl, hj⟩, r, of_decide_eq_true (ev_det h2 h), h1⟩
theorem rankOf_both (g : List (List Int)) (hr : ∀ r ∈ g, r.length ≤ 9223372036854775807) (x : Int) (s : ByteArray) (hn : s.size ≤ 9223372036854775807) :
    ∃ r, Ev (fun k => spec_RankOfBits.f k g x s) r ∧ Ev (fun k => impl_RankOfBits.f k g x s) r := by
  obtain ⟨b, hs, hi⟩ := allowed_both g hr x s hn
  have sno : Ev (fun k => spec_RankOfBits.j0 k x s true g) (0, false) := ev_one (fun k => by rw [spec_RankOfBits.j0, if_pos rfl])
  have ino : Ev (fun k => impl_RankOfBits.j0 k x s true g) (0, false) := ev_one (fun k => by rw [impl_RankOfBits.j0, if_pos rfl])
  unfold spec_RankOfBits.f impl_RankOfBits.f
  cases b with
  | false => exact ⟨_, Ev.bind hs (ev_neg Bool.false_ne_true sno), Ev.bind hi (ev_neg Bool.false_ne_true ino)⟩
  | true =>
    by_cases c : (s.size : Int) > 60
    · have ec : decide ((s.size : Int) > 60) = true := decide_eq_true c
      exact ⟨_, Ev.bind hs (ev_pos rfl (by rw [ec]; exact sno)), Ev.bind hi (ev_pos rfl (by rw [ec]; exact ino))⟩
    · have ec : decide ((s.size : Int) > 60) = false := decide_eq_false c
      obtain ⟨hv, hB, ⟨j, rfl, hj⟩, hrun⟩ := allowed_yes g x s hn hs
      have h12 := (VG_iff hv).1.2
      have hg := rows2_of hv
      have h1 := specCounts_ev g hg h12 s.size (by omega)
      have h2 := implCounts_ev g hg h12 s.size (by omega)
      obtain ⟨v, h3, h4⟩ := rank_both g hg h12 s (by omega) (IB_of hB).2 s.size 0 j 0 (by omega) (by omega) (by omega) hrun
      refine ⟨v, Ev.bind hs (ev_pos rfl ?_), Ev.bind hi (ev_pos rfl ?_)⟩
      · rw [ec]; exact Ev.step (fun k => by rw [spec_RankOfBits.j0, if_neg Bool.false_ne_true]) (Ev.bind h1 h3)
      · rw [ec]; exact Ev.step (fun k => by rw [impl_RankOfBits.j0, if_neg Bool.false_ne_true]) (Ev.bind h2 h4)
theorem FnExactRankOfBits : laws_FnExactRankOfBits.Pure := by
  intro g x s hn hl _ hm
  apply Ev.rounds
  unfold laws_FnExactRankOfBits.f
  by_cases c0 : (s.size : Int) > 1048576
  · exact ev_pos c0 (Ev.now _)
  obtain ⟨r, hr, hp⟩ := szGraph_ev g hn (fun x hx => (hl x hx).1)
  refine ev_neg c0 (Ev.bind hr ?_)
  by_cases c : r < 0
  · exact ev_pos c (Ev.now _)
  · obtain ⟨h1, h2⟩ := hp (by omega)
    have ht := toGraph_ev g h1 h2
    obtain ⟨v, hs, hi⟩ := rankOf_both g (fun x hx => (hl x hx).1) x s hm
    refine ev_neg c (Ev.bind ht (Ev.bind hs (Ev.bind ht (Ev.bind hi (ev_pos rfl ?_)))))
    have e : (v.2 != v.2) = false := by simp
    rw [e]
    exact Ev.step (fun k => by rw [laws_FnExactRankOfBits.j0, if_neg Bool.false_ne_true]) (Ev.bind ht (Ev.bind (eqGraph_ev g h1 h2) (ev_pos rfl (Ev.now _))))

end Go.Proofs.YtanndepgepgfoabDoor.Pure
