/-
The plain law of FnMergedGraphs: a merged graph allows from each state what the graph allows, and just the states that nothing tells have become one; conditions: those of the statement.
-/
import Derived.Test.YtkjipfblokiodaaQFnMergedGraphsx7
namespace Go.Proofs.Ytkjipfblokiodaa.Pure
open Go.RowKit Go.Proofs.Ytkjipfblokiodaa.QFnMergedGraphs Go.Proofs.YtkjipfblokiodaaW.PrintWords Go.Proofs.YtkjipfblokiodaaW.PrintLast Go.Proofs.YtkjipfblokiodaaW.PrintMore
set_option linter.unusedVariables false

theorem ev_one {α : Type} {g : Nat → Option α} {r : α} (h : ∀ k, g (k + 1) = some r) : Ev g r :=
  ⟨1, fun k hk => by obtain ⟨m, rfl⟩ : ∃ m, k = m + 1 := ⟨k - 1, by omega⟩; exact h m⟩
theorem wrap64_in {x : Int} (h0 : -9223372036854775808 ≤ x) (h1 : x ≤ 9223372036854775807) : wrap64 x = x := by
  unfold wrap64; omega
theorem u64_in {x : Int} (h0 : 0 ≤ x) (h1 : x ≤ 18446744073709551615) : IntKind.u64.wrap x = x := by
  simp [IntKind.wrap, IntKind.bits, IntKind.signed]; omega
theorem i64_in {x : Int} (h0 : -9223372036854775808 ≤ x) (h1 : x ≤ 9223372036854775807) : IntKind.i64.wrap x = x := by
  rw [IntKind.wrap_i64]; omega
theorem and_one (x : Int) : Go.bits .and .i64 x 1 = x % 2 := by
  have h : (BitVec.ofInt 64 x &&& BitVec.ofInt 64 1).toNat = (x % 2).toNat := by
    have e1 : BitVec.ofInt 64 1 = 1#64 := by decide
    rw [e1, BitVec.toNat_and, BitVec.toNat_ofInt]
    have e2 : (1#64).toNat = 1 := by decide
    rw [e2, Nat.and_one_is_mod]
    omega
  show IntKind.i64.wrap (((BitVec.ofInt 64 x &&& BitVec.ofInt 64 1).toNat : Nat) : Int) = x % 2
  rw [h, i64_in (by omega) (by omega)]
  omega
theorem wf_i64 {x : Int} (h : (Lit.int .i64 x).wf = true) : -9223372036854775808 ≤ x ∧ x ≤ 9223372036854775807 := by
  simp [Lit.wf, IntKind.min, IntKind.max, IntKind.signed, IntKind.bits] at h
  omega
theorem pow_pos_int (d : Nat) : (0 : Int) < 2 ^ d := Int.pow_pos (by decide)
theorem pow_le_int {a b : Nat} (h : a ≤ b) : (2 : Int) ^ a ≤ 2 ^ b := by
  have := Nat.pow_le_pow_right (n := 2) (by decide) h
  exact_mod_cast this

theorem ev_pos {α : Type} {c : Prop} [Decidable c] {g h : Nat → Option α} {r : α} (hc : c) (hg : Ev g r) : Ev (fun k => if c then g k else h k) r := by
  obtain ⟨K, hK⟩ := hg
  exact ⟨K, fun k hk => (if_pos hc).trans (hK k hk)⟩
theorem ev_neg {α : Type} {c : Prop} [Decidable c] {g h : Nat → Option α} {r : α} (hc : ¬ c) (hg : Ev h r) : Ev (fun k => if c then g k else h k) r := by
  obtain ⟨K, hK⟩ := hg
  exact ⟨K, fun k hk => (if_neg hc).trans (hK k hk)⟩
theorem ev_some {α β : Type} {f : Nat → α → Option β} {a : α} {r : β} (h : Ev (fun k => f k a) r) : Ev (fun k => (some a).bind (f k)) r := h
theorem ev_to {α β : Type} {x : Option α} {f : Nat → α → Option β} {a : α} {r : β} (e : x = some a) (h : Ev (fun k => f k a) r) : Ev (fun k => x.bind (f k)) r := by subst e; exact h
theorem ev_det {α : Type} {g : Nat → Option α} {r r' : α} (h : Ev g r) (h' : Ev g r') : r = r' := by
  obtain ⟨K, hK⟩ := h
  obtain ⟨K', hK'⟩ := h'
  have h1 := hK (max K K') (Nat.le_max_left _ _)
  have h2 := hK' (max K K') (Nat.le_max_right _ _)
  rw [h1] at h2
  exact Option.some.inj h2
theorem wrap_succ {j n : Nat} (h : j < n) (hn : n ≤ 9223372036854775807) : wrap64 ((j : Int) + 1) = ((j + 1 : Nat) : Int) := by
  rw [wrap64_in (by omega) (by omega)]; omega
theorem nat0 (j : Nat) : (0 : Int) ≤ (j : Int) := Int.natCast_nonneg j
theorem rd_nat (l : List Int) (j : Nat) : rd l (j : Int) = l.getD j 0 := by unfold rd; rw [Int.toNat_natCast]
theorem rd_get (l : List Int) (j : Nat) (h : j < l.length) : rd l (j : Int) = l[j] := by rw [rd_nat, List.getD_eq_getElem?_getD, List.getElem?_eq_getElem h]; rfl
theorem drop_cons {α : Type} (l : List α) (j : Nat) (h : j < l.length) : l.drop j = l[j] :: l.drop (j + 1) := List.drop_eq_getElem_cons h
theorem take_snoc' {α : Type} (l : List α) (j : Nat) (h : j < l.length) : l.take (j + 1) = l.take j ++ [l[j]] := List.take_succ_eq_append_getElem h
theorem set_take {α : Type} (acc : List α) (j : Nat) (x : α) (h : j < acc.length) : (acc.set j x).take (j + 1) = acc.take j ++ [x] := by
  rw [List.take_set, List.take_succ_eq_append_getElem h, List.set_append_right _ _ (by simp; omega)]
  have : (acc.take j).length = j := by rw [List.length_take]; omega
  rw [this, Nat.sub_self]
  rfl
theorem take_all {α : Type} {a b : List α} {n : Nat} (ha : a.length = n) (hb : b.length = n) (h : a.take n = b.take n) : a = b := by
  rw [List.take_of_length_le (by omega), List.take_of_length_le (by omega)] at h; exact h
theorem w01 : wrap64 (0 + 1) = 1 := by unfold wrap64; decide
theorem w11 : wrap64 (1 + 1) = 2 := by unfold wrap64; decide

theorem spec_in (a b c : Int) : spec_l00In.f a b c = some (decide (b ≤ a ∧ a ≤ c)) := by
  unfold spec_l00In.f
  by_cases h : a ≥ b
  · rw [if_pos h]; congr 1; have : b ≤ a := h; simp [this]
  · rw [if_neg h]; congr 1; have : ¬ b ≤ a := h; simp [this]
theorem impl_in (a b c : Int) : impl_within.f a b c = some (decide (b ≤ a ∧ a ≤ c)) := by
  unfold impl_within.f
  by_cases h : a ≥ b
  · rw [if_pos h]; congr 1; have : b ≤ a := h; simp [this]
  · rw [if_neg h]; congr 1; have : ¬ b ≤ a := h; simp [this]

theorem rdL_get (l : List (List Int)) (j : Nat) (h : j < l.length) : rd_L2 l (j : Int) = l[j] := by
  unfold rd_L2; rw [Int.toNat_natCast, List.getD_eq_getElem?_getD, List.getElem?_eq_getElem h]; rfl

/-- A row of a valid graph with n states. -/
def okRow (n : Int) (r : List Int) : Bool := decide (r.length = 2) && (decide (-1 ≤ rd r 0 ∧ rd r 0 ≤ n - 1) && (decide (-1 ≤ rd r 1 ∧ rd r 1 ≤ n - 1) && !(decide (rd r 0 < 0) && decide (rd r 1 < 0))))
def VG (g : List (List Int)) : Bool := decide (1 ≤ (g.length : Int) ∧ (g.length : Int) ≤ 12) && g.all (okRow g.length)
theorem row_two {r : List Int} (h : r.length = 2) : ∃ a b, r = [a, b] := by
  match r, h with
  | [a, b], _ => exact ⟨a, b, rfl⟩
theorem okRow_not {n : Int} {r : List Int} (h : ¬ r.length = 2) : okRow n r = false := by simp [okRow, h]
theorem okRow_two (n a b : Int) : okRow n [a, b] = (decide (-1 ≤ a ∧ a ≤ n - 1) && (decide (-1 ≤ b ∧ b ≤ n - 1) && !(decide (a < 0) && decide (b < 0)))) := rfl
theorem rd0 (a b : Int) : rd [a, b] 0 = a := rfl
theorem rd1 (a b : Int) : rd [a, b] 1 = b := rfl
theorem len2 (a b : Int) : (([a, b] : List Int).length : Int) = 2 := rfl
theorem VG_iff {g : List (List Int)} (h : VG g = true) : (1 ≤ g.length ∧ g.length ≤ 12) ∧ ∀ r ∈ g, ∃ a b, r = [a, b] ∧ (-1 ≤ a ∧ a ≤ (g.length : Int) - 1) ∧ (-1 ≤ b ∧ b ≤ (g.length : Int) - 1) ∧ ¬ (a < 0 ∧ b < 0) := by
  simp only [VG, Bool.and_eq_true, decide_eq_true_eq, List.all_eq_true] at h
  refine ⟨by omega, fun r hr => ?_⟩
  have h2 := h.2 r hr
  by_cases hl : r.length = 2
  · obtain ⟨a, b, rfl⟩ := row_two hl
    rw [okRow_two] at h2
    simp only [Bool.and_eq_true, decide_eq_true_eq, Bool.not_eq_true', Bool.and_eq_false_imp, decide_eq_false_iff_not] at h2
    exact ⟨a, b, rfl, h2.1, h2.2.1, fun h => h2.2.2 h.1 h.2⟩
  · rw [okRow_not hl] at h2; cases h2

theorem areIn_loop (l : List Int) (lo hi : Int) (hn : l.length ≤ 9223372036854775807) (d : Nat) : ∀ j : Nat, j + d = l.length →
    Ev (fun k => impl_areIn.l0 k lo hi l (l.length : Int) (j : Int)) ((l.drop j).all fun x => decide (lo ≤ x ∧ x ≤ hi)) := by
  induction d with
  | zero =>
    intro j h
    rw [List.drop_eq_nil_of_le (by omega)]
    exact ev_one (fun k => by rw [impl_areIn.l0, if_neg (by omega)]; rfl)
  | succ d ih =>
    intro j h
    have hj : j < l.length := by omega
    rw [drop_cons _ _ hj, List.all_cons]
    by_cases c : lo ≤ l[j] ∧ l[j] ≤ hi
    · rw [decide_eq_true c, Bool.true_and]
      refine Ev.step (fun k => ?_) (ih (j + 1) (by omega))
      rw [impl_areIn.l0, if_pos (by omega), if_pos (by omega), if_pos (by omega), rd_get _ _ hj, impl_in, decide_eq_true c, Option.bind_some, if_pos rfl, wrap_succ hj hn]
    · rw [decide_eq_false c, Bool.false_and]
      refine ev_one (fun k => ?_)
      rw [impl_areIn.l0, if_pos (by omega), if_pos (by omega), if_pos (by omega), rd_get _ _ hj, impl_in, decide_eq_false c, Option.bind_some, if_neg (by decide)]
theorem areIn_ev (l : List Int) (lo hi : Int) (hn : l.length ≤ 9223372036854775807) : Ev (fun k => impl_areIn.f k l lo hi) (l.all fun x => decide (lo ≤ x ∧ x ≤ hi)) :=
  areIn_loop l lo hi hn l.length 0 (by omega)

theorem implVG_loop (g : List (List Int)) (h12 : g.length ≤ 12) (hr : ∀ r ∈ g, r.length ≤ 9223372036854775807) (d : Nat) : ∀ j : Nat, j + d = g.length →
    Ev (fun k => impl_ValidGraph.l0 k (g.length : Int) g (g.length : Int) (j : Int)) ((g.drop j).all (okRow g.length)) := by
  have hw : wrap64 ((g.length : Int) - 1) = (g.length : Int) - 1 := wrap64_in (by omega) (by omega)
  induction d with
  | zero =>
    intro j h
    rw [List.drop_eq_nil_of_le (by omega)]
    exact ev_one (fun k => by rw [impl_ValidGraph.l0, if_neg (by omega)]; rfl)
  | succ d ih =>
    intro j h
    have hj : j < g.length := by omega
    have hs := wrap_succ hj (by omega)
    rw [drop_cons _ _ hj, List.all_cons]
    by_cases hl : (g[j]).length = 2
    · obtain ⟨a, b, e⟩ := row_two hl
      have hi := ih (j + 1) (by omega)
      rw [e, okRow_two]
      have ha := areIn_ev [a, b] (-1) ((g.length : Int) - 1) (show 2 ≤ 9223372036854775807 by decide)
      refine Ev.step (fun k => by rw [impl_ValidGraph.l0, if_pos (by omega), if_pos (by omega), if_pos (by omega), rdL_get _ _ hj, e, if_pos (len2 a b), hw, if_pos (show (0 : Int) < (([a, b] : List Int).length : Int) by rw [len2]; decide), if_pos (show (1 : Int) < (([a, b] : List Int).length : Int) by rw [len2]; decide), rd0, rd1, hs]) (Ev.bind ha ?_)
      by_cases ca : -1 ≤ a ∧ a ≤ (g.length : Int) - 1
      · by_cases cb : -1 ≤ b ∧ b ≤ (g.length : Int) - 1
        · rw [decide_eq_true ca, decide_eq_true cb, Bool.true_and, Bool.true_and]
          refine ev_pos (by simp [ca, cb]) ?_
          by_cases a0 : a < 0
          · refine ev_pos a0 ?_
            by_cases b0 : b < 0
            · refine ev_pos b0 ?_
              simpa [a0, b0] using Ev.now false
            · refine ev_neg b0 ?_
              simpa [a0, b0] using hi
          · refine ev_neg a0 ?_
            simpa [a0] using hi
        · rw [decide_eq_false cb, Bool.false_and, Bool.and_false, Bool.false_and]
          exact ev_neg (by simp [cb]) (Ev.now _)
      · rw [decide_eq_false ca, Bool.false_and, Bool.false_and]
        exact ev_neg (by simp [ca]) (Ev.now _)
    · rw [okRow_not hl, Bool.false_and]
      refine ev_one (fun k => ?_)
      rw [impl_ValidGraph.l0, if_pos (by omega), if_pos (by omega), if_pos (by omega), rdL_get _ _ hj, if_neg (by omega)]
theorem implVG_ev (g : List (List Int)) (hr : ∀ r ∈ g, r.length ≤ 9223372036854775807) : Ev (fun k => impl_ValidGraph.f k g) (VG g) := by
  by_cases c : 1 ≤ (g.length : Int) ∧ (g.length : Int) ≤ 12
  · have h := implVG_loop g (by omega) hr g.length 0 (by omega)
    unfold VG
    rw [decide_eq_true c, Bool.true_and]
    refine Ev.congr (fun k => ?_) h
    unfold impl_ValidGraph.f
    rw [impl_in, decide_eq_true c]
    rfl
  · refine Ev.congr (fun k => ?_) (Ev.now _)
    unfold impl_ValidGraph.f VG
    rw [impl_in, decide_eq_false c]
    rfl

/-- A valid graph's rows, as places in lists. -/
def Rows2 (g : List (List Int)) : Prop := ∀ j : Nat, j < g.length → ∃ a b, rd_L2 g (j : Int) = [a, b] ∧ a < (g.length : Int) ∧ b < (g.length : Int) ∧ -1 ≤ a ∧ -1 ≤ b
theorem rows2_of {g : List (List Int)} (h : VG g = true) : Rows2 g := by
  intro j hj
  obtain ⟨_, h2⟩ := VG_iff h
  obtain ⟨a, b, e, ha, hb, _⟩ := h2 g[j] (List.getElem_mem hj)
  exact ⟨a, b, by rw [rdL_get _ _ hj, e], by omega, by omega, ha.1, hb.1⟩

theorem implState_ev (g : List (List Int)) (hr : ∀ r ∈ g, r.length ≤ 9223372036854775807) (x : Int) : Ev (fun k => impl_isState.f k g x) (VG g && decide (0 ≤ x ∧ x ≤ wrap64 ((g.length : Int) - 1))) := by
  have hs := implVG_ev g hr
  unfold impl_isState.f
  cases e : VG g with
  | false => rw [e] at hs; exact Ev.bind hs (ev_neg Bool.false_ne_true (Ev.now _))
  | true => rw [e] at hs; exact Ev.bind hs (ev_pos rfl (ev_to (impl_in _ _ _) (Ev.now _)))
theorem state_in {g : List (List Int)} {x : Int} (h : (VG g && decide (0 ≤ x ∧ x ≤ wrap64 ((g.length : Int) - 1))) = true) : VG g = true ∧ g.length ≤ 12 ∧ ∃ j : Nat, x = (j : Int) ∧ j < g.length := by
  rw [Bool.and_eq_true, decide_eq_true_iff] at h
  obtain ⟨h1, h2, h3⟩ := h
  have h4 := (VG_iff h1).1
  rw [wrap64_in (by omega) (by omega)] at h3
  exact ⟨h1, h4.2, x.toNat, by omega, by omega⟩

def rgRow (least : Int) (m x : Nat) : List Int := [if x < m then (x : Int) + 1 else -1, if (x : Int) ≥ least then 0 else -1]
def rgTo (least : Int) (m n : Nat) : List (List Int) := (List.range n).map (rgRow least m)
theorem rgTo_length (least : Int) (m n : Nat) : (rgTo least m n).length = n := by simp [rgTo]
theorem rgTo_succ (least : Int) (m n : Nat) : rgTo least m (n + 1) = rgTo least m n ++ [rgRow least m n] := by simp [rgTo, List.range_succ]
theorem rgTo_get (least : Int) (m n j : Nat) (h : j < n) : rd_L2 (rgTo least m n) (j : Int) = rgRow least m j := by
  rw [rdL_get _ _ (by rw [rgTo_length]; exact h)]; simp [rgTo]
theorem runGraph_VG (least : Int) (m : Nat) (h0 : 0 ≤ least) (h1 : least ≤ m) (hm : m ≤ 10) : VG (rgTo least m (m + 1)) = true := by
  have hl := rgTo_length least m (m + 1)
  unfold VG
  rw [decide_eq_true (by omega), Bool.true_and, List.all_eq_true]
  intro r hr
  obtain ⟨x, hx, rfl⟩ := List.mem_map.1 hr
  rw [List.mem_range] at hx
  unfold rgRow
  rw [okRow_two, hl]
  by_cases c1 : x < m <;> by_cases c2 : (x : Int) ≥ least <;> simp [c1, c2] <;> omega
def sgRow (t x : Nat) : List Int := [(x : Int) - 1, if x = t then -1 else (x : Int) + 1]
def sgTo (t n : Nat) : List (List Int) := (List.range n).map (sgRow t)
theorem sgTo_length (t n : Nat) : (sgTo t n).length = n := by simp [sgTo]
theorem sgTo_succ (t n : Nat) : sgTo t (n + 1) = sgTo t n ++ [sgRow t n] := by simp [sgTo, List.range_succ]
theorem sgTo_get (t n j : Nat) (h : j < n) : rd_L2 (sgTo t n) (j : Int) = sgRow t j := by
  rw [rdL_get _ _ (by rw [sgTo_length]; exact h)]; simp [sgTo]
theorem sumGraph_VG (t : Nat) (h0 : 1 ≤ t) (ht : t ≤ 11) : VG (sgTo t (t + 1)) = true := by
  have hl := sgTo_length t (t + 1)
  unfold VG
  rw [decide_eq_true (by omega), Bool.true_and, List.all_eq_true]
  intro r hr
  obtain ⟨x, hx, rfl⟩ := List.mem_map.1 hr
  rw [List.mem_range] at hx
  unfold sgRow
  rw [okRow_two, hl]
  by_cases c1 : x = t <;> simp [c1] <;> omega
theorem wf_u8 {x : Int} (h : (Lit.int .u8 x).wf = true) : 0 ≤ x ∧ x ≤ 255 := by
  simp [Lit.wf, IntKind.min, IntKind.max, IntKind.signed, IntKind.bits] at h
  omega
theorem tmod_in {x n : Int} (h0 : 0 ≤ x) (hn : 0 < n) : 0 ≤ Int.tmod x n ∧ Int.tmod x n < n := by
  rw [Int.tmod_eq_emod_of_nonneg h0]
  exact ⟨Int.emod_nonneg _ (by omega), Int.emod_lt_of_pos _ hn⟩
theorem and_255 (x : Int) : 0 ≤ Go.bits .and .u64 x 255 ∧ Go.bits .and .u64 x 255 ≤ 255 := by
  show 0 ≤ IntKind.u64.wrap (((BitVec.ofInt 64 x &&& BitVec.ofInt 64 255).toNat : Nat) : Int) ∧ IntKind.u64.wrap (((BitVec.ofInt 64 x &&& BitVec.ofInt 64 255).toNat : Nat) : Int) ≤ 255
  have e1 : (BitVec.ofInt 64 255).toNat = 255 := by decide
  have h : (BitVec.ofInt 64 x &&& BitVec.ofInt 64 255).toNat ≤ 255 := by
    rw [BitVec.toNat_and, e1]
    exact Nat.and_le_right
  rw [u64_in (by omega) (by omega)]
  omega
theorem byte_of (l : List Int) (hb : ∀ x ∈ l, (Lit.int .u8 x).wf = true) (i : Int) (h0 : 0 ≤ i) (h1 : i < l.length) : 0 ≤ rd l i ∧ rd l i ≤ 255 := by
  obtain ⟨j, rfl⟩ := Int.eq_ofNat_of_zero_le h0
  rw [rd_get _ _ (by omega)]
  exact wf_u8 (hb _ (List.getElem_mem _))

theorem next_f (l : List Int) (hl : l.length ≤ 9223372036854775807) (hb : ∀ x ∈ l, (Lit.int .u8 x).wf = true) (at_ seed : Int) (h0 : 0 ≤ at_) (h1 : at_ ≤ 4611686018427387904) :
    ∃ v seed', spec_l00Src_next.f l at_ seed = some (v, at_ + 1, seed') ∧ 0 ≤ v ∧ v ≤ 255 := by
  unfold spec_l00Src_next.f
  rw [wrap64_in (x := at_ + 1) (by omega) (by omega)]
  by_cases c : at_ < (l.length : Int)
  · have hr := byte_of l hb at_ h0 c
    rw [if_pos c, if_pos h0, wrap64_in (x := rd l at_) (by omega) (by omega)]
    rw [if_pos (by omega)]
    exact ⟨_, _, rfl, hr⟩
  · rw [if_neg c]
    rw [if_neg (by omega)]
    refine ⟨_, _, rfl, ?_⟩
    have h := and_255 ((IntKind.u64.wrap ((IntKind.u64.wrap ((IntKind.u64.wrap (seed * 6364136223846793005)))) + 1442695040888963407)) / 1099511627776)
    rw [wrap64_in (by omega) (by omega)]
    exact h
theorem pick_f (l : List Int) (hl : l.length ≤ 9223372036854775807) (hb : ∀ x ∈ l, (Lit.int .u8 x).wf = true) (at_ seed n : Int) (h0 : 0 ≤ at_) (h1 : at_ ≤ 4611686018427387904) (hn : n ≤ 200) :
    ∃ v at' seed', spec_l00Src_pick.f l at_ seed n = some (v, at', seed') ∧ 0 ≤ v ∧ (v < n ∨ v = 0) ∧ at_ ≤ at' ∧ at' ≤ at_ + 1 := by
  unfold spec_l00Src_pick.f
  by_cases c : n ≤ 1
  · rw [if_pos c]; exact ⟨0, at_, seed, rfl, by omega, by omega, by omega, by omega⟩
  · rw [if_neg c]
    obtain ⟨v, seed', e, h2, h3⟩ := next_f l hl hb at_ seed h0 h1
    rw [e, Option.bind_some, if_neg (by omega), if_neg (by omega)]
    have := tmod_in h2 (show 0 < n by omega)
    exact ⟨_, _, _, rfl, this.1, .inl this.2, by show at_ ≤ at_ + 1; omega, by show at_ + 1 ≤ at_ + 1; omega⟩
theorem one_f (l : List Int) (hl : l.length ≤ 9223372036854775807) (hb : ∀ x ∈ l, (Lit.int .u8 x).wf = true) (at_ seed n : Int) (h0 : 0 ≤ at_) (h1 : at_ ≤ 4611686018427387904) (hn : n ≤ 200) :
    ∃ v at' seed', spec_l00Src_one.f l at_ seed n = some (v, at', seed') ∧ at_ ≤ at' ∧ at' ≤ at_ + 1 := by
  unfold spec_l00Src_one.f
  obtain ⟨v, at', seed', e, _, _, h3, h4⟩ := pick_f l hl hb at_ seed n h0 h1 hn
  rw [e, Option.bind_some]
  exact ⟨_, _, _, rfl, h3, h4⟩

theorem r8At_f (l : List Int) (hl : l.length ≤ 9223372036854775807) (hb : ∀ x ∈ l, (Lit.int .u8 x).wf = true) (i n : Int) (hi : 0 ≤ i) : ∃ v, laws_r8At.f l i n = some v ∧ 0 ≤ v ∧ (v < n ∨ v = 0) := by
  unfold laws_r8At.f
  by_cases c : n ≤ 1
  · rw [if_pos c]; exact ⟨0, rfl, by omega, by omega⟩
  · rw [if_neg c]
    by_cases c2 : i ≥ (l.length : Int)
    · rw [if_pos c2]; exact ⟨0, rfl, by omega, by omega⟩
    · rw [if_neg c2, if_pos hi, if_pos (by omega), if_neg (by omega)]
      have h := byte_of l hb i hi (by omega)
      rw [wrap64_in (x := rd l i) (by omega) (by omega)]
      have := tmod_in h.1 (show 0 < n by omega)
      exact ⟨_, rfl, this.1, .inl this.2⟩

theorem srg_loop (least : Int) (m : Nat) (h0 : 0 ≤ least) (hm : m ≤ 10) (d : Nat) : ∀ j : Nat, j + d = m + 1 → Ev (fun k => spec_RunGraph.l0 k least (m : Int) (j : Int) (rgTo least m j)) (rgTo least m (m + 1), true) := by
  induction d with
  | zero =>
    intro j h
    obtain rfl : j = m + 1 := by omega
    exact ev_one (fun k => by rw [spec_RunGraph.l0, if_neg (by omega)])
  | succ d ih =>
    intro j h
    have hw := wrap_succ (j := j) (n := m + 1) (by omega) (by omega)
    have hi := ih (j + 1) (by omega)
    rw [rgTo_succ] at hi
    have hl := rgTo_length least m j
    by_cases c1 : j < m
    · by_cases c2 : (j : Int) ≥ least
      · have e : rgRow least m j = [((j + 1 : Nat) : Int), 0] := by unfold rgRow; rw [if_pos c1, if_pos c2]; rfl
        rw [e] at hi
        exact Ev.step (fun k => by rw [spec_RunGraph.l0, if_pos (by omega), if_pos (by omega), if_pos c2, if_pos (by omega), hw]) hi
      · have e : rgRow least m j = [((j + 1 : Nat) : Int), -1] := by unfold rgRow; rw [if_pos c1, if_neg c2]; rfl
        rw [e] at hi
        exact Ev.step (fun k => by rw [spec_RunGraph.l0, if_pos (by omega), if_pos (by omega), if_neg c2, if_pos (by omega), hw]) hi
    · by_cases c2 : (j : Int) ≥ least
      · have e : rgRow least m j = [-1, 0] := by unfold rgRow; rw [if_neg c1, if_pos c2]
        rw [e] at hi
        exact Ev.step (fun k => by rw [spec_RunGraph.l0, if_pos (by omega), if_neg (by omega), if_pos c2, if_pos (by omega), hw]) hi
      · have e : rgRow least m j = [-1, -1] := by unfold rgRow; rw [if_neg c1, if_neg c2]
        rw [e] at hi
        exact Ev.step (fun k => by rw [spec_RunGraph.l0, if_pos (by omega), if_neg (by omega), if_neg c2, if_pos (by omega), hw]) hi
theorem specRunGraph_ev (least : Int) (m : Nat) (h0 : 0 ≤ least) (h1 : least ≤ m) (hm : m ≤ 10) : Ev (fun k => spec_RunGraph.f k least (m : Int)) (rgTo least m (m + 1), true) := by
  unfold spec_RunGraph.f
  refine ev_to (spec_in _ _ _) ?_
  rw [decide_eq_true (show (0 : Int) ≤ (m : Int) ∧ (m : Int) ≤ 10 by omega)]
  refine ev_pos rfl (ev_to (spec_in _ _ _) ?_)
  rw [decide_eq_true (show 0 ≤ least ∧ least ≤ (m : Int) by omega)]
  exact Ev.step (f := fun k => spec_RunGraph.l0 k least (m : Int) 0 []) (fun k => by rw [spec_RunGraph.j0, if_neg (by decide)]) (srg_loop least m h0 hm (m + 1) 0 (by omega))
theorem ssg_loop (t : Nat) (ht : t ≤ 11) (d : Nat) : ∀ j : Nat, j + d = t + 1 → Ev (fun k => spec_SumGraph.l0 k (t : Int) (j : Int) (sgTo t j)) (sgTo t (t + 1), true) := by
  induction d with
  | zero =>
    intro j h
    obtain rfl : j = t + 1 := by omega
    exact ev_one (fun k => by rw [spec_SumGraph.l0, if_neg (by omega)])
  | succ d ih =>
    intro j h
    have hw := wrap_succ (j := j) (n := t + 1) (by omega) (by omega)
    have hw2 : wrap64 ((j : Int) - 1) = (j : Int) - 1 := wrap64_in (by omega) (by omega)
    have hi := ih (j + 1) (by omega)
    rw [sgTo_succ] at hi
    have hl := sgTo_length t j
    by_cases c : j = t
    · have e : sgRow t j = [(j : Int) - 1, -1] := by unfold sgRow; rw [if_pos c]
      rw [e] at hi
      exact Ev.step (fun k => by rw [spec_SumGraph.l0, if_pos (by omega), if_pos (by omega), if_pos (by omega), hw, hw2]) hi
    · have e : sgRow t j = [(j : Int) - 1, ((j + 1 : Nat) : Int)] := by unfold sgRow; rw [if_neg c]; rfl
      rw [e] at hi
      exact Ev.step (fun k => by rw [spec_SumGraph.l0, if_pos (by omega), if_neg (by omega), if_pos (by omega), hw, hw2]) hi
theorem specSumGraph_ev (t : Nat) (h0 : 1 ≤ t) (ht : t ≤ 11) : Ev (fun k => spec_SumGraph.f k (t : Int)) (sgTo t (t + 1), true) := by
  unfold spec_SumGraph.f
  refine ev_to (spec_in _ _ _) ?_
  rw [decide_eq_true (show 1 ≤ (t : Int) ∧ (t : Int) ≤ 11 by omega)]
  exact ev_pos rfl (ssg_loop t ht (t + 1) 0 (by omega))
theorem okRow_mk {n a b : Int} (h : -1 ≤ a ∧ a ≤ n - 1) (h2 : -1 ≤ b ∧ b ≤ n - 1) (h3 : ¬ (a < 0 ∧ b < 0)) : okRow n [a, b] = true := by
  rw [okRow_two, decide_eq_true h, decide_eq_true h2]
  by_cases c : a < 0
  · rw [decide_eq_true c, decide_eq_false (fun h => h3 ⟨c, h⟩)]; rfl
  · rw [decide_eq_false c]; rfl
section
variable (l : List Int) (hl : l.length ≤ 9223372036854775807) (hb : ∀ x ∈ l, (Lit.int .u8 x).wf = true)
include hl hb
theorem draw_loop (n : Nat) (hn : n ≤ 12) (d : Nat) : ∀ (j : Nat) (acc : List (List Int)) (at_ seed : Int), j + d = n → acc.length = j → acc.all (okRow n) = true → 0 ≤ at_ → at_ + 2 * d ≤ 1000 →
    ∃ g a s, Ev (fun k => spec_l02DrawOk.l0 k (n : Int) (j : Int) l at_ seed acc) (g, a, s) ∧ g.length = n ∧ g.all (okRow n) = true := by
  induction d with
  | zero => intro j acc at_ seed h1 h2 h3 h4 h5; exact ⟨acc, at_, seed, ev_one (fun k => by rw [spec_l02DrawOk.l0, if_neg (by omega)]), by omega, h3⟩
  | succ d ih =>
    intro j acc at_ seed h1 h2 h3 h4 h5
    have hw1 := Aside0.mk (show wrap64 ((n : Int) + 1) = (n : Int) + 1 from wrap64_in (by omega) (by omega))
    obtain ⟨v1, at1, seed1, e1, v0, v1', a1, a2⟩ := pick_f l hl hb at_ seed ((n : Int) + 1) h4 (by omega) (by omega)
    obtain ⟨v2, at2, seed2, e2, u0, u1', b1, b2⟩ := pick_f l hl hb at1 seed1 ((n : Int) + 1) (by omega) (by omega) (by omega)
    have hv1 := Aside0.mk (show wrap64 (v1 - 1) = v1 - 1 from wrap64_in (by omega) (by omega))
    have hv2 := Aside0.mk (show wrap64 (v2 - 1) = v2 - 1 from wrap64_in (by omega) (by omega))
    have hj := Aside0.mk (wrap_succ (j := j) (n := n) (by omega) (by omega))
    have next : ∀ r : List Int, okRow n r = true → ∃ g a s, Ev (fun k => spec_l02DrawOk.l0 k (n : Int) ((j + 1 : Nat) : Int) l at2 seed2 (acc ++ [r])) (g, a, s) ∧ g.length = n ∧ g.all (okRow n) = true := by
      intro r hr
      have q1 : (acc ++ [r]).length = j + 1 := by rw [List.length_append, h2]; rfl
      have q2 : (acc ++ [r]).all (okRow n) = true := by
        rw [List.all_append, h3, Bool.true_and, List.all_cons, hr, Bool.true_and, List.all_nil]
      have q3 : 0 ≤ at2 := by omega
      have q4 : at2 + 2 * (d : Int) ≤ 1000 := by omega
      exact ih (j + 1) (acc ++ [r]) at2 seed2 (by omega) q1 q2 q3 q4
    by_cases c1 : v1 - 1 < 0
    · by_cases c2 : v2 - 1 < 0
      · obtain ⟨g, a, s, h6, h7⟩ := next [v1 - 1, (j : Int)] (okRow_mk (by omega) (by omega) (by omega))
        exact ⟨g, a, s, Ev.step (fun k => by rw [spec_l02DrawOk.l0, if_pos (by omega), hw1.out, e1, Option.bind_some, e2, Option.bind_some, hv1.out, hv2.out, if_pos c1, if_pos c2, if_pos (by omega), hj.out]) h6, h7⟩
      · obtain ⟨g, a, s, h6, h7⟩ := next [v1 - 1, v2 - 1] (okRow_mk (by omega) (by omega) (by omega))
        exact ⟨g, a, s, Ev.step (fun k => by rw [spec_l02DrawOk.l0, if_pos (by omega), hw1.out, e1, Option.bind_some, e2, Option.bind_some, hv1.out, hv2.out, if_pos c1, if_neg c2, if_pos (by omega), hj.out]) h6, h7⟩
    · obtain ⟨g, a, s, h6, h7⟩ := next [v1 - 1, v2 - 1] (okRow_mk (by omega) (by omega) (by omega))
      exact ⟨g, a, s, Ev.step (fun k => by rw [spec_l02DrawOk.l0, if_pos (by omega), hw1.out, e1, Option.bind_some, e2, Option.bind_some, hv1.out, hv2.out, if_neg c1, if_pos (by omega), hj.out]) h6, h7⟩
omit hl hb in
theorem VG_all {g : List (List Int)} {n : Nat} (h : g.length = n) (h1 : 1 ≤ n) (h2 : n ≤ 12) (ha : g.all (okRow n) = true) : VG g = true := by
  unfold VG
  rw [h, decide_eq_true (by omega), ha]; rfl
theorem draw_j2 (n : Nat) (h1 : 1 ≤ n) (hn : n ≤ 12) (at_ seed : Int) (h4 : 0 ≤ at_) (h5 : at_ ≤ 900) : ∃ g a s, Ev (fun k => spec_l02DrawOk.j2 k (n : Int) l at_ seed) (g, a, s) ∧ VG g = true := by
  obtain ⟨g, a, s, h6, h7, h8⟩ := draw_loop l hl hb n hn n 0 [] at_ seed (by omega) rfl rfl h4 (by omega)
  exact ⟨g, a, s, Ev.step (f := fun k => spec_l02DrawOk.l0 k (n : Int) 0 l at_ seed []) (fun k => by rw [spec_l02DrawOk.j2]) h6, VG_all h7 h1 hn h8⟩
theorem draw_j1 (at_ seed : Int) (h4 : 0 ≤ at_) (h5 : at_ ≤ 800) : ∃ g a s, Ev (fun k => spec_l02DrawOk.j1 k l at_ seed) (g, a, s) ∧ VG g = true := by
  obtain ⟨v, at1, seed1, e1, v0, v1, a1, a2⟩ := pick_f l hl hb at_ seed 6 h4 (by omega) (by decide)
  obtain ⟨o, at2, seed2, e2, b1, b2⟩ := one_f l hl hb at1 seed1 20 (by omega) (by omega) (by decide)
  cases o with
  | true =>
    obtain ⟨g, a, s, h6, h7⟩ := draw_j2 l hl hb 12 (by decide) (by decide) at2 seed2 (by omega) (by omega)
    exact ⟨g, a, s, Ev.step (f := fun k => spec_l02DrawOk.j2 k 12 l at2 seed2) (fun k => by rw [spec_l02DrawOk.j1, e1, Option.bind_some, e2, Option.bind_some, if_pos rfl]) h6, h7⟩
  | false =>
    obtain ⟨n, hn⟩ : ∃ n, n = (1 + v).toNat := ⟨_, rfl⟩
    have hw : wrap64 (1 + v) = (n : Int) := by rw [wrap64_in (by omega) (by omega)]; omega
    obtain ⟨g, a, s, h6, h7⟩ := draw_j2 l hl hb n (by omega) (by omega) at2 seed2 (by omega) (by omega)
    exact ⟨g, a, s, Ev.step (fun k => by rw [spec_l02DrawOk.j1, e1, Option.bind_some, e2, Option.bind_some, if_neg Bool.false_ne_true, hw]) h6, h7⟩
theorem draw_j0 (at_ seed : Int) (h4 : 0 ≤ at_) (h5 : at_ ≤ 700) : ∃ g a s, Ev (fun k => spec_l02DrawOk.j0 k l at_ seed) (g, a, s) ∧ VG g = true := by
  obtain ⟨o, at2, seed2, e2, b1, b2⟩ := one_f l hl hb at_ seed 5 h4 (by omega) (by decide)
  cases o with
  | true =>
    obtain ⟨v, at1, seed1, e1, v0, v1, a1, a2⟩ := pick_f l hl hb at2 seed2 5 (by omega) (by omega) (by decide)
    obtain ⟨n, hn⟩ : ∃ n, n = (1 + v).toNat := ⟨_, rfl⟩
    have hw : wrap64 (1 + v) = (n : Int) := by rw [wrap64_in (by omega) (by omega)]; omega
    refine ⟨_, _, _, Ev.step (fun k => by rw [spec_l02DrawOk.j0, e2, Option.bind_some, if_pos rfl, e1, Option.bind_some, hw]) (Ev.bind (specSumGraph_ev n (by omega) (by omega)) (ev_pos rfl (Ev.now _))), sumGraph_VG n (by omega) (by omega)⟩
  | false =>
    obtain ⟨g, a, s, h6, h7⟩ := draw_j1 l hl hb at2 seed2 (by omega) (by omega)
    exact ⟨g, a, s, Ev.step (fun k => by rw [spec_l02DrawOk.j0, e2, Option.bind_some, if_neg Bool.false_ne_true]) h6, h7⟩
theorem r8Graph_ev : ∃ g, Ev (fun k => spec_R8Graph.f k l) g ∧ VG g = true := by
  suffices h : ∃ g a s, Ev (fun k => spec_l02DrawOk.f k l 0 0) (g, a, s) ∧ VG g = true by
    obtain ⟨g, a, s, h1, h2⟩ := h
    refine ⟨g, ?_, h2⟩
    unfold spec_R8Graph.f spec_l00From.f
    exact ev_some (Ev.bind h1 (Ev.now _))
  unfold spec_l02DrawOk.f
  obtain ⟨o, at0, seed0, e0, b1, b2⟩ := one_f l hl hb 0 0 3 (by decide) (by decide) (by decide)
  cases o with
  | true =>
    obtain ⟨v, at1, seed1, e1, v0, v1, a1, a2⟩ := pick_f l hl hb at0 seed0 3 (by omega) (by omega) (by decide)
    obtain ⟨u, at2, seed2, e2, u0, u1, c1, c2⟩ := pick_f l hl hb at1 seed1 5 (by omega) (by omega) (by decide)
    obtain ⟨m, hm⟩ : ∃ m, m = (v + u).toNat := ⟨_, rfl⟩
    have hw : wrap64 (v + u) = (m : Int) := by rw [wrap64_in (by omega) (by omega)]; omega
    refine ⟨rgTo v m (m + 1), at2, seed2, ev_to e0 (ev_pos rfl (ev_to e1 (ev_to e2 ?_))), runGraph_VG v m v0 (by omega) (by omega)⟩
    show Ev (fun k => (spec_RunGraph.f k v (wrap64 (v + u))).bind _) _
    rw [hw]
    exact Ev.bind (specRunGraph_ev v m v0 (by omega) (by omega)) (ev_pos rfl (Ev.now _))
  | false =>
    obtain ⟨g, a, s, h6, h7⟩ := draw_j0 l hl hb at0 seed0 (by omega) (by omega)
    exact ⟨g, a, s, ev_to e0 (ev_neg Bool.false_ne_true h6), h7⟩
end

def addC (z : Int) (prev : List Int) (acc : Int) : Int := if z ≥ 0 then wrap64 (acc + rd prev z) else acc
def cntRow (g : List (List Int)) (prev : List Int) (y : Int) : Int := addC (rd (rd_L2 g y) 1) prev (addC (rd (rd_L2 g y) 0) prev 0)
def cntTo (g : List (List Int)) (prev : List Int) (n : Nat) : List Int := (List.range n).map fun (y : Nat) => cntRow g prev (y : Int)
def cntIter (g : List (List Int)) : Nat → List Int
  | 0 => List.replicate g.length 1
  | i + 1 => cntTo g (cntIter g i) g.length
def cntsTo (g : List (List Int)) (m : Nat) : List (List Int) := (List.range (m + 1)).map (cntIter g)
theorem cntTo_length (g : List (List Int)) (prev : List Int) (n : Nat) : (cntTo g prev n).length = n := by simp [cntTo]
theorem cntTo_succ (g : List (List Int)) (prev : List Int) (n : Nat) : cntTo g prev (n + 1) = cntTo g prev n ++ [cntRow g prev (n : Int)] := by simp [cntTo, List.range_succ]
theorem cntIter_length (g : List (List Int)) (i : Nat) : (cntIter g i).length = g.length := by
  cases i with
  | zero => simp [cntIter]
  | succ i => exact cntTo_length _ _ _
theorem cntsTo_length (g : List (List Int)) (m : Nat) : (cntsTo g m).length = m + 1 := by simp [cntsTo]
theorem cntsTo_succ (g : List (List Int)) (m : Nat) : cntsTo g (m + 1) = cntsTo g m ++ [cntIter g (m + 1)] := by
  unfold cntsTo
  rw [List.range_succ, List.map_append]
  rfl
theorem cntsTo_get (g : List (List Int)) (m j : Nat) (h : j ≤ m) : rd_L2 (cntsTo g m) (j : Int) = cntIter g j := by
  rw [rdL_get _ _ (by rw [cntsTo_length]; omega)]; simp [cntsTo]
theorem cntRow_of {g : List (List Int)} {y : Int} {a b : Int} (e : rd_L2 g y = [a, b]) (prev : List Int) : cntRow g prev y = addC b prev (addC a prev 0) := by
  unfold cntRow; rw [e]; rfl

theorem ic_l2 (g : List (List Int)) (hg : Rows2 g) (h12 : g.length ≤ 12) (tab : List (List Int)) (m : Nat) (row : List Int) (Q I : Int) (y : Nat) (hy : y < g.length) (hrow : row.length = y) {res : List (List Int)}
    (h : Ev (fun k => impl_Graph_counts.l1 k tab (cntIter g m) (row ++ [cntRow g (cntIter g m) (y : Int)]) Q I g (g.length : Int) ((y + 1 : Nat) : Int) g) res) : Ev (fun k => impl_Graph_counts.l2 k tab (cntIter g m) row 0 Q I g (g.length : Int) (y : Int) (rd_L2 g (y : Int)) ((rd_L2 g (y : Int)).length : Int) 0 g) res := by
  obtain ⟨a, b, e, ha, hb, _, _⟩ := hg y hy
  have el := len2 a b
  have hi := cntIter_length g m
  rw [e]
  have two : ∀ acc : Int, acc = addC a (cntIter g m) 0 → Ev (fun k => impl_Graph_counts.l2 k tab (cntIter g m) row acc Q I g (g.length : Int) (y : Int) [a, b] (([a, b] : List Int).length : Int) 1 g) res := by
    intro acc he
    rw [cntRow_of e, ← he] at h
    by_cases cb : b ≥ 0
    · rw [addC, if_pos cb] at h
      refine Ev.step (fun k => by rw [impl_Graph_counts.l2, if_pos (by rw [el]; decide), if_pos (by decide), if_pos (by rw [el]; decide), rd1, if_pos cb, if_pos cb, if_pos (by omega), w11]) ?_
      exact Ev.step (fun k => by rw [impl_Graph_counts.l2, if_neg (by rw [el]; decide), if_pos (by omega), wrap_succ hy (by omega)]) h
    · rw [addC, if_neg cb] at h
      refine Ev.step (fun k => by rw [impl_Graph_counts.l2, if_pos (by rw [el]; decide), if_pos (by decide), if_pos (by rw [el]; decide), rd1, if_neg cb, w11]) ?_
      exact Ev.step (fun k => by rw [impl_Graph_counts.l2, if_neg (by rw [el]; decide), if_pos (by omega), wrap_succ hy (by omega)]) h
  by_cases ca : a ≥ 0
  · refine Ev.step (fun k => by rw [impl_Graph_counts.l2, if_pos (by rw [el]; decide), if_pos (by decide), if_pos (by rw [el]; decide), rd0, if_pos ca, if_pos ca, if_pos (by omega), w01]) ?_
    exact two _ (by rw [addC, if_pos ca])
  · refine Ev.step (fun k => by rw [impl_Graph_counts.l2, if_pos (by rw [el]; decide), if_pos (by decide), if_pos (by rw [el]; decide), rd0, if_neg ca, w01]) ?_
    exact two _ (by rw [addC, if_neg ca])
theorem ic_l1 (g : List (List Int)) (hg : Rows2 g) (h12 : g.length ≤ 12) (Q : Int) (m : Nat) (hm : m ≤ 100) {res : List (List Int)} (h : Ev (fun k => impl_Graph_counts.l0 k (cntsTo g (m + 1)) Q ((m + 1 : Nat) : Int) g) res) (d : Nat) : ∀ y : Nat, y + d = g.length →
    Ev (fun k => impl_Graph_counts.l1 k (cntsTo g m) (cntIter g m) (cntTo g (cntIter g m) y) Q (m : Int) g (g.length : Int) (y : Int) g) res := by
  induction d with
  | zero =>
    intro y hy
    obtain rfl : y = g.length := by omega
    rw [cntsTo_succ] at h
    exact Ev.step (fun k => by rw [impl_Graph_counts.l1, if_neg (by omega), if_pos (by rw [cntsTo_length]; omega), wrap_succ (j := m) (n := 1000) (by omega) (by omega)]; rfl) h
  | succ d ih =>
    intro y hy
    refine Ev.step (fun k => by rw [impl_Graph_counts.l1, if_pos (by omega), if_pos (by omega), if_pos (by omega)]) ?_
    refine ic_l2 g hg h12 _ m _ Q m y (by omega) (cntTo_length _ _ _) ?_
    rw [← cntTo_succ]
    exact ih (y + 1) (by omega)
theorem ic_l0 (g : List (List Int)) (hg : Rows2 g) (h12 : g.length ≤ 12) (q : Nat) (hq : q ≤ 100) (d : Nat) : ∀ m : Nat, m + d = q → Ev (fun k => impl_Graph_counts.l0 k (cntsTo g m) (q : Int) (m : Int) g) (cntsTo g q) := by
  induction d with
  | zero =>
    intro m h
    obtain rfl : m = q := by omega
    exact ev_one (fun k => by rw [impl_Graph_counts.l0, if_neg (by omega)])
  | succ d ih =>
    intro m h
    have hm := cntsTo_length g m
    have hw : wrap64 (((cntsTo g m).length : Int) - 1) = (m : Int) := by rw [hm, wrap64_in (by omega) (by omega)]; omega
    exact Ev.step (fun k => by rw [impl_Graph_counts.l0, if_pos (by omega), hw, if_pos (by omega), if_pos (by omega), cntsTo_get g m m (Nat.le_refl m)]; rfl) (ic_l1 g hg h12 q m (by omega) (ih (m + 1) (by omega)) g.length 0 (by omega))
theorem implCounts_ev (g : List (List Int)) (hg : Rows2 g) (h12 : g.length ≤ 12) (q : Nat) (hq : q ≤ 100) : Ev (fun k => impl_Graph_counts.f k g (q : Int)) (cntsTo g q) := by
  unfold impl_Graph_counts.f
  refine ev_to (a := List.replicate g.length 1) ?_ (ic_l0 g hg h12 q hq q 0 (by omega))
  unfold slices_Repeat_int64_int64.f
  rw [if_pos ⟨rfl, by omega, by omega⟩, Int.toNat_natCast]
  rfl

theorem counted_f (n : Int) : impl_isCounted.f n = some (decide (0 ≤ n ∧ n ≤ 60)) := by
  unfold impl_isCounted.f
  rw [impl_in]
  rfl

def selC (z : Int) (prev : List Int) : Int := if z ≥ 0 then rd prev z else 0
theorem cntTo_get (g : List (List Int)) (prev : List Int) (n y : Nat) (h : y < n) : rd (cntTo g prev n) (y : Int) = cntRow g prev (y : Int) := by
  rw [rd_get _ _ (by rw [cntTo_length]; exact h)]; simp [cntTo]
theorem addC_eq (z : Int) (prev : List Int) (acc : Int) (h : 0 ≤ selC z prev ∧ selC z prev ≤ 1152921504606846976) (ha : 0 ≤ acc ∧ acc ≤ 1152921504606846976) : addC z prev acc = acc + selC z prev := by
  unfold addC selC at *
  by_cases c : z ≥ 0
  · rw [if_pos c] at *
    rw [if_pos c]
    exact wrap64_in (by omega) (by omega)
  · rw [if_neg c, if_neg c, Int.add_zero]
theorem row_sum (a b : Int) (prev : List Int) (h : 0 ≤ selC a prev ∧ selC a prev ≤ 1152921504606846976) (h2 : 0 ≤ selC b prev ∧ selC b prev ≤ 1152921504606846976) : addC b prev (addC a prev 0) = selC a prev + selC b prev := by
  rw [addC_eq a prev 0 h (by omega), Int.zero_add, addC_eq b prev _ h2 h]
/-- The counts are small, and add up without a wrap. -/
theorem cnt_bound (g : List (List Int)) (hg : Rows2 g) (i : Nat) : i ≤ 61 → ∀ y : Nat, y < g.length → 0 ≤ rd (cntIter g i) (y : Int) ∧ rd (cntIter g i) (y : Int) ≤ 2 ^ i := by
  induction i with
  | zero => intro _ y hy; rw [show cntIter g 0 = List.replicate g.length 1 from rfl, rd_get _ _ (by simpa using hy)]; simp
  | succ i ih =>
    intro hi y hy
    obtain ⟨a, b, e, ha, hb, _, _⟩ := hg y hy
    have ih' := ih (by omega)
    have sel : ∀ z : Int, z < g.length → 0 ≤ selC z (cntIter g i) ∧ selC z (cntIter g i) ≤ 2 ^ i := by
      intro z hz
      unfold selC
      split
      · obtain ⟨j, rfl⟩ := Int.eq_ofNat_of_zero_le (show 0 ≤ z by omega)
        exact ih' j (by omega)
      · exact ⟨by omega, by have := pow_pos_int i; omega⟩
    have h1 := sel a ha
    have h2 := sel b hb
    have hp := pow_le_int (a := i) (b := 60) (by omega)
    have e60 : (2 : Int) ^ 60 = 1152921504606846976 := by decide
    have es : (2 : Int) ^ (i + 1) = 2 ^ i * 2 := Int.pow_succ 2 i
    rw [show cntIter g (i + 1) = cntTo g (cntIter g i) g.length from rfl, cntTo_get _ _ _ _ hy, cntRow_of e]
    rw [row_sum a b _ (by omega) (by omega)]
    omega
theorem cnt_split (g : List (List Int)) (hg : Rows2 g) (i : Nat) (hi : i ≤ 60) (y : Nat) (hy : y < g.length) {a b : Int} (e : rd_L2 g (y : Int) = [a, b]) (ha : a < g.length) (hb : b < g.length) : rd (cntIter g (i + 1)) (y : Int) = selC a (cntIter g i) + selC b (cntIter g i) := by
  have ih' := cnt_bound g hg i (by omega)
  have sel : ∀ z : Int, z < g.length → 0 ≤ selC z (cntIter g i) ∧ selC z (cntIter g i) ≤ 2 ^ i := by
    intro z hz
    unfold selC
    split
    · obtain ⟨j, rfl⟩ := Int.eq_ofNat_of_zero_le (show 0 ≤ z by omega)
      exact ih' j (by omega)
    · exact ⟨by omega, by have := pow_pos_int i; omega⟩
  have h1 := sel a ha
  have h2 := sel b hb
  have hp := pow_le_int (a := i) (b := 60) (by omega)
  have e60 : (2 : Int) ^ 60 = 1152921504606846976 := by decide
  rw [show cntIter g (i + 1) = cntTo g (cntIter g i) g.length from rfl, cntTo_get _ _ _ _ hy, cntRow_of e]
  exact row_sum a b _ (by omega) (by omega)

theorem implCount_yes (g : List (List Int)) (hv : VG g = true) (h12 : g.length ≤ 12) (q : Nat) (hr : ∀ r ∈ g, r.length ≤ 9223372036854775807) (j : Nat) (hj : j < g.length) (hq60 : q ≤ 60) (e : (VG g && decide (0 ≤ (j : Int) ∧ (j : Int) ≤ wrap64 ((g.length : Int) - 1))) = true) :
    Ev (fun k => impl_CountAllowed.f k g (j : Int) (q : Int)) (rd (cntIter g q) (j : Int), true) := by
  have hi := implState_ev g hr (j : Int)
  rw [e] at hi
  have ei : impl_isCounted.f (q : Int) = some true := by rw [counted_f, decide_eq_true (by omega)]
  have h2 := implCounts_ev g (rows2_of hv) h12 q (by omega)
  have hl := cntsTo_length g q
  have hq := cntsTo_get g q q (Nat.le_refl q)
  have hc := cntIter_length g q
  rw [← hq]
  unfold impl_CountAllowed.f
  exact Ev.bind hi (ev_pos rfl (ev_to ei (ev_pos rfl (Ev.bind h2 (ev_pos (by omega) (ev_pos (by omega) (ev_pos (by omega) (ev_pos (by rw [hq]; omega) (Ev.now _)))))))))

namespace Th
def run (e : Int → Bool → Int) : Int → List Bool → Int
  | x, [] => x
  | x, b :: l => if e x b < 0 then -1 else run e (e x b) l
def ok (e : Int → Bool → Int) (x : Int) (s : List Bool) : Prop := 0 ≤ run e x s
def Apx (e : Int → Bool → Int) (k : Nat) (x y : Int) : Prop := ∀ s : List Bool, s.length ≤ k → (ok e x s ↔ ok e y s)
def Alike (e : Int → Bool → Int) (x y : Int) : Prop := ∀ s : List Bool, ok e x s ↔ ok e y s
section
variable {e : Int → Bool → Int} {k : Nat} {x y z : Int}
theorem ok_nil (hx : 0 ≤ x) : ok e x [] := hx
theorem ok_cons (b : Bool) (l : List Bool) : ok e x (b :: l) ↔ 0 ≤ e x b ∧ ok e (e x b) l := by
  unfold ok
  show 0 ≤ (if e x b < 0 then -1 else run e (e x b) l) ↔ _
  by_cases c : e x b < 0
  · rw [if_pos c]; omega
  · rw [if_neg c]; omega
theorem apx_zero (hx : 0 ≤ x) (hy : 0 ≤ y) : Apx e 0 x y := by
  intro s hs
  obtain rfl : s = [] := List.eq_nil_of_length_eq_zero (by omega)
  exact ⟨fun _ => hy, fun _ => hx⟩
theorem apx_succ (hx : 0 ≤ x) (hy : 0 ≤ y) : Apx e (k + 1) x y ↔ ∀ b, (0 ≤ e x b ↔ 0 ≤ e y b) ∧ (0 ≤ e x b → Apx e k (e x b) (e y b)) := by
  constructor
  · intro h b
    have h1 := h [b] (by simp)
    rw [ok_cons, ok_cons] at h1
    have h2 : 0 ≤ e x b ↔ 0 ≤ e y b := ⟨fun a => (h1.1 ⟨a, a⟩).1, fun a => (h1.2 ⟨a, a⟩).1⟩
    refine ⟨h2, fun h3 s hs => ?_⟩
    have h4 := h (b :: s) (by simp; omega)
    rw [ok_cons, ok_cons] at h4
    exact ⟨fun a => (h4.1 ⟨h3, a⟩).2, fun a => (h4.2 ⟨h2.1 h3, a⟩).2⟩
  · intro h s hs
    cases s with
    | nil => exact ⟨fun _ => hy, fun _ => hx⟩
    | cons b l =>
      obtain ⟨h1, h2⟩ := h b
      rw [ok_cons, ok_cons]
      simp only [List.length_cons] at hs
      exact ⟨fun a => ⟨h1.1 a.1, (h2 a.1 l (by omega)).1 a.2⟩, fun a => ⟨h1.2 a.1, (h2 (h1.2 a.1) l (by omega)).2 a.2⟩⟩
theorem Apx.mono {j : Nat} (h : Apx e k x y) (hj : j ≤ k) : Apx e j x y := fun s hs => h s (by omega)
theorem Apx.refl : Apx e k x x := fun _ _ => Iff.rfl
theorem Apx.symm (h : Apx e k x y) : Apx e k y x := fun s hs => (h s hs).symm
theorem Apx.trans (h : Apx e k x y) (g : Apx e k y z) : Apx e k x z := fun s hs => (h s hs).trans (g s hs)
end
/-- The firsts of a relation below n. -/
def isF (R : Nat → Nat → Prop) (x : Nat) : Prop := ∀ y, y < x → ¬ R y x
open Classical in
noncomputable def cnt (R : Nat → Nat → Prop) : Nat → Nat
  | 0 => 0
  | n + 1 => cnt R n + (if isF R n then 1 else 0)
theorem cnt_le (R : Nat → Nat → Prop) (n : Nat) : cnt R n ≤ n := by
  induction n with
  | zero => exact Nat.le_refl _
  | succ n ih => rw [cnt]; split <;> omega
theorem cnt_mono (R S : Nat → Nat → Prop) (h : ∀ x y, S x y → R x y) (n : Nat) : cnt R n ≤ cnt S n := by
  induction n with
  | zero => exact Nat.le_refl _
  | succ n ih =>
    rw [cnt, cnt]
    have : isF R n → isF S n := fun a y hy hs => a y hy (h _ _ hs)
    by_cases c : isF R n
    · rw [if_pos c, if_pos (this c)]; omega
    · rw [if_neg c]; split <;> omega
theorem cnt_same (R S : Nat → Nat → Prop) (h : ∀ x y, S x y → R x y) (n : Nat) (he : cnt R n = cnt S n) : ∀ x, x < n → isF S x → isF R x := by
  induction n with
  | zero => intro x hx; omega
  | succ n ih =>
    intro x hx hs
    rw [cnt, cnt] at he
    have hm := cnt_mono R S h n
    have h1 : isF R n → isF S n := fun a y hy hs => a y hy (h _ _ hs)
    by_cases c : isF R n
    · rw [if_pos c, if_pos (h1 c)] at he
      by_cases hxn : x = n
      · subst hxn; exact c
      · exact ih (by omega) x (by omega) hs
    · rw [if_neg c] at he
      by_cases c2 : isF S n
      · rw [if_pos c2] at he; omega
      · rw [if_neg c2] at he
        by_cases hxn : x = n
        · subst hxn; exact absurd hs c2
        · exact ih (by omega) x (by omega) hs
theorem has_first (R : Nat → Nat → Prop) (hr : ∀ x, R x x) (ht : ∀ x y z, R x y → R y z → R x z) (x : Nat) : ∃ y, y ≤ x ∧ isF R y ∧ R y x := by
  induction x using Nat.strongRecOn with
  | ind x ih =>
    by_cases c : isF R x
    · exact ⟨x, Nat.le_refl _, c, hr x⟩
    · unfold isF at c
      obtain ⟨y, hy⟩ := Classical.not_forall.1 c
      obtain ⟨hy1, hy2⟩ := Classical.not_imp.1 hy
      obtain ⟨z, h1, h2, h3⟩ := ih y hy1
      exact ⟨z, by omega, h2, ht _ _ _ h3 (Classical.not_not.1 hy2)⟩
/-- As many firsts: the same relation. -/
theorem cnt_stable (R S : Nat → Nat → Prop) (h : ∀ x y, S x y → R x y) (hr : ∀ x, S x x) (hs : ∀ x y, S x y → S y x) (ht : ∀ x y z, S x y → S y z → S x z) (rs : ∀ x y, R x y → R y x) (rt : ∀ x y z, R x y → R y z → R x z)
    (n : Nat) (he : cnt R n = cnt S n) : ∀ x y, x < n → y < n → R x y → S x y := by
  intro x y hx hy hxy
  obtain ⟨a, a1, a2, a3⟩ := has_first S hr ht x
  obtain ⟨b, b1, b2, b3⟩ := has_first S hr ht y
  have a4 := cnt_same R S h n he a (by omega) a2
  have b4 := cnt_same R S h n he b (by omega) b2
  have hab : R a b := rt _ _ _ (h _ _ a3) (rt _ _ _ hxy (rs _ _ (h _ _ b3)))
  have e : a = b := by
    rcases Nat.lt_trichotomy a b with q | q | q
    · exact absurd hab (b4 a q)
    · exact q
    · exact absurd (rs _ _ hab) (a4 b q)
  subst e
  exact ht _ _ _ (hs _ _ a3) b3
theorem grow_or (f : Nat → Nat) (n : Nat) (hf : ∀ r, f r ≤ n) (h1 : 1 ≤ f 0) (hm : ∀ r, f r ≤ f (r + 1)) : ∃ r, r < n ∧ f r = f (r + 1) := by
  refine Classical.byContradiction fun c => ?_
  have g : ∀ r, r ≤ n → r + 1 ≤ f r := by
    intro r
    induction r with
    | zero => intro _; exact h1
    | succ r ih =>
      intro hr
      have := ih (by omega)
      have h2 := hm r
      have h3 : f r ≠ f (r + 1) := fun q => c ⟨r, by omega, q⟩
      omega
  have := g n (Nat.le_refl _)
  have := hf n
  omega
section
variable {e : Int → Bool → Int} {n : Nat}
theorem apx_stable (hn : ∀ (x : Int) (b : Bool), 0 ≤ x → x < n → e x b < n) (r : Nat) (h : ∀ x y : Int, 0 ≤ x → x < n → 0 ≤ y → y < n → Apx e r x y → Apx e (r + 1) x y) :
    ∀ (k : Nat) (x y : Int), 0 ≤ x → x < n → 0 ≤ y → y < n → Apx e r x y → Apx e (r + k) x y := by
  intro k
  induction k with
  | zero => intro x y _ _ _ _ a; exact a
  | succ k ih =>
    intro x y x0 x1 y0 y1 a
    have b := h x y x0 x1 y0 y1 a
    rw [apx_succ x0 y0] at b
    have : Apx e (r + k + 1) x y := by
      rw [apx_succ x0 y0]
      intro c
      refine ⟨(b c).1, fun q => ih _ _ q (hn x c x0 x1) ((b c).1.1 q) (hn y c y0 y1) ((b c).2 q)⟩
    exact this
/-- As many rounds as there are states tell all that can be told. -/
theorem apx_alike (hn : ∀ (x : Int) (b : Bool), 0 ≤ x → x < n → e x b < n) (m : Nat) (hm : n ≤ m) (x y : Int) (x0 : 0 ≤ x) (x1 : x < n) (y0 : 0 ≤ y) (y1 : y < n) (h : Apx e m x y) : Alike e x y := by
  obtain ⟨r, r1, r2⟩ := grow_or (fun r => cnt (fun a b => Apx e r (a : Int) (b : Int)) n) n (fun r => cnt_le _ n)
    (by
      show 1 ≤ cnt _ n
      obtain ⟨q, rfl⟩ : ∃ q, n = q + 1 := ⟨n - 1, by omega⟩
      clear h hm x1 y1 hn
      induction q with
      | zero => rw [cnt, if_pos (show isF _ 0 from fun y hy => absurd hy (Nat.not_lt_zero _))]; omega
      | succ q ih => rw [cnt]; omega)
    (fun r => cnt_mono _ _ (fun a b g => g.mono (Nat.le_succ _)) n)
  have hst := cnt_stable (fun a b => Apx e r (a : Int) (b : Int)) (fun a b => Apx e (r + 1) (a : Int) (b : Int)) (fun a b g => g.mono (Nat.le_succ _)) (fun _ => Apx.refl) (fun _ _ g => g.symm) (fun _ _ _ g h => g.trans h) (fun _ _ g => g.symm) (fun _ _ _ g h => g.trans h) n r2
  have hall := apx_stable hn r (fun a b a0 a1 b0 b1 g => by
    obtain ⟨p, rfl⟩ := Int.eq_ofNat_of_zero_le a0
    obtain ⟨q, rfl⟩ := Int.eq_ofNat_of_zero_le b0
    exact hst p q (by omega) (by omega) g)
  intro s
  exact hall s.length x y x0 x1 y0 y1 (h.mono (by omega)) s (by omega)
end
end Th

namespace Th
def vf : Nat → List Bool → Nat
  | v, [] => v
  | v, b :: l => vf (2 * v + b.toNat) l
theorem vf_ge (l : List Bool) : ∀ v, v ≤ vf v l := by
  induction l with
  | nil => intro v; exact Nat.le_refl _
  | cons b l ih => intro v; have := ih (2 * v + b.toNat); show v ≤ vf (2 * v + b.toNat) l; omega
theorem vf_snoc (l : List Bool) (b : Bool) : ∀ v, vf v (l ++ [b]) = 2 * vf v l + b.toNat := by
  induction l with
  | nil => intro v; rfl
  | cons c l ih => intro v; show vf _ (l ++ [b]) = 2 * vf _ l + _; exact ih _
theorem run_snoc {e : Int → Bool → Int} (l : List Bool) (b : Bool) : ∀ x : Int, 0 ≤ run e x l → run e x (l ++ [b]) = if e (run e x l) b < 0 then -1 else e (run e x l) b := by
  induction l with
  | nil => intro x _; rfl
  | cons c l ih =>
    intro x h
    have h' : 0 ≤ (if e x c < 0 then -1 else run e (e x c) l) := h
    show (if e x c < 0 then -1 else run e (e x c) (l ++ [b])) = _
    by_cases q : e x c < 0
    · rw [if_pos q] at h'; omega
    · rw [if_neg q] at h' ⊢
      have e1 : run e x (c :: l) = run e (e x c) l := by show (if e x c < 0 then -1 else run e (e x c) l) = _; rw [if_neg q]
      rw [e1]
      exact ih _ h'
abbrev Item := Int × Int × List Bool
abbrev val (s : List Bool) : Nat := vf 1 s
/-- What is told in what order: L the list, the items ahead of i done, of item i the bits below b. -/
structure Inv (e f : Int → Bool → Int) (n m : Nat) (x0 y0 : Int) (L : List Item) (i b : Nat) : Prop where
  root : L[0]? = some (x0, y0, [])
  rng : ∀ (j : Nat) t, L[j]? = some t → 0 ≤ t.1 ∧ t.1 < n ∧ 0 ≤ t.2.1 ∧ t.2.1 < m
  runs : ∀ (j : Nat) t, L[j]? = some t → run e x0 t.2.2 = t.1 ∧ run f y0 t.2.2 = t.2.1
  sorted : ∀ (j k : Nat) t u, L[j]? = some t → L[k]? = some u → j < k → val t.2.2 < val u.2.2
  dist : ∀ (j k : Nat) t u, L[j]? = some t → L[k]? = some u → j < k → ¬ (t.1 = u.1 ∧ t.2.1 = u.2.1)
  fin : ∀ (j : Nat) t (c : Bool), L[j]? = some t → (j < i ∨ (j = i ∧ c.toNat < b)) → 0 ≤ e t.1 c → 0 ≤ f t.2.1 c ∧ ∃ (k : Nat) (u : Item), L[k]? = some u ∧ u.1 = e t.1 c ∧ u.2.1 = f t.2.1 c ∧ val u.2.2 ≤ 2 * val t.2.2 + c.toNat
  top : ∀ (j : Nat) t u, L[j]? = some t → L[i]? = some u → val t.2.2 < 2 * val u.2.2 + b
section
variable {e f : Int → Bool → Int} {n m : Nat} {x0 y0 : Int} {L : List Item} {i b : Nat}
/-- The least that tells is not below what isn't done yet. -/
theorem Inv.least (h : Inv e f n m x0 y0 L i b) (V : Nat) (hV : ∀ (j : Nat) t (c : Bool), L[j]? = some t → ¬ (j < i ∨ (j = i ∧ c.toNat < b)) → V ≤ 2 * val t.2.2 + c.toNat) :
    ∀ (rest : List Bool) (j : Nat) (t : Item) (v : Nat), L[j]? = some t → val t.2.2 ≤ v → ok e t.1 rest → ¬ ok f t.2.1 rest → V ≤ vf v rest := by
  intro rest
  induction rest with
  | nil => intro j t v hj _ _ h2; exact absurd (h.rng j t hj).2.2.1 h2
  | cons c rest ih =>
    intro j t v hj hv h1 h2
    rw [ok_cons] at h1 h2
    show V ≤ vf (2 * v + c.toNat) rest
    by_cases q : j < i ∨ (j = i ∧ c.toNat < b)
    · obtain ⟨g1, k, u, hk, e1, e2, hu⟩ := h.fin j t c hj q h1.1
      refine ih k u _ hk (by omega) (by rw [e1]; exact h1.2) (by rw [e2]; exact fun a => h2 ⟨g1, a⟩)
    · have := hV j t c hj q
      have := vf_ge rest (2 * v + c.toNat)
      omega
theorem Inv.lt (h : Inv e f n m x0 y0 L i b) : 0 < L.length := by
  have := h.root
  rcases Nat.eq_zero_or_pos L.length with q | q
  · rw [List.eq_nil_of_length_eq_zero q] at this; cases this
  · exact q
/-- Nothing is left to be done: nothing tells. -/
theorem Inv.none_tells (h : Inv e f n m x0 y0 L i b) (hi : L.length ≤ i) : ∀ own, ok e x0 own → ok f y0 own := by
  intro own h1
  refine Classical.byContradiction fun h2 => ?_
  have := h.least (vf 1 own + 1) (fun j t c hj q => by
    have : j < L.length := (List.getElem?_eq_some_iff.1 hj).1
    omega) own 0 (x0, y0, []) 1 h.root (Nat.le_refl _) h1 h2
  omega
/-- A bit of item i that the one allows and the other does not: the first telling bits. -/
theorem Inv.found (h : Inv e f n m x0 y0 L i b) (c : Bool) (hc : c.toNat = b) (t : Item) (ht : L[i]? = some t) (h1 : 0 ≤ e t.1 c) (h2 : f t.2.1 c < 0) :
    ok e x0 (t.2.2 ++ [c]) ∧ ¬ ok f y0 (t.2.2 ++ [c]) ∧ ∀ own, ok e x0 own → ¬ ok f y0 own → val (t.2.2 ++ [c]) ≤ val own := by
  obtain ⟨r1, r2⟩ := h.runs i t ht
  obtain ⟨g1, g2, g3, g4⟩ := h.rng i t ht
  refine ⟨?_, ?_, ?_⟩
  · unfold ok; rw [run_snoc _ _ _ (by omega), r1, if_neg (by omega)]; exact h1
  · unfold ok; rw [run_snoc _ _ _ (by omega), r2, if_pos h2]; decide
  · intro own o1 o2
    unfold val
    rw [vf_snoc]
    refine h.least _ (fun j u d hj q => ?_) own 0 (x0, y0, []) 1 h.root (Nat.le_refl _) o1 o2
    rcases Nat.lt_trichotomy j i with p | p | p
    · exact absurd (Or.inl p) q
    · subst p
      rw [ht] at hj
      obtain rfl := Option.some.inj hj
      have : ¬ d.toNat < b := fun p => q (.inr ⟨rfl, p⟩)
      show 2 * vf 1 t.2.2 + c.toNat ≤ 2 * vf 1 t.2.2 + d.toNat
      omega
    · have := h.sorted i j t u ht hj p
      have hb : c.toNat ≤ 1 := by cases c <;> decide
      show 2 * vf 1 t.2.2 + c.toNat ≤ 2 * vf 1 u.2.2 + d.toNat
      have h5 : vf 1 t.2.2 < vf 1 u.2.2 := this
      omega
theorem Inv.start (hx : 0 ≤ x0 ∧ x0 < n) (hy : 0 ≤ y0 ∧ y0 < m) : Inv e f n m x0 y0 [(x0, y0, [])] 0 0 := by
  have one : ∀ (j : Nat) (t : Item), [((x0, y0, []) : Item)][j]? = some t → j = 0 ∧ t = (x0, y0, []) := by
    intro j t h
    cases j with
    | zero => exact ⟨rfl, (Option.some.inj h).symm⟩
    | succ j => simp at h
  refine ⟨rfl, ?_, ?_, ?_, ?_, ?_, ?_⟩
  · intro j t h; obtain ⟨rfl, rfl⟩ := one j t h; exact ⟨hx.1, hx.2, hy.1, hy.2⟩
  · intro j t h; obtain ⟨rfl, rfl⟩ := one j t h; exact ⟨rfl, rfl⟩
  · intro j k t u h g q; obtain ⟨rfl, rfl⟩ := one j t h; obtain ⟨rfl, rfl⟩ := one k u g; omega
  · intro j k t u h g q; obtain ⟨rfl, rfl⟩ := one j t h; obtain ⟨rfl, rfl⟩ := one k u g; omega
  · intro j t c h q; omega
  · intro j t u h g; obtain ⟨rfl, rfl⟩ := one j t h; obtain ⟨_, rfl⟩ := one 0 u g; show vf 1 [] < 2 * vf 1 [] + 0; decide
/-- The one bit doesn't allow it, or the pair is known. -/
theorem Inv.keep (h : Inv e f n m x0 y0 L i b) (c : Bool) (hc : c.toNat = b) (t : Item) (ht : L[i]? = some t)
    (hk : 0 ≤ e t.1 c → 0 ≤ f t.2.1 c ∧ ∃ (k : Nat) (u : Item), L[k]? = some u ∧ u.1 = e t.1 c ∧ u.2.1 = f t.2.1 c) : Inv e f n m x0 y0 L i (b + 1) := by
  refine ⟨h.root, h.rng, h.runs, h.sorted, h.dist, ?_, ?_⟩
  · intro j u d hj q h0
    by_cases p : j < i ∨ (j = i ∧ d.toNat < b)
    · exact h.fin j u d hj p h0
    · have hji : j = i := by omega
      subst hji
      rw [ht] at hj
      obtain rfl := Option.some.inj hj
      have hd : d = c := by
        have : d.toNat = c.toNat := by omega
        cases d <;> cases c <;> first | rfl | (exact absurd this (by decide))
      subst hd
      obtain ⟨g1, k, u, hk1, hk2, hk3⟩ := hk h0
      refine ⟨g1, k, u, hk1, hk2, hk3, ?_⟩
      have := h.top k u t hk1 ht
      omega
  · intro j u v hj hv
    have := h.top j u v hj hv
    omega
theorem get_snoc {α : Type} (L : List α) (a : α) (j : Nat) (t : α) : (L ++ [a])[j]? = some t ↔ L[j]? = some t ∨ (j = L.length ∧ t = a) := by
  rw [List.getElem?_append]
  by_cases c : j < L.length
  · rw [if_pos c]
    constructor
    · exact Or.inl
    · rintro (q | ⟨q, _⟩)
      · exact q
      · omega
  · rw [if_neg c]
    constructor
    · intro q
      right
      obtain ⟨k, hk⟩ : ∃ k, k = j - L.length := ⟨_, rfl⟩
      rw [← hk] at q
      cases k with
      | zero => exact ⟨by omega, (Option.some.inj q).symm⟩
      | succ k => simp at q
    · rintro (q | ⟨q, r⟩)
      · exact absurd (List.getElem?_eq_some_iff.1 q).1 c
      · subst q; subst r; simp
theorem Inv.push (h : Inv e f n m x0 y0 L i b) (c : Bool) (hc : c.toNat = b) (t : Item) (ht : L[i]? = some t) (h1 : 0 ≤ e t.1 c) (h2 : 0 ≤ f t.2.1 c) (l1 : e t.1 c < n) (l2 : f t.2.1 c < m)
    (hn : ∀ (k : Nat) (u : Item), L[k]? = some u → ¬ (u.1 = e t.1 c ∧ u.2.1 = f t.2.1 c)) : Inv e f n m x0 y0 (L ++ [(e t.1 c, f t.2.1 c, t.2.2 ++ [c])]) i (b + 1) := by
  obtain ⟨r1, r2⟩ := h.runs i t ht
  obtain ⟨g1, g2, g3, g4⟩ := h.rng i t ht
  have hil : i < L.length := (List.getElem?_eq_some_iff.1 ht).1
  have hv : val (t.2.2 ++ [c]) = 2 * val t.2.2 + c.toNat := vf_snoc _ _ _
  refine ⟨?_, ?_, ?_, ?_, ?_, ?_, ?_⟩
  · rw [get_snoc]; exact Or.inl h.root
  · intro j u hj
    rcases (get_snoc _ _ _ _).1 hj with q | ⟨_, rfl⟩
    · exact h.rng j u q
    · exact ⟨h1, l1, h2, l2⟩
  · intro j u hj
    rcases (get_snoc _ _ _ _).1 hj with q | ⟨_, rfl⟩
    · exact h.runs j u q
    · refine ⟨?_, ?_⟩
      · show run e x0 (t.2.2 ++ [c]) = e t.1 c
        rw [run_snoc _ _ _ (by omega), r1, if_neg (by omega)]
      · show run f y0 (t.2.2 ++ [c]) = f t.2.1 c
        rw [run_snoc _ _ _ (by omega), r2, if_neg (by omega)]
  · intro j k u v hj hk q
    rcases (get_snoc _ _ _ _).1 hj with p | ⟨pj, rfl⟩
    · rcases (get_snoc _ _ _ _).1 hk with r | ⟨_, rfl⟩
      · exact h.sorted j k u v p r q
      · have := h.top j u t p ht
        show val u.2.2 < val (t.2.2 ++ [c])
        omega
    · rcases (get_snoc _ _ _ _).1 hk with r | ⟨_, rfl⟩
      · have := (List.getElem?_eq_some_iff.1 r).1; omega
      · omega
  · intro j k u v hj hk q
    rcases (get_snoc _ _ _ _).1 hj with p | ⟨pj, rfl⟩
    · rcases (get_snoc _ _ _ _).1 hk with r | ⟨_, rfl⟩
      · exact h.dist j k u v p r q
      · exact hn j u p
    · rcases (get_snoc _ _ _ _).1 hk with r | ⟨_, rfl⟩
      · have := (List.getElem?_eq_some_iff.1 r).1; omega
      · omega
  · intro j u d hj q h0
    have hj' : L[j]? = some u := by
      rcases (get_snoc _ _ _ _).1 hj with p | ⟨pj, _⟩
      · exact p
      · omega
    by_cases p : j < i ∨ (j = i ∧ d.toNat < b)
    · obtain ⟨a1, k, w, a2, a3, a4, a5⟩ := h.fin j u d hj' p h0
      exact ⟨a1, k, w, (get_snoc _ _ _ _).2 (.inl a2), a3, a4, a5⟩
    · have hji : j = i := by omega
      subst hji
      rw [ht] at hj'
      obtain rfl := Option.some.inj hj'
      have hd : d = c := by
        have : d.toNat = c.toNat := by omega
        cases d <;> cases c <;> first | rfl | (exact absurd this (by decide))
      subst hd
      refine ⟨h2, L.length, _, (get_snoc _ _ _ _).2 (.inr ⟨rfl, rfl⟩), rfl, rfl, ?_⟩
      show val (t.2.2 ++ [d]) ≤ _
      omega
  · intro j u v hj hv2
    have hv' : L[i]? = some v := by
      rcases (get_snoc _ _ _ _).1 hv2 with p | ⟨pj, _⟩
      · exact p
      · omega
    rw [ht] at hv'
    obtain rfl := Option.some.inj hv'
    rcases (get_snoc _ _ _ _).1 hj with p | ⟨_, rfl⟩
    · have := h.top j u t p ht; omega
    · show val (t.2.2 ++ [c]) < _
      omega
theorem Inv.next (h : Inv e f n m x0 y0 L i 2) (hi : i < L.length) : Inv e f n m x0 y0 L (i + 1) 0 := by
  refine ⟨h.root, h.rng, h.runs, h.sorted, h.dist, ?_, ?_⟩
  · intro j t c hj q h0
    refine h.fin j t c hj ?_ h0
    have : c.toNat < 2 := by cases c <;> decide
    omega
  · intro j t u hj hu
    have h1 := h.top j t L[i] hj (List.getElem?_eq_getElem hi)
    have h2 := h.sorted i (i + 1) L[i] u (List.getElem?_eq_getElem hi) hu (by omega)
    omega
/-- Numbers below n that differ from one another are at most n. -/
theorem few (n : Nat) : ∀ (l : List Int), (∀ (j : Nat) x, l[j]? = some x → 0 ≤ x ∧ x < n) → (∀ (j k : Nat) x y, l[j]? = some x → l[k]? = some y → j < k → x ≠ y) → l.length ≤ n := by
  induction n with
  | zero =>
    intro l h _
    cases l with
    | nil => exact Nat.le_refl _
    | cons a l => have := h 0 a rfl; omega
  | succ n ih =>
    intro l h1 h2
    by_cases c : ∃ j : Nat, l[j]? = some (n : Int)
    · obtain ⟨j, hj⟩ := c
      have hjl : j < l.length := (List.getElem?_eq_some_iff.1 hj).1
      have := ih (l.eraseIdx j) (fun k x hk => by
          rw [List.getElem?_eraseIdx] at hk
          split at hk
          · have := h1 k x hk
            have : x ≠ n := h2 k j x n hk hj (by omega)
            omega
          · have := h1 _ x hk
            have : (n : Int) ≠ x := h2 j (k + 1) n x hj hk (by omega)
            omega) (fun k k' x y hk hk' q => by
          rw [List.getElem?_eraseIdx] at hk hk'
          split at hk <;> split at hk'
          · exact h2 _ _ x y hk hk' q
          · exact h2 _ _ x y hk hk' (by omega)
          · omega
          · exact h2 _ _ x y hk hk' (by omega))
      rw [List.length_eraseIdx_of_lt hjl] at this
      omega
    · have := ih l (fun k x hk => by
        have := h1 k x hk
        have : x ≠ n := fun q => c ⟨k, by rw [hk, q]⟩
        omega) h2
      omega
theorem Inv.bound (h : Inv e f n m x0 y0 L i b) : L.length ≤ n * m := by
  have := few (n * m) (L.map fun t => t.1 * m + t.2.1) (fun j x hj => by
    rw [List.getElem?_map] at hj
    obtain ⟨t, ht, rfl⟩ := Option.map_eq_some_iff.1 hj
    obtain ⟨a1, a2, a3, a4⟩ := h.rng j t ht
    have q1 : 0 ≤ t.1 * (m : Int) := Int.mul_nonneg a1 (Int.natCast_nonneg _)
    have q2 : (t.1 + 1) * (m : Int) ≤ (n : Int) * (m : Int) := Int.mul_le_mul_of_nonneg_right (by omega) (Int.natCast_nonneg _)
    rw [Int.add_mul, Int.one_mul] at q2
    rw [Int.natCast_mul]
    omega) (fun j k x y hj hk q => by
    rw [List.getElem?_map] at hj hk
    obtain ⟨t, ht, rfl⟩ := Option.map_eq_some_iff.1 hj
    obtain ⟨u, hu, rfl⟩ := Option.map_eq_some_iff.1 hk
    obtain ⟨a1, a2, a3, a4⟩ := h.rng j t ht
    obtain ⟨b1, b2, b3, b4⟩ := h.rng k u hu
    have hd := h.dist j k t u ht hu q
    intro he
    have e1 : t.1 = u.1 := by
      rcases Int.lt_trichotomy t.1 u.1 with p | p | p
      · have : (t.1 + 1) * (m : Int) ≤ u.1 * m := Int.mul_le_mul_of_nonneg_right (by omega) (Int.natCast_nonneg _)
        rw [Int.add_mul, Int.one_mul] at this
        omega
      · exact p
      · have : (u.1 + 1) * (m : Int) ≤ t.1 * m := Int.mul_le_mul_of_nonneg_right (by omega) (Int.natCast_nonneg _)
        rw [Int.add_mul, Int.one_mul] at this
        omega
    rw [e1] at he
    exact hd ⟨e1, by omega⟩)
  rw [List.length_map] at this
  exact this
end
end Th

namespace Th
/-- c numbers the classes of R by their firsts. -/
def Num (R : Nat → Nat → Prop) (c : List Int) : Prop := ∀ (x : Nat) v, c[x]? = some v → ∃ y, y ≤ x ∧ isF R y ∧ R y x ∧ v = (cnt R y : Int)
structure Eqv (R : Nat → Nat → Prop) : Prop where
  refl : ∀ x, R x x
  symm : ∀ {x y}, R x y → R y x
  trans : ∀ {x y z}, R x y → R y z → R x z
section
variable {R S : Nat → Nat → Prop}
theorem first_uniq (h : Eqv R) {a b x : Nat} (ha : isF R a) (hb : isF R b) (h1 : R a x) (h2 : R b x) : a = b := by
  have hab := h.trans h1 (h.symm h2)
  rcases Nat.lt_trichotomy a b with q | q | q
  · exact absurd hab (hb a q)
  · exact q
  · exact absurd (h.symm hab) (ha b q)
theorem cnt_succ_of (n : Nat) (h : isF R n) : cnt R (n + 1) = cnt R n + 1 := by rw [cnt, if_pos h]
theorem cnt_succ_not (n : Nat) (h : ¬ isF R n) : cnt R (n + 1) = cnt R n := by rw [cnt, if_neg h]; rfl
theorem cnt_le_of (a b : Nat) (h : a ≤ b) : cnt R a ≤ cnt R b := by
  induction b with
  | zero => rw [show a = 0 by omega]; exact Nat.le_refl _
  | succ b ih =>
    by_cases c : a = b + 1
    · rw [c]; exact Nat.le_refl _
    · have := ih (by omega)
      rw [cnt]; split <;> omega
theorem cnt_lt_of {a b : Nat} (ha : isF R a) (h : a < b) : cnt R a < cnt R b := by
  have h1 := cnt_succ_of a ha
  have h2 := cnt_le_of (R := R) (a + 1) b h
  omega
theorem Num.eq (h : Eqv R) {c d : List Int} (hc : Num R c) (hd : Num R d) (hl : c.length = d.length) : c = d := by
  refine List.ext_getElem? fun x => ?_
  by_cases q : x < c.length
  · have e1 := List.getElem?_eq_getElem q
    have e2 := List.getElem?_eq_getElem (hl ▸ q)
    obtain ⟨y, y1, y2, y3, y4⟩ := hc x _ e1
    obtain ⟨z, z1, z2, z3, z4⟩ := hd x _ e2
    rw [e1, e2, y4, z4, first_uniq h y2 z2 y3 z3]
  · rw [List.getElem?_eq_none (by omega), List.getElem?_eq_none (by omega)]
theorem Num.iff (h : Eqv R) {c : List Int} (hc : Num R c) {x y : Nat} {v w : Int} (hx : c[x]? = some v) (hy : c[y]? = some w) : v = w ↔ R x y := by
  obtain ⟨a, a1, a2, a3, a4⟩ := hc x v hx
  obtain ⟨b, b1, b2, b3, b4⟩ := hc y w hy
  constructor
  · intro e
    have e2 : cnt R a = cnt R b := by omega
    have : a = b := by
      rcases Nat.lt_trichotomy a b with q | q | q
      · have := cnt_lt_of a2 q; omega
      · exact q
      · have := cnt_lt_of b2 q; omega
    subst this
    exact h.trans (h.symm a3) b3
  · intro e
    have : a = b := first_uniq h a2 b2 (h.trans a3 e) b3
    subst this
    omega
theorem Num.lt {c : List Int} (hc : Num R c) {x : Nat} {v : Int} (hx : c[x]? = some v) : 0 ≤ v ∧ v < (cnt R (x + 1) : Nat) := by
  obtain ⟨a, a1, a2, a3, a4⟩ := hc x v hx
  have := cnt_lt_of a2 (show a < x + 1 by omega)
  omega
theorem Num.first (h : Eqv R) {c : List Int} (hc : Num R c) {x : Nat} {v : Int} (hx : c[x]? = some v) : v = (cnt R x : Nat) ↔ isF R x := by
  obtain ⟨a, a1, a2, a3, a4⟩ := hc x v hx
  constructor
  · intro e
    by_cases q : a = x
    · subst q; exact a2
    · have := cnt_lt_of a2 (show a < x by omega)
      omega
  · intro e
    rw [a4, first_uniq h a2 e a3 (h.refl x)]
theorem Num.snoc {c : List Int} (hc : Num R c) {v : Int} (h : ∃ y, y ≤ c.length ∧ isF R y ∧ R y c.length ∧ v = (cnt R y : Int)) : Num R (c ++ [v]) := by
  intro x w hx
  rw [List.getElem?_append] at hx
  split at hx
  · exact hc x w hx
  · rename_i q
    have hx2 : x - c.length = 0 := by
      rcases Nat.eq_zero_or_pos (x - c.length) with p | p
      · exact p
      · rw [List.getElem?_eq_none (by simp; omega)] at hx; cases hx
    rw [hx2] at hx
    have : x = c.length := by omega
    subst this
    obtain rfl := Option.some.inj hx
    exact h
theorem Num.nil : Num R [] := by intro x v h; simp at h
theorem cnt_congr (n : Nat) (h : ∀ x y, x < n → y < n → (R x y ↔ S x y)) : cnt R n = cnt S n ∧ ∀ x, x < n → (isF R x ↔ isF S x) := by
  have hf : ∀ x, x < n → (isF R x ↔ isF S x) := fun x hx => ⟨fun a y hy hs => a y hy ((h y x (by omega) hx).2 hs), fun a y hy hs => a y hy ((h y x (by omega) hx).1 hs)⟩
  refine ⟨?_, hf⟩
  have : ∀ m, m ≤ n → cnt R m = cnt S m := by
    intro m
    induction m with
    | zero => intro _; rfl
    | succ m ih =>
      intro hm
      rw [cnt, cnt, ih (by omega)]
      by_cases q : isF R m
      · rw [if_pos q, if_pos ((hf m (by omega)).1 q)]
      · rw [if_neg q, if_neg (fun p => q ((hf m (by omega)).2 p))]
  exact this n (Nat.le_refl _)
theorem Num.congr {c : List Int} (hc : Num R c) (h : ∀ x y, x < c.length → y < c.length → (R x y ↔ S x y)) : Num S c := by
  intro x v hx
  have hxl : x < c.length := (List.getElem?_eq_some_iff.1 hx).1
  obtain ⟨y, y1, y2, y3, y4⟩ := hc x v hx
  have hc2 := cnt_congr (R := R) (S := S) y (fun a b ha hb => h a b (by omega) (by omega))
  have hc3 := cnt_congr (R := R) (S := S) c.length h
  exact ⟨y, y1, (hc3.2 y (by omega)).1 y2, (h y x (by omega) hxl).1 y3, by rw [y4, hc2.1]⟩
open Classical in
/-- The firsts below n, in order. -/
noncomputable def fsts (R : Nat → Nat → Prop) : Nat → List Nat
  | 0 => []
  | n + 1 => fsts R n ++ (if isF R n then [n] else [])
theorem fsts_length (n : Nat) : (fsts R n).length = cnt R n := by
  induction n with
  | zero => rfl
  | succ n ih => rw [fsts, cnt, List.length_append, ih]; by_cases q : isF R n <;> simp [q]
theorem fsts_of (n : Nat) (h : isF R n) : fsts R (n + 1) = fsts R n ++ [n] := by rw [fsts, if_pos h]
theorem fsts_not (n : Nat) (h : ¬ isF R n) : fsts R (n + 1) = fsts R n := by rw [fsts, if_neg h, List.append_nil]
theorem fsts_get (n : Nat) : ∀ (i y : Nat), (fsts R n)[i]? = some y → isF R y ∧ y < n ∧ cnt R y = i := by
  induction n with
  | zero => intro i y h; simp [fsts] at h
  | succ n ih =>
    intro i y h
    by_cases q : isF R n
    · rw [fsts_of n q, List.getElem?_append] at h
      split at h
      · obtain ⟨a, b, c⟩ := ih i y h; exact ⟨a, by omega, c⟩
      · rename_i p
        rw [fsts_length] at p h
        have h0 : i - cnt R n = 0 := by
          rcases Nat.eq_zero_or_pos (i - cnt R n) with r | r
          · exact r
          · rw [List.getElem?_eq_none (by simp; omega)] at h; cases h
        rw [h0] at h
        obtain rfl := Option.some.inj h
        exact ⟨q, Nat.lt_succ_self _, by omega⟩
    · rw [fsts_not n q] at h
      obtain ⟨a, b, c⟩ := ih i y h; exact ⟨a, by omega, c⟩
theorem fsts_has (n : Nat) : ∀ y, isF R y → y < n → (fsts R n)[cnt R y]? = some y := by
  induction n with
  | zero => intro y _ h; omega
  | succ n ih =>
    intro y h1 h2
    by_cases c : y = n
    · subst c
      rw [fsts_of y h1, List.getElem?_append_right (by rw [fsts_length]; exact Nat.le_refl _), fsts_length, Nat.sub_self]
      rfl
    · have h3 := ih y h1 (by omega)
      rw [fsts, List.getElem?_append_left (List.getElem?_eq_some_iff.1 h3).1, h3]
end
end Th

/-- The bits as text. -/
def bc (c : Bool) : UInt8 := if c then 49 else 48
def txt (s : List Bool) : ByteArray := ⟨(s.map bc).toArray⟩
theorem txt_size (s : List Bool) : (txt s).size = s.length := by
  show (s.map bc).toArray.size = _
  rw [List.size_toArray, List.length_map]
theorem txt_l (s : List Bool) : (txt s).data.toList = s.map bc := rfl
theorem txt_snoc (s : List Bool) (c : Bool) : txt s ++ (⟨#[bc c]⟩ : ByteArray) = txt (s ++ [c]) := by
  apply ByteArray.ext
  apply Array.toList_inj.1
  rw [ByteArray.data_append, Array.toList_append]
  show s.map bc ++ [bc c] = (s ++ [c]).map bc
  rw [List.map_append]
  rfl
theorem bitOf_f (c : Bool) : impl_bitOf.f c = some (⟨#[bc c]⟩ : ByteArray) := by cases c <;> rfl
/-- A bit's edge in a valid graph. -/
def ed (g : List (List Int)) (x : Int) (c : Bool) : Int := rd (rd_L2 g x) (if c then 1 else 0)
theorem ed_facts {g : List (List Int)} (hv : VG g = true) {x : Int} (h0 : 0 ≤ x) (h1 : x < g.length) : (rd_L2 g x).length = 2 ∧ ∀ c, -1 ≤ ed g x c ∧ ed g x c < g.length := by
  obtain ⟨j, rfl⟩ := Int.eq_ofNat_of_zero_le h0
  obtain ⟨a, b, e, ha, hb, ha2, hb2⟩ := rows2_of hv j (by omega)
  unfold ed
  rw [e]
  exact ⟨rfl, fun c => by cases c
                          · exact ⟨ha2, ha⟩
                          · exact ⟨hb2, hb⟩⟩
theorem vf_pos (l : List Bool) : ∀ v, 1 ≤ v → v * 2 ^ l.length ≤ Th.vf v l ∧ Th.vf v l < (v + 1) * 2 ^ l.length := by
  induction l with
  | nil => intro v _; simp [Th.vf]
  | cons b l ih =>
    intro v hv
    have h := ih (2 * v + b.toNat) (by omega)
    have hb : b.toNat ≤ 1 := by cases b <;> decide
    show v * 2 ^ (l.length + 1) ≤ Th.vf (2 * v + b.toNat) l ∧ Th.vf (2 * v + b.toNat) l < (v + 1) * 2 ^ (l.length + 1)
    rw [Nat.pow_succ]
    have p1 : (2 * v + b.toNat) * 2 ^ l.length = 2 * v * 2 ^ l.length + b.toNat * 2 ^ l.length := Nat.add_mul _ _ _
    have p2 : (2 * v + b.toNat + 1) * 2 ^ l.length = 2 * v * 2 ^ l.length + b.toNat * 2 ^ l.length + 2 ^ l.length := by rw [Nat.add_mul, Nat.add_mul, Nat.one_mul]
    have p3 : v * (2 ^ l.length * 2) = 2 * v * 2 ^ l.length := by rw [Nat.mul_comm (2 ^ l.length) 2, ← Nat.mul_assoc, Nat.mul_comm v 2]
    have p4 : (v + 1) * (2 ^ l.length * 2) = 2 * v * 2 ^ l.length + 2 * 2 ^ l.length := by rw [Nat.add_mul, p3, Nat.one_mul, Nat.mul_comm (2 ^ l.length) 2]
    have p5 : b.toNat * 2 ^ l.length ≤ 1 * 2 ^ l.length := Nat.mul_le_mul_right _ hb
    rw [p1, p2] at h
    rw [p3, p4]
    omega
theorem vf_inj (l : List Bool) : ∀ (m : List Bool) (u v : Nat), 1 ≤ u → 1 ≤ v → l.length = m.length → Th.vf u l = Th.vf v m → u = v ∧ l = m := by
  induction l with
  | nil =>
    intro m u v _ _ hl h
    cases m with
    | nil => exact ⟨h, rfl⟩
    | cons _ _ => cases hl
  | cons b l ih =>
    intro m u v hu hv hl h
    cases m with
    | nil => cases hl
    | cons c m =>
      have h2 := ih m (2 * u + b.toNat) (2 * v + c.toNat) (by omega) (by omega) (Nat.succ.inj hl) h
      obtain ⟨e, e2⟩ := h2
      have hb : b.toNat ≤ 1 := by cases b <;> decide
      have hc : c.toNat ≤ 1 := by cases c <;> decide
      have e3 : b.toNat = c.toNat := by omega
      refine ⟨by omega, ?_⟩
      rw [e2]
      cases b <;> cases c <;> first | rfl | (exact absurd e3 (by decide))
theorem val_len {s t : List Bool} (h : Th.val s ≤ Th.val t) : s.length ≤ t.length := by
  have h1 := (vf_pos s 1 (Nat.le_refl _)).1
  have h2 := (vf_pos t 1 (Nat.le_refl _)).2
  refine Nat.le_of_not_lt fun c => ?_
  have h3 : 2 ^ (t.length + 1) ≤ 2 ^ s.length := Nat.pow_le_pow_right (by decide) c
  rw [Nat.pow_succ] at h3
  have h4 : Th.vf 1 s ≤ Th.vf 1 t := h
  omega
theorem val_inj {s t : List Bool} (h : Th.val s = Th.val t) : s = t := by
  have h1 := val_len (Nat.le_of_eq h)
  have h2 := val_len (Nat.le_of_eq h.symm)
  exact (vf_inj s t 1 1 (Nat.le_refl _) (Nat.le_refl _) (by omega) h).2
/-- What the first telling bits are. -/
def TellP (g h : List (List Int)) (x y : Int) (r : ByteArray × Bool) : Prop :=
  (r.2 = true ∧ ∃ s, r.1 = txt s ∧ s.length ≤ 144 ∧ Th.ok (ed g) x s ∧ ¬ Th.ok (ed h) y s ∧ ∀ own, Th.ok (ed g) x own → ¬ Th.ok (ed h) y own → Th.val s ≤ Th.val own) ∨
  (r.2 = false ∧ r.1 = (⟨#[]⟩ : ByteArray) ∧ ∀ own, Th.ok (ed g) x own → Th.ok (ed h) y own)
theorem TellP.uniq {g h : List (List Int)} {x y : Int} {r r' : ByteArray × Bool} (a : TellP g h x y r) (b : TellP g h x y r') : r = r' := by
  rcases a with ⟨a1, s, a2, -, a3, a4, a5⟩ | ⟨a1, a2, a3⟩ <;> rcases b with ⟨b1, t, b2, -, b3, b4, b5⟩ | ⟨b1, b2, b3⟩
  · have e := val_inj (Nat.le_antisymm (a5 t b3 b4) (b5 s a3 a4))
    subst e
    exact Prod.ext (a2.trans b2.symm) (a1.trans b1.symm)
  · exact absurd (b3 s a3) a4
  · exact absurd (a3 t b3) b4
  · exact Prod.ext (a2.trans b2.symm) (a1.trans b1.symm)
/-- An item is no longer than its place. -/
def Short (L : List Th.Item) : Prop := ∀ (j : Nat) t, L[j]? = some t → t.2.2.length ≤ j
theorem Short.push {L : List Th.Item} (h : Short L) {i : Nat} {t : Th.Item} (ht : L[i]? = some t) (a b : Int) (c : Bool) : Short (L ++ [(a, b, t.2.2 ++ [c])]) := by
  intro j u hj
  rcases (Th.get_snoc _ _ _ _).1 hj with p | ⟨p, rfl⟩
  · exact h j u p
  · have h1 := h i t ht
    have h2 := (List.getElem?_eq_some_iff.1 ht).1
    show (t.2.2 ++ [c]).length ≤ j
    rw [List.length_append]
    show t.2.2.length + 1 ≤ j
    omega
def Seen (sn : List (Int × Int)) (L : List Th.Item) : Prop := sn.length = L.length ∧ ∀ p, p ∈ sn ↔ ∃ t ∈ L, p = (t.1, t.2.1)
theorem Seen.push {sn : List (Int × Int)} {L : List Th.Item} (h : Seen sn L) (a b : Int) (s : List Bool) : Seen ((a, b) :: sn) (L ++ [(a, b, s)]) := by
  refine ⟨by rw [List.length_cons, List.length_append, h.1]; rfl, fun p => ?_⟩
  rw [List.mem_cons, h.2]
  constructor
  · rintro (rfl | ⟨t, ht, rfl⟩)
    · exact ⟨_, List.mem_append.2 (.inr (List.mem_singleton.2 rfl)), rfl⟩
    · exact ⟨t, List.mem_append.2 (.inl ht), rfl⟩
  · rintro ⟨t, ht, rfl⟩
    rcases List.mem_append.1 ht with q | q
    · exact .inr ⟨t, q, rfl⟩
    · rw [List.mem_singleton.1 q]; exact .inl rfl
theorem wf_small {x : Int} (h0 : -100 ≤ x) (h1 : x ≤ 100) : (Lit.int .i64 x).wf = true := by
  have e1 : IntKind.i64.min = -9223372036854775808 := rfl
  have e2 : IntKind.i64.max = 9223372036854775807 := rfl
  unfold Lit.wf
  simp only [e1, e2, decide_eq_true_eq, Bool.and_eq_true]
  omega
def toQ (t : Th.Item) : S78 := ⟨⟨t.1, t.2.1⟩, txt t.2.2⟩
theorem rdQ {L : List Th.Item} {i : Nat} {t : Th.Item} (h : L[i]? = some t) : rd_T78 ((L.drop i).map toQ) 0 = toQ t := by
  have hl := (List.getElem?_eq_some_iff.1 h)
  have e : L.drop i = t :: L.drop (i + 1) := by rw [drop_cons L i hl.1, hl.2]
  rw [e]
  rfl
section
variable (g h : List (List Int)) (vg : VG g = true) (vh : VG h = true) (x0 y0 : Int)
include vg vh
theorem impl_tell_loop (N : Nat) (hN : N = g.length * h.length) (d : Nat) : ∀ (L : List Th.Item) (i b : Nat) (sn : List (Int × Int)) (t : Th.Item), Th.Inv (ed g) (ed h) g.length h.length x0 y0 L i b → Short L → Seen sn L → L[i]? = some t → b ≤ 2 → 3 * N ≤ 3 * i + b + d →
    ∃ r, TellP g h x0 y0 r ∧ Ev (fun k => impl_telling.l1 k sn ((L.drop i).map toQ) (b : Int) g h t.1 t.2.1 (txt t.2.2)) r := by
  have g12 := (VG_iff vg).1.2
  have h12 := (VG_iff vh).1.2
  have hNb : N ≤ 144 := by rw [hN]; exact Nat.mul_le_mul g12 h12
  induction d with
  | zero =>
    intro L i b sn t hI _ _ ht hb hd
    have := hI.bound
    have := (List.getElem?_eq_some_iff.1 ht).1
    omega
  | succ d ih =>
    intro L i b sn t hI hS hSn ht hb hd
    have hL := hI.bound
    rw [← hN] at hL
    have hil := (List.getElem?_eq_some_iff.1 ht).1
    obtain ⟨r1, r2, r3, r4⟩ := hI.rng i t ht
    obtain ⟨lg, eg⟩ := ed_facts vg r1 r2
    obtain ⟨lh, eh⟩ := ed_facts vh r3 r4
    have hst := hS i t ht
    by_cases cb : b = 2
    · subst cb
      have hI2 := hI.next hil
      have hdr : ((L.drop i).map toQ).length = L.length - i := by rw [List.length_map, List.length_drop]
      by_cases ce : i + 1 < L.length
      · obtain ⟨t2, ht2⟩ : ∃ t2, L[i + 1]? = some t2 := ⟨_, List.getElem?_eq_getElem ce⟩
        obtain ⟨r, p, e⟩ := ih L (i + 1) 0 sn t2 hI2 hS hSn ht2 (by omega) (by omega)
        refine ⟨r, p, Ev.step (fun k => ?_) (Ev.step (g := fun k => impl_telling.l0 k sn ((L.drop (i + 1)).map toQ) g h) (fun k => ?_) e)⟩
        · rw [impl_telling.l1, if_neg (by omega), if_pos (by omega), ← List.map_drop, List.drop_drop]
          rfl
        · rw [impl_telling.l0, if_pos (by rw [List.length_map, List.length_drop]; omega), if_pos (by rw [List.length_map, List.length_drop]; omega), rdQ ht2]
          rfl
      · refine ⟨((⟨#[]⟩ : ByteArray), false), .inr ⟨rfl, rfl, hI2.none_tells (by omega)⟩, Ev.step (fun k => ?_) (ev_one (g := fun k => impl_telling.l0 k sn ((L.drop (i + 1)).map toQ) g h) (fun k => ?_))⟩
        · rw [impl_telling.l1, if_neg (by omega), if_pos (by omega), ← List.map_drop, List.drop_drop]
          rfl
        · rw [impl_telling.l0, if_neg (by rw [List.length_map, List.length_drop]; omega)]
    · obtain ⟨c, hc, hci⟩ : ∃ c : Bool, c.toNat = b ∧ (b : Int) = (if c then 1 else 0) := by
        have : b = 0 ∨ b = 1 := by omega
        rcases this with rfl | rfl
        · exact ⟨false, rfl, rfl⟩
        · exact ⟨true, rfl, rfl⟩
      have hbit : ((b : Int) == 1) = c := by rw [hci]; cases c <;> rfl
      have hbc : impl_bitOf.f ((b : Int) == 1) = some (⟨#[bc c]⟩ : ByteArray) := by rw [hbit, bitOf_f]
      have he : rd (rd_L2 g t.1) (b : Int) = ed g t.1 c := by rw [hci]; rfl
      have hf : rd (rd_L2 h t.2.1) (b : Int) = ed h t.2.1 c := by rw [hci]; rfl
      have hw := Aside0.mk (show wrap64 ((b : Int) + 1) = ((b + 1 : Nat) : Int) by rw [wrap64_in (by omega) (by omega)]; omega)
      have hz1 : (⟨#[bc c]⟩ : ByteArray).size = 1 := rfl
      have q1 : (txt t.2.2).size + (⟨#[bc c]⟩ : ByteArray).size ≤ 9223372036854775807 := by rw [hz1, txt_size]; omega
      have e1 := eg c
      have e2 := eh c
      have hstep : ∀ k, impl_telling.l1 (k + 1) sn ((L.drop i).map toQ) (b : Int) g h t.1 t.2.1 (txt t.2.2) = (if ed g t.1 c < 0 then (impl_telling.l1 k sn ((L.drop i).map toQ) ((b + 1 : Nat) : Int) g h t.1 t.2.1 (txt t.2.2)) else (if ed h t.2.1 c < 0 then (some (txt t.2.2 ++ (⟨#[bc c]⟩ : ByteArray), true)) else (if (Lit.int .i64 (ed g t.1 c)).wf = true ∧ (Lit.int .i64 (ed h t.2.1 c)).wf = true ∧ sn.length < 1000000 then (if (ed g t.1 c, ed h t.2.1 c) ∈ sn then (impl_telling.l1 k sn ((L.drop i).map toQ) ((b + 1 : Nat) : Int) g h t.1 t.2.1 (txt t.2.2)) else (if ((L.drop i).map toQ).length < 4398046511104 then (impl_telling.l1 k ((ed g t.1 c, ed h t.2.1 c) :: sn) ((L.drop i).map toQ ++ [(⟨(⟨ed g t.1 c, ed h t.2.1 c⟩ : S75), txt t.2.2 ++ (⟨#[bc c]⟩ : ByteArray)⟩ : S78)]) ((b + 1 : Nat) : Int) g h t.1 t.2.1 (txt t.2.2)) else (none))) else none))) := by
        intro k
        rw [impl_telling.l1, if_pos (by omega), if_pos r1, if_pos r2, if_pos (by omega), if_pos (by omega), if_pos r3, if_pos r4, if_pos (by omega), hbc, Option.bind_some, if_pos q1, he, hf, hw.out]
      by_cases c1 : ed g t.1 c < 0
      · obtain ⟨r, p, e⟩ := ih L i (b + 1) sn t (hI.keep c hc t ht (fun q => by omega)) hS hSn ht (by omega) (by omega)
        exact ⟨r, p, Ev.step (fun k => by rw [hstep, if_pos c1]) e⟩
      · by_cases c2 : ed h t.2.1 c < 0
        · obtain ⟨f1, f2, f3⟩ := hI.found c hc t ht (by omega) c2
          refine ⟨(txt (t.2.2 ++ [c]), true), .inl ⟨rfl, _, rfl, by rw [List.length_append]; show t.2.2.length + 1 ≤ 144; omega, f1, f2, f3⟩, ev_one (fun k => ?_)⟩
          rw [hstep, if_neg c1, if_pos c2, txt_snoc]
        · have hwf : (Lit.int .i64 (ed g t.1 c)).wf = true ∧ (Lit.int .i64 (ed h t.2.1 c)).wf = true ∧ sn.length < 1000000 := ⟨wf_small (by omega) (by omega), wf_small (by omega) (by omega), by rw [hSn.1]; omega⟩
          by_cases c3 : (ed g t.1 c, ed h t.2.1 c) ∈ sn
          · obtain ⟨u, hu, eu⟩ := (hSn.2 _).1 c3
            obtain ⟨j, hj⟩ := List.getElem?_of_mem hu
            injection eu with eu1 eu2
            obtain ⟨r, p, e⟩ := ih L i (b + 1) sn t (hI.keep c hc t ht (fun q => ⟨by omega, j, u, hj, eu1.symm, eu2.symm⟩)) hS hSn ht (by omega) (by omega)
            exact ⟨r, p, Ev.step (fun k => by rw [hstep, if_neg c1, if_neg c2, if_pos hwf, if_pos c3]) e⟩
          · have hI2 := hI.push c hc t ht (by omega) (by omega) e1.2 e2.2 (fun k u hk q => c3 ((hSn.2 _).2 ⟨u, List.mem_of_getElem? hk, by rw [q.1, q.2]⟩))
            have ht2 : (L ++ [(ed g t.1 c, ed h t.2.1 c, t.2.2 ++ [c])])[i]? = some t := by rw [List.getElem?_append_left hil]; exact ht
            obtain ⟨r, p, e⟩ := ih _ i (b + 1) ((ed g t.1 c, ed h t.2.1 c) :: sn) t hI2 (hS.push ht _ _ _) (hSn.push _ _ _) ht2 (by omega) (by omega)
            refine ⟨r, p, Ev.step (fun k => ?_) e⟩
            rw [hstep, if_neg c1, if_neg c2, if_pos hwf, if_neg c3, if_pos (by rw [List.length_map, List.length_drop]; omega), txt_snoc, List.drop_append_of_le_length (by omega), List.map_append]
            rfl
theorem impl_tell (hx : 0 ≤ x0 ∧ x0 < g.length) (hy : 0 ≤ y0 ∧ y0 < h.length) : ∃ r, TellP g h x0 y0 r ∧ Ev (fun k => impl_telling.f k g h x0 y0) r := by
  have g12 := (VG_iff vg).1.2
  have h12 := (VG_iff vh).1.2
  obtain ⟨r, p, e⟩ := impl_tell_loop g h vg vh x0 y0 _ rfl (3 * (g.length * h.length)) [(x0, y0, [])] 0 0 [(x0, y0)] (x0, y0, []) (Th.Inv.start hx hy)
    (fun j t hj => by
      cases j with
      | zero => rw [← Option.some.inj hj]; exact Nat.le_refl _
      | succ j => simp at hj)
    ⟨rfl, fun p => by simp⟩ rfl (by omega) (by omega)
  refine ⟨r, p, ?_⟩
  unfold impl_telling.f
  refine ev_pos ⟨wf_small (by omega) (by omega), wf_small (by omega) (by omega)⟩ (Ev.step (fun k => ?_) e)
  rw [impl_telling.l0, if_pos (by show ((1 : Nat) : Int) > 0; decide), if_pos (by show (0 : Int) < ((1 : Nat) : Int); decide)]
  rfl
end

theorem VG_some {g : List (List Int)} (vg : VG g = true) {x : Int} (h0 : 0 ≤ x) (h1 : x < g.length) : 0 ≤ ed g x false ∨ 0 ≤ ed g x true := by
  obtain ⟨j, rfl⟩ := Int.eq_ofNat_of_zero_le h0
  obtain ⟨_, h2⟩ := VG_iff vg
  obtain ⟨a, b, e, ha, hb, hab⟩ := h2 g[j] (List.getElem_mem (by omega))
  have e2 : rd_L2 g (j : Int) = [a, b] := by rw [rdL_get _ _ (by omega), e]
  unfold ed
  rw [e2]
  show 0 ≤ a ∨ 0 ≤ b
  omega
def RA (g : List (List Int)) (x y : Nat) : Prop := Th.Alike (ed g) (x : Int) (y : Int)
theorem RA.eqv (g : List (List Int)) : Th.Eqv (RA g) := ⟨fun _ _ => Iff.rfl, fun h s => (h s).symm, fun h k s => (h s).trans (k s)⟩
theorem alike_ev (g : List (List Int)) (vg : VG g = true) (x y : Nat) (hx : x < g.length) (hy : y < g.length) : ∃ b, Ev (fun k => impl_Graph_alike.f k g (x : Int) (y : Int)) b ∧ (b = true ↔ RA g x y) := by
  obtain ⟨r, p, e⟩ := impl_tell g g vg vg (x : Int) (y : Int) ⟨by omega, by omega⟩ ⟨by omega, by omega⟩
  obtain ⟨r', p', e'⟩ := impl_tell g g vg vg (y : Int) (x : Int) ⟨by omega, by omega⟩ ⟨by omega, by omega⟩
  unfold impl_Graph_alike.f
  rcases p with ⟨p1, s, -, -, p3, p4, -⟩ | ⟨p1, -, p3⟩
  · refine ⟨false, Ev.bind e (Ev.bind e' (ev_pos p1 (Ev.now _))), fun h => (by cases h), fun h => absurd ((h s).1 p3) p4⟩
  · rcases p' with ⟨q1, s, -, -, q3, q4, -⟩ | ⟨q1, -, q3⟩
    · refine ⟨false, Ev.bind e (Ev.bind e' (ev_neg (by rw [p1]; exact Bool.false_ne_true) ?_)), fun h => (by cases h), fun h => absurd ((h s).2 q3) q4⟩
      rw [q1]; exact Ev.now _
    · refine ⟨true, Ev.bind e (Ev.bind e' (ev_neg (by rw [p1]; exact Bool.false_ne_true) ?_)), fun _ s => ⟨p3 s, q3 s⟩, fun _ => rfl⟩
      rw [q1]; exact Ev.now _
theorem index_loop (g : List (List Int)) (vg : VG g = true) (x : Nat) (hx : x < g.length) (fs : List Nat) (hf : ∀ y ∈ fs, y < g.length) (hn : fs.length ≤ 100) (d : Nat) : ∀ i : Nat, i + d = fs.length →
    ∃ r : Int, Ev (fun k => slices_IndexFunc_int64_int64.l0 k (fs.map Int.ofNat) g (x : Int) (i : Int)) r ∧ ((r = -1 ∧ ∀ y ∈ fs.drop i, ¬ RA g x y) ∨ ∃ (j y : Nat), r = (j : Int) ∧ fs[j]? = some y ∧ RA g x y) := by
  have hl : (fs.map Int.ofNat).length = fs.length := List.length_map _
  induction d with
  | zero =>
    intro i hi
    refine ⟨-1, ev_one (fun k => by rw [slices_IndexFunc_int64_int64.l0, if_neg (by omega)]), .inl ⟨rfl, ?_⟩⟩
    rw [List.drop_eq_nil_of_le (by omega)]
    intro y hy; cases hy
  | succ d ih =>
    intro i hi
    have hil : i < fs.length := by omega
    have hy := hf _ (List.getElem_mem hil)
    have hr : rd (fs.map Int.ofNat) (i : Int) = ((fs[i] : Nat) : Int) := by
      rw [rd_get _ _ (by omega), List.getElem_map]; rfl
    have hw := Aside0.mk (wrap_succ (j := i) (n := fs.length) hil (by omega))
    obtain ⟨b, e, hb⟩ := alike_ev g vg x fs[i] hx hy
    cases b with
    | true =>
      refine ⟨(i : Int), Ev.step (fun k => ?_) (Ev.bind (f := fun k b => if b = true then some (i : Int) else slices_IndexFunc_int64_int64.l0 k (fs.map Int.ofNat) g (x : Int) (wrap64 ((i : Int) + 1))) e (ev_pos rfl (Ev.now _))), .inr ⟨i, fs[i], rfl, List.getElem?_eq_getElem hil, hb.1 rfl⟩⟩
      rw [slices_IndexFunc_int64_int64.l0, if_pos (by omega), if_pos (by omega), hr]
    | false =>
      obtain ⟨r, r1, r2⟩ := ih (i + 1) (by omega)
      refine ⟨r, Ev.step (fun k => ?_) (Ev.bind (f := fun k b => if b = true then some (i : Int) else slices_IndexFunc_int64_int64.l0 k (fs.map Int.ofNat) g (x : Int) (wrap64 ((i : Int) + 1))) e (ev_neg Bool.false_ne_true ?_)), ?_⟩
      · rw [slices_IndexFunc_int64_int64.l0, if_pos (by omega), if_pos (by omega), hr]
      · rw [hw.out]; exact r1
      · rcases r2 with ⟨r3, r4⟩ | r3
        · refine .inl ⟨r3, fun y hy2 => ?_⟩
          rw [drop_cons fs i hil] at hy2
          rcases List.mem_cons.1 hy2 with rfl | q
          · exact fun h => Bool.false_ne_true (hb.2 h)
          · exact r4 y q
        · exact .inr r3
/-- A state's class, -1 of none. -/
def clsI (tc : List Int) (z : Int) : Int := if z < 0 then -1 else rd tc z
def rowM (g : List (List Int)) (tc : List Int) (y : Nat) : List Int := [clsI tc (ed g (y : Int) false), clsI tc (ed g (y : Int) true)]
def outM (g : List (List Int)) (tc : List Int) (fs : List Nat) : List (List Int) := fs.map (rowM g tc)
theorem mg_row (g : List (List Int)) (tc F : List Int) (L i : Int) (out : List (List Int)) (ho : out.length ≤ 1000) (a b : Int) (ha : a < tc.length) (hb : b < tc.length) (R : (List (List Int)) × List Int × Bool)
    (hR : Ev (fun k => impl_MergeGraph.l1 k tc F L (wrap64 (i + 1)) g (out ++ [[clsI tc a, clsI tc b]])) R) : Ev (fun k => impl_MergeGraph.l2 k tc [-1, -1] F L i [a, b] 2 0 g out) R := by
  have l2 : (([a, b] : List Int).length : Int) = 2 := rfl
  have s3 : ∀ e, e = [clsI tc a, clsI tc b] → Ev (fun k => impl_MergeGraph.l2 k tc e F L i [a, b] 2 2 g out) R := by
    intro e he
    subst he
    exact Ev.step (fun k => by rw [impl_MergeGraph.l2, if_neg (by decide), if_pos (by omega)]) hR
  have s2 : ∀ e, e = [clsI tc a, -1] → Ev (fun k => impl_MergeGraph.l2 k tc e F L i [a, b] 2 1 g out) R := by
    intro e he
    have r1 : rd [a, b] 1 = b := rfl
    have el : ((e.length : Nat) : Int) = 2 := by rw [he]; rfl
    by_cases c : b ≥ 0
    · refine Ev.step (fun k => ?_) (s3 (e.set (1 : Int).toNat (rd tc b)) (by rw [he]; show [clsI tc a, rd tc b] = _; rw [show clsI tc b = rd tc b from if_neg (by omega)]))
      rw [impl_MergeGraph.l2, if_pos (by decide), if_pos (by decide), l2, if_pos (by decide), r1, if_pos c, if_pos c, if_pos hb, el, if_pos (by decide), w11]
    · refine Ev.step (fun k => ?_) (s3 e (by rw [he, show clsI tc b = -1 from if_pos (by omega)]))
      rw [impl_MergeGraph.l2, if_pos (by decide), if_pos (by decide), l2, if_pos (by decide), r1, if_neg c, w11]
  have r0 : rd [a, b] 0 = a := rfl
  have el : (((([-1, -1] : List Int)).length : Nat) : Int) = 2 := rfl
  by_cases c : a ≥ 0
  · refine Ev.step (fun k => ?_) (s2 (([-1, -1] : List Int).set (0 : Int).toNat (rd tc a)) (by show [rd tc a, -1] = _; rw [show clsI tc a = rd tc a from if_neg (by omega)]))
    rw [impl_MergeGraph.l2, if_pos (by decide), if_pos (by decide), l2, if_pos (by decide), r0, if_pos c, if_pos c, if_pos ha, el, if_pos (by decide), w01]
  · refine Ev.step (fun k => ?_) (s2 [-1, -1] (by rw [show clsI tc a = -1 from if_pos (by omega)]))
    rw [impl_MergeGraph.l2, if_pos (by decide), if_pos (by decide), l2, if_pos (by decide), r0, if_neg c, w01]
theorem mg_l1 (g : List (List Int)) (vg : VG g = true) (tc : List Int) (hto : tc.length = g.length) (fs : List Nat) (hf : ∀ y ∈ fs, y < g.length) (hn : fs.length ≤ 100) (d : Nat) : ∀ i : Nat, i + d = fs.length →
    Ev (fun k => impl_MergeGraph.l1 k tc (fs.map Int.ofNat) (fs.length : Int) (i : Int) g (outM g tc (fs.take i))) (outM g tc fs, tc, true) := by
  have hl : (fs.map Int.ofNat).length = fs.length := List.length_map _
  induction d with
  | zero =>
    intro i hi
    rw [List.take_of_length_le (by omega)]
    exact ev_one (fun k => by rw [impl_MergeGraph.l1, if_neg (by omega)])
  | succ d ih =>
    intro i hi
    have hil : i < fs.length := by omega
    have hy := hf _ (List.getElem_mem hil)
    have hr : rd (fs.map Int.ofNat) (i : Int) = ((fs[i] : Nat) : Int) := by
      rw [rd_get _ _ (by omega), List.getElem_map]; rfl
    have hw := Aside0.mk (wrap_succ (j := i) (n := fs.length) hil (by omega))
    obtain ⟨a, b, e, ha, hb, -, -⟩ := rows2_of vg fs[i] hy
    have ea : ed g ((fs[i] : Nat) : Int) false = a := by unfold ed; rw [e]; rfl
    have eb : ed g ((fs[i] : Nat) : Int) true = b := by unfold ed; rw [e]; rfl
    have hol : (outM g tc (fs.take i)).length ≤ 1000 := by
      unfold outM; rw [List.length_map, List.length_take]; omega
    have i2 := ih (i + 1) (by omega)
    have et : outM g tc (fs.take (i + 1)) = outM g tc (fs.take i) ++ [[clsI tc a, clsI tc b]] := by
      unfold outM
      rw [take_snoc' fs i hil, List.map_append]
      show _ ++ [rowM g tc fs[i]] = _
      unfold rowM
      rw [ea, eb]
    rw [et, ← hw.out] at i2
    refine Ev.step (fun k => ?_) (mg_row g tc (fs.map Int.ofNat) (fs.length : Int) (i : Int) _ hol a b (by omega) (by omega) _ i2)
    rw [impl_MergeGraph.l1, if_pos (by omega), if_pos (by omega), if_pos (by omega), hr, if_pos (by omega), if_pos (by omega), e]
    rfl
theorem mg_l0 (g : List (List Int)) (vg : VG g = true) (d : Nat) : ∀ (x : Nat) (tc : List Int), x + d = g.length → tc.length = x → Th.Num (RA g) tc →
    ∃ tc', tc'.length = g.length ∧ Th.Num (RA g) tc' ∧ Ev (fun k => impl_MergeGraph.l0 k ((Th.fsts (RA g) x).map Int.ofNat) tc (g.length : Int) (x : Int) g) (outM g tc' (Th.fsts (RA g) g.length), tc', true) := by
  have g12 := (VG_iff vg).1
  have fl : ∀ x, (Th.fsts (RA g) x).length ≤ x := fun x => by rw [Th.fsts_length]; exact Th.cnt_le _ _
  have fm : ∀ x, ∀ y ∈ Th.fsts (RA g) x, Th.isF (RA g) y ∧ y < x ∧ (Th.fsts (RA g) x)[Th.cnt (RA g) y]? = some y := fun x y hy => by
    obtain ⟨j, hj⟩ := List.getElem?_of_mem hy
    have h1 := Th.fsts_get x j y hj
    exact ⟨h1.1, h1.2.1, Th.fsts_has x y h1.1 h1.2.1⟩
  induction d with
  | zero =>
    intro x tc hx hl hN
    obtain rfl : x = g.length := by omega
    refine ⟨tc, by omega, hN, ?_⟩
    have h1 := mg_l1 g vg tc (by omega) (Th.fsts (RA g) g.length) (fun y hy => (fm _ y hy).2.1) (by have := fl g.length; omega) (Th.fsts (RA g) g.length).length 0 (by omega)
    refine Ev.step (fun k => ?_) h1
    rw [impl_MergeGraph.l0, if_neg (by omega), List.length_map]
    rfl
  | succ d ih =>
    intro x tc hx hl hN
    have hxl : x < g.length := by omega
    have hw := Aside0.mk (wrap_succ (j := x) (n := g.length) hxl (by omega))
    obtain ⟨r, r1, r2⟩ := index_loop g vg x hxl (Th.fsts (RA g) x) (fun y hy => by have := (fm x y hy).2.1; omega) (by have := fl x; omega) (Th.fsts (RA g) x).length 0 (by omega)
    have r1' : Ev (fun k => slices_IndexFunc_int64_int64.f k ((Th.fsts (RA g) x).map Int.ofNat) g (x : Int)) r := r1
    have hml : ((Th.fsts (RA g) x).map Int.ofNat).length = Th.cnt (RA g) x := by rw [List.length_map, Th.fsts_length]
    have hcl := Th.cnt_le (RA g) x
    rcases r2 with ⟨rfl, r3⟩ | ⟨j, y, rfl, r3, r4⟩
    · have hF : Th.isF (RA g) x := by
        intro y hy hR
        obtain ⟨z, z1, z2, z3⟩ := Th.has_first (RA g) (RA.eqv g).refl (fun _ _ _ => (RA.eqv g).trans) y
        have hz := List.mem_of_getElem? (Th.fsts_has x z z2 (by omega))
        exact r3 z (by rw [List.drop_zero]; exact hz) ((RA.eqv g).symm ((RA.eqv g).trans z3 hR))
      obtain ⟨tc', t1, t2, t3⟩ := ih (x + 1) (tc ++ [((Th.cnt (RA g) x : Nat) : Int)]) (by omega) (by rw [List.length_append, hl]; rfl) (hN.snoc ⟨x, by omega, hF, by rw [hl]; exact (RA.eqv g).refl x, rfl⟩)
      refine ⟨tc', t1, t2, Ev.step (fun k => ?_) (Ev.bind (f := fun k t => if t < 0 then (if ((Th.fsts (RA g) x).map Int.ofNat).length < 17592186044416 then (if tc.length < 17592186044416 then (impl_MergeGraph.l0 k ((Th.fsts (RA g) x).map Int.ofNat ++ [(x : Int)]) (tc ++ [(((Th.fsts (RA g) x).map Int.ofNat).length : Int)]) (g.length : Int) (wrap64 ((x : Int) + 1)) g) else (none)) else (none)) else (if tc.length < 17592186044416 then (impl_MergeGraph.l0 k ((Th.fsts (RA g) x).map Int.ofNat) (tc ++ [t]) (g.length : Int) (wrap64 ((x : Int) + 1)) g) else (none))) r1' ?_)⟩
      · rw [impl_MergeGraph.l0, if_pos (by omega)]
      · refine ev_pos (by decide) (ev_pos (by omega) (ev_pos (by omega) ?_))
        rw [hml, hw.out]
        rw [Th.fsts_of x hF, List.map_append] at t3
        exact t3
    · have hy := Th.fsts_get x j y r3
      have hF : ¬ Th.isF (RA g) x := fun q => q y hy.2.1 ((RA.eqv g).symm r4)
      obtain ⟨tc', t1, t2, t3⟩ := ih (x + 1) (tc ++ [(j : Int)]) (by omega) (by rw [List.length_append, hl]; rfl) (hN.snoc ⟨y, by omega, hy.1, by rw [hl]; exact (RA.eqv g).symm r4, by rw [hy.2.2]⟩)
      refine ⟨tc', t1, t2, Ev.step (fun k => ?_) (Ev.bind (f := fun k t => if t < 0 then (if ((Th.fsts (RA g) x).map Int.ofNat).length < 17592186044416 then (if tc.length < 17592186044416 then (impl_MergeGraph.l0 k ((Th.fsts (RA g) x).map Int.ofNat ++ [(x : Int)]) (tc ++ [(((Th.fsts (RA g) x).map Int.ofNat).length : Int)]) (g.length : Int) (wrap64 ((x : Int) + 1)) g) else (none)) else (none)) else (if tc.length < 17592186044416 then (impl_MergeGraph.l0 k ((Th.fsts (RA g) x).map Int.ofNat) (tc ++ [t]) (g.length : Int) (wrap64 ((x : Int) + 1)) g) else (none))) r1' ?_)⟩
      · rw [impl_MergeGraph.l0, if_pos (by omega)]
      · refine ev_neg (by omega) (ev_pos (by omega) ?_)
        rw [hw.out]
        rw [Th.fsts_not x hF] at t3
        exact t3
theorem merge_ev (g : List (List Int)) (vg : VG g = true) : ∃ tc, tc.length = g.length ∧ Th.Num (RA g) tc ∧ Ev (fun k => impl_MergeGraph.f k g) (outM g tc (Th.fsts (RA g) g.length), tc, true) := by
  obtain ⟨tc, t1, t2, t3⟩ := mg_l0 g vg g.length 0 [] (by omega) rfl Th.Num.nil
  have hvg := implVG_ev g (fun r hr => by obtain ⟨a, b, rfl, _⟩ := (VG_iff vg).2 r hr; exact (by decide : 2 ≤ 9223372036854775807))
  rw [vg] at hvg
  refine ⟨tc, t1, t2, ?_⟩
  unfold impl_MergeGraph.f
  exact Ev.bind hvg (ev_pos rfl t3)

section
variable (g : List (List Int)) (vg : VG g = true) (tc : List Int) (ht : tc.length = g.length) (hN : Th.Num (RA g) tc)
include vg ht hN
theorem cls_rng (z : Int) (h0 : 0 ≤ z) (h1 : z < g.length) : 0 ≤ clsI tc z ∧ clsI tc z < ((Th.fsts (RA g) g.length).length : Int) := by
  have _v := vg
  obtain ⟨m, rfl⟩ := Int.eq_ofNat_of_zero_le h0
  have hm : m < tc.length := by omega
  have e : clsI tc (m : Int) = tc[m] := by unfold clsI; rw [if_neg (by omega), rd_get _ _ hm]
  have h2 := hN.lt (List.getElem?_eq_getElem hm)
  have h3 := Th.cnt_le_of (R := RA g) (m + 1) g.length (by omega)
  rw [e, Th.fsts_length]
  omega
theorem cls_iff (a b : Nat) (ha : a < g.length) (hb : b < g.length) : clsI tc (a : Int) = clsI tc (b : Int) ↔ RA g a b := by
  have _v := vg
  have h1 : a < tc.length := by omega
  have h2 : b < tc.length := by omega
  have e1 : clsI tc (a : Int) = tc[a] := by unfold clsI; rw [if_neg (by omega), rd_get _ _ h1]
  have e2 : clsI tc (b : Int) = tc[b] := by unfold clsI; rw [if_neg (by omega), rd_get _ _ h2]
  rw [e1, e2]
  exact hN.iff (RA.eqv g) (List.getElem?_eq_getElem h1) (List.getElem?_eq_getElem h2)
/-- States that are alike: their edges' classes are the same. -/
theorem cls_step (a b : Nat) (ha : a < g.length) (hb : b < g.length) (h : RA g a b) (c : Bool) : clsI tc (ed g (a : Int) c) = clsI tc (ed g (b : Int) c) := by
  obtain ⟨-, ea⟩ := ed_facts vg (Int.natCast_nonneg a) (by omega)
  obtain ⟨-, eb⟩ := ed_facts vg (Int.natCast_nonneg b) (by omega)
  have e1 := ea c
  have e2 := eb c
  have h1 := h [c]
  rw [Th.ok_cons, Th.ok_cons] at h1
  by_cases p : ed g (a : Int) c < 0
  · have q : ed g (b : Int) c < 0 := by
      by_cases q : ed g (b : Int) c < 0
      · exact q
      · have := (h1.2 ⟨by omega, by show 0 ≤ ed g (b : Int) c; omega⟩).1; omega
    unfold clsI
    rw [if_pos p, if_pos q]
  · have q : ¬ ed g (b : Int) c < 0 := fun q => by have := (h1.1 ⟨by omega, by show 0 ≤ ed g (a : Int) c; omega⟩).1; omega
    obtain ⟨m, hm⟩ := Int.eq_ofNat_of_zero_le (show 0 ≤ ed g (a : Int) c by omega)
    obtain ⟨n, hn⟩ := Int.eq_ofNat_of_zero_le (show 0 ≤ ed g (b : Int) c by omega)
    have hr : RA g m n := by
      intro s
      have h2 := h (c :: s)
      rw [Th.ok_cons, Th.ok_cons, hm, hn] at h2
      exact ⟨fun t => (h2.1 ⟨Int.natCast_nonneg _, t⟩).2, fun t => (h2.2 ⟨Int.natCast_nonneg _, t⟩).2⟩
    rw [hm, hn]
    exact (cls_iff g vg tc ht hN m n (by omega) (by omega)).2 hr
theorem out_row (a : Nat) (ha : a < g.length) : rd_L2 (outM g tc (Th.fsts (RA g) g.length)) (clsI tc (a : Int)) = [clsI tc (ed g (a : Int) false), clsI tc (ed g (a : Int) true)] := by
  have h1 : a < tc.length := by omega
  have e1 : clsI tc (a : Int) = tc[a] := by unfold clsI; rw [if_neg (by omega), rd_get _ _ h1]
  obtain ⟨y, y1, y2, y3, y4⟩ := hN a _ (List.getElem?_eq_getElem h1)
  have hf := Th.fsts_has g.length y y2 (by omega)
  have hc := (List.getElem?_eq_some_iff.1 hf).1
  rw [e1, y4]
  unfold outM
  rw [rdL_get _ _ (by rw [List.length_map]; exact hc), List.getElem_map, (List.getElem?_eq_some_iff.1 hf).2]
  unfold rowM
  rw [cls_step g vg tc ht hN y a (by omega) ha y3 false, cls_step g vg tc ht hN y a (by omega) ha y3 true]
theorem out_ed (a : Nat) (ha : a < g.length) (c : Bool) : ed (outM g tc (Th.fsts (RA g) g.length)) (clsI tc (a : Int)) c = clsI tc (ed g (a : Int) c) := by
  have h := out_row g vg tc ht hN a ha
  unfold ed at h ⊢
  rw [h]
  cases c <;> rfl
theorem out_len : 1 ≤ (Th.fsts (RA g) g.length).length ∧ (Th.fsts (RA g) g.length).length ≤ g.length := by
  have _v := ht
  have _w := hN
  have g1 := (VG_iff vg).1
  rw [Th.fsts_length]
  refine ⟨?_, Th.cnt_le _ _⟩
  have h1 := Th.cnt_le_of (R := RA g) 1 g.length (by omega)
  have h2 : Th.cnt (RA g) 1 = Th.cnt (RA g) 0 + 1 := Th.cnt_succ_of 0 (fun y hy => absurd hy (Nat.not_lt_zero _))
  omega
theorem out_VG : VG (outM g tc (Th.fsts (RA g) g.length)) = true := by
  have g1 := (VG_iff vg).1
  have hl := out_len g vg tc ht hN
  have hol : (outM g tc (Th.fsts (RA g) g.length)).length = (Th.fsts (RA g) g.length).length := List.length_map _
  refine VG_all (n := (Th.fsts (RA g) g.length).length) hol hl.1 (by omega) (List.all_eq_true.2 fun r hr => ?_)
  obtain ⟨y, hy, rfl⟩ := List.mem_map.1 hr
  obtain ⟨j, hj⟩ := List.getElem?_of_mem hy
  have h1 := Th.fsts_get g.length j y hj
  obtain ⟨-, ey⟩ := ed_facts vg (Int.natCast_nonneg y) (show (y : Int) < g.length by omega)
  have rng : ∀ z : Int, -1 ≤ z → z < g.length → -1 ≤ clsI tc z ∧ clsI tc z ≤ ((Th.fsts (RA g) g.length).length : Int) - 1 ∧ (0 ≤ z → 0 ≤ clsI tc z) := by
    intro z z0 z1
    by_cases c : z < 0
    · have : clsI tc z = -1 := if_pos c
      omega
    · have := cls_rng g vg tc ht hN z (by omega) z1
      omega
  have ra := rng _ (ey false).1 (ey false).2
  have rb := rng _ (ey true).1 (ey true).2
  have hs := VG_some vg (Int.natCast_nonneg y) (show (y : Int) < g.length by omega)
  unfold rowM
  refine okRow_mk ⟨ra.1, ra.2.1⟩ ⟨rb.1, rb.2.1⟩ ?_
  rcases hs with q | q
  · have := ra.2.2 q; omega
  · have := rb.2.2 q; omega
/-- The same bits are allowed. -/
theorem out_ok (s : List Bool) : ∀ a : Nat, a < g.length → (Th.ok (ed (outM g tc (Th.fsts (RA g) g.length))) (clsI tc (a : Int)) s ↔ Th.ok (ed g) (a : Int) s) := by
  induction s with
  | nil =>
    intro a ha
    have := cls_rng g vg tc ht hN (a : Int) (Int.natCast_nonneg a) (by omega)
    exact ⟨fun _ => Int.natCast_nonneg a, fun _ => this.1⟩
  | cons c s ih =>
    intro a ha
    rw [Th.ok_cons, Th.ok_cons, out_ed g vg tc ht hN a ha c]
    obtain ⟨-, ea⟩ := ed_facts vg (Int.natCast_nonneg a) (show (a : Int) < g.length by omega)
    have e1 := ea c
    by_cases p : ed g (a : Int) c < 0
    · have : clsI tc (ed g (a : Int) c) = -1 := if_pos p
      constructor
      · rintro ⟨q, _⟩; omega
      · rintro ⟨q, _⟩; omega
    · obtain ⟨m, hm⟩ := Int.eq_ofNat_of_zero_le (show 0 ≤ ed g (a : Int) c by omega)
      rw [hm]
      have := cls_rng g vg tc ht hN (m : Int) (Int.natCast_nonneg m) (by omega)
      exact ⟨fun q => ⟨Int.natCast_nonneg m, (ih m (by omega)).1 q.2⟩, fun q => ⟨this.1, (ih m (by omega)).2 q.2⟩⟩
/-- As many strings are allowed. -/
theorem out_cnt (q : Nat) : q ≤ 60 → ∀ a : Nat, a < g.length → rd (cntIter (outM g tc (Th.fsts (RA g) g.length)) q) (clsI tc (a : Int)) = rd (cntIter g q) (a : Int) := by
  have vh := out_VG g vg tc ht hN
  have hol : (outM g tc (Th.fsts (RA g) g.length)).length = (Th.fsts (RA g) g.length).length := List.length_map _
  induction q with
  | zero =>
    intro _ a ha
    have h1 := cls_rng g vg tc ht hN (a : Int) (Int.natCast_nonneg a) (by omega)
    obtain ⟨m, hm⟩ := Int.eq_ofNat_of_zero_le h1.1
    rw [hm]
    have e : ∀ (h : List (List Int)) (j : Nat), j < h.length → rd (cntIter h 0) (j : Int) = 1 := by
      intro h j hj
      rw [rd_nat]
      show (List.replicate h.length (1 : Int)).getD j 0 = 1
      rw [List.getD_eq_getElem?_getD, List.getElem?_replicate, if_pos hj]
      rfl
    rw [e _ m (by omega), e g a ha]
  | succ q ih =>
    intro hq a ha
    have i := ih (by omega)
    have h1 := cls_rng g vg tc ht hN (a : Int) (Int.natCast_nonneg a) (by omega)
    have hr := out_row g vg tc ht hN a ha
    obtain ⟨m, hm⟩ := Int.eq_ofNat_of_zero_le h1.1
    obtain ⟨x, y, e, hx, hy, hx2, hy2⟩ := rows2_of vg a ha
    have ex : ed g (a : Int) false = x := by unfold ed; rw [e]; rfl
    have ey : ed g (a : Int) true = y := by unfold ed; rw [e]; rfl
    rw [hm] at hr ⊢
    rw [ex, ey] at hr
    have rng : ∀ z : Int, -1 ≤ z → z < g.length → clsI tc z < ((outM g tc (Th.fsts (RA g) g.length)).length : Int) ∧ selC (clsI tc z) (cntIter (outM g tc (Th.fsts (RA g) g.length)) q) = selC z (cntIter g q) := by
      intro z z0 z1
      by_cases c : z < 0
      · have e1 : clsI tc z = -1 := if_pos c
        refine ⟨by omega, ?_⟩
        unfold selC
        rw [e1, if_neg (by decide), if_neg (by omega)]
      · obtain ⟨n, hn⟩ := Int.eq_ofNat_of_zero_le (show 0 ≤ z by omega)
        have h2 := cls_rng g vg tc ht hN z (by omega) z1
        refine ⟨by omega, ?_⟩
        unfold selC
        rw [if_pos (by omega), if_pos (by omega), hn]
        exact i n (by omega)
    have rx := rng x hx2 hx
    have ry := rng y hy2 hy
    rw [cnt_split _ (rows2_of vh) q (by omega) m (by omega) hr rx.1 ry.1, cnt_split g (rows2_of vg) q (by omega) a ha e hx hy, rx.2, ry.2]
end
theorem rows_len {g : List (List Int)} (vg : VG g = true) : ∀ r ∈ g, r.length ≤ 9223372036854775807 := fun r hr => by
  obtain ⟨a, b, rfl, _⟩ := (VG_iff vg).2 r hr
  exact (by decide : 2 ≤ 9223372036854775807)
theorem in_state (g : List (List Int)) (hv : VG g = true) (y : Nat) (hy : y < g.length) : (VG g && decide (0 ≤ (y : Int) ∧ (y : Int) ≤ wrap64 ((g.length : Int) - 1))) = true := by
  have h12 := (VG_iff hv).1
  rw [hv, wrap64_in (by omega) (by omega), decide_eq_true (by omega)]
  rfl
theorem first_ev (g h : List (List Int)) (vg : VG g = true) (vh : VG h = true) (x y : Nat) (hx : x < g.length) (hy : y < h.length) : ∃ r, TellP g h (x : Int) (y : Int) r ∧ Ev (fun k => impl_FirstTelling.f k g h (x : Int) (y : Int)) r := by
  obtain ⟨r, hp, hr⟩ := impl_tell g h vg vh (x : Int) (y : Int) ⟨by omega, by omega⟩ ⟨by omega, by omega⟩
  have i1 := implState_ev g (rows_len vg) (x : Int)
  have i2 := implState_ev h (rows_len vh) (y : Int)
  rw [in_state g vg x hx] at i1
  rw [in_state h vh y hy] at i2
  refine ⟨r, hp, ?_⟩
  unfold impl_FirstTelling.f
  exact Ev.bind i1 (ev_pos rfl (Ev.bind i2 (ev_pos rfl (Ev.bind (f := fun k t => some (t.1, t.2)) hr (Ev.now _)))))
theorem TellP.none_of {g h : List (List Int)} {x y : Int} {r : ByteArray × Bool} (p : TellP g h x y r) : r.2 = false ↔ ∀ s, Th.ok (ed g) x s → Th.ok (ed h) y s := by
  rcases p with ⟨p1, s, -, -, p3, p4, -⟩ | ⟨p1, -, p3⟩
  · rw [p1]
    exact ⟨fun q => (by cases q), fun q => absurd (q s p3) p4⟩
  · exact ⟨fun _ => p3, fun _ => p1⟩
theorem FnMergedGraphs : laws_FnMergedGraphs.Pure := by
  intro L M hL hLb hM hMb
  apply Ev.rounds
  unfold laws_FnMergedGraphs.f
  have hlong : ∃ b, laws_r8Long.f L M = some b := by unfold laws_r8Long.f; split <;> exact ⟨_, rfl⟩
  obtain ⟨b, hb⟩ := hlong
  refine ev_to hb ?_
  cases b with
  | true => exact ev_pos rfl (Ev.now _)
  | false =>
  refine ev_neg Bool.false_ne_true ?_
  obtain ⟨g, hg, vg⟩ := r8Graph_ev L hL hLb
  have g1 := (VG_iff vg).1
  obtain ⟨tc, ht, hN, hm⟩ := merge_ev g vg
  obtain ⟨x', ex, x0, x1⟩ := r8At_f M hM hMb 0 (g.length : Int) (by decide)
  obtain ⟨y', ey, y0, y1⟩ := r8At_f M hM hMb 1 (g.length : Int) (by decide)
  obtain ⟨x, rfl⟩ := Int.eq_ofNat_of_zero_le x0
  obtain ⟨y, rfl⟩ := Int.eq_ofNat_of_zero_le y0
  have hx : x < g.length := by omega
  have hy : y < g.length := by omega
  have vh := out_VG g vg tc ht hN
  have hol := out_len g vg tc ht hN
  have hlen : (outM g tc (Th.fsts (RA g) g.length)).length = (Th.fsts (RA g) g.length).length := List.length_map _
  have rng := fun (a : Nat) (ha : a < g.length) => cls_rng g vg tc ht hN (a : Int) (Int.natCast_nonneg a) (by omega)
  have okk := out_ok g vg tc ht hN
  have cnt := out_cnt g vg tc ht hN 8 (by decide)
  have ciff := cls_iff g vg tc ht hN
  have hto : ∀ a : Nat, a < g.length → rd tc (a : Int) = clsI tc (a : Int) := fun a ha => (if_neg (by omega)).symm
  have h0 : rd tc 0 = 0 := by
    have h2 : 0 < tc.length := by omega
    obtain ⟨z, z1, z2, z3, z4⟩ := hN 0 _ (List.getElem?_eq_getElem h2)
    have : rd tc ((0 : Nat) : Int) = tc[0] := rd_get _ _ h2
    obtain rfl : z = 0 := by omega
    rw [z4] at this
    exact this
  have hivg := implVG_ev (outM g tc (Th.fsts (RA g) g.length)) (rows_len vh)
  rw [vh] at hivg
  refine Ev.bind hg (Ev.bind hm (ev_to ex (ev_to ey (ev_pos rfl (ev_pos (by rw [ht]) (Ev.bind hivg (ev_pos rfl (ev_neg (by show ¬ (((outM g tc (Th.fsts (RA g) g.length)).length : Nat) : Int) > ((g.length : Nat) : Int); omega) (ev_pos (by show (0 : Int) < ((tc.length : Nat) : Int); omega) ?_)))))))))
  show Ev (fun k => laws_FnMergedGraphs.j0 k (g.length : Int) tc (x : Int) (y : Int) ((rd tc 0) != 0) g (outM g tc (Th.fsts (RA g) g.length))) true
  rw [h0]
  clear hm hN h0 hivg
  generalize outM g tc (Th.fsts (RA g) g.length) = h at *
  have hz : (Th.fsts (RA g) g.length).length ≤ 12 := by omega
  have main : ∀ (d i : Nat), i + d = g.length → Ev (fun k => laws_FnMergedGraphs.l0 k (g.length : Int) tc (x : Int) (y : Int) (i : Int) g h) true := by
    intro d
    induction d with
    | zero =>
      intro i hi
      obtain ⟨cx, hcx⟩ := Int.eq_ofNat_of_zero_le (rng x hx).1
      have rx := rng x hx
      obtain ⟨r1, p1, e1⟩ := first_ev g h vg vh x cx hx (by omega)
      obtain ⟨r2, p2, e2⟩ := first_ev h g vh vg cx x (by omega) hx
      obtain ⟨r3, p3, e3⟩ := first_ev g g vg vg x y hx hy
      obtain ⟨r4, p4, e4⟩ := first_ev g g vg vg y x hy hx
      rw [← hcx, ← hto x hx] at e1 e2
      rw [← hcx] at p1 p2
      have n1 : r1.2 = false := p1.none_of.2 (fun s hs => (okk s x hx).2 hs)
      have n2 : r2.2 = false := p2.none_of.2 (fun s hs => (okk s x hx).1 hs)
      have hal : RA g x y ↔ r3.2 = false ∧ r4.2 = false := by
        rw [p3.none_of, p4.none_of]
        exact ⟨fun q => ⟨fun s => (q s).1, fun s => (q s).2⟩, fun q s => ⟨q.1 s, q.2 s⟩⟩
      have hne : (rd tc (x : Int) != rd tc (y : Int)) = (r3.2 || r4.2) := by
        rw [hto x hx, hto y hy]
        have h5 := ciff x y hx hy
        by_cases c : RA g x y
        · obtain ⟨q1, q2⟩ := hal.1 c
          rw [h5.2 c, q1, q2]
          exact bne_self_eq_false _
        · have h6 : ¬ (r3.2 = false ∧ r4.2 = false) := fun q => c (hal.2 q)
          have h7 : (r3.2 || r4.2) = true := by
            cases q3 : r3.2 <;> cases q4 : r4.2 <;> first | rfl | (exact absurd ⟨q3, q4⟩ h6)
          rw [h7]
          exact bne_iff_ne.2 (fun q => c (h5.1 q))
      refine Ev.step (fun k => by rw [laws_FnMergedGraphs.l0, if_neg (by omega), if_pos (by omega), if_pos (by omega)]) (Ev.bind e1 (Ev.bind e2 (Ev.bind e3 (Ev.bind e4 (ev_neg (show ¬ r1.2 = true by rw [n1]; exact Bool.false_ne_true) (ev_neg (show ¬ r2.2 = true by rw [n2]; exact Bool.false_ne_true) ?_))))))
      cases q3 : r3.2 with
      | true =>
        rw [q3, Bool.true_or] at hne
        refine ev_pos rfl (ev_pos (by omega) (ev_pos (by omega) ?_))
        rw [hne]
        exact Ev.now _
      | false =>
        rw [q3, Bool.false_or] at hne
        refine ev_neg Bool.false_ne_true (ev_pos (by omega) (ev_pos (by omega) ?_))
        rw [hne, beq_self_eq_true]
        exact Ev.now _
    | succ d ih =>
      intro i hi
      have hig : i < g.length := by omega
      have ri := rng i hig
      obtain ⟨ci, hci⟩ := Int.eq_ofNat_of_zero_le ri.1
      have hw := Aside0.mk (wrap_succ (j := i) (n := g.length) hig (by omega))
      have c1 := implCount_yes g vg g1.2 8 (rows_len vg) i hig (by decide) (in_state g vg i hig)
      have c2 := implCount_yes h vh (VG_iff vh).1.2 8 (rows_len vh) ci (by omega) (by decide) (in_state h vh ci (by omega))
      have ce := cnt i hig
      rw [hci] at ce
      have i2 := ih (i + 1) (by omega)
      rw [← hw.out] at i2
      have hri : rd tc (i : Int) = (ci : Int) := by rw [hto i hig, hci]
      refine Ev.step (fun k => by rw [laws_FnMergedGraphs.l0, if_pos (by omega), if_pos (by omega), if_pos (by omega), hri, if_neg (by omega), decide_eq_false (by omega)]) (Ev.step (g := fun k => laws_FnMergedGraphs.j2 k (g.length : Int) tc (x : Int) (y : Int) (i : Int) false g h) (fun k => by rw [laws_FnMergedGraphs.j2, if_neg Bool.false_ne_true]; rfl) (Ev.bind c1 (ev_pos (nat0 i) (ev_pos (show (i : Int) < (tc.length : Int) by omega) ?_))))
      rw [hri]
      exact Ev.bind c2 (ev_pos rfl (ev_pos rfl (ev_pos ce.symm i2)))
  exact Ev.step (fun k => by rw [laws_FnMergedGraphs.j0, if_neg (by decide)]; rfl) (main g.length 0 (by omega))

end Go.Proofs.Ytkjipfblokiodaa.Pure
