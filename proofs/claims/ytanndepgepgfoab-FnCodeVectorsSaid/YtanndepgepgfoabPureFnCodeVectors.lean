/-
The law FnCodeVectors answers true for every two lists of bytes; there are no conditions beside the row's own bounds.
-/
import Derived.Test.YtanndepgepgfoabQFnCodeVectorsx10
namespace Go.Proofs.Ytanndepgepgfoab.Pure
open Go.RowKit Go.Proofs.Ytanndepgepgfoab.QFnCodeVectors Go.Proofs.YtanndepgepgfoabW.PrintWords Go.Proofs.YtanndepgepgfoabW.PrintLast Go.Proofs.YtanndepgepgfoabW.PrintMore
set_option linter.unusedVariables false

theorem ev_one {α : Type} {g : Nat → Option α} {r : α} (h : ∀ k, g (k + 1) = some r) : Ev g r :=
  ⟨1, fun k hk => by obtain ⟨m, rfl⟩ : ∃ m, k = m + 1 := ⟨k - 1, by omega⟩; exact h m⟩
theorem wrap64_in {x : Int} (h0 : -9223372036854775808 ≤ x) (h1 : x ≤ 9223372036854775807) : wrap64 x = x := by
  unfold wrap64; omega
theorem u64_in {x : Int} (h0 : 0 ≤ x) (h1 : x ≤ 18446744073709551615) : IntKind.u64.wrap x = x := by
  simp [IntKind.wrap, IntKind.bits, IntKind.signed]; omega
theorem i64_in {x : Int} (h0 : -9223372036854775808 ≤ x) (h1 : x ≤ 9223372036854775807) : IntKind.i64.wrap x = x := by
  rw [IntKind.wrap_i64]; omega
theorem and_one (x : Int) : Go.bits .and .i64 x 1 = x % 2 := by
  have h : (BitVec.ofInt 64 x &&& BitVec.ofInt 64 1).toNat = (x % 2).toNat := by
    have e1 : BitVec.ofInt 64 1 = 1#64 := by decide
    rw [e1, BitVec.toNat_and, BitVec.toNat_ofInt]
    have e2 : (1#64).toNat = 1 := by decide
    rw [e2, Nat.and_one_is_mod]
    omega
  show IntKind.i64.wrap (((BitVec.ofInt 64 x &&& BitVec.ofInt 64 1).toNat : Nat) : Int) = x % 2
  rw [h, i64_in (by omega) (by omega)]
  omega
theorem wf_i64 {x : Int} (h : (Lit.int .i64 x).wf = true) : -9223372036854775808 ≤ x ∧ x ≤ 9223372036854775807 := by
  simp [Lit.wf, IntKind.min, IntKind.max, IntKind.signed, IntKind.bits] at h
  omega
theorem pow_pos_int (d : Nat) : (0 : Int) < 2 ^ d := Int.pow_pos (by decide)
theorem pow_le_int {a b : Nat} (h : a ≤ b) : (2 : Int) ^ a ≤ 2 ^ b := by
  have := Nat.pow_le_pow_right (n := 2) (by decide) h
  exact_mod_cast this

theorem ev_pos {α : Type} {c : Prop} [Decidable c] {g h : Nat → Option α} {r : α} (hc : c) (hg : Ev g r) : Ev (fun k => if c then g k else h k) r := by
  obtain ⟨K, hK⟩ := hg
  exact ⟨K, fun k hk => (if_pos hc).trans (hK k hk)⟩
theorem ev_neg {α : Type} {c : Prop} [Decidable c] {g h : Nat → Option α} {r : α} (hc : ¬ c) (hg : Ev h r) : Ev (fun k => if c then g k else h k) r := by
  obtain ⟨K, hK⟩ := hg
  exact ⟨K, fun k hk => (if_neg hc).trans (hK k hk)⟩
theorem ev_some {α β : Type} {f : Nat → α → Option β} {a : α} {r : β} (h : Ev (fun k => f k a) r) : Ev (fun k => (some a).bind (f k)) r := h
theorem ev_to {α β : Type} {x : Option α} {f : Nat → α → Option β} {a : α} {r : β} (e : x = some a) (h : Ev (fun k => f k a) r) : Ev (fun k => x.bind (f k)) r := by subst e; exact h
theorem ev_det {α : Type} {g : Nat → Option α} {r r' : α} (h : Ev g r) (h' : Ev g r') : r = r' := by
  obtain ⟨K, hK⟩ := h
  obtain ⟨K', hK'⟩ := h'
  have h1 := hK (max K K') (Nat.le_max_left _ _)
  have h2 := hK' (max K K') (Nat.le_max_right _ _)
  rw [h1] at h2
  exact Option.some.inj h2
theorem wrap_succ {j n : Nat} (h : j < n) (hn : n ≤ 9223372036854775807) : wrap64 ((j : Int) + 1) = ((j + 1 : Nat) : Int) := by
  rw [wrap64_in (by omega) (by omega)]; omega
theorem nat0 (j : Nat) : (0 : Int) ≤ (j : Int) := Int.natCast_nonneg j
theorem rd_nat (l : List Int) (j : Nat) : rd l (j : Int) = l.getD j 0 := by unfold rd; rw [Int.toNat_natCast]
theorem rd_get (l : List Int) (j : Nat) (h : j < l.length) : rd l (j : Int) = l[j] := by rw [rd_nat, List.getD_eq_getElem?_getD, List.getElem?_eq_getElem h]; rfl
theorem drop_cons {α : Type} (l : List α) (j : Nat) (h : j < l.length) : l.drop j = l[j] :: l.drop (j + 1) := List.drop_eq_getElem_cons h
theorem take_snoc' {α : Type} (l : List α) (j : Nat) (h : j < l.length) : l.take (j + 1) = l.take j ++ [l[j]] := List.take_succ_eq_append_getElem h
theorem set_take {α : Type} (acc : List α) (j : Nat) (x : α) (h : j < acc.length) : (acc.set j x).take (j + 1) = acc.take j ++ [x] := by
  rw [List.take_set, List.take_succ_eq_append_getElem h, List.set_append_right _ _ (by simp; omega)]
  have : (acc.take j).length = j := by rw [List.length_take]; omega
  rw [this, Nat.sub_self]
  rfl
theorem take_all {α : Type} {a b : List α} {n : Nat} (ha : a.length = n) (hb : b.length = n) (h : a.take n = b.take n) : a = b := by
  rw [List.take_of_length_le (by omega), List.take_of_length_le (by omega)] at h; exact h
theorem w01 : wrap64 (0 + 1) = 1 := by unfold wrap64; decide
theorem w11 : wrap64 (1 + 1) = 2 := by unfold wrap64; decide

theorem spec_in (a b c : Int) : spec_l00In.f a b c = some (decide (b ≤ a ∧ a ≤ c)) := by
  unfold spec_l00In.f
  by_cases h : a ≥ b
  · rw [if_pos h]; congr 1; have : b ≤ a := h; simp [this]
  · rw [if_neg h]; congr 1; have : ¬ b ≤ a := h; simp [this]
theorem impl_in (a b c : Int) : impl_within.f a b c = some (decide (b ≤ a ∧ a ≤ c)) := by
  unfold impl_within.f
  by_cases h : a ≥ b
  · rw [if_pos h]; congr 1; have : b ≤ a := h; simp [this]
  · rw [if_neg h]; congr 1; have : ¬ b ≤ a := h; simp [this]

theorem rdL_get (l : List (List Int)) (j : Nat) (h : j < l.length) : rd_L1 l (j : Int) = l[j] := by
  unfold rd_L1; rw [Int.toNat_natCast, List.getD_eq_getElem?_getD, List.getElem?_eq_getElem h]; rfl

/-- A row of a valid graph with n states. -/
def okRow (n : Int) (r : List Int) : Bool := decide (r.length = 2) && (decide (-1 ≤ rd r 0 ∧ rd r 0 ≤ n - 1) && (decide (-1 ≤ rd r 1 ∧ rd r 1 ≤ n - 1) && !(decide (rd r 0 < 0) && decide (rd r 1 < 0))))
def VG (g : List (List Int)) : Bool := decide (1 ≤ (g.length : Int) ∧ (g.length : Int) ≤ 12) && g.all (okRow g.length)
theorem row_two {r : List Int} (h : r.length = 2) : ∃ a b, r = [a, b] := by
  match r, h with
  | [a, b], _ => exact ⟨a, b, rfl⟩
theorem okRow_not {n : Int} {r : List Int} (h : ¬ r.length = 2) : okRow n r = false := by simp [okRow, h]
theorem okRow_two (n a b : Int) : okRow n [a, b] = (decide (-1 ≤ a ∧ a ≤ n - 1) && (decide (-1 ≤ b ∧ b ≤ n - 1) && !(decide (a < 0) && decide (b < 0)))) := rfl
theorem rd0 (a b : Int) : rd [a, b] 0 = a := rfl
theorem rd1 (a b : Int) : rd [a, b] 1 = b := rfl
theorem len2 (a b : Int) : (([a, b] : List Int).length : Int) = 2 := rfl
theorem VG_iff {g : List (List Int)} (h : VG g = true) : (1 ≤ g.length ∧ g.length ≤ 12) ∧ ∀ r ∈ g, ∃ a b, r = [a, b] ∧ (-1 ≤ a ∧ a ≤ (g.length : Int) - 1) ∧ (-1 ≤ b ∧ b ≤ (g.length : Int) - 1) ∧ ¬ (a < 0 ∧ b < 0) := by
  simp only [VG, Bool.and_eq_true, decide_eq_true_eq, List.all_eq_true] at h
  refine ⟨by omega, fun r hr => ?_⟩
  have h2 := h.2 r hr
  by_cases hl : r.length = 2
  · obtain ⟨a, b, rfl⟩ := row_two hl
    rw [okRow_two] at h2
    simp only [Bool.and_eq_true, decide_eq_true_eq, Bool.not_eq_true', Bool.and_eq_false_imp, decide_eq_false_iff_not] at h2
    exact ⟨a, b, rfl, h2.1, h2.2.1, fun h => h2.2.2 h.1 h.2⟩
  · rw [okRow_not hl] at h2; cases h2

theorem areIn_loop (l : List Int) (lo hi : Int) (hn : l.length ≤ 9223372036854775807) (d : Nat) : ∀ j : Nat, j + d = l.length →
    Ev (fun k => impl_areIn.l0 k lo hi l (l.length : Int) (j : Int)) ((l.drop j).all fun x => decide (lo ≤ x ∧ x ≤ hi)) := by
  induction d with
  | zero =>
    intro j h
    rw [List.drop_eq_nil_of_le (by omega)]
    exact ev_one (fun k => by rw [impl_areIn.l0, if_neg (by omega)]; rfl)
  | succ d ih =>
    intro j h
    have hj : j < l.length := by omega
    rw [drop_cons _ _ hj, List.all_cons]
    by_cases c : lo ≤ l[j] ∧ l[j] ≤ hi
    · rw [decide_eq_true c, Bool.true_and]
      refine Ev.step (fun k => ?_) (ih (j + 1) (by omega))
      rw [impl_areIn.l0, if_pos (by omega), if_pos (by omega), if_pos (by omega), rd_get _ _ hj, impl_in, decide_eq_true c, Option.bind_some, if_pos rfl, wrap_succ hj hn]
    · rw [decide_eq_false c, Bool.false_and]
      refine ev_one (fun k => ?_)
      rw [impl_areIn.l0, if_pos (by omega), if_pos (by omega), if_pos (by omega), rd_get _ _ hj, impl_in, decide_eq_false c, Option.bind_some, if_neg (by decide)]
theorem areIn_ev (l : List Int) (lo hi : Int) (hn : l.length ≤ 9223372036854775807) : Ev (fun k => impl_areIn.f k l lo hi) (l.all fun x => decide (lo ≤ x ∧ x ≤ hi)) :=
  areIn_loop l lo hi hn l.length 0 (by omega)

theorem specVG_loop (g : List (List Int)) (h12 : g.length ≤ 12) (d : Nat) : ∀ j : Nat, j + d = g.length →
    Ev (fun k => spec_l02Is.l0 k (g.length : Int) (j : Int) g) ((g.drop j).all (okRow g.length)) := by
  have hw : wrap64 ((g.length : Int) - 1) = (g.length : Int) - 1 := wrap64_in (by omega) (by omega)
  induction d with
  | zero =>
    intro j h
    rw [List.drop_eq_nil_of_le (by omega)]
    exact ev_one (fun k => by rw [spec_l02Is.l0, if_neg (by omega)]; rfl)
  | succ d ih =>
    intro j h
    have hj : j < g.length := by omega
    have hs := wrap_succ hj (by omega)
    rw [drop_cons _ _ hj, List.all_cons]
    by_cases hl : (g[j]).length = 2
    · obtain ⟨a, b, e⟩ := row_two hl
      have hi := ih (j + 1) (by omega)
      rw [e, okRow_two]
      refine Ev.step (fun k => by rw [spec_l02Is.l0, if_pos (by omega), if_pos (by omega), rdL_get _ _ hj, e, if_pos (len2 a b), if_pos (by rw [len2]; decide), if_pos (by rw [len2]; decide), rd0, rd1, spec_in, spec_in, hw, Option.bind_some, Option.bind_some, hs]) ?_
      by_cases ca : -1 ≤ a ∧ a ≤ (g.length : Int) - 1
      · rw [decide_eq_true ca, Bool.true_and]
        refine ev_pos rfl ?_
        by_cases cb : -1 ≤ b ∧ b ≤ (g.length : Int) - 1
        · rw [decide_eq_true cb, Bool.true_and]
          refine ev_pos rfl ?_
          by_cases a0 : a < 0
          · refine ev_pos a0 ?_
            by_cases b0 : b < 0
            · refine ev_pos b0 ?_
              simpa [a0, b0] using Ev.now false
            · refine ev_neg b0 ?_
              simpa [a0, b0] using hi
          · refine ev_neg a0 ?_
            simpa [a0] using hi
        · rw [decide_eq_false cb, Bool.false_and, Bool.false_and]
          exact ev_neg (by decide) (Ev.now _)
      · rw [decide_eq_false ca, Bool.false_and, Bool.false_and]
        exact ev_neg (by decide) (Ev.now _)
    · rw [okRow_not hl, Bool.false_and]
      refine ev_one (fun k => ?_)
      rw [spec_l02Is.l0, if_pos (by omega), if_pos (by omega), rdL_get _ _ hj, if_neg (by omega)]
theorem specIs_ev (g : List (List Int)) : Ev (fun k => spec_l02Is.f k g) (VG g) := by
  by_cases c : 1 ≤ (g.length : Int) ∧ (g.length : Int) ≤ 12
  · have h := specVG_loop g (by omega) g.length 0 (by omega)
    unfold VG
    rw [decide_eq_true c, Bool.true_and]
    refine Ev.congr (fun k => ?_) h
    unfold spec_l02Is.f
    rw [spec_in, decide_eq_true c]
    rfl
  · refine Ev.congr (fun k => ?_) (Ev.now _)
    unfold spec_l02Is.f VG
    rw [spec_in, decide_eq_false c]
    rfl

theorem implVG_loop (g : List (List Int)) (h12 : g.length ≤ 12) (hr : ∀ r ∈ g, r.length ≤ 9223372036854775807) (d : Nat) : ∀ j : Nat, j + d = g.length →
    Ev (fun k => impl_ValidGraph.l0 k (g.length : Int) g (g.length : Int) (j : Int)) ((g.drop j).all (okRow g.length)) := by
  have hw : wrap64 ((g.length : Int) - 1) = (g.length : Int) - 1 := wrap64_in (by omega) (by omega)
  induction d with
  | zero =>
    intro j h
    rw [List.drop_eq_nil_of_le (by omega)]
    exact ev_one (fun k => by rw [impl_ValidGraph.l0, if_neg (by omega)]; rfl)
  | succ d ih =>
    intro j h
    have hj : j < g.length := by omega
    have hs := wrap_succ hj (by omega)
    rw [drop_cons _ _ hj, List.all_cons]
    by_cases hl : (g[j]).length = 2
    · obtain ⟨a, b, e⟩ := row_two hl
      have hi := ih (j + 1) (by omega)
      rw [e, okRow_two]
      have ha := areIn_ev [a, b] (-1) ((g.length : Int) - 1) (show 2 ≤ 9223372036854775807 by decide)
      refine Ev.step (fun k => by rw [impl_ValidGraph.l0, if_pos (by omega), if_pos (by omega), if_pos (by omega), rdL_get _ _ hj, e, if_pos (len2 a b), hw, if_pos (show (0 : Int) < (([a, b] : List Int).length : Int) by rw [len2]; decide), if_pos (show (1 : Int) < (([a, b] : List Int).length : Int) by rw [len2]; decide), rd0, rd1, hs]) (Ev.bind ha ?_)
      by_cases ca : -1 ≤ a ∧ a ≤ (g.length : Int) - 1
      · by_cases cb : -1 ≤ b ∧ b ≤ (g.length : Int) - 1
        · rw [decide_eq_true ca, decide_eq_true cb, Bool.true_and, Bool.true_and]
          refine ev_pos (by simp [ca, cb]) ?_
          by_cases a0 : a < 0
          · refine ev_pos a0 ?_
            by_cases b0 : b < 0
            · refine ev_pos b0 ?_
              simpa [a0, b0] using Ev.now false
            · refine ev_neg b0 ?_
              simpa [a0, b0] using hi
          · refine ev_neg a0 ?_
            simpa [a0] using hi
        · rw [decide_eq_false cb, Bool.false_and, Bool.and_false, Bool.false_and]
          exact ev_neg (by simp [cb]) (Ev.now _)
      · rw [decide_eq_false ca, Bool.false_and, Bool.false_and]
        exact ev_neg (by simp [ca]) (Ev.now _)
    · rw [okRow_not hl, Bool.false_and]
      refine ev_one (fun k => ?_)
      rw [impl_ValidGraph.l0, if_pos (by omega), if_pos (by omega), if_pos (by omega), rdL_get _ _ hj, if_neg (by omega)]
theorem implVG_ev (g : List (List Int)) (hr : ∀ r ∈ g, r.length ≤ 9223372036854775807) : Ev (fun k => impl_ValidGraph.f k g) (VG g) := by
  by_cases c : 1 ≤ (g.length : Int) ∧ (g.length : Int) ≤ 12
  · have h := implVG_loop g (by omega) hr g.length 0 (by omega)
    unfold VG
    rw [decide_eq_true c, Bool.true_and]
    refine Ev.congr (fun k => ?_) h
    unfold impl_ValidGraph.f
    rw [impl_in, decide_eq_true c]
    rfl
  · refine Ev.congr (fun k => ?_) (Ev.now _)
    unfold impl_ValidGraph.f VG
    rw [impl_in, decide_eq_false c]
    rfl

def addE (z m : Int) (nx : List Int) : List Int := if z ≥ 0 then nx.set z.toNat (wrap64 (rd nx z + m)) else nx
def wayRow (g : List (List Int)) (row nx : List Int) (y : Int) : List Int := addE (rd (rd_L1 g y) 1) (rd row y) (addE (rd (rd_L1 g y) 0) (rd row y) nx)
def wayFrom (g : List (List Int)) (row : List Int) : Nat → Nat → List Int → List Int
  | 0, _, nx => nx
  | d + 1, j, nx => wayFrom g row d (j + 1) (wayRow g row nx j)
def wayStep (g : List (List Int)) (row : List Int) : List Int := wayFrom g row g.length 0 (List.replicate g.length 0)
def wayIter (g : List (List Int)) : Nat → List Int → List Int
  | 0, r => r
  | k + 1, r => wayIter g k (wayStep g r)
def wayOf (g : List (List Int)) (q x : Nat) : List Int := wayIter g q ((List.replicate g.length 0).set x 1)
def waysTo (g : List (List Int)) (q x : Nat) : List (List Int) := (List.range x).map (wayOf g q)
theorem addE_length (z m : Int) (nx : List Int) : (addE z m nx).length = nx.length := by unfold addE; split <;> simp
theorem wayRow_length (g : List (List Int)) (row nx : List Int) (y : Int) : (wayRow g row nx y).length = nx.length := by unfold wayRow; rw [addE_length, addE_length]
theorem wayFrom_length (g : List (List Int)) (row : List Int) (d : Nat) : ∀ (j : Nat) (nx : List Int), (wayFrom g row d j nx).length = nx.length := by
  induction d with
  | zero => intro j nx; rfl
  | succ d ih => intro j nx; show (wayFrom g row d (j + 1) (wayRow g row nx j)).length = _; rw [ih, wayRow_length]
theorem wayStep_length (g : List (List Int)) (row : List Int) : (wayStep g row).length = g.length := by unfold wayStep; rw [wayFrom_length, List.length_replicate]
theorem wayIter_length (g : List (List Int)) (k : Nat) : ∀ row : List Int, row.length = g.length → (wayIter g k row).length = g.length := by
  induction k with
  | zero => intro row h; exact h
  | succ k ih => intro row h; exact ih _ (wayStep_length g row)
theorem wayOf_length (g : List (List Int)) (q x : Nat) : (wayOf g q x).length = g.length := wayIter_length g q _ (by simp)
theorem waysTo_length (g : List (List Int)) (q x : Nat) : (waysTo g q x).length = x := by simp [waysTo]
theorem waysTo_succ (g : List (List Int)) (q x : Nat) : waysTo g q (x + 1) = waysTo g q x ++ [wayOf g q x] := by simp [waysTo, List.range_succ]
theorem waysTo_get (g : List (List Int)) (q n x : Nat) (h : x < n) : rd_L1 (waysTo g q n) (x : Int) = wayOf g q x := by
  rw [rdL_get _ _ (by rw [waysTo_length]; exact h)]; simp [waysTo]
/-- A valid graph's rows, as places in lists. -/
def Rows2 (g : List (List Int)) : Prop := ∀ j : Nat, j < g.length → ∃ a b, rd_L1 g (j : Int) = [a, b] ∧ a < (g.length : Int) ∧ b < (g.length : Int) ∧ -1 ≤ a ∧ -1 ≤ b
theorem rows2_of {g : List (List Int)} (h : VG g = true) : Rows2 g := by
  intro j hj
  obtain ⟨_, h2⟩ := VG_iff h
  obtain ⟨a, b, e, ha, hb, _⟩ := h2 g[j] (List.getElem_mem hj)
  exact ⟨a, b, by rw [rdL_get _ _ hj, e], by omega, by omega, ha.1, hb.1⟩

theorem sw_l3 (g : List (List Int)) (hg : Rows2 g) (h12 : g.length ≤ 12) (Q : Int) (out : List (List Int)) (X : Int) (row : List Int) (KK : Int) (nx : List Int) (y : Nat) (hy : y < g.length) (hrow : row.length = g.length) (hnx : nx.length = g.length) {res : List (List Int)}
    (h : Ev (fun k => spec_l02Ways.l2 k Q (g.length : Int) out X row KK (wayRow g row nx (y : Int)) ((y + 1 : Nat) : Int) g) res) : Ev (fun k => spec_l02Ways.l3 k Q (g.length : Int) out X row KK nx (y : Int) 0 g) res := by
  obtain ⟨a, b, e, ha, hb, _, _⟩ := hg y hy
  have el := len2 a b
  have two : ∀ nx' : List Int, nx'.length = g.length → nx' = addE a (rd row (y : Int)) nx → Ev (fun k => spec_l02Ways.l3 k Q (g.length : Int) out X row KK nx' (y : Int) 1 g) res := by
    intro nx' hl he
    simp only [wayRow, e, rd0, rd1, ← he] at h
    by_cases cb : b ≥ 0
    · have eP : addE b (rd row (y : Int)) nx' = nx'.set b.toNat (wrap64 (rd nx' b + rd row (y : Int))) := by rw [addE, if_pos cb]
      rw [eP] at h
      refine Ev.step (fun k => by rw [spec_l02Ways.l3, if_pos (by decide), if_pos (by omega), if_pos (by omega), if_pos (by decide), e, if_pos (by rw [el]; decide), rd1, if_pos cb, if_pos cb, if_pos (by omega), if_pos (by omega), w11]) ?_
      exact Ev.step (fun k => by rw [spec_l02Ways.l3, if_neg (by decide), wrap_succ hy (by omega)]) h
    · have eP : addE b (rd row (y : Int)) nx' = nx' := by rw [addE, if_neg cb]
      rw [eP] at h
      refine Ev.step (fun k => by rw [spec_l02Ways.l3, if_pos (by decide), if_pos (by omega), if_pos (by omega), if_pos (by decide), e, if_pos (by rw [el]; decide), rd1, if_neg cb, w11]) ?_
      exact Ev.step (fun k => by rw [spec_l02Ways.l3, if_neg (by decide), wrap_succ hy (by omega)]) h
  by_cases ca : a ≥ 0
  · have eP : addE a (rd row (y : Int)) nx = nx.set a.toNat (wrap64 (rd nx a + rd row (y : Int))) := by rw [addE, if_pos ca]
    refine Ev.step (fun k => by rw [spec_l02Ways.l3, if_pos (by decide), if_pos (by omega), if_pos (by omega), if_pos (by decide), e, if_pos (by rw [el]; decide), rd0, if_pos ca, if_pos ca, if_pos (by omega), if_pos (by omega), w01]) ?_
    exact two _ (by simpa using hnx) eP.symm
  · have eP : addE a (rd row (y : Int)) nx = nx := by rw [addE, if_neg ca]
    refine Ev.step (fun k => by rw [spec_l02Ways.l3, if_pos (by decide), if_pos (by omega), if_pos (by omega), if_pos (by decide), e, if_pos (by rw [el]; decide), rd0, if_neg ca, w01]) ?_
    exact two _ hnx eP.symm
theorem sw_l2 (g : List (List Int)) (hg : Rows2 g) (h12 : g.length ≤ 12) (Q : Int) (out : List (List Int)) (X : Int) (row : List Int) (KK : Int) (hrow : row.length = g.length) {res : List (List Int)} (d : Nat) : ∀ (y : Nat) (nx : List Int), y + d = g.length → nx.length = g.length →
    Ev (fun k => spec_l02Ways.l1 k Q (g.length : Int) out X (wayFrom g row d y nx) (wrap64 (KK + 1)) g) res → Ev (fun k => spec_l02Ways.l2 k Q (g.length : Int) out X row KK nx (y : Int) g) res := by
  induction d with
  | zero => intro y nx h hn hr; exact Ev.step (fun k => by rw [spec_l02Ways.l2, if_neg (by omega)]; rfl) hr
  | succ d ih =>
    intro y nx h hn hr
    refine Ev.step (fun k => by rw [spec_l02Ways.l2, if_pos (by omega)]) ?_
    exact sw_l3 g hg h12 Q out X row KK nx y (by omega) hrow hn (ih (y + 1) _ (by omega) (by rw [wayRow_length]; exact hn) hr)
theorem sw_l1 (g : List (List Int)) (hg : Rows2 g) (h12 : g.length ≤ 12) (q : Nat) (hq : q ≤ 100) (out : List (List Int)) (ho : out.length ≤ 12) (x : Nat) (hx : x < g.length) {res : List (List Int)} (d : Nat) : ∀ (kk : Nat) (row : List Int), kk + d = q → row.length = g.length →
    Ev (fun k => spec_l02Ways.l0 k (q : Int) (g.length : Int) (out ++ [wayIter g d row]) ((x + 1 : Nat) : Int) g) res → Ev (fun k => spec_l02Ways.l1 k (q : Int) (g.length : Int) out (x : Int) row (kk : Int) g) res := by
  induction d with
  | zero => intro kk row h hr hres; exact Ev.step (fun k => by rw [spec_l02Ways.l1, if_neg (by omega), if_pos (by omega), wrap_succ hx (by omega)]; rfl) hres
  | succ d ih =>
    intro kk row h hr hres
    refine Ev.step (fun k => by rw [spec_l02Ways.l1, if_pos (by omega), if_pos (by omega), if_pos (by omega), Int.toNat_natCast]) ?_
    refine sw_l2 g hg h12 q out x row kk hr g.length 0 _ (by omega) (by simp) ?_
    rw [wrap_succ (j := kk) (n := 1000) (by omega) (by omega)]
    exact ih (kk + 1) _ (by omega) (wayStep_length g row) hres
theorem sw_l0 (g : List (List Int)) (hg : Rows2 g) (h12 : g.length ≤ 12) (q : Nat) (hq : q ≤ 100) (d : Nat) : ∀ x : Nat, x + d = g.length → Ev (fun k => spec_l02Ways.l0 k (q : Int) (g.length : Int) (waysTo g q x) (x : Int) g) (waysTo g q g.length) := by
  induction d with
  | zero =>
    intro x h
    obtain rfl : x = g.length := by omega
    exact ev_one (fun k => by rw [spec_l02Ways.l0, if_neg (by omega)])
  | succ d ih =>
    intro x h
    have hi := ih (x + 1) (by omega)
    rw [waysTo_succ] at hi
    refine Ev.step (fun k => by rw [spec_l02Ways.l0, if_pos (by omega), if_pos (by omega), if_pos (by omega), Option.bind_some, if_pos (by omega), Int.toNat_natCast, if_pos (by rw [List.length_replicate]; omega), Int.toNat_natCast]) ?_
    exact sw_l1 g hg h12 q hq _ (by rw [waysTo_length]; omega) x (by omega) q 0 _ (by omega) (by simp) hi
theorem specWays_ev (g : List (List Int)) (hg : Rows2 g) (h12 : g.length ≤ 12) (q : Nat) (hq : q ≤ 100) : Ev (fun k => spec_l02Ways.f k g (q : Int)) (waysTo g q g.length) :=
  sw_l0 g hg h12 q hq g.length 0 (by omega)

theorem iw_l3 (g : List (List Int)) (hg : Rows2 g) (h12 : g.length ≤ 12) (Q : Int) (out : List (List Int)) (L X Q2 KK : Int) (row : List Int) (N : Int) (nx : List Int) (y : Nat) (hy : y < g.length) (hnx : nx.length = g.length) {res : List (List Int)}
    (h : Ev (fun k => impl_Graph_ways.l2 k Q (g.length : Int) out (wayRow g row nx (y : Int)) L X Q2 KK row N ((y + 1 : Nat) : Int) g) res) : Ev (fun k => impl_Graph_ways.l3 k Q (g.length : Int) out nx (rd row (y : Int)) L X Q2 KK row N (y : Int) (rd_L1 g (y : Int)) ((rd_L1 g (y : Int)).length : Int) 0 g) res := by
  obtain ⟨a, b, e, ha, hb, _, _⟩ := hg y hy
  have el := len2 a b
  rw [e]
  have two : ∀ nx' : List Int, nx'.length = g.length → nx' = addE a (rd row (y : Int)) nx → Ev (fun k => impl_Graph_ways.l3 k Q (g.length : Int) out nx' (rd row (y : Int)) L X Q2 KK row N (y : Int) [a, b] (([a, b] : List Int).length : Int) 1 g) res := by
    intro nx' hl he
    simp only [wayRow, e, rd0, rd1, ← he] at h
    by_cases cb : b ≥ 0
    · have eP : addE b (rd row (y : Int)) nx' = nx'.set b.toNat (wrap64 (rd nx' b + rd row (y : Int))) := by rw [addE, if_pos cb]
      rw [eP] at h
      refine Ev.step (fun k => by rw [impl_Graph_ways.l3, if_pos (by rw [el]; decide), if_pos (by decide), if_pos (by rw [el]; decide), rd1, if_pos cb, if_pos cb, if_pos (by omega), w11]) ?_
      exact Ev.step (fun k => by rw [impl_Graph_ways.l3, if_neg (by rw [el]; decide), wrap_succ hy (by omega)]) h
    · have eP : addE b (rd row (y : Int)) nx' = nx' := by rw [addE, if_neg cb]
      rw [eP] at h
      refine Ev.step (fun k => by rw [impl_Graph_ways.l3, if_pos (by rw [el]; decide), if_pos (by decide), if_pos (by rw [el]; decide), rd1, if_neg cb, w11]) ?_
      exact Ev.step (fun k => by rw [impl_Graph_ways.l3, if_neg (by rw [el]; decide), wrap_succ hy (by omega)]) h
  by_cases ca : a ≥ 0
  · have eP : addE a (rd row (y : Int)) nx = nx.set a.toNat (wrap64 (rd nx a + rd row (y : Int))) := by rw [addE, if_pos ca]
    refine Ev.step (fun k => by rw [impl_Graph_ways.l3, if_pos (by rw [el]; decide), if_pos (by decide), if_pos (by rw [el]; decide), rd0, if_pos ca, if_pos ca, if_pos (by omega), w01]) ?_
    exact two _ (by simpa using hnx) eP.symm
  · have eP : addE a (rd row (y : Int)) nx = nx := by rw [addE, if_neg ca]
    refine Ev.step (fun k => by rw [impl_Graph_ways.l3, if_pos (by rw [el]; decide), if_pos (by decide), if_pos (by rw [el]; decide), rd0, if_neg ca, w01]) ?_
    exact two _ hnx eP.symm
theorem iw_l2 (g : List (List Int)) (hg : Rows2 g) (h12 : g.length ≤ 12) (Q : Int) (out : List (List Int)) (L X Q2 KK : Int) (row : List Int) (hrow : row.length = g.length) {res : List (List Int)} (d : Nat) : ∀ (y : Nat) (nx : List Int), y + d = g.length → nx.length = g.length →
    Ev (fun k => impl_Graph_ways.l1 k Q (g.length : Int) out (wayFrom g row d y nx) L X Q2 (wrap64 (KK + 1)) g) res → Ev (fun k => impl_Graph_ways.l2 k Q (g.length : Int) out nx L X Q2 KK row (row.length : Int) (y : Int) g) res := by
  induction d with
  | zero => intro y nx h hn hr; exact Ev.step (fun k => by rw [impl_Graph_ways.l2, if_neg (by omega)]; rfl) hr
  | succ d ih =>
    intro y nx h hn hr
    refine Ev.step (fun k => by rw [impl_Graph_ways.l2, if_pos (by omega), if_pos (by omega), if_pos (by omega), if_pos (by omega)]) ?_
    exact iw_l3 g hg h12 Q out L X Q2 KK row _ nx y (by omega) hn (ih (y + 1) _ (by omega) (by rw [wayRow_length]; exact hn) hr)
theorem iw_l1 (g : List (List Int)) (hg : Rows2 g) (h12 : g.length ≤ 12) (q : Nat) (hq : q ≤ 100) (out : List (List Int)) (ho : out.length ≤ 12) (x : Nat) (hx : x < g.length) {res : List (List Int)} (d : Nat) : ∀ (kk : Nat) (row : List Int), kk + d = q → row.length = g.length →
    Ev (fun k => impl_Graph_ways.l0 k (q : Int) (g.length : Int) (out ++ [wayIter g d row]) (g.length : Int) ((x + 1 : Nat) : Int) g) res → Ev (fun k => impl_Graph_ways.l1 k (q : Int) (g.length : Int) out row (g.length : Int) (x : Int) (q : Int) (kk : Int) g) res := by
  induction d with
  | zero => intro kk row h hr hres; exact Ev.step (fun k => by rw [impl_Graph_ways.l1, if_neg (by omega), if_pos (by omega), wrap_succ hx (by omega)]; rfl) hres
  | succ d ih =>
    intro kk row h hr hres
    refine Ev.step (fun k => by rw [impl_Graph_ways.l1, if_pos (by omega), if_pos (by omega), if_pos (by omega), Int.toNat_natCast]) ?_
    refine iw_l2 g hg h12 q out g.length x q kk row hr g.length 0 _ (by omega) (by simp) ?_
    rw [wrap_succ (j := kk) (n := 1000) (by omega) (by omega)]
    exact ih (kk + 1) _ (by omega) (wayStep_length g row) hres
theorem iw_l0 (g : List (List Int)) (hg : Rows2 g) (h12 : g.length ≤ 12) (q : Nat) (hq : q ≤ 100) (d : Nat) : ∀ x : Nat, x + d = g.length → Ev (fun k => impl_Graph_ways.l0 k (q : Int) (g.length : Int) (waysTo g q x) (g.length : Int) (x : Int) g) (waysTo g q g.length) := by
  induction d with
  | zero =>
    intro x h
    obtain rfl : x = g.length := by omega
    exact ev_one (fun k => by rw [impl_Graph_ways.l0, if_neg (by omega)])
  | succ d ih =>
    intro x h
    have hi := ih (x + 1) (by omega)
    rw [waysTo_succ] at hi
    refine Ev.step (fun k => by rw [impl_Graph_ways.l0, if_pos (by omega), if_pos (by omega), if_pos (by omega), Option.bind_some, if_pos (by omega), Int.toNat_natCast, if_pos (by rw [List.length_replicate]; omega), Int.toNat_natCast]) ?_
    exact iw_l1 g hg h12 q hq _ (by rw [waysTo_length]; omega) x (by omega) q 0 _ (by omega) (by simp) hi
theorem implWays_ev (g : List (List Int)) (hg : Rows2 g) (h12 : g.length ≤ 12) (q : Nat) (hq : q ≤ 100) : Ev (fun k => impl_Graph_ways.f k g (q : Int)) (waysTo g q g.length) :=
  iw_l0 g hg h12 q hq g.length 0 (by omega)

def rgRow (least : Int) (m x : Nat) : List Int := [if x < m then (x : Int) + 1 else -1, if (x : Int) ≥ least then 0 else -1]
def rgTo (least : Int) (m n : Nat) : List (List Int) := (List.range n).map (rgRow least m)
theorem rgTo_length (least : Int) (m n : Nat) : (rgTo least m n).length = n := by simp [rgTo]
theorem rgTo_succ (least : Int) (m n : Nat) : rgTo least m (n + 1) = rgTo least m n ++ [rgRow least m n] := by simp [rgTo, List.range_succ]
theorem rgTo_get (least : Int) (m n j : Nat) (h : j < n) : rd_L1 (rgTo least m n) (j : Int) = rgRow least m j := by
  rw [rdL_get _ _ (by rw [rgTo_length]; exact h)]; simp [rgTo]
theorem runGraph_VG (least : Int) (m : Nat) (h0 : 0 ≤ least) (h1 : least ≤ m) (hm : m ≤ 10) : VG (rgTo least m (m + 1)) = true := by
  have hl := rgTo_length least m (m + 1)
  unfold VG
  rw [decide_eq_true (by omega), Bool.true_and, List.all_eq_true]
  intro r hr
  obtain ⟨x, hx, rfl⟩ := List.mem_map.1 hr
  rw [List.mem_range] at hx
  unfold rgRow
  rw [okRow_two, hl]
  by_cases c1 : x < m <;> by_cases c2 : (x : Int) ≥ least <;> simp [c1, c2] <;> omega
def sgRow (t x : Nat) : List Int := [(x : Int) - 1, if x = t then -1 else (x : Int) + 1]
def sgTo (t n : Nat) : List (List Int) := (List.range n).map (sgRow t)
theorem sgTo_length (t n : Nat) : (sgTo t n).length = n := by simp [sgTo]
theorem sgTo_succ (t n : Nat) : sgTo t (n + 1) = sgTo t n ++ [sgRow t n] := by simp [sgTo, List.range_succ]
theorem sgTo_get (t n j : Nat) (h : j < n) : rd_L1 (sgTo t n) (j : Int) = sgRow t j := by
  rw [rdL_get _ _ (by rw [sgTo_length]; exact h)]; simp [sgTo]
theorem sumGraph_VG (t : Nat) (h0 : 1 ≤ t) (ht : t ≤ 11) : VG (sgTo t (t + 1)) = true := by
  have hl := sgTo_length t (t + 1)
  unfold VG
  rw [decide_eq_true (by omega), Bool.true_and, List.all_eq_true]
  intro r hr
  obtain ⟨x, hx, rfl⟩ := List.mem_map.1 hr
  rw [List.mem_range] at hx
  unfold sgRow
  rw [okRow_two, hl]
  by_cases c1 : x = t <;> simp [c1] <;> omega
theorem wf_u8 {x : Int} (h : (Lit.int .u8 x).wf = true) : 0 ≤ x ∧ x ≤ 255 := by
  simp [Lit.wf, IntKind.min, IntKind.max, IntKind.signed, IntKind.bits] at h
  omega
theorem tmod_in {x n : Int} (h0 : 0 ≤ x) (hn : 0 < n) : 0 ≤ Int.tmod x n ∧ Int.tmod x n < n := by
  rw [Int.tmod_eq_emod_of_nonneg h0]
  exact ⟨Int.emod_nonneg _ (by omega), Int.emod_lt_of_pos _ hn⟩
theorem and_255 (x : Int) : 0 ≤ Go.bits .and .u64 x 255 ∧ Go.bits .and .u64 x 255 ≤ 255 := by
  show 0 ≤ IntKind.u64.wrap (((BitVec.ofInt 64 x &&& BitVec.ofInt 64 255).toNat : Nat) : Int) ∧ IntKind.u64.wrap (((BitVec.ofInt 64 x &&& BitVec.ofInt 64 255).toNat : Nat) : Int) ≤ 255
  have e1 : (BitVec.ofInt 64 255).toNat = 255 := by decide
  have h : (BitVec.ofInt 64 x &&& BitVec.ofInt 64 255).toNat ≤ 255 := by
    rw [BitVec.toNat_and, e1]
    exact Nat.and_le_right
  rw [u64_in (by omega) (by omega)]
  omega
theorem byte_of (l : List Int) (hb : ∀ x ∈ l, (Lit.int .u8 x).wf = true) (i : Int) (h0 : 0 ≤ i) (h1 : i < l.length) : 0 ≤ rd l i ∧ rd l i ≤ 255 := by
  obtain ⟨j, rfl⟩ := Int.eq_ofNat_of_zero_le h0
  rw [rd_get _ _ (by omega)]
  exact wf_u8 (hb _ (List.getElem_mem _))

theorem next_f (l : List Int) (hl : l.length ≤ 9223372036854775807) (hb : ∀ x ∈ l, (Lit.int .u8 x).wf = true) (at_ seed : Int) (h0 : 0 ≤ at_) (h1 : at_ ≤ 4611686018427387904) :
    ∃ v seed', spec_l00Src_next.f l at_ seed = some (v, at_ + 1, seed') ∧ 0 ≤ v ∧ v ≤ 255 := by
  unfold spec_l00Src_next.f
  rw [wrap64_in (x := at_ + 1) (by omega) (by omega)]
  by_cases c : at_ < (l.length : Int)
  · have hr := byte_of l hb at_ h0 c
    rw [if_pos c, if_pos h0, wrap64_in (x := rd l at_) (by omega) (by omega)]
    rw [if_pos (by omega)]
    exact ⟨_, _, rfl, hr⟩
  · rw [if_neg c]
    rw [if_neg (by omega)]
    refine ⟨_, _, rfl, ?_⟩
    have h := and_255 ((IntKind.u64.wrap ((IntKind.u64.wrap ((IntKind.u64.wrap (seed * 6364136223846793005)))) + 1442695040888963407)) / 1099511627776)
    rw [wrap64_in (by omega) (by omega)]
    exact h
theorem pick_f (l : List Int) (hl : l.length ≤ 9223372036854775807) (hb : ∀ x ∈ l, (Lit.int .u8 x).wf = true) (at_ seed n : Int) (h0 : 0 ≤ at_) (h1 : at_ ≤ 4611686018427387904) (hn : n ≤ 200) :
    ∃ v at' seed', spec_l00Src_pick.f l at_ seed n = some (v, at', seed') ∧ 0 ≤ v ∧ (v < n ∨ v = 0) ∧ at_ ≤ at' ∧ at' ≤ at_ + 1 := by
  unfold spec_l00Src_pick.f
  by_cases c : n ≤ 1
  · rw [if_pos c]; exact ⟨0, at_, seed, rfl, by omega, by omega, by omega, by omega⟩
  · rw [if_neg c]
    obtain ⟨v, seed', e, h2, h3⟩ := next_f l hl hb at_ seed h0 h1
    rw [e, Option.bind_some, if_neg (by omega), if_neg (by omega)]
    have := tmod_in h2 (show 0 < n by omega)
    exact ⟨_, _, _, rfl, this.1, .inl this.2, by show at_ ≤ at_ + 1; omega, by show at_ + 1 ≤ at_ + 1; omega⟩
theorem one_f (l : List Int) (hl : l.length ≤ 9223372036854775807) (hb : ∀ x ∈ l, (Lit.int .u8 x).wf = true) (at_ seed n : Int) (h0 : 0 ≤ at_) (h1 : at_ ≤ 4611686018427387904) (hn : n ≤ 200) :
    ∃ v at' seed', spec_l00Src_one.f l at_ seed n = some (v, at', seed') ∧ at_ ≤ at' ∧ at' ≤ at_ + 1 := by
  unfold spec_l00Src_one.f
  obtain ⟨v, at', seed', e, _, _, h3, h4⟩ := pick_f l hl hb at_ seed n h0 h1 hn
  rw [e, Option.bind_some]
  exact ⟨_, _, _, rfl, h3, h4⟩

theorem r8At_f (l : List Int) (hl : l.length ≤ 9223372036854775807) (hb : ∀ x ∈ l, (Lit.int .u8 x).wf = true) (i n : Int) (hi : 0 ≤ i) : ∃ v, laws_r8At.f l i n = some v ∧ 0 ≤ v ∧ (v < n ∨ v = 0) := by
  unfold laws_r8At.f
  by_cases c : n ≤ 1
  · rw [if_pos c]; exact ⟨0, rfl, by omega, by omega⟩
  · rw [if_neg c]
    by_cases c2 : i ≥ (l.length : Int)
    · rw [if_pos c2]; exact ⟨0, rfl, by omega, by omega⟩
    · rw [if_neg c2, if_pos hi, if_pos (by omega), if_neg (by omega)]
      have h := byte_of l hb i hi (by omega)
      rw [wrap64_in (x := rd l i) (by omega) (by omega)]
      have := tmod_in h.1 (show 0 < n by omega)
      exact ⟨_, rfl, this.1, .inl this.2⟩

theorem srg_loop (least : Int) (m : Nat) (h0 : 0 ≤ least) (hm : m ≤ 10) (d : Nat) : ∀ j : Nat, j + d = m + 1 → Ev (fun k => spec_RunGraph.l0 k least (m : Int) (j : Int) (rgTo least m j)) (rgTo least m (m + 1), true) := by
  induction d with
  | zero =>
    intro j h
    obtain rfl : j = m + 1 := by omega
    exact ev_one (fun k => by rw [spec_RunGraph.l0, if_neg (by omega)])
  | succ d ih =>
    intro j h
    have hw := wrap_succ (j := j) (n := m + 1) (by omega) (by omega)
    have hi := ih (j + 1) (by omega)
    rw [rgTo_succ] at hi
    have hl := rgTo_length least m j
    by_cases c1 : j < m
    · by_cases c2 : (j : Int) ≥ least
      · have e : rgRow least m j = [((j + 1 : Nat) : Int), 0] := by unfold rgRow; rw [if_pos c1, if_pos c2]; rfl
        rw [e] at hi
        exact Ev.step (fun k => by rw [spec_RunGraph.l0, if_pos (by omega), if_pos (by omega), if_pos c2, if_pos (by omega), hw]) hi
      · have e : rgRow least m j = [((j + 1 : Nat) : Int), -1] := by unfold rgRow; rw [if_pos c1, if_neg c2]; rfl
        rw [e] at hi
        exact Ev.step (fun k => by rw [spec_RunGraph.l0, if_pos (by omega), if_pos (by omega), if_neg c2, if_pos (by omega), hw]) hi
    · by_cases c2 : (j : Int) ≥ least
      · have e : rgRow least m j = [-1, 0] := by unfold rgRow; rw [if_neg c1, if_pos c2]
        rw [e] at hi
        exact Ev.step (fun k => by rw [spec_RunGraph.l0, if_pos (by omega), if_neg (by omega), if_pos c2, if_pos (by omega), hw]) hi
      · have e : rgRow least m j = [-1, -1] := by unfold rgRow; rw [if_neg c1, if_neg c2]
        rw [e] at hi
        exact Ev.step (fun k => by rw [spec_RunGraph.l0, if_pos (by omega), if_neg (by omega), if_neg c2, if_pos (by omega), hw]) hi
theorem specRunGraph_ev (least : Int) (m : Nat) (h0 : 0 ≤ least) (h1 : least ≤ m) (hm : m ≤ 10) : Ev (fun k => spec_RunGraph.f k least (m : Int)) (rgTo least m (m + 1), true) := by
  unfold spec_RunGraph.f
  refine ev_to (spec_in _ _ _) ?_
  rw [decide_eq_true (show (0 : Int) ≤ (m : Int) ∧ (m : Int) ≤ 10 by omega)]
  refine ev_pos rfl (ev_to (spec_in _ _ _) ?_)
  rw [decide_eq_true (show 0 ≤ least ∧ least ≤ (m : Int) by omega)]
  exact Ev.step (f := fun k => spec_RunGraph.l0 k least (m : Int) 0 []) (fun k => by rw [spec_RunGraph.j0, if_neg (by decide)]) (srg_loop least m h0 hm (m + 1) 0 (by omega))
theorem ssg_loop (t : Nat) (ht : t ≤ 11) (d : Nat) : ∀ j : Nat, j + d = t + 1 → Ev (fun k => spec_SumGraph.l0 k (t : Int) (j : Int) (sgTo t j)) (sgTo t (t + 1), true) := by
  induction d with
  | zero =>
    intro j h
    obtain rfl : j = t + 1 := by omega
    exact ev_one (fun k => by rw [spec_SumGraph.l0, if_neg (by omega)])
  | succ d ih =>
    intro j h
    have hw := wrap_succ (j := j) (n := t + 1) (by omega) (by omega)
    have hw2 : wrap64 ((j : Int) - 1) = (j : Int) - 1 := wrap64_in (by omega) (by omega)
    have hi := ih (j + 1) (by omega)
    rw [sgTo_succ] at hi
    have hl := sgTo_length t j
    by_cases c : j = t
    · have e : sgRow t j = [(j : Int) - 1, -1] := by unfold sgRow; rw [if_pos c]
      rw [e] at hi
      exact Ev.step (fun k => by rw [spec_SumGraph.l0, if_pos (by omega), if_pos (by omega), if_pos (by omega), hw, hw2]) hi
    · have e : sgRow t j = [(j : Int) - 1, ((j + 1 : Nat) : Int)] := by unfold sgRow; rw [if_neg c]; rfl
      rw [e] at hi
      exact Ev.step (fun k => by rw [spec_SumGraph.l0, if_pos (by omega), if_neg (by omega), if_pos (by omega), hw, hw2]) hi
theorem specSumGraph_ev (t : Nat) (h0 : 1 ≤ t) (ht : t ≤ 11) : Ev (fun k => spec_SumGraph.f k (t : Int)) (sgTo t (t + 1), true) := by
  unfold spec_SumGraph.f
  refine ev_to (spec_in _ _ _) ?_
  rw [decide_eq_true (show 1 ≤ (t : Int) ∧ (t : Int) ≤ 11 by omega)]
  exact ev_pos rfl (ssg_loop t ht (t + 1) 0 (by omega))
theorem okRow_mk {n a b : Int} (h : -1 ≤ a ∧ a ≤ n - 1) (h2 : -1 ≤ b ∧ b ≤ n - 1) (h3 : ¬ (a < 0 ∧ b < 0)) : okRow n [a, b] = true := by
  rw [okRow_two, decide_eq_true h, decide_eq_true h2]
  by_cases c : a < 0
  · rw [decide_eq_true c, decide_eq_false (fun h => h3 ⟨c, h⟩)]; rfl
  · rw [decide_eq_false c]; rfl
section
variable (l : List Int) (hl : l.length ≤ 9223372036854775807) (hb : ∀ x ∈ l, (Lit.int .u8 x).wf = true)
include hl hb
theorem draw_loop (n : Nat) (hn : n ≤ 12) (d : Nat) : ∀ (j : Nat) (acc : List (List Int)) (at_ seed : Int), j + d = n → acc.length = j → acc.all (okRow n) = true → 0 ≤ at_ → at_ + 2 * d ≤ 1000 →
    ∃ g a s, Ev (fun k => spec_l02DrawOk.l0 k (n : Int) (j : Int) l at_ seed acc) (g, a, s) ∧ g.length = n ∧ g.all (okRow n) = true := by
  induction d with
  | zero => intro j acc at_ seed h1 h2 h3 h4 h5; exact ⟨acc, at_, seed, ev_one (fun k => by rw [spec_l02DrawOk.l0, if_neg (by omega)]), by omega, h3⟩
  | succ d ih =>
    intro j acc at_ seed h1 h2 h3 h4 h5
    have hw1 := Aside0.mk (show wrap64 ((n : Int) + 1) = (n : Int) + 1 from wrap64_in (by omega) (by omega))
    obtain ⟨v1, at1, seed1, e1, v0, v1', a1, a2⟩ := pick_f l hl hb at_ seed ((n : Int) + 1) h4 (by omega) (by omega)
    obtain ⟨v2, at2, seed2, e2, u0, u1', b1, b2⟩ := pick_f l hl hb at1 seed1 ((n : Int) + 1) (by omega) (by omega) (by omega)
    have hv1 := Aside0.mk (show wrap64 (v1 - 1) = v1 - 1 from wrap64_in (by omega) (by omega))
    have hv2 := Aside0.mk (show wrap64 (v2 - 1) = v2 - 1 from wrap64_in (by omega) (by omega))
    have hj := Aside0.mk (wrap_succ (j := j) (n := n) (by omega) (by omega))
    have next : ∀ r : List Int, okRow n r = true → ∃ g a s, Ev (fun k => spec_l02DrawOk.l0 k (n : Int) ((j + 1 : Nat) : Int) l at2 seed2 (acc ++ [r])) (g, a, s) ∧ g.length = n ∧ g.all (okRow n) = true := by
      intro r hr
      have q1 : (acc ++ [r]).length = j + 1 := by rw [List.length_append, h2]; rfl
      have q2 : (acc ++ [r]).all (okRow n) = true := by
        rw [List.all_append, h3, Bool.true_and, List.all_cons, hr, Bool.true_and, List.all_nil]
      have q3 : 0 ≤ at2 := by omega
      have q4 : at2 + 2 * (d : Int) ≤ 1000 := by omega
      exact ih (j + 1) (acc ++ [r]) at2 seed2 (by omega) q1 q2 q3 q4
    by_cases c1 : v1 - 1 < 0
    · by_cases c2 : v2 - 1 < 0
      · obtain ⟨g, a, s, h6, h7⟩ := next [v1 - 1, (j : Int)] (okRow_mk (by omega) (by omega) (by omega))
        exact ⟨g, a, s, Ev.step (fun k => by rw [spec_l02DrawOk.l0, if_pos (by omega), hw1.out, e1, Option.bind_some, e2, Option.bind_some, hv1.out, hv2.out, if_pos c1, if_pos c2, if_pos (by omega), hj.out]) h6, h7⟩
      · obtain ⟨g, a, s, h6, h7⟩ := next [v1 - 1, v2 - 1] (okRow_mk (by omega) (by omega) (by omega))
        exact ⟨g, a, s, Ev.step (fun k => by rw [spec_l02DrawOk.l0, if_pos (by omega), hw1.out, e1, Option.bind_some, e2, Option.bind_some, hv1.out, hv2.out, if_pos c1, if_neg c2, if_pos (by omega), hj.out]) h6, h7⟩
    · obtain ⟨g, a, s, h6, h7⟩ := next [v1 - 1, v2 - 1] (okRow_mk (by omega) (by omega) (by omega))
      exact ⟨g, a, s, Ev.step (fun k => by rw [spec_l02DrawOk.l0, if_pos (by omega), hw1.out, e1, Option.bind_some, e2, Option.bind_some, hv1.out, hv2.out, if_neg c1, if_pos (by omega), hj.out]) h6, h7⟩
omit hl hb in
theorem VG_all {g : List (List Int)} {n : Nat} (h : g.length = n) (h1 : 1 ≤ n) (h2 : n ≤ 12) (ha : g.all (okRow n) = true) : VG g = true := by
  unfold VG
  rw [h, decide_eq_true (by omega), ha]; rfl
theorem draw_j2 (n : Nat) (h1 : 1 ≤ n) (hn : n ≤ 12) (at_ seed : Int) (h4 : 0 ≤ at_) (h5 : at_ ≤ 900) : ∃ g a s, Ev (fun k => spec_l02DrawOk.j2 k (n : Int) l at_ seed) (g, a, s) ∧ VG g = true := by
  obtain ⟨g, a, s, h6, h7, h8⟩ := draw_loop l hl hb n hn n 0 [] at_ seed (by omega) rfl rfl h4 (by omega)
  exact ⟨g, a, s, Ev.step (f := fun k => spec_l02DrawOk.l0 k (n : Int) 0 l at_ seed []) (fun k => by rw [spec_l02DrawOk.j2]) h6, VG_all h7 h1 hn h8⟩
theorem draw_j1 (at_ seed : Int) (h4 : 0 ≤ at_) (h5 : at_ ≤ 800) : ∃ g a s, Ev (fun k => spec_l02DrawOk.j1 k l at_ seed) (g, a, s) ∧ VG g = true := by
  obtain ⟨v, at1, seed1, e1, v0, v1, a1, a2⟩ := pick_f l hl hb at_ seed 6 h4 (by omega) (by decide)
  obtain ⟨o, at2, seed2, e2, b1, b2⟩ := one_f l hl hb at1 seed1 20 (by omega) (by omega) (by decide)
  cases o with
  | true =>
    obtain ⟨g, a, s, h6, h7⟩ := draw_j2 l hl hb 12 (by decide) (by decide) at2 seed2 (by omega) (by omega)
    exact ⟨g, a, s, Ev.step (f := fun k => spec_l02DrawOk.j2 k 12 l at2 seed2) (fun k => by rw [spec_l02DrawOk.j1, e1, Option.bind_some, e2, Option.bind_some, if_pos rfl]) h6, h7⟩
  | false =>
    obtain ⟨n, hn⟩ : ∃ n, n = (1 + v).toNat := ⟨_, rfl⟩
    have hw : wrap64 (1 + v) = (n : Int) := by rw [wrap64_in (by omega) (by omega)]; omega
    obtain ⟨g, a, s, h6, h7⟩ := draw_j2 l hl hb n (by omega) (by omega) at2 seed2 (by omega) (by omega)
    exact ⟨g, a, s, Ev.step (fun k => by rw [spec_l02DrawOk.j1, e1, Option.bind_some, e2, Option.bind_some, if_neg Bool.false_ne_true, hw]) h6, h7⟩
theorem draw_j0 (at_ seed : Int) (h4 : 0 ≤ at_) (h5 : at_ ≤ 700) : ∃ g a s, Ev (fun k => spec_l02DrawOk.j0 k l at_ seed) (g, a, s) ∧ VG g = true := by
  obtain ⟨o, at2, seed2, e2, b1, b2⟩ := one_f l hl hb at_ seed 5 h4 (by omega) (by decide)
  cases o with
  | true =>
    obtain ⟨v, at1, seed1, e1, v0, v1, a1, a2⟩ := pick_f l hl hb at2 seed2 5 (by omega) (by omega) (by decide)
    obtain ⟨n, hn⟩ : ∃ n, n = (1 + v).toNat := ⟨_, rfl⟩
    have hw : wrap64 (1 + v) = (n : Int) := by rw [wrap64_in (by omega) (by omega)]; omega
    refine ⟨_, _, _, Ev.step (fun k => by rw [spec_l02DrawOk.j0, e2, Option.bind_some, if_pos rfl, e1, Option.bind_some, hw]) (Ev.bind (specSumGraph_ev n (by omega) (by omega)) (ev_pos rfl (Ev.now _))), sumGraph_VG n (by omega) (by omega)⟩
  | false =>
    obtain ⟨g, a, s, h6, h7⟩ := draw_j1 l hl hb at2 seed2 (by omega) (by omega)
    exact ⟨g, a, s, Ev.step (fun k => by rw [spec_l02DrawOk.j0, e2, Option.bind_some, if_neg Bool.false_ne_true]) h6, h7⟩
theorem r8Graph_ev : ∃ g, Ev (fun k => spec_R8Graph.f k l) g ∧ VG g = true := by
  suffices h : ∃ g a s, Ev (fun k => spec_l02DrawOk.f k l 0 0) (g, a, s) ∧ VG g = true by
    obtain ⟨g, a, s, h1, h2⟩ := h
    refine ⟨g, ?_, h2⟩
    unfold spec_R8Graph.f spec_l00From.f
    exact ev_some (Ev.bind h1 (Ev.now _))
  unfold spec_l02DrawOk.f
  obtain ⟨o, at0, seed0, e0, b1, b2⟩ := one_f l hl hb 0 0 3 (by decide) (by decide) (by decide)
  cases o with
  | true =>
    obtain ⟨v, at1, seed1, e1, v0, v1, a1, a2⟩ := pick_f l hl hb at0 seed0 3 (by omega) (by omega) (by decide)
    obtain ⟨u, at2, seed2, e2, u0, u1, c1, c2⟩ := pick_f l hl hb at1 seed1 5 (by omega) (by omega) (by decide)
    obtain ⟨m, hm⟩ : ∃ m, m = (v + u).toNat := ⟨_, rfl⟩
    have hw : wrap64 (v + u) = (m : Int) := by rw [wrap64_in (by omega) (by omega)]; omega
    refine ⟨rgTo v m (m + 1), at2, seed2, ev_to e0 (ev_pos rfl (ev_to e1 (ev_to e2 ?_))), runGraph_VG v m v0 (by omega) (by omega)⟩
    show Ev (fun k => (spec_RunGraph.f k v (wrap64 (v + u))).bind _) _
    rw [hw]
    exact Ev.bind (specRunGraph_ev v m v0 (by omega) (by omega)) (ev_pos rfl (Ev.now _))
  | false =>
    obtain ⟨g, a, s, h6, h7⟩ := draw_j0 l hl hb at0 seed0 (by omega) (by omega)
    exact ⟨g, a, s, ev_to e0 (ev_neg Bool.false_ne_true h6), h7⟩
end

/-- The sum over the states from j on, as both reckon it. -/
def dotFrom (ws vec : List Int) : Nat → Nat → Int → Int
  | 0, _, acc => acc
  | d + 1, j, acc => dotFrom ws vec d (j + 1) (wrap64 (acc + wrap64 (rd ws (j : Int) * rd vec (j : Int))))
def tooG (ws vec : List Int) (p x : Int) : Bool := decide (dotFrom ws vec ws.length 0 0 < shl .i64 (rd vec x) p)
theorem tooG_loop (ws vec : List Int) (p : Int) (hp : 0 ≤ p) (x : Nat) (hx : x < vec.length) (hl : ws.length = vec.length) (h12 : vec.length ≤ 100) (d : Nat) : ∀ (j : Nat) (acc : Int), j + d = ws.length →
    Ev (fun k => impl_tooGreat.l0 k vec p (x : Int) acc ws (ws.length : Int) (j : Int)) (decide (dotFrom ws vec d j acc < shl .i64 (rd vec (x : Int)) p)) := by
  induction d with
  | zero => intro j acc h; exact ev_one (fun k => by rw [impl_tooGreat.l0, if_neg (by omega), if_pos (by omega), if_pos (by omega), if_pos hp]; rfl)
  | succ d ih =>
    intro j acc h
    exact Ev.step (fun k => by rw [impl_tooGreat.l0, if_pos (by omega), if_pos (by omega), if_pos (by omega), if_pos (by omega), wrap_succ (j := j) (n := ws.length) (by omega) (by omega)]) (ih (j + 1) _ (by omega))
theorem tooG_ev (ws vec : List Int) (p : Int) (hp : 0 ≤ p) (x : Nat) (hx : x < vec.length) (hl : ws.length = vec.length) (h12 : vec.length ≤ 100) : Ev (fun k => impl_tooGreat.f k ws vec p (x : Int)) (tooG ws vec p (x : Int)) :=
  tooG_loop ws vec p hp x hx hl h12 ws.length 0 0 (by omega)
theorem max_loop (l : List Int) (hn : l.length ≤ 1000) (d : Nat) : ∀ (j : Nat) (m : Int), j + d = l.length →
    ∃ M, Ev (fun k => slices_Max_int64_int64.l0 k l m (j : Int)) M ∧ (M > 0 ↔ m > 0 ∨ ∃ x ∈ l.drop j, x > 0) := by
  induction d with
  | zero =>
    intro j m h
    refine ⟨m, ev_one (fun k => by rw [slices_Max_int64_int64.l0, if_neg (by omega)]), ?_⟩
    rw [List.drop_eq_nil_of_le (by omega)]
    simp
  | succ d ih =>
    intro j m h
    have hj : j < l.length := by omega
    obtain ⟨M, h1, h2⟩ := ih (j + 1) (mx m (rd l (j : Int))) (by omega)
    refine ⟨M, Ev.step (fun k => by rw [slices_Max_int64_int64.l0, if_pos (by omega), if_pos (by omega), wrap_succ hj (by omega)]) h1, ?_⟩
    rw [h2, rd_get _ _ hj, drop_cons _ _ hj]
    have hm : mx m l[j] > 0 ↔ m > 0 ∨ l[j] > 0 := by unfold mx; split <;> omega
    rw [hm]
    simp only [List.mem_cons]
    constructor
    · rintro ((h | h) | ⟨x, hx, h⟩)
      · exact .inl h
      · exact .inr ⟨_, .inl rfl, h⟩
      · exact .inr ⟨x, .inr hx, h⟩
    · rintro (h | ⟨x, rfl | hx, h⟩)
      · exact .inl (.inl h)
      · exact .inl (.inr h)
      · exact .inr ⟨x, hx, h⟩
theorem max_ev (l : List Int) (h0 : 0 < l.length) (hn : l.length ≤ 1000) : ∃ M, Ev (fun k => slices_Max_int64_int64.f k l) M ∧ (M > 0 ↔ ∃ x ∈ l, x > 0) := by
  obtain ⟨M, h1, h2⟩ := max_loop l hn (l.length - 1) 1 (rd l ((0 : Nat) : Int)) (by omega)
  refine ⟨M, ?_, ?_⟩
  · refine Ev.congr (fun k => ?_) h1
    unfold slices_Max_int64_int64.f
    rw [if_neg (by omega), if_pos (by omega)]
    rfl
  · rw [h2, rd_get _ _ h0]
    constructor
    · rintro (h | ⟨x, hx, h⟩)
      · exact ⟨_, List.getElem_mem h0, h⟩
      · exact ⟨x, List.mem_of_mem_drop hx, h⟩
    · rintro ⟨x, hx, h⟩
      have := drop_cons l 0 h0
      rw [List.drop_zero] at this
      rw [this] at hx
      rcases List.mem_cons.1 hx with rfl | hx
      · exact .inl h
      · exact .inr ⟨x, hx, h⟩
theorem rate_f (p q : Int) : spec_l02Rate.f p q = some (decide ((1 ≤ p ∧ p ≤ 8) ∧ (1 ≤ q ∧ q ≤ 8))) := by
  unfold spec_l02Rate.f
  rw [spec_in, spec_in]
  by_cases c : 1 ≤ p ∧ p ≤ 8
  · simp [c]
  · simp [c]
theorem exp_f (p : Int) : impl_isExponent.f p = some (decide (1 ≤ p ∧ p ≤ 8)) := by
  unfold impl_isExponent.f
  rw [impl_in]
  rfl
theorem addE_in (z m : Int) (nx : List Int) (M c : Int) (hm : 0 ≤ m ∧ m ≤ M) (hc : 0 ≤ c ∧ c ≤ 4000000000000000000) (hM : M ≤ 4000000000000000000) (h : ∀ e ∈ nx, 0 ≤ e ∧ e ≤ c) : ∀ e ∈ addE z m nx, 0 ≤ e ∧ e ≤ c + M := by
  intro e he
  unfold addE at he
  split at he
  · rcases List.mem_or_eq_of_mem_set he with he | he
    · have := h e he; omega
    · have hr : 0 ≤ rd nx z ∧ rd nx z ≤ c := by
        unfold rd
        rw [List.getD_eq_getElem?_getD]
        cases q : nx[z.toNat]? with
        | none => simp; omega
        | some v => simp; exact h v (List.mem_of_getElem? q)
      rw [wrap64_in (by omega) (by omega)] at he
      omega
  · have := h e he; omega
theorem wayRow_in (g : List (List Int)) (row nx : List Int) (y : Int) (M c : Int) (hr : 0 ≤ rd row y ∧ rd row y ≤ M) (hc : 0 ≤ c ∧ c ≤ 1000000000000000000) (hM : M ≤ 1000000000000000000) (h : ∀ e ∈ nx, 0 ≤ e ∧ e ≤ c) : ∀ e ∈ wayRow g row nx y, 0 ≤ e ∧ e ≤ c + 2 * M := by
  intro e he
  have h1 := addE_in (rd (rd_L1 g y) 0) (rd row y) nx M c hr (by omega) (by omega) h
  have h2 := addE_in (rd (rd_L1 g y) 1) (rd row y) _ M (c + M) hr (by omega) (by omega) h1 e he
  omega
theorem wayFrom_in (g : List (List Int)) (row : List Int) (M : Int) (hM : 0 ≤ M ∧ M ≤ 10000000000000000) (hr : ∀ y : Nat, 0 ≤ rd row (y : Int) ∧ rd row (y : Int) ≤ M) (d : Nat) : ∀ (j : Nat) (nx : List Int), j + d ≤ 12 → (∀ e ∈ nx, 0 ≤ e ∧ e ≤ (j : Int) * (2 * M)) → ∀ e ∈ wayFrom g row d j nx, 0 ≤ e ∧ e ≤ ((j + d : Nat) : Int) * (2 * M) := by
  induction d with
  | zero => intro j nx _ h e he; exact h e he
  | succ d ih =>
    intro j nx hj h e he
    have hb : (j : Int) * (2 * M) ≤ 12 * (2 * M) := Int.mul_le_mul_of_nonneg_right (by omega) (by omega)
    have h0 : 0 ≤ (j : Int) * (2 * M) := Int.mul_nonneg (by omega) (by omega)
    have h1 := wayRow_in g row nx (j : Int) M ((j : Int) * (2 * M)) (hr j) (by omega) (by omega) h
    have es : (j : Int) * (2 * M) + 2 * M = ((j + 1 : Nat) : Int) * (2 * M) := by rw [Int.natCast_add, Int.add_mul]; simp
    rw [es] at h1
    have := ih (j + 1) _ (by omega) h1 e he
    rwa [show j + 1 + d = j + (d + 1) by omega] at this
theorem rd_in {l : List Int} {c : Int} (hc : 0 ≤ c) (h : ∀ e ∈ l, 0 ≤ e ∧ e ≤ c) (y : Nat) : 0 ≤ rd l (y : Int) ∧ rd l (y : Int) ≤ c := by
  rw [rd_nat, List.getD_eq_getElem?_getD]
  cases q : l[y]? with
  | none => simp; omega
  | some v => simp; exact h v (List.mem_of_getElem? q)
theorem wayStep_in (g : List (List Int)) (h12 : g.length ≤ 12) (row : List Int) (M : Int) (hM : 0 ≤ M ∧ M ≤ 10000000000000000) (h : ∀ e ∈ row, 0 ≤ e ∧ e ≤ M) : ∀ e ∈ wayStep g row, 0 ≤ e ∧ e ≤ 24 * M := by
  intro e he
  have := wayFrom_in g row M hM (rd_in hM.1 h) g.length 0 (List.replicate g.length 0) (by omega) (by intro e he; rw [(List.mem_replicate.1 he).2]; simp) e he
  have hb : ((0 + g.length : Nat) : Int) * (2 * M) ≤ 12 * (2 * M) := Int.mul_le_mul_of_nonneg_right (by omega) (by omega)
  omega
theorem wayIter_in (g : List (List Int)) (h12 : g.length ≤ 12) (k : Nat) : ∀ (row : List Int) (M : Int), 0 ≤ M → M * 24 ^ k ≤ 110075314176 → (∀ e ∈ row, 0 ≤ e ∧ e ≤ M) → ∀ e ∈ wayIter g k row, 0 ≤ e ∧ e ≤ 110075314176 := by
  induction k with
  | zero => intro row M h0 hM h e he; have := h e he; rw [Int.pow_zero, Int.mul_one] at hM; omega
  | succ k ih =>
    intro row M h0 hM h e he
    have hp : (1 : Int) ≤ 24 ^ k := by have : (0 : Int) < 24 ^ k := Int.pow_pos (by decide); omega
    have e1 : M * 24 ^ (k + 1) = (24 * M) * 24 ^ k := by rw [Int.pow_succ, Int.mul_comm (24 ^ k) 24, ← Int.mul_assoc, Int.mul_comm M 24]
    rw [e1] at hM
    have h1 : 24 * M * 1 ≤ 24 * M * 24 ^ k := Int.mul_le_mul_of_nonneg_left hp (by omega)
    exact ih (wayStep g row) (24 * M) (by omega) hM (wayStep_in g h12 row M (by omega) h) e he
theorem wayOf_in (g : List (List Int)) (h12 : g.length ≤ 12) (q x : Nat) (hq : q ≤ 8) (y : Nat) : 0 ≤ rd (wayOf g q x) (y : Int) ∧ rd (wayOf g q x) (y : Int) ≤ 110075314176 := by
  refine rd_in (by decide) (wayIter_in g h12 q _ 1 (by decide) ?_ ?_) y
  · have h1 : (24 : Int) ^ q ≤ 24 ^ 8 := by
      have := Nat.pow_le_pow_right (n := 24) (by decide) hq
      exact_mod_cast this
    rw [Int.one_mul]
    exact Int.le_trans h1 (by decide)
  · intro e he
    rcases List.mem_or_eq_of_mem_set he with he | he
    · rw [(List.mem_replicate.1 he).2]; omega
    · omega

def dotZ (ws vec : List Int) : Nat → Nat → Int
  | 0, _ => 0
  | d + 1, j => rd ws (j : Int) * rd vec (j : Int) + dotZ ws vec d (j + 1)
def Small (vec : List Int) : Prop := ∀ y : Nat, 0 ≤ rd vec (y : Int) ∧ rd vec (y : Int) ≤ 30
def WsIn (ws : List Int) : Prop := ∀ y : Nat, 0 ≤ rd ws (y : Int) ∧ rd ws (y : Int) ≤ 110075314176
def LeV (u v : List Int) : Prop := ∀ y : Nat, rd u (y : Int) ≤ rd v (y : Int)
theorem prod_in {a b : Int} (ha : 0 ≤ a ∧ a ≤ 110075314176) (hb : 0 ≤ b ∧ b ≤ 30) : 0 ≤ a * b ∧ a * b ≤ 3302259425280 :=
  ⟨Int.mul_nonneg ha.1 hb.1, Int.le_trans (Int.mul_le_mul ha.2 hb.2 hb.1 (by decide)) (by decide)⟩
theorem dotFrom_eq (ws vec : List Int) (hw : WsIn ws) (hv : Small vec) (d : Nat) : ∀ (j : Nat) (acc : Int), j + d ≤ 12 → 0 ≤ acc → acc ≤ (j : Int) * 3302259425280 → dotFrom ws vec d j acc = acc + dotZ ws vec d j := by
  induction d with
  | zero => intro j acc _ _ _; show acc = acc + 0; omega
  | succ d ih =>
    intro j acc hj h0 h1
    have hp := prod_in (hw j) (hv j)
    show dotFrom ws vec d (j + 1) (wrap64 (acc + wrap64 (rd ws (j : Int) * rd vec (j : Int)))) = acc + (rd ws (j : Int) * rd vec (j : Int) + dotZ ws vec d (j + 1))
    rw [wrap64_in (x := rd ws (j : Int) * rd vec (j : Int)) (by omega) (by omega), wrap64_in (by omega) (by omega), ih (j + 1) _ (by omega) (by omega) (by omega)]
    omega
theorem dotZ_mono (ws u v : List Int) (hw : WsIn ws) (h : LeV u v) (d : Nat) : ∀ j : Nat, dotZ ws u d j ≤ dotZ ws v d j := by
  induction d with
  | zero => intro j; exact Int.le_refl _
  | succ d ih => intro j; exact Int.add_le_add (Int.mul_le_mul_of_nonneg_left (h j) (hw j).1) (ih (j + 1))
theorem dotZ_nonneg (ws v : List Int) (hw : WsIn ws) (hv : Small v) (d : Nat) : ∀ j : Nat, 0 ≤ dotZ ws v d j := by
  induction d with
  | zero => intro j; exact Int.le_refl _
  | succ d ih => intro j; exact Int.add_nonneg (prod_in (hw j) (hv j)).1 (ih (j + 1))
theorem rd_set_same (l : List Int) (x : Nat) (v : Int) (h : x < l.length) : rd (l.set x v) (x : Int) = v := by
  rw [rd_nat, List.getD_eq_getElem?_getD, List.getElem?_set_self h]; rfl
theorem rd_set_other (l : List Int) (x y : Nat) (v : Int) (h : y ≠ x) : rd (l.set x v) (y : Int) = rd l (y : Int) := by
  rw [rd_nat, rd_nat, List.getD_eq_getElem?_getD, List.getD_eq_getElem?_getD, List.getElem?_set_ne (Ne.symm h)]
theorem set_rd (l : List Int) (x : Nat) (h : x < l.length) : l.set x (rd l (x : Int)) = l := by
  rw [rd_get _ _ h]; simp
theorem small_set {l : List Int} (hl : Small l) (x : Nat) (v : Int) (h : 0 ≤ v ∧ v ≤ 30) : Small (l.set x v) := by
  intro y
  by_cases c : x < l.length
  · by_cases e : y = x
    · subst e; rw [rd_set_same _ _ _ c]; exact h
    · rw [rd_set_other _ _ _ _ e]; exact hl y
  · rw [List.set_eq_of_length_le (by omega)]; exact hl y
theorem shl_zero (p : Int) : shl .i64 0 p = 0 := by unfold shl; rw [Int.zero_mul]; exact i64_in (by decide) (by decide)
section
variable (ws : List Int) (hw : WsIn ws) (h12 : ws.length ≤ 12) (p : Int)
include hw h12
theorem tooG_zero (v : List Int) (hv : Small v) (x : Nat) (h : rd v (x : Int) = 0) : tooG ws v p (x : Int) = false := by
  unfold tooG
  have := dotZ_nonneg ws v hw hv ws.length 0
  rw [dotFrom_eq ws v hw hv ws.length 0 0 (by omega) (by omega) (by omega), h, shl_zero]
  exact decide_eq_false (by omega)
theorem tooG_up (u v : List Int) (hu : Small u) (hv : Small v) (x : Nat) (he : rd u (x : Int) = rd v (x : Int)) (h : LeV u v) (ht : tooG ws u p (x : Int) = false) : tooG ws v p (x : Int) = false := by
  unfold tooG at *
  have hm := dotZ_mono ws u v hw h ws.length 0
  rw [dotFrom_eq ws u hw hu ws.length 0 0 (by omega) (by omega) (by omega)] at ht
  rw [dotFrom_eq ws v hw hv ws.length 0 0 (by omega) (by omega) (by omega)]
  have ht2 := of_decide_eq_false ht
  rw [he] at ht2
  exact decide_eq_false (by omega)
end
/-- The greatest number of at most m that is not too great at x. -/
def mostF (ws vec : List Int) (p : Int) (x : Nat) : Nat → Nat
  | 0 => 0
  | m + 1 => if tooG ws (vec.set x ((m + 1 : Nat) : Int)) p (x : Int) = true then mostF ws vec p x m else m + 1
theorem mostF_le (ws vec : List Int) (p : Int) (x : Nat) (m : Nat) : mostF ws vec p x m ≤ m := by
  induction m with
  | zero => exact Nat.le_refl _
  | succ m ih => unfold mostF; split <;> omega
theorem mostF_stop (ws vec : List Int) (p : Int) (x : Nat) (m : Nat) (h : mostF ws vec p x m = m) : m = 0 ∨ tooG ws (vec.set x (m : Int)) p (x : Int) = false := by
  cases m with
  | zero => exact .inl rfl
  | succ m =>
    unfold mostF at h
    split at h
    · have := mostF_le ws vec p x m; omega
    · rename_i c; exact .inr (by simpa using c)
theorem mostF_ge (ws vec : List Int) (p : Int) (x : Nat) (n : Nat) (hn : tooG ws (vec.set x (n : Int)) p (x : Int) = false) (m : Nat) : n ≤ m → n ≤ mostF ws vec p x m := by
  induction m with
  | zero => intro h; omega
  | succ m ih =>
    intro h
    unfold mostF
    split
    · rename_i c
      by_cases e : n = m + 1
      · subst e; rw [hn] at c; cases c
      · exact ih (by omega)
    · omega
/-- The sum of the numbers. -/
def sumV : List Int → Nat
  | [] => 0
  | a :: l => a.toNat + sumV l
theorem sumV_set (l : List Int) (x : Nat) (v : Int) (h : x < l.length) : sumV (l.set x v) + (rd l (x : Int)).toNat = sumV l + v.toNat := by
  induction l generalizing x with
  | nil => cases h
  | cons a l ih =>
    cases x with
    | zero => show v.toNat + sumV l + a.toNat = a.toNat + sumV l + v.toNat; omega
    | succ x =>
      have := ih x (by simpa using h)
      have e : rd (a :: l) ((x + 1 : Nat) : Int) = rd l (x : Int) := by rw [rd_nat, rd_nat]; rfl
      rw [e]
      show a.toNat + sumV (l.set x v) + (rd l (x : Int)).toNat = a.toNat + sumV l + v.toNat
      omega
theorem impl_at (W : List (List Int)) (ws vec : List Int) (p : Int) (hp : 0 ≤ p) (x n : Nat) (hx : x < vec.length) (hxW : x < W.length) (hW : rd_L1 W (x : Int) = ws) (hl : ws.length = vec.length) (h12 : vec.length ≤ 12) {r : List Int × Bool} (m : Nat) (hm30 : m ≤ 30) :
    ∀ ch : Bool, Ev (fun k => impl_CodeVector.l1 k p W (vec.set x ((mostF ws vec p x m : Nat) : Int)) (ch || decide (mostF ws vec p x m < m)) (n : Int) ((x + 1 : Nat) : Int)) r → Ev (fun k => impl_CodeVector.l2 k p W (vec.set x (m : Int)) ch (x : Int) (n : Int) (x : Int)) r := by
  have hw := Aside0.mk (wrap_succ (j := x) (n := vec.length) hx (by omega))
  induction m with
  | zero =>
    intro ch h
    have hs : (vec.set x ((0 : Nat) : Int)).length = vec.length := List.length_set
    have hr : rd (vec.set x ((0 : Nat) : Int)) (x : Int) = ((0 : Nat) : Int) := rd_set_same _ _ _ hx
    have e : (ch || decide (mostF ws vec p x 0 < 0)) = ch := by simp
    rw [e] at h
    exact Ev.step (fun k => by rw [impl_CodeVector.l2, if_pos (by omega), if_pos (by omega), if_neg (by omega), hw.out]; rfl) h
  | succ m ih =>
    intro ch h
    have hs : (vec.set x ((m + 1 : Nat) : Int)).length = vec.length := List.length_set
    have hr : rd (vec.set x ((m + 1 : Nat) : Int)) (x : Int) = ((m + 1 : Nat) : Int) := rd_set_same _ _ _ hx
    have ht := tooG_ev ws (vec.set x ((m + 1 : Nat) : Int)) p hp x (by omega) (by omega) (by omega)
    have hle := mostF_le ws vec p x m
    have hwm := Aside0.mk (show wrap64 (((m + 1 : Nat) : Int) - 1) = (m : Int) by rw [wrap64_in (by omega) (by omega)]; omega)
    by_cases c : tooG ws (vec.set x ((m + 1 : Nat) : Int)) p (x : Int) = true
    · rw [c] at ht
      have e : mostF ws vec p x (m + 1) = mostF ws vec p x m := by rw [mostF, if_pos c]
      rw [e] at h
      have e2 : (ch || decide (mostF ws vec p x m < m + 1)) = (true || decide (mostF ws vec p x m < m)) := by rw [decide_eq_true (by omega)]; simp
      rw [e2] at h
      refine Ev.step (fun k => by rw [impl_CodeVector.l2, if_pos (by omega), if_pos (by omega), if_pos (by omega), if_pos (by omega), hW]) (Ev.bind ht (ev_pos rfl ?_))
      rw [hr, hwm.out, Int.toNat_natCast, List.set_set]
      exact ih (by omega) true h
    · rw [Bool.eq_false_iff.mpr c] at ht
      have e : mostF ws vec p x (m + 1) = m + 1 := by rw [mostF, if_neg c]
      rw [e] at h
      have e2 : (ch || decide (m + 1 < m + 1)) = ch := by simp
      rw [e2] at h
      refine Ev.step (fun k => by rw [impl_CodeVector.l2, if_pos (by omega), if_pos (by omega), if_pos (by omega), if_pos (by omega), hW]) (Ev.bind ht (ev_neg Bool.false_ne_true ?_))
      rw [hw.out]
      exact h
theorem spec_most_sum (ws vec : List Int) (p : Int) (hp : 0 ≤ p ∧ p ≤ 8) (x : Nat) (hx : x < vec.length) (hl : ws.length = vec.length) (h12 : vec.length ≤ 12) (n : Int) {r : Int} (d : Nat) : ∀ (j : Nat) (acc : Int), j + d = vec.length →
    Ev (fun k => if dotFrom ws (vec.set x n) d j acc ≥ shl .i64 n p then some n else spec_l02Most.l0 k ws vec (x : Int) p (wrap64 (n - 1))) r → Ev (fun k => spec_l02Most.l1 k ws vec (x : Int) p n acc (j : Int)) r := by
  have hu : IntKind.u64.wrap p = p := u64_in (by omega) (by omega)
  induction d with
  | zero => intro j acc h hr; exact Ev.step (fun k => by rw [spec_l02Most.l1, if_neg (by omega), hu, if_pos hp.1]; rfl) hr
  | succ d ih =>
    intro j acc h hr
    have hw := Aside0.mk (wrap_succ (j := j) (n := vec.length) (by omega) (by omega))
    by_cases e : j = x
    · subst e
      have hs : rd (vec.set j n) (j : Int) = n := rd_set_same _ _ _ hx
      refine Ev.step (fun k => by rw [spec_l02Most.l1, if_pos (by omega), if_pos rfl, if_pos (by omega), if_pos (by omega), hw.out]) (ih (j + 1) (wrap64 (acc + wrap64 (rd ws (j : Int) * n))) (by omega) ?_)
      have : dotFrom ws (vec.set j n) (d + 1) j acc = dotFrom ws (vec.set j n) d (j + 1) (wrap64 (acc + wrap64 (rd ws (j : Int) * n))) := by
        show dotFrom ws (vec.set j n) d (j + 1) (wrap64 (acc + wrap64 (rd ws (j : Int) * rd (vec.set j n) (j : Int)))) = _
        rw [hs]
      rw [← this]; exact hr
    · have hs : rd (vec.set x n) (j : Int) = rd vec (j : Int) := rd_set_other _ _ _ _ e
      refine Ev.step (fun k => by rw [spec_l02Most.l1, if_pos (by omega), if_neg (by omega), if_pos (by omega), if_pos (by omega), hw.out]) (ih (j + 1) (wrap64 (acc + wrap64 (rd ws (j : Int) * rd vec (j : Int)))) (by omega) ?_)
      have : dotFrom ws (vec.set x n) (d + 1) j acc = dotFrom ws (vec.set x n) d (j + 1) (wrap64 (acc + wrap64 (rd ws (j : Int) * rd vec (j : Int)))) := by
        show dotFrom ws (vec.set x n) d (j + 1) (wrap64 (acc + wrap64 (rd ws (j : Int) * rd (vec.set x n) (j : Int)))) = _
        rw [hs]
      rw [← this]; exact hr
theorem spec_most (ws vec : List Int) (p : Int) (hp : 0 ≤ p ∧ p ≤ 8) (x : Nat) (hx : x < vec.length) (hl : ws.length = vec.length) (h12 : vec.length ≤ 12) (m : Nat) (hm : m ≤ 30) : Ev (fun k => spec_l02Most.l0 k ws vec (x : Int) p (m : Int)) ((mostF ws vec p x m : Nat) : Int) := by
  induction m with
  | zero => exact ev_one (fun k => by rw [spec_l02Most.l0, if_neg (by omega)]; rfl)
  | succ m ih =>
    have hr : rd (vec.set x ((m + 1 : Nat) : Int)) (x : Int) = ((m + 1 : Nat) : Int) := rd_set_same _ _ _ hx
    have hwm : wrap64 (((m + 1 : Nat) : Int) - 1) = (m : Int) := by rw [wrap64_in (by omega) (by omega)]; omega
    refine Ev.step (fun k => by rw [spec_l02Most.l0, if_pos (by omega)]; rfl) (spec_most_sum ws vec p hp x hx hl h12 ((m + 1 : Nat) : Int) vec.length 0 0 (by omega) ?_)
    rw [hwm]
    have et : tooG ws (vec.set x ((m + 1 : Nat) : Int)) p (x : Int) = decide (dotFrom ws (vec.set x ((m + 1 : Nat) : Int)) vec.length 0 0 < shl .i64 ((m + 1 : Nat) : Int) p) := by unfold tooG; rw [hr, hl]
    by_cases c : dotFrom ws (vec.set x ((m + 1 : Nat) : Int)) vec.length 0 0 ≥ shl .i64 ((m + 1 : Nat) : Int) p
    · have e : mostF ws vec p x (m + 1) = m + 1 := by rw [mostF, if_neg (by rw [et, decide_eq_false (by omega)]; decide)]
      rw [e]; exact ev_pos c (Ev.now _)
    · have e : mostF ws vec p x (m + 1) = mostF ws vec p x m := by rw [mostF, if_pos (by rw [et, decide_eq_true (by omega)])]
      rw [e]; exact ev_neg c (ih (by omega))

theorem LeV.refl (u : List Int) : LeV u u := fun _ => Int.le_refl _
theorem LeV.trans {u v z : List Int} (h : LeV u v) (k : LeV v z) : LeV u z := fun y => Int.le_trans (h y) (k y)
theorem leV_set (l : List Int) (x : Nat) (v : Int) (h : v ≤ rd l (x : Int)) : LeV (l.set x v) l := by
  intro y
  by_cases c : x < l.length
  · by_cases e : y = x
    · subst e; rw [rd_set_same _ _ _ c]; exact h
    · rw [rd_set_other _ _ _ _ e]; exact Int.le_refl _
  · rw [List.set_eq_of_length_le (by omega)]; exact Int.le_refl _
theorem leV_into (u l : List Int) (x : Nat) (v : Int) (h : LeV u l) (hv : rd u (x : Int) ≤ v) : LeV u (l.set x v) := by
  intro y
  by_cases c : x < l.length
  · by_cases e : y = x
    · subst e; rw [rd_set_same _ _ _ c]; exact hv
    · rw [rd_set_other _ _ _ _ e]; exact h y
  · rw [List.set_eq_of_length_le (by omega)]; exact h y
section
variable (g : List (List Int)) (h12 : g.length ≤ 12) (q : Nat) (hq : q ≤ 8) (p : Int) (hp : 0 ≤ p ∧ p ≤ 8)
include h12 hq hp
/-- One look over all states, as both do it. -/
theorem sweep (d : Nat) : ∀ (x : Nat) (vec : List Int) (ch : Bool), x + d = g.length → vec.length = g.length → Small vec →
    ∃ vec' ch', vec'.length = g.length ∧ Small vec' ∧ LeV vec' vec ∧ sumV vec' ≤ sumV vec ∧ (ch = true → ch' = true) ∧ (ch' = false → vec' = vec ∧ ∀ y : Nat, x ≤ y → y < g.length → tooG (wayOf g q y) vec p (y : Int) = false) ∧ (ch' = true → ch = true ∨ sumV vec' < sumV vec) ∧
      (∀ u, u.length = g.length → Small u → LeV u vec → (∀ y : Nat, y < g.length → tooG (wayOf g q y) u p (y : Int) = false) → LeV u vec') ∧
      (∀ r, Ev (fun k => spec_CodeVector.l1 k p (waysTo g q g.length) vec' ch') r → Ev (fun k => spec_CodeVector.l2 k p (waysTo g q g.length) vec ch (x : Int)) r) ∧
      (∀ r, Ev (fun k => impl_CodeVector.l0 k p (waysTo g q g.length) vec' ch') r → Ev (fun k => impl_CodeVector.l1 k p (waysTo g q g.length) vec ch (g.length : Int) (x : Int)) r) := by
  have hWl := waysTo_length g q g.length
  induction d with
  | zero =>
    intro x vec ch hx hl hs
    refine ⟨vec, ch, hl, hs, LeV.refl _, Nat.le_refl _, fun h => h, fun _ => ⟨rfl, fun y h1 h2 => by omega⟩, fun h => .inl h, fun u _ _ h _ => h, fun r hr => Ev.step (fun k => by rw [spec_CodeVector.l2, if_neg (by omega)]) hr, fun r hr => Ev.step (fun k => by rw [impl_CodeVector.l1, if_neg (by omega)]) hr⟩
  | succ d ih =>
    intro x vec ch hx hl hs
    have hxl : x < vec.length := by omega
    have hW := waysTo_get g q g.length x (by omega)
    have hwl := wayOf_length g q x
    have hwin : WsIn (wayOf g q x) := fun y => wayOf_in g h12 q x hq y
    obtain ⟨m, hm⟩ : ∃ m : Nat, rd vec (x : Int) = (m : Int) := ⟨(rd vec (x : Int)).toNat, by have := hs x; omega⟩
    have hm30 : m ≤ 30 := by have := hs x; omega
    have hle := mostF_le (wayOf g q x) vec p x m
    obtain ⟨n, hn⟩ : ∃ n, n = mostF (wayOf g q x) vec p x m := ⟨_, rfl⟩
    have hw := Aside0.mk (wrap_succ (j := x) (n := g.length) (by omega) (by omega))
    have hset : vec.set x (m : Int) = vec := by rw [← hm]; exact set_rd _ _ hxl
    have hsp : Ev (fun k => spec_l02Most.f k (wayOf g q x) vec (x : Int) p (m : Int)) ((mostF (wayOf g q x) vec p x m : Nat) : Int) := spec_most (wayOf g q x) vec p hp x hxl (by omega) (by omega) m hm30
    rw [← hn] at hle hsp
    have hs1 : Small (vec.set x (n : Int)) := small_set hs x _ (by omega)
    have hl1 : (vec.set x (n : Int)).length = g.length := by rw [List.length_set]; exact hl
    have hle1 : LeV (vec.set x (n : Int)) vec := leV_set vec x _ (by omega)
    have hsum := sumV_set vec x (n : Int) hxl
    rw [hm] at hsum
    obtain ⟨v2, c2, i1, i2, i3, i4, i5, i6, i7, i8, i9, i10⟩ := ih (x + 1) (vec.set x (n : Int)) (ch || decide (n < m)) (by omega) hl1 hs1
    refine ⟨v2, c2, i1, i2, i3.trans hle1, by omega, fun h => i5 (by rw [h]; rfl), ?_, ?_, ?_, ?_, ?_⟩
    · intro h
      obtain ⟨e, hall⟩ := i6 h
      have hnm : n = m := by
        by_cases c : n < m
        · have := i5 (by rw [decide_eq_true c]; simp)
          rw [h] at this; cases this
        · omega
      subst hnm
      rw [hset] at e hall
      refine ⟨e, fun y h1 h2 => ?_⟩
      by_cases c : y = x
      · subst c
        rcases mostF_stop (wayOf g q y) vec p y n hn.symm with h0 | h0
        · subst h0
          exact tooG_zero (wayOf g q y) hwin (by omega) p vec hs y hm
        · rwa [hset] at h0
      · exact hall y (by omega) h2
    · intro h
      rcases i7 h with h1 | h1
      · cases ch with
        | true => exact .inl rfl
        | false =>
          rw [Bool.false_or, decide_eq_true_iff] at h1
          exact .inr (by omega)
      · exact .inr (by omega)
    · intro u hul hus hu hall
      refine i8 u hul hus (leV_into u vec x _ hu ?_) hall
      obtain ⟨a, ha⟩ : ∃ a : Nat, rd u (x : Int) = (a : Int) := ⟨(rd u (x : Int)).toNat, by have := hus x; omega⟩
      have ham : a ≤ m := by have := hu x; omega
      have hua : tooG (wayOf g q x) (vec.set x (a : Int)) p (x : Int) = false := by
        refine tooG_up (wayOf g q x) hwin (by omega) p u _ hus (small_set hs x _ (by omega)) x (by rw [rd_set_same _ _ _ hxl]; exact ha) (leV_into u vec x _ hu (by omega)) (hall x (by omega))
      have := mostF_ge (wayOf g q x) vec p x a hua m ham
      omega
    · intro r hr
      have hr2 := i9 r hr
      refine Ev.step (fun k => by rw [spec_CodeVector.l2, if_pos (by omega), if_pos (by omega), if_pos (by omega), hW, hm]) (Ev.bind hsp ?_)
      rw [hw.out]
      by_cases c : n < m
      · rw [decide_eq_true c, Bool.or_true] at hr2
        exact ev_pos (by omega) (by rw [Int.toNat_natCast]; exact hr2)
      · have hnm : n = m := by omega
        rw [decide_eq_false c, Bool.or_false, hnm, hset] at hr2
        exact ev_neg (by omega) hr2
    · intro r hr
      have hr2 := i10 r hr
      have h2 := impl_at (waysTo g q g.length) (wayOf g q x) vec p hp.1 x g.length hxl (by omega) hW (by omega) (by omega) (r := r) m hm30 ch
      rw [← hn, hset] at h2
      exact Ev.step (fun k => by rw [impl_CodeVector.l1, if_pos (by omega)]) (h2 hr2)
theorem sweeps (N : Nat) : ∀ (vec : List Int), sumV vec ≤ N → vec.length = g.length → Small vec →
    ∃ v, v.length = g.length ∧ Small v ∧ LeV v vec ∧ (∀ y : Nat, y < g.length → tooG (wayOf g q y) v p (y : Int) = false) ∧
      (∀ u, u.length = g.length → Small u → LeV u vec → (∀ y : Nat, y < g.length → tooG (wayOf g q y) u p (y : Int) = false) → LeV u v) ∧
      (∀ r, Ev (fun k => spec_CodeVector.l3 k v 0) r → Ev (fun k => spec_CodeVector.l1 k p (waysTo g q g.length) vec true) r) ∧
      (∀ r, Ev (fun k => (slices_Max_int64_int64.f k v).bind fun t206 => (if t206 = 0 then (some (([] : List Int), false)) else (some (v, true)))) r → Ev (fun k => impl_CodeVector.l0 k p (waysTo g q g.length) vec true) r) := by
  induction N with
  | zero =>
    intro vec hN hl hs
    obtain ⟨v, c, i1, i2, i3, i4, _, i6, i7, i8, i9, i10⟩ := sweep g h12 q hq p hp g.length 0 vec false (by omega) hl hs
    have hc : c = false := by
      cases c with
      | false => rfl
      | true => rcases i7 rfl with h | h
                · cases h
                · omega
    subst hc
    obtain ⟨rfl, hall⟩ := i6 rfl
    refine ⟨v, hl, hs, LeV.refl _, fun y hy => hall y (by omega) hy, fun u h1 h2 h3 h4 => h3, fun r hr => ?_, fun r hr => ?_⟩
    · exact Ev.step (fun k => by rw [spec_CodeVector.l1, if_pos rfl]; rfl) (i9 r (Ev.step (fun k => by rw [spec_CodeVector.l1, if_neg Bool.false_ne_true]) hr))
    · exact Ev.step (fun k => by rw [impl_CodeVector.l0, if_pos rfl, hl]; rfl) (i10 r (Ev.step (fun k => by rw [impl_CodeVector.l0, if_neg Bool.false_ne_true]) hr))
  | succ N ih =>
    intro vec hN hl hs
    obtain ⟨v, c, i1, i2, i3, i4, _, i6, i7, i8, i9, i10⟩ := sweep g h12 q hq p hp g.length 0 vec false (by omega) hl hs
    cases c with
    | false =>
      obtain ⟨rfl, hall⟩ := i6 rfl
      refine ⟨v, hl, hs, LeV.refl _, fun y hy => hall y (by omega) hy, fun u h1 h2 h3 h4 => h3, fun r hr => ?_, fun r hr => ?_⟩
      · exact Ev.step (fun k => by rw [spec_CodeVector.l1, if_pos rfl]; rfl) (i9 r (Ev.step (fun k => by rw [spec_CodeVector.l1, if_neg Bool.false_ne_true]) hr))
      · exact Ev.step (fun k => by rw [impl_CodeVector.l0, if_pos rfl, hl]; rfl) (i10 r (Ev.step (fun k => by rw [impl_CodeVector.l0, if_neg Bool.false_ne_true]) hr))
    | true =>
      have hlt : sumV v < sumV vec := by
        rcases i7 rfl with h | h
        · cases h
        · exact h
      obtain ⟨z, j1, j2, j3, j4, j5, j6, j7⟩ := ih v (by omega) i1 i2
      refine ⟨z, j1, j2, j3.trans i3, j4, fun u h1 h2 h3 h4 => j5 u h1 h2 (i8 u h1 h2 h3 h4) h4, fun r hr => ?_, fun r hr => ?_⟩
      · exact Ev.step (fun k => by rw [spec_CodeVector.l1, if_pos rfl]; rfl) (i9 r (j6 r hr))
      · exact Ev.step (fun k => by rw [impl_CodeVector.l0, if_pos rfl, hl]; rfl) (i10 r (j7 r hr))
end
theorem max_ge (l : List Int) (hn : l.length ≤ 1000) (d : Nat) : ∀ (j : Nat) (m : Int), j + d = l.length → ∃ M, Ev (fun k => slices_Max_int64_int64.l0 k l m (j : Int)) M ∧ m ≤ M := by
  induction d with
  | zero => intro j m h; exact ⟨m, ev_one (fun k => by rw [slices_Max_int64_int64.l0, if_neg (by omega)]), Int.le_refl _⟩
  | succ d ih =>
    intro j m h
    obtain ⟨M, h1, h2⟩ := ih (j + 1) (mx m (rd l (j : Int))) (by omega)
    refine ⟨M, Ev.step (fun k => by rw [slices_Max_int64_int64.l0, if_pos (by omega), if_pos (by omega), wrap_succ (j := j) (n := l.length) (by omega) (by omega)]) h1, ?_⟩
    unfold mx at h2
    split at h2 <;> omega
theorem max_zero (l : List Int) (h0 : 0 < l.length) (hn : l.length ≤ 1000) (hs : Small l) : ∃ M, Ev (fun k => slices_Max_int64_int64.f k l) M ∧ 0 ≤ M ∧ (M > 0 ↔ ∃ x ∈ l, x > 0) := by
  obtain ⟨M, h1, h2⟩ := max_ev l h0 hn
  obtain ⟨M', h3, h4⟩ := max_ge l hn (l.length - 1) 1 (rd l ((0 : Nat) : Int)) (by omega)
  have h5 : Ev (fun k => slices_Max_int64_int64.f k l) M' := by
    refine Ev.congr (fun k => ?_) h3
    unfold slices_Max_int64_int64.f
    rw [if_neg (by omega), if_pos (by omega)]
    rfl
  have := ev_det h1 h5
  subst this
  exact ⟨M, h1, by have := (hs 0).1; omega, h2⟩
theorem spec_some (v : List Int) (hn : v.length ≤ 1000) (d : Nat) : ∀ j : Nat, j + d = v.length → Ev (fun k => spec_CodeVector.l3 k v (j : Int)) (if (v.drop j).any (fun x => decide (x > 0)) = true then (v, true) else ([], false)) := by
  induction d with
  | zero =>
    intro j h
    rw [List.drop_eq_nil_of_le (by omega)]
    exact ev_one (fun k => by rw [spec_CodeVector.l3, if_neg (by omega)]; rfl)
  | succ d ih =>
    intro j h
    have hj : j < v.length := by omega
    rw [drop_cons _ _ hj, List.any_cons]
    by_cases c : v[j] > 0
    · rw [decide_eq_true c, Bool.true_or, if_pos rfl]
      exact ev_one (fun k => by rw [spec_CodeVector.l3, if_pos (by omega), if_pos (by omega), rd_get _ _ hj, if_pos c])
    · rw [decide_eq_false c, Bool.false_or]
      exact Ev.step (fun k => by rw [spec_CodeVector.l3, if_pos (by omega), if_pos (by omega), rd_get _ _ hj, if_neg c, wrap_succ hj (by omega)]) (ih (j + 1) (by omega))
theorem rep_loop (g : List (List Int)) (h12 : g.length ≤ 12) (p most : Int) (W : List (List Int)) {r : List Int × Bool} (h : Ev (fun k => spec_CodeVector.l1 k p W (List.replicate g.length most) true) r) (d : Nat) : ∀ j : Nat, j + d = g.length → Ev (fun k => spec_CodeVector.l0 k p most W (List.replicate j most) (j : Int) g) r := by
  induction d with
  | zero =>
    intro j hj
    obtain rfl : j = g.length := by omega
    exact Ev.step (fun k => by rw [spec_CodeVector.l0, if_neg (by omega)]) h
  | succ d ih =>
    intro j hj
    have e : List.replicate (j + 1) most = List.replicate j most ++ [most] := List.replicate_succ'
    have := ih (j + 1) (by omega)
    rw [e] at this
    exact Ev.step (fun k => by rw [spec_CodeVector.l0, if_pos (by omega), if_pos (by rw [List.length_replicate]; omega), wrap_succ (j := j) (n := g.length) (by omega) (by omega)]) this
/-- What both say of a valid graph with numbers in their bounds: the greatest code vector, if some number of it is not 0. -/
theorem codeVector_yes (g : List (List Int)) (hv : VG g = true) (q : Nat) (hq : 1 ≤ q ∧ q ≤ 8) (p : Int) (hp : 1 ≤ p ∧ p ≤ 8) (most : Int) (hm : 1 ≤ most ∧ most ≤ 30) :
    ∃ v, v.length = g.length ∧ Small v ∧ LeV v (List.replicate g.length most) ∧ (∀ y : Nat, y < g.length → tooG (wayOf g q y) v p (y : Int) = false) ∧
      (∀ u, u.length = g.length → Small u → LeV u (List.replicate g.length most) → (∀ y : Nat, y < g.length → tooG (wayOf g q y) u p (y : Int) = false) → LeV u v) ∧
      Ev (fun k => spec_CodeVector.f k g p (q : Int) most) (if v.any (fun x => decide (x > 0)) = true then (v, true) else ([], false)) ∧
      Ev (fun k => impl_CodeVector.f k g p (q : Int) most) (if v.any (fun x => decide (x > 0)) = true then (v, true) else ([], false)) := by
  have h12 := (VG_iff hv).1
  have hg := rows2_of hv
  have hs : Small (List.replicate g.length most) := by
    intro y
    rw [rd_nat, List.getD_eq_getElem?_getD, List.getElem?_replicate]
    split <;> simp <;> omega
  obtain ⟨v, i1, i2, i3, i4, i5, i6, i7⟩ := sweeps g (by omega) q (by omega) p (by omega) _ (List.replicate g.length most) (Nat.le_refl _) (by simp) hs
  refine ⟨v, i1, i2, i3, i4, i5, ?_, ?_⟩
  · have hsi := specIs_ev g
    rw [hv] at hsi
    unfold spec_CodeVector.f
    refine Ev.bind hsi (ev_pos rfl (ev_to (rate_f _ _) ?_))
    rw [decide_eq_true (show (1 ≤ p ∧ p ≤ 8) ∧ (1 ≤ (q : Int) ∧ (q : Int) ≤ 8) by omega)]
    refine ev_pos rfl (ev_to (spec_in _ _ _) ?_)
    rw [decide_eq_true (show 1 ≤ most ∧ most ≤ 30 by omega)]
    refine Ev.step (fun k => by rw [spec_CodeVector.j0, if_neg (by decide)]) (Ev.bind (specWays_ev g hg h12.2 q (by omega)) ?_)
    exact rep_loop g h12.2 p most _ (i6 _ (by have := spec_some v (by omega) v.length 0 (by omega); rwa [List.drop_zero] at this)) g.length 0 (by omega)
  · have hvi := implVG_ev g (fun r hr => by obtain ⟨a, b, rfl, _⟩ := (VG_iff hv).2 r hr; exact (by decide : 2 ≤ 9223372036854775807))
    rw [hv] at hvi
    have e1 : impl_isExponent.f p = some true := by rw [exp_f, decide_eq_true hp]
    have e2 : impl_isExponent.f (q : Int) = some true := by rw [exp_f, decide_eq_true (by omega)]
    unfold impl_CodeVector.f
    refine Ev.bind hvi (ev_pos rfl (ev_to e1 (ev_pos rfl (ev_to e2 (ev_pos rfl (ev_to (impl_in _ _ _) ?_))))))
    rw [decide_eq_true (show 1 ≤ most ∧ most ≤ 30 by omega)]
    have e3 : slices_Repeat_int64_int64.f [most] (g.length : Int) = some (List.replicate g.length most) := by
      unfold slices_Repeat_int64_int64.f
      rw [if_pos ⟨rfl, by omega, by omega⟩]; rfl
    refine Ev.step (fun k => by rw [impl_CodeVector.j0, if_neg (by decide)]) (Ev.bind (implWays_ev g hg h12.2 q (by omega)) (ev_to e3 (i7 _ ?_)))
    obtain ⟨M, m1, m2, m3⟩ := max_zero v (by omega) (by omega) i2
    refine Ev.bind m1 ?_
    by_cases c : M > 0
    · have hany : v.any (fun x => decide (x > 0)) = true := by
        obtain ⟨x, hx, h⟩ := m3.1 c
        exact List.any_eq_true.2 ⟨x, hx, decide_eq_true h⟩
      rw [if_pos hany]
      exact ev_neg (by omega) (Ev.now _)
    · have hany : ¬ v.any (fun x => decide (x > 0)) = true := by
        intro h
        obtain ⟨x, hx, h⟩ := List.any_eq_true.1 h
        exact c (m3.2 ⟨x, hx, of_decide_eq_true h⟩)
      rw [if_neg hany]
      exact ev_pos (by omega) (Ev.now _)

/-- What the program says of a vector with numbers in their bounds. -/
theorem is_loop (g : List (List Int)) (h12 : g.length ≤ 12) (q : Nat) (p : Int) (hp : 0 ≤ p) (vec : List Int) (hl : vec.length = g.length) (M : Int) (hM : Ev (fun k => slices_Max_int64_int64.f k vec) M) (d : Nat) : ∀ x : Nat, x + d = vec.length →
    ((∀ y : Nat, x ≤ y → y < g.length → tooG (wayOf g q y) vec p (y : Int) = false) → Ev (fun k => impl_IsCodeVector.l0 k p vec (waysTo g q g.length) (vec.length : Int) (x : Int)) (decide (M > 0))) ∧
    ((¬ ∀ y : Nat, x ≤ y → y < g.length → tooG (wayOf g q y) vec p (y : Int) = false) → Ev (fun k => impl_IsCodeVector.l0 k p vec (waysTo g q g.length) (vec.length : Int) (x : Int)) false) := by
  induction d with
  | zero =>
    intro x hx
    exact ⟨fun _ => Ev.step (fun k => by rw [impl_IsCodeVector.l0, if_neg (by omega)]) (Ev.bind hM (Ev.now _)), fun h => absurd (fun y h1 h2 => by omega) h⟩
  | succ d ih =>
    intro x hx
    have hxl : x < vec.length := by omega
    obtain ⟨i1, i2⟩ := ih (x + 1) (by omega)
    have hw := waysTo_get g q g.length x (by omega)
    have hwl := waysTo_length g q g.length
    have hl2 := wayOf_length g q x
    have ht := tooG_ev (wayOf g q x) vec p hp x hxl (by omega) (by omega)
    cases c : tooG (wayOf g q x) vec p (x : Int) with
    | true =>
      rw [c] at ht
      have hno : ¬ ∀ y : Nat, x ≤ y → y < g.length → tooG (wayOf g q y) vec p (y : Int) = false := by
        intro h
        have h2 := h x (Nat.le_refl _) (by omega)
        rw [c] at h2
        exact Bool.noConfusion h2
      refine ⟨fun h => absurd h hno, fun _ => ?_⟩
      exact Ev.step (fun k => by rw [impl_IsCodeVector.l0, if_pos (by omega), if_pos (by omega), if_pos (by omega), hw]) (Ev.bind ht (ev_pos rfl (Ev.now _)))
    | false =>
      rw [c] at ht
      have st : ∀ r, Ev (fun k => impl_IsCodeVector.l0 k p vec (waysTo g q g.length) (vec.length : Int) ((x + 1 : Nat) : Int)) r → Ev (fun k => impl_IsCodeVector.l0 k p vec (waysTo g q g.length) (vec.length : Int) (x : Int)) r := fun r hr =>
        Ev.step (fun k => by rw [impl_IsCodeVector.l0, if_pos (by omega), if_pos (by omega), if_pos (by omega), hw, wrap_succ hxl (by omega)]) (Ev.bind ht (ev_neg Bool.false_ne_true hr))
      refine ⟨fun h => st _ (i1 (fun y h1 h2 => h y (by omega) h2)), fun h => st _ (i2 (fun hall => h (fun y h1 h2 => ?_)))⟩
      by_cases e : y = x
      · subst e; exact c
      · exact hall y (by omega) h2
theorem isVec_f (g : List (List Int)) (hv : VG g = true) (q : Nat) (hq : 1 ≤ q ∧ q ≤ 8) (p : Int) (hp : 1 ≤ p ∧ p ≤ 8) (vec : List Int) (hl : vec.length = g.length) (hs : Small vec) :
    ∃ b, Ev (fun k => impl_IsCodeVector.f k g p (q : Int) vec) b ∧ (b = true ↔ (∀ y : Nat, y < g.length → tooG (wayOf g q y) vec p (y : Int) = false) ∧ ∃ x ∈ vec, x > 0) := by
  have h12 := (VG_iff hv).1
  have hg := rows2_of hv
  have hvi := implVG_ev g (fun r hr => by obtain ⟨a, b, rfl, _⟩ := (VG_iff hv).2 r hr; exact (by decide : 2 ≤ 9223372036854775807))
  rw [hv] at hvi
  have e1 : impl_isExponent.f p = some true := by rw [exp_f, decide_eq_true hp]
  have e2 : impl_isExponent.f (q : Int) = some true := by rw [exp_f, decide_eq_true (by omega)]
  have ha := areIn_ev vec 0 30 (by omega)
  have hall : (vec.all fun x => decide (0 ≤ x ∧ x ≤ 30)) = true := by
    rw [List.all_eq_true]
    intro x hx
    obtain ⟨j, hj, rfl⟩ := List.mem_iff_getElem.1 hx
    have := hs j
    rw [rd_get _ _ hj] at this
    exact decide_eq_true this
  rw [hall] at ha
  obtain ⟨M, m1, m2⟩ := max_ev vec (by omega) (by omega)
  obtain ⟨l1, l2⟩ := is_loop g h12.2 q p (by omega) vec hl M m1 vec.length 0 (by omega)
  have up : ∀ b, Ev (fun k => impl_IsCodeVector.l0 k p vec (waysTo g q g.length) (vec.length : Int) 0) b → Ev (fun k => impl_IsCodeVector.f k g p (q : Int) vec) b := by
    intro b hb
    unfold impl_IsCodeVector.f
    exact Ev.bind hvi (ev_pos rfl (ev_to e1 (ev_pos rfl (ev_to e2 (ev_pos rfl (ev_pos (by omega) (Ev.bind ha (Ev.step (fun k => by rw [impl_IsCodeVector.j0, if_neg (by decide)]) (Ev.bind (implWays_ev g hg h12.2 q (by omega)) hb)))))))))
  by_cases c : ∀ y : Nat, 0 ≤ y → y < g.length → tooG (wayOf g q y) vec p (y : Int) = false
  · refine ⟨_, up _ (l1 c), ?_⟩
    rw [decide_eq_true_iff, m2]
    exact ⟨fun h => ⟨fun y hy => c y (Nat.zero_le _) hy, h⟩, fun h => h.2⟩
  · exact ⟨_, up _ (l2 c), (fun h => by cases h), fun h => absurd (fun y _ hy => h.1 y hy) c⟩
theorem drawn_loop (g : List (List Int)) (h12 : g.length ≤ 12) (M : List Int) (hM : M.length ≤ 9223372036854775807) (hMb : ∀ x ∈ M, (Lit.int .u8 x).wf = true) (p q most : Int) (hm : 1 ≤ most ∧ most ≤ 30) (vec : List Int) (one : Bool)
    (h : ∀ u : List Int, u.length = g.length → (∀ e ∈ u, 0 ≤ e ∧ e ≤ most) → Ev (fun k => (impl_IsCodeVector.f k g p q u).bind fun t378 => (if t378 = true then (laws_FnCodeVectors.j2 k most vec one u t378 (!one) g) else (laws_FnCodeVectors.j2 k most vec one u t378 false g))) true) (d : Nat) :
    ∀ (j : Nat) (u : List Int), j + d = g.length → u.length = j → (∀ e ∈ u, 0 ≤ e ∧ e ≤ most) → Ev (fun k => laws_FnCodeVectors.l0 k M p q most vec one u (j : Int) g) true := by
  induction d with
  | zero => intro j u hj hu hin; exact Ev.step (fun k => by rw [laws_FnCodeVectors.l0, if_neg (by omega)]) (h u (by omega) hin)
  | succ d ih =>
    intro j u hj hu hin
    have w1 := Aside0.mk (show wrap64 ((j : Int) + 3) = (j : Int) + 3 from wrap64_in (by omega) (by omega))
    have w2 := Aside0.mk (show wrap64 (most + 1) = most + 1 from wrap64_in (by omega) (by omega))
    have w3 := Aside0.mk (wrap_succ (j := j) (n := g.length) (by omega) (by omega))
    obtain ⟨v, e, v0, v1⟩ := r8At_f M hM hMb ((j : Int) + 3) (most + 1) (by omega)
    refine Ev.step (fun k => by rw [laws_FnCodeVectors.l0, if_pos (by omega), w1.out, w2.out, e, Option.bind_some, if_pos (by omega), w3.out]) (ih (j + 1) (u ++ [v]) (by omega) (by simp [hu]) (fun x hx => ?_))
    rcases List.mem_append.1 hx with hx | hx
    · exact hin x hx
    · rw [List.mem_singleton.1 hx]; omega
theorem last_loop (g : List (List Int)) (hv : VG g = true) (most : Int) (vec u : List Int) (one is : Bool) (hul : u.length = g.length) (h12 : g.length ≤ 12) (h1 : is = true → LeV u vec ∧ one = true) (h2 : one = true → vec.length = g.length ∧ ∀ y : Nat, y < g.length → rd vec (y : Int) ≤ most) (d : Nat) : ∀ j : Nat, j + d = g.length →
    Ev (fun k => laws_FnCodeVectors.l1 k most vec one u is (j : Int) g) true := by
  have hvi := implVG_ev g (fun r hr => by obtain ⟨a, b, rfl, _⟩ := (VG_iff hv).2 r hr; exact (by decide : 2 ≤ 9223372036854775807))
  rw [hv] at hvi
  induction d with
  | zero => intro j hj; exact Ev.step (fun k => by rw [laws_FnCodeVectors.l1, if_neg (by omega)]) (Ev.bind hvi (Ev.now _))
  | succ d ih =>
    intro j hj
    have hi := ih (j + 1) (by omega)
    have w3 := Aside0.mk (wrap_succ (j := j) (n := g.length) (by omega) (by omega))
    cases is with
    | true =>
      obtain ⟨hle, rfl⟩ := h1 rfl
      obtain ⟨hvl, hmost⟩ := h2 rfl
      have a := hle j
      have b := hmost j (by omega)
      exact Ev.step (fun k => by rw [laws_FnCodeVectors.l1, if_pos (by omega), if_pos rfl, if_pos (by omega), if_pos (by omega), if_neg (by omega), if_pos rfl, if_neg (by omega), w3.out]) hi
    | false =>
      cases one with
      | true =>
        obtain ⟨hvl, hmost⟩ := h2 rfl
        have b := hmost j (by omega)
        exact Ev.step (fun k => by rw [laws_FnCodeVectors.l1, if_pos (by omega), if_neg Bool.false_ne_true, if_pos rfl, if_pos (by omega), if_pos (by omega), if_neg (by omega), w3.out]) hi
      | false => exact Ev.step (fun k => by rw [laws_FnCodeVectors.l1, if_pos (by omega), if_neg Bool.false_ne_true, if_neg Bool.false_ne_true, w3.out]) hi
theorem FnCodeVectors : laws_FnCodeVectors.Pure := by
  intro L M hL hLb hM hMb
  apply Ev.rounds
  unfold laws_FnCodeVectors.f
  have hlong : ∃ b, laws_r8Long.f L M = some b := by unfold laws_r8Long.f; split <;> exact ⟨_, rfl⟩
  obtain ⟨b, hb⟩ := hlong
  refine ev_to hb ?_
  cases b with
  | true => exact ev_pos rfl (Ev.now _)
  | false =>
  refine ev_neg Bool.false_ne_true ?_
  obtain ⟨g, hgr, hv⟩ := r8Graph_ev L hL hLb
  have h12 := (VG_iff hv).1
  obtain ⟨p0, e1, p1, p2⟩ := r8At_f M hM hMb 0 3 (by decide)
  obtain ⟨q0, e2, q1, q2⟩ := r8At_f M hM hMb 1 3 (by decide)
  obtain ⟨m0, e3, m1, m2⟩ := r8At_f M hM hMb 2 5 (by decide)
  obtain ⟨p, hp⟩ : ∃ p, p = 1 + p0 := ⟨_, rfl⟩
  obtain ⟨q, hq⟩ : ∃ q : Nat, q = (1 + p0 + q0).toNat := ⟨_, rfl⟩
  obtain ⟨most, hmost⟩ : ∃ m, m = 1 + m0 := ⟨_, rfl⟩
  have wp : wrap64 (1 + p0) = p := by rw [wrap64_in (by omega) (by omega)]; exact hp.symm
  have wq : wrap64 (p + q0) = (q : Int) := by rw [wrap64_in (by omega) (by omega)]; omega
  have wm : wrap64 (1 + m0) = most := by rw [wrap64_in (by omega) (by omega)]; exact hmost.symm
  refine Ev.bind hgr (ev_to e1 (ev_to e2 (ev_to e3 ?_)))
  rw [wp, wq, wm]
  clear wp wq wm
  obtain ⟨v, v1, v2, v3, v4, v5, v6, v7⟩ := codeVector_yes g hv q (by omega) p (by omega) most (by omega)
  have hrep : ∀ y : Nat, y < g.length → rd (List.replicate g.length most) (y : Int) = most := by
    intro y hy
    rw [rd_get _ _ (by simpa using hy)]; simp
  have hle : ∀ y : Nat, y < g.length → rd v (y : Int) ≤ most := fun y hy => by have := v3 y; rw [hrep y hy] at this; exact this
  refine Ev.bind v7 (Ev.bind v6 ?_)
  have hu2 : ∀ u : List Int, u.length = g.length → (∀ e ∈ u, 0 ≤ e ∧ e ≤ most) → Small u ∧ LeV u (List.replicate g.length most) := by
    intro u hul hin
    refine ⟨fun y => ?_, fun y => ?_⟩
    · have := rd_in (c := most) (by omega) hin y; omega
    · by_cases c : y < g.length
      · rw [hrep y c]; exact (rd_in (c := most) (by omega) hin y).2
      · rw [rd_nat, rd_nat, List.getD_eq_getElem?_getD, List.getD_eq_getElem?_getD, List.getElem?_eq_none (by omega), List.getElem?_eq_none (by simp; omega)]; exact Int.le_refl _
  have body : ∀ one : Bool, one = v.any (fun x => decide (x > 0)) → Ev (fun k => laws_FnCodeVectors.j0 k M p (q : Int) most (if one = true then v else []) one false g) true := by
    intro one hone
    refine Ev.step (fun k => by rw [laws_FnCodeVectors.j0, if_neg Bool.false_ne_true]; rfl) (drawn_loop g h12.2 M hM hMb p (q : Int) most (by omega) (if one = true then v else []) one (fun u hul hin => ?_) g.length 0 [] (by omega) rfl (fun e he => by cases he))
    obtain ⟨hus, huw⟩ := hu2 u hul hin
    obtain ⟨is, hi1, hi2⟩ := isVec_f g hv q (by omega) p (by omega) u hul hus
    have hyes : is = true → LeV u (if one = true then v else []) ∧ one = true := by
      intro h
      obtain ⟨k1, x, hx, hx0⟩ := hi2.1 h
      have huv := v5 u hul hus huw k1
      have : one = true := by
        rw [hone, List.any_eq_true]
        obtain ⟨j, hj, rfl⟩ := List.mem_iff_getElem.1 hx
        have h1 := huv j
        rw [rd_get _ _ hj, rd_get _ _ (by omega)] at h1
        exact ⟨v[j], List.getElem_mem _, decide_eq_true (by omega)⟩
      rw [this, if_pos rfl]
      exact ⟨huv, rfl⟩
    have hlast := last_loop g hv most (if one = true then v else []) u one is hul h12.2 hyes (fun h => by rw [h, if_pos rfl]; exact ⟨v1, hle⟩) g.length 0 (by omega)
    refine Ev.bind hi1 ?_
    cases is with
    | true =>
      obtain ⟨_, ho⟩ := hyes rfl
      rw [ho] at hlast ⊢
      exact ev_pos rfl (Ev.step (fun k => by rw [laws_FnCodeVectors.j2, if_neg (by decide)]; rfl) hlast)
    | false => exact ev_neg Bool.false_ne_true (Ev.step (fun k => by rw [laws_FnCodeVectors.j2, if_neg Bool.false_ne_true]; rfl) hlast)
  cases c : v.any (fun x => decide (x > 0)) with
  | true =>
    have hbody := body true c.symm
    rw [if_pos rfl] at hbody
    rw [if_pos rfl]
    obtain ⟨is, hi1, hi2⟩ := isVec_f g hv q (by omega) p (by omega) v v1 v2
    have his : is = true := hi2.2 ⟨v4, by obtain ⟨x, hx, h⟩ := List.any_eq_true.1 c; exact ⟨x, hx, of_decide_eq_true h⟩⟩
    rw [his] at hi1
    refine ev_neg (by simp) (ev_pos rfl (Ev.bind hi1 (ev_pos rfl ?_)))
    have e : ((v.length : Int) != (g.length : Int)) = false := by rw [v1]; simp
    rw [e]
    exact hbody
  | false =>
    have hbody := body false c.symm
    rw [if_neg Bool.false_ne_true] at hbody
    rw [if_neg Bool.false_ne_true]
    exact ev_neg (by simp) (ev_neg Bool.false_ne_true hbody)

end Go.Proofs.Ytanndepgepgfoab.Pure
