/-
The law FnExactRunGraph answers true for all numbers; there are no conditions beside the row's own bounds.
-/
import Derived.Test.YtanndepgepgfoaaQFnExactRunGraphx3
namespace Go.Proofs.Ytanndepgepgfoaa.Pure
open Go.RowKit Go.Proofs.Ytanndepgepgfoaa.QFnExactRunGraph Go.Proofs.YtanndepgepgfoaaW.PrintWords Go.Proofs.YtanndepgepgfoaaW.PrintLast Go.Proofs.YtanndepgepgfoaaW.PrintMore
set_option linter.unusedVariables false

theorem ev_one {α : Type} {g : Nat → Option α} {r : α} (h : ∀ k, g (k + 1) = some r) : Ev g r :=
  ⟨1, fun k hk => by obtain ⟨m, rfl⟩ : ∃ m, k = m + 1 := ⟨k - 1, by omega⟩; exact h m⟩
theorem wrap64_in {x : Int} (h0 : -9223372036854775808 ≤ x) (h1 : x ≤ 9223372036854775807) : wrap64 x = x := by
  unfold wrap64; omega
theorem u64_in {x : Int} (h0 : 0 ≤ x) (h1 : x ≤ 18446744073709551615) : IntKind.u64.wrap x = x := by
  simp [IntKind.wrap, IntKind.bits, IntKind.signed]; omega
theorem i64_in {x : Int} (h0 : -9223372036854775808 ≤ x) (h1 : x ≤ 9223372036854775807) : IntKind.i64.wrap x = x := by
  rw [IntKind.wrap_i64]; omega
theorem and_one (x : Int) : Go.bits .and .i64 x 1 = x % 2 := by
  have h : (BitVec.ofInt 64 x &&& BitVec.ofInt 64 1).toNat = (x % 2).toNat := by
    have e1 : BitVec.ofInt 64 1 = 1#64 := by decide
    rw [e1, BitVec.toNat_and, BitVec.toNat_ofInt]
    have e2 : (1#64).toNat = 1 := by decide
    rw [e2, Nat.and_one_is_mod]
    omega
  show IntKind.i64.wrap (((BitVec.ofInt 64 x &&& BitVec.ofInt 64 1).toNat : Nat) : Int) = x % 2
  rw [h, i64_in (by omega) (by omega)]
  omega
theorem wf_i64 {x : Int} (h : (Lit.int .i64 x).wf = true) : -9223372036854775808 ≤ x ∧ x ≤ 9223372036854775807 := by
  simp [Lit.wf, IntKind.min, IntKind.max, IntKind.signed, IntKind.bits] at h
  omega
theorem pow_pos_int (d : Nat) : (0 : Int) < 2 ^ d := Int.pow_pos (by decide)
theorem pow_le_int {a b : Nat} (h : a ≤ b) : (2 : Int) ^ a ≤ 2 ^ b := by
  have := Nat.pow_le_pow_right (n := 2) (by decide) h
  exact_mod_cast this

theorem ev_pos {α : Type} {c : Prop} [Decidable c] {g h : Nat → Option α} {r : α} (hc : c) (hg : Ev g r) : Ev (fun k => if c then g k else h k) r := by
  obtain ⟨K, hK⟩ := hg
  exact ⟨K, fun k hk => (if_pos hc).trans (hK k hk)⟩
theorem ev_neg {α : Type} {c : Prop} [Decidable c] {g h : Nat → Option α} {r : α} (hc : ¬ c) (hg : Ev h r) : Ev (fun k => if c then g k else h k) r := by
  obtain ⟨K, hK⟩ := hg
  exact ⟨K, fun k hk => (if_neg hc).trans (hK k hk)⟩
theorem ev_some {α β : Type} {f : Nat → α → Option β} {a : α} {r : β} (h : Ev (fun k => f k a) r) : Ev (fun k => (some a).bind (f k)) r := h
theorem ev_to {α β : Type} {x : Option α} {f : Nat → α → Option β} {a : α} {r : β} (e : x = some a) (h : Ev (fun k => f k a) r) : Ev (fun k => x.bind (f k)) r := by subst e; exact h
theorem ev_det {α : Type} {g : Nat → Option α} {r r' : α} (h : Ev g r) (h' : Ev g r') : r = r' := by
  obtain ⟨K, hK⟩ := h
  obtain ⟨K', hK'⟩ := h'
  have h1 := hK (max K K') (Nat.le_max_left _ _)
  have h2 := hK' (max K K') (Nat.le_max_right _ _)
  rw [h1] at h2
  exact Option.some.inj h2
theorem wrap_succ {j n : Nat} (h : j < n) (hn : n ≤ 9223372036854775807) : wrap64 ((j : Int) + 1) = ((j + 1 : Nat) : Int) := by
  rw [wrap64_in (by omega) (by omega)]; omega
theorem nat0 (j : Nat) : (0 : Int) ≤ (j : Int) := Int.natCast_nonneg j
theorem rd_nat (l : List Int) (j : Nat) : rd l (j : Int) = l.getD j 0 := by unfold rd; rw [Int.toNat_natCast]
theorem rd_get (l : List Int) (j : Nat) (h : j < l.length) : rd l (j : Int) = l[j] := by rw [rd_nat, List.getD_eq_getElem?_getD, List.getElem?_eq_getElem h]; rfl
theorem drop_cons {α : Type} (l : List α) (j : Nat) (h : j < l.length) : l.drop j = l[j] :: l.drop (j + 1) := List.drop_eq_getElem_cons h
theorem take_snoc' {α : Type} (l : List α) (j : Nat) (h : j < l.length) : l.take (j + 1) = l.take j ++ [l[j]] := List.take_succ_eq_append_getElem h
theorem set_take {α : Type} (acc : List α) (j : Nat) (x : α) (h : j < acc.length) : (acc.set j x).take (j + 1) = acc.take j ++ [x] := by
  rw [List.take_set, List.take_succ_eq_append_getElem h, List.set_append_right _ _ (by simp; omega)]
  have : (acc.take j).length = j := by rw [List.length_take]; omega
  rw [this, Nat.sub_self]
  rfl
theorem take_all {α : Type} {a b : List α} {n : Nat} (ha : a.length = n) (hb : b.length = n) (h : a.take n = b.take n) : a = b := by
  rw [List.take_of_length_le (by omega), List.take_of_length_le (by omega)] at h; exact h
theorem w01 : wrap64 (0 + 1) = 1 := by unfold wrap64; decide
theorem w11 : wrap64 (1 + 1) = 2 := by unfold wrap64; decide

theorem spec_in (a b c : Int) : spec_l00In.f a b c = some (decide (b ≤ a ∧ a ≤ c)) := by
  unfold spec_l00In.f
  by_cases h : a ≥ b
  · rw [if_pos h]; congr 1; have : b ≤ a := h; simp [this]
  · rw [if_neg h]; congr 1; have : ¬ b ≤ a := h; simp [this]
theorem impl_in (a b c : Int) : impl_within.f a b c = some (decide (b ≤ a ∧ a ≤ c)) := by
  unfold impl_within.f
  by_cases h : a ≥ b
  · rw [if_pos h]; congr 1; have : b ≤ a := h; simp [this]
  · rw [if_neg h]; congr 1; have : ¬ b ≤ a := h; simp [this]

theorem rdL_get (l : List (List Int)) (j : Nat) (h : j < l.length) : rd_L1 l (j : Int) = l[j] := by
  unfold rd_L1; rw [Int.toNat_natCast, List.getD_eq_getElem?_getD, List.getElem?_eq_getElem h]; rfl

theorem len2 (a b : Int) : (([a, b] : List Int).length : Int) = 2 := rfl
theorem eqInt64S_loop (l : List Int) (hn : l.length ≤ 1048576) (d : Nat) : ∀ j : Nat, j + d = l.length → Ev (fun k => laws_eqInt64S.l0 k l l (j : Int)) true := by
  induction d with
  | zero => intro j h; exact ev_one (fun k => by rw [laws_eqInt64S.l0, if_neg (by omega)])
  | succ d ih =>
    intro j h
    refine Ev.step (fun k => ?_) (ih (j + 1) (by omega))
    rw [laws_eqInt64S.l0, if_pos (by omega), if_pos (by omega), if_pos (by omega), if_pos rfl, wrap_succ (n := l.length) (by omega) (by omega)]
theorem eqInt64S_ev (l : List Int) (hn : l.length ≤ 1048576) : Ev (fun k => laws_eqInt64S.f k l l) true := by
  refine Ev.congr (fun k => ?_) (eqInt64S_loop l hn l.length 0 (by omega))
  unfold laws_eqInt64S.f
  rw [if_pos rfl]
  rfl

theorem eqInt64SS_loop (l : List (List Int)) (hn : l.length ≤ 1048576) (hr : ∀ r ∈ l, r.length ≤ 1048576) (d : Nat) : ∀ j : Nat, j + d = l.length → Ev (fun k => laws_eqInt64SS.l0 k l l (j : Int)) true := by
  induction d with
  | zero => intro j h; exact ev_one (fun k => by rw [laws_eqInt64SS.l0, if_neg (by omega)])
  | succ d ih =>
    intro j h
    have hj : j < l.length := by omega
    refine Ev.step (fun k => by rw [laws_eqInt64SS.l0, if_pos (by omega), if_pos (by omega), if_pos (by omega), rdL_get _ _ hj]) ?_
    refine Ev.bind (eqInt64S_ev l[j] (hr _ (List.getElem_mem hj))) (ev_pos rfl ?_)
    rw [wrap_succ hj (by omega)]
    exact ih (j + 1) (by omega)
theorem eqInt64SS_ev (l : List (List Int)) (hn : l.length ≤ 1048576) (hr : ∀ r ∈ l, r.length ≤ 1048576) : Ev (fun k => laws_eqInt64SS.f k l l) true := by
  refine Ev.congr (fun k => ?_) (eqInt64SS_loop l hn hr l.length 0 (by omega))
  unfold laws_eqInt64SS.f
  rw [if_pos rfl]
  rfl

theorem eqGraph_ev (l : List (List Int)) (hn : l.length ≤ 1048576) (hr : ∀ r ∈ l, r.length ≤ 1048576) : Ev (fun k => laws_eqGraph.f k l l) true := by
  unfold laws_eqGraph.f
  exact Ev.bind (eqInt64SS_ev l hn hr) (Ev.now _)
/-- n numbers from a on. -/
def seqF (a : Int) (n : Nat) : List Int := (List.range n).map fun (i : Nat) => a + (i : Int)
theorem seqF_length (a : Int) (n : Nat) : (seqF a n).length = n := by simp [seqF]
theorem seqF_succ (a : Int) (n : Nat) : seqF a (n + 1) = seqF a n ++ [a + (n : Int)] := by simp [seqF, List.range_succ]
theorem seqF_rd (a : Int) (n j : Nat) (h : j < n) : rd (seqF a n) (j : Int) = a + (j : Int) := by
  rw [rd_get _ _ (by rw [seqF_length]; exact h)]; simp [seqF]
theorem markF_loop (a : Int) (n : Nat) (h0 : 0 ≤ a) (hn : a + n ≤ 4611686018427387904) (d : Nat) : ∀ (j : Nat) (l : List Int), j + d = n → l.length = n → l.take j = seqF a j →
    Ev (fun k => laws_markInt64S.l0 k l (a + (j : Int)) (j : Int)) (a + (n : Int), seqF a n) := by
  induction d with
  | zero =>
    intro j l h hl ht
    obtain rfl : j = n := by omega
    have e : l = seqF a j := by rw [← ht, List.take_of_length_le (by omega)]
    exact ev_one (fun k => by rw [laws_markInt64S.l0, if_neg (by omega), e])
  | succ d ih =>
    intro j l h hl ht
    have hw := wrap_succ (j := j) (n := n) (by omega) (by omega)
    have hw2 : wrap64 (a + (j : Int) + 1) = a + ((j + 1 : Nat) : Int) := by rw [wrap64_in (by omega) (by omega)]; omega
    exact Ev.step (fun k => by rw [laws_markInt64S.l0, if_pos (by omega), if_pos (by omega), hw, hw2, Int.toNat_natCast]) (ih (j + 1) _ (by omega) (by rw [List.length_set]; exact hl) (by rw [set_take _ _ _ (by omega), ht, seqF_succ]))
theorem markF_ev (l : List Int) (a : Int) (h0 : 0 ≤ a) (hn : a + l.length ≤ 4611686018427387904) : Ev (fun k => laws_markInt64S.f k l a) (a + (l.length : Int), seqF a l.length) := by
  have h := markF_loop a l.length h0 hn l.length 0 l (by omega) rfl rfl
  rwa [show a + ((0 : Nat) : Int) = a by omega] at h
theorem heldF_loop (a : Int) (n : Nat) (h0 : 0 ≤ a) (hn : a + n ≤ 4611686018427387904) (d : Nat) : ∀ j : Nat, j + d = n → Ev (fun k => laws_heldInt64S.l0 k (seqF a n) (a + (j : Int)) (j : Int)) (a + (n : Int)) := by
  have hl := seqF_length a n
  induction d with
  | zero =>
    intro j h
    obtain rfl : j = n := by omega
    exact ev_one (fun k => by rw [laws_heldInt64S.l0, if_neg (by omega)])
  | succ d ih =>
    intro j h
    have hw := wrap_succ (j := j) (n := n) (by omega) (by omega)
    have hw2 : wrap64 (a + (j : Int) + 1) = a + ((j + 1 : Nat) : Int) := by rw [wrap64_in (by omega) (by omega)]; omega
    have hr := seqF_rd a n j (by omega)
    exact Ev.step (fun k => by rw [laws_heldInt64S.l0, if_pos (by omega), if_pos (by omega), if_pos hr, hw, hw2]) (ih (j + 1) (by omega))
theorem heldF_ev (a : Int) (n : Nat) (h0 : 0 ≤ a) (hn : a + n ≤ 4611686018427387904) : Ev (fun k => laws_heldInt64S.f k (seqF a n) a) (a + (n : Int)) := by
  have h := heldF_loop a n h0 hn n 0 (by omega)
  rwa [show a + ((0 : Nat) : Int) = a by omega] at h
/-- The marks of a table, row by row. -/
def markT : Int → List (List Int) → List (List Int)
  | _, [] => []
  | a, r :: t => seqF a r.length :: markT (a + (r.length : Int)) t
def totT : List (List Int) → Int
  | [] => 0
  | r :: t => (r.length : Int) + totT t
theorem totT_nonneg : ∀ t, 0 ≤ totT t
  | [] => Int.le_refl _
  | r :: t => by have := totT_nonneg t; show 0 ≤ (r.length : Int) + totT t; omega
theorem totT_le (n : Nat) : ∀ t : List (List Int), (∀ r ∈ t, r.length ≤ n) → totT t ≤ (t.length * n : Nat)
  | [], _ => by simp [totT]
  | r :: t, h => by
    have h1 := totT_le n t (fun x hx => h x (List.mem_cons_of_mem _ hx))
    have h2 := h r List.mem_cons_self
    show (r.length : Int) + totT t ≤ (((t.length + 1) * n : Nat) : Int)
    rw [Nat.add_mul, Nat.one_mul]
    omega
theorem markT_length : ∀ (t : List (List Int)) (a : Int), (markT a t).length = t.length
  | [], _ => rfl
  | r :: t, a => by show (markT _ t).length + 1 = t.length + 1; rw [markT_length t]
theorem mid_rdL (pre t : List (List Int)) (r : List Int) : rd_L1 (pre ++ r :: t) (pre.length : Int) = r := by
  rw [rdL_get _ _ (by simp)]; simp
theorem mid_getD (pre t : List (List Int)) (r : List Int) : (pre ++ r :: t).getD ((pre.length : Int)).toNat [] = r := by
  rw [Int.toNat_natCast]; simp
theorem mid_set (pre t : List (List Int)) (r x : List Int) : (pre ++ r :: t).set pre.length x = (pre ++ [x]) ++ t := by
  rw [List.set_append_right _ _ (Nat.le_refl _), Nat.sub_self]; simp
theorem markT_loop : ∀ (t pre : List (List Int)) (a : Int), 0 ≤ a → a + totT t ≤ 4611686018427387904 → pre.length + t.length ≤ 4611686018427387904 →
    Ev (fun k => laws_markInt64SS.l0 k (pre ++ t) a (pre.length : Int)) (a + totT t, pre ++ markT a t)
  | [], pre, a, h0, h1, h2 => ev_one (fun k => by rw [laws_markInt64SS.l0, if_neg (by simp)]; simp [totT, markT])
  | r :: t, pre, a, h0, h1, h2 => by
    have ht := totT_nonneg t
    have h1' : a + ((r.length : Int) + totT t) ≤ 4611686018427387904 := h1
    have hl : (pre ++ r :: t).length = pre.length + (t.length + 1) := by simp
    have h2' : pre.length + (t.length + 1) ≤ 4611686018427387904 := h2
    have hw := wrap_succ (j := pre.length) (n := pre.length + 1) (by omega) (by omega)
    have hm := markF_ev r a h0 (by omega)
    have ih := markT_loop t (pre ++ [seqF a r.length]) (a + (r.length : Int)) (by omega) (by omega) (by simp; omega)
    have e1 : (pre ++ [seqF a r.length]).length = pre.length + 1 := by simp
    rw [e1] at ih
    have e2 : (a + (r.length : Int) + totT t, (pre ++ [seqF a r.length]) ++ markT (a + (r.length : Int)) t) = (a + totT (r :: t), pre ++ markT a (r :: t)) := by
      show _ = (a + ((r.length : Int) + totT t), pre ++ seqF a r.length :: markT (a + (r.length : Int)) t)
      rw [show a + ((r.length : Int) + totT t) = a + (r.length : Int) + totT t by omega]; simp
    rw [e2] at ih
    refine Ev.step (fun k => by rw [laws_markInt64SS.l0, if_pos (by rw [hl]; omega), if_pos (by omega), mid_getD, hw]) (Ev.bind hm ?_)
    show Ev (fun k => laws_markInt64SS.l0 k ((pre ++ r :: t).set ((pre.length : Int)).toNat (seqF a r.length)) (a + (r.length : Int)) _) _
    rw [Int.toNat_natCast, mid_set]
    exact ih
theorem heldT_loop : ∀ (t pre : List (List Int)) (a : Int), 0 ≤ a → a + totT t ≤ 4611686018427387904 → pre.length + t.length ≤ 4611686018427387904 →
    Ev (fun k => laws_heldInt64SS.l0 k (pre ++ markT a t) a (pre.length : Int)) (a + totT t)
  | [], pre, a, h0, h1, h2 => ev_one (fun k => by rw [laws_heldInt64SS.l0, if_neg (by simp [markT])]; simp [totT])
  | r :: t, pre, a, h0, h1, h2 => by
    have ht := totT_nonneg t
    have h1' : a + ((r.length : Int) + totT t) ≤ 4611686018427387904 := h1
    have hl : (pre ++ markT a (r :: t)).length = pre.length + (t.length + 1) := by rw [List.length_append, markT_length]; rfl
    have h2' : pre.length + (t.length + 1) ≤ 4611686018427387904 := h2
    have hw := wrap_succ (j := pre.length) (n := pre.length + 1) (by omega) (by omega)
    have hm := heldF_ev a r.length h0 (by omega)
    have ih := heldT_loop t (pre ++ [seqF a r.length]) (a + (r.length : Int)) (by omega) (by omega) (by simp; omega)
    have e1 : (pre ++ [seqF a r.length]).length = pre.length + 1 := by simp
    rw [e1] at ih
    have e2 : (pre ++ [seqF a r.length]) ++ markT (a + (r.length : Int)) t = pre ++ markT a (r :: t) := by
      show _ = pre ++ seqF a r.length :: markT (a + (r.length : Int)) t
      simp
    rw [e2, show a + (r.length : Int) + totT t = a + totT (r :: t) from by show _ = a + ((r.length : Int) + totT t); omega] at ih
    refine Ev.step (fun k => by rw [laws_heldInt64SS.l0, if_pos (by rw [hl]; omega), if_pos (by omega), show rd_L1 (pre ++ markT a (r :: t)) (pre.length : Int) = seqF a r.length from mid_rdL _ _ _, hw]) (Ev.bind hm (ev_neg (show ¬ (a + (r.length : Int) < 0) by omega) ih))
theorem markT_ev (t : List (List Int)) (h1 : totT t ≤ 4611686018427387903) (h2 : t.length ≤ 4611686018427387904) : Ev (fun k => laws_markInt64SS.f k t 1) (1 + totT t, markT 1 t) :=
  markT_loop t [] 1 (by decide) (by omega) (by simpa using h2)

theorem heldT_ev (t : List (List Int)) (h1 : totT t ≤ 4611686018427387903) (h2 : t.length ≤ 4611686018427387904) : Ev (fun k => laws_heldGraph.f k (markT 1 t) 1) (1 + totT t) := by
  have h0 := totT_nonneg t
  unfold laws_heldGraph.f
  exact Ev.bind (heldT_loop t [] 1 (by decide) (by omega) (by simpa using h2)) (ev_neg (by omega) (Ev.now _))
theorem marked_way {S I : Nat → Option (List (List Int) × Bool)} {T : List (List Int)} {b : Bool} (hs : Ev S (T, b)) (hi : Ev I (T, b)) (hl : T.length ≤ 1048576) (hr : ∀ r ∈ T, r.length ≤ 1048576) :
    ∃ k T2 m, 0 ≤ m ∧ T2.length = T.length ∧ S k = some (T, b) ∧ I k = some (T, b) ∧ laws_eqGraph.f k T T = some true ∧ laws_markInt64SS.f k T 1 = some (m, T2) ∧ laws_heldGraph.f k T2 1 = some m := by
  have ht := totT_le 1048576 T hr
  have h0 := totT_nonneg T
  have hb : totT T ≤ 4611686018427387903 := by
    have : T.length * 1048576 ≤ 1048576 * 1048576 := Nat.mul_le_mul_right _ hl
    omega
  obtain ⟨K1, h1⟩ := hs
  obtain ⟨K2, h2⟩ := hi
  obtain ⟨K3, h3⟩ := eqGraph_ev T hl hr
  obtain ⟨K4, h4⟩ := markT_ev T hb (by omega)
  obtain ⟨K5, h5⟩ := heldT_ev T hb (by omega)
  refine ⟨K1 + K2 + K3 + K4 + K5, markT 1 T, 1 + totT T, by omega, markT_length T 1, h1 _ (by omega), h2 _ (by omega), h3 _ (by omega), h4 _ (by omega), h5 _ (by omega)⟩

def rgRow (least : Int) (m x : Nat) : List Int := [if x < m then (x : Int) + 1 else -1, if (x : Int) ≥ least then 0 else -1]
def rgTo (least : Int) (m n : Nat) : List (List Int) := (List.range n).map (rgRow least m)
theorem rgTo_length (least : Int) (m n : Nat) : (rgTo least m n).length = n := by simp [rgTo]
theorem rgTo_succ (least : Int) (m n : Nat) : rgTo least m (n + 1) = rgTo least m n ++ [rgRow least m n] := by simp [rgTo, List.range_succ]
theorem rg_loop (least : Int) (m : Nat) (h0 : 0 ≤ least) (hm : m ≤ 10) (d : Nat) : ∀ j : Nat, j + d = m + 1 → Ev (fun k => impl_RunGraph.l0 k least (m : Int) ((m : Int) + 1) (j : Int) (rgTo least m j)) (rgTo least m (m + 1), true) := by
  induction d with
  | zero =>
    intro j h
    obtain rfl : j = m + 1 := by omega
    exact ev_one (fun k => by rw [impl_RunGraph.l0, if_neg (by omega)])
  | succ d ih =>
    intro j h
    have hw := wrap_succ (j := j) (n := m + 1) (by omega) (by omega)
    have hi := ih (j + 1) (by omega)
    rw [rgTo_succ] at hi
    have hl := rgTo_length least m j
    by_cases c1 : j < m
    · by_cases c2 : (j : Int) ≥ least
      · have e : rgRow least m j = [((j + 1 : Nat) : Int), 0] := by unfold rgRow; rw [if_pos c1, if_pos c2]; rfl
        rw [e] at hi
        exact Ev.step (fun k => by rw [impl_RunGraph.l0, if_pos (by omega), Option.bind_some, if_pos (by omega), if_pos (by decide), Option.bind_some, if_pos c2, if_pos (by decide), if_pos (by omega), hw]; rfl) hi
      · have e : rgRow least m j = [((j + 1 : Nat) : Int), -1] := by unfold rgRow; rw [if_pos c1, if_neg c2]; rfl
        rw [e] at hi
        exact Ev.step (fun k => by rw [impl_RunGraph.l0, if_pos (by omega), Option.bind_some, if_pos (by omega), if_pos (by decide), Option.bind_some, if_neg c2, if_pos (by omega), hw]; rfl) hi
    · by_cases c2 : (j : Int) ≥ least
      · have e : rgRow least m j = [-1, 0] := by unfold rgRow; rw [if_neg c1, if_pos c2]
        rw [e] at hi
        exact Ev.step (fun k => by rw [impl_RunGraph.l0, if_pos (by omega), Option.bind_some, if_neg (by omega), if_pos c2, if_pos (by decide), if_pos (by omega), hw]; rfl) hi
      · have e : rgRow least m j = [-1, -1] := by unfold rgRow; rw [if_neg c1, if_neg c2]
        rw [e] at hi
        exact Ev.step (fun k => by rw [impl_RunGraph.l0, if_pos (by omega), Option.bind_some, if_neg (by omega), if_neg c2, if_pos (by omega), hw]) hi
theorem runGraph_ev (least : Int) (m : Nat) (h0 : 0 ≤ least) (h1 : least ≤ m) (hm : m ≤ 10) : Ev (fun k => impl_RunGraph.f k least (m : Int)) (rgTo least m (m + 1), true) := by
  unfold impl_RunGraph.f
  refine ev_to (impl_in _ _ _) ?_
  rw [decide_eq_true (show 0 ≤ least ∧ least ≤ 10 by omega)]
  refine ev_pos rfl (ev_to (impl_in _ _ _) ?_)
  rw [decide_eq_true (show least ≤ (m : Int) ∧ (m : Int) ≤ 10 by omega)]
  refine Ev.step (fun k => by rw [impl_RunGraph.j0, if_neg (by decide)]) ?_
  rw [wrap64_in (by omega) (by omega)]
  exact rg_loop least m h0 hm (m + 1) 0 (by omega)
theorem srg_loop (least : Int) (m : Nat) (h0 : 0 ≤ least) (hm : m ≤ 10) (d : Nat) : ∀ j : Nat, j + d = m + 1 → Ev (fun k => spec_RunGraph.l0 k least (m : Int) (j : Int) (rgTo least m j)) (rgTo least m (m + 1), true) := by
  induction d with
  | zero =>
    intro j h
    obtain rfl : j = m + 1 := by omega
    exact ev_one (fun k => by rw [spec_RunGraph.l0, if_neg (by omega)])
  | succ d ih =>
    intro j h
    have hw := wrap_succ (j := j) (n := m + 1) (by omega) (by omega)
    have hi := ih (j + 1) (by omega)
    rw [rgTo_succ] at hi
    have hl := rgTo_length least m j
    by_cases c1 : j < m
    · by_cases c2 : (j : Int) ≥ least
      · have e : rgRow least m j = [((j + 1 : Nat) : Int), 0] := by unfold rgRow; rw [if_pos c1, if_pos c2]; rfl
        rw [e] at hi
        exact Ev.step (fun k => by rw [spec_RunGraph.l0, if_pos (by omega), if_pos (by omega), if_pos c2, if_pos (by omega), hw]) hi
      · have e : rgRow least m j = [((j + 1 : Nat) : Int), -1] := by unfold rgRow; rw [if_pos c1, if_neg c2]; rfl
        rw [e] at hi
        exact Ev.step (fun k => by rw [spec_RunGraph.l0, if_pos (by omega), if_pos (by omega), if_neg c2, if_pos (by omega), hw]) hi
    · by_cases c2 : (j : Int) ≥ least
      · have e : rgRow least m j = [-1, 0] := by unfold rgRow; rw [if_neg c1, if_pos c2]
        rw [e] at hi
        exact Ev.step (fun k => by rw [spec_RunGraph.l0, if_pos (by omega), if_neg (by omega), if_pos c2, if_pos (by omega), hw]) hi
      · have e : rgRow least m j = [-1, -1] := by unfold rgRow; rw [if_neg c1, if_neg c2]
        rw [e] at hi
        exact Ev.step (fun k => by rw [spec_RunGraph.l0, if_pos (by omega), if_neg (by omega), if_neg c2, if_pos (by omega), hw]) hi
theorem specRunGraph_ev (least : Int) (m : Nat) (h0 : 0 ≤ least) (h1 : least ≤ m) (hm : m ≤ 10) : Ev (fun k => spec_RunGraph.f k least (m : Int)) (rgTo least m (m + 1), true) := by
  unfold spec_RunGraph.f
  refine ev_to (spec_in _ _ _) ?_
  rw [decide_eq_true (show (0 : Int) ≤ (m : Int) ∧ (m : Int) ≤ 10 by omega)]
  refine ev_pos rfl (ev_to (spec_in _ _ _) ?_)
  rw [decide_eq_true (show 0 ≤ least ∧ least ≤ (m : Int) by omega)]
  exact Ev.step (f := fun k => spec_RunGraph.l0 k least (m : Int) 0 []) (fun k => by rw [spec_RunGraph.j0, if_neg (by decide)]) (srg_loop least m h0 hm (m + 1) 0 (by omega))
theorem FnExactRunGraph (a0 a1 : Int) : ∃ k T T2 b m, 0 ≤ m ∧ T2.length = T.length ∧ spec_RunGraph.f k a0 a1 = some (T, b) ∧ impl_RunGraph.f k a0 a1 = some (T, b) ∧ laws_eqGraph.f k T T = some true ∧ laws_markInt64SS.f k T 1 = some (m, T2) ∧ laws_heldGraph.f k T2 1 = some m := by
  by_cases c : 0 ≤ a0 ∧ a0 ≤ a1 ∧ a1 ≤ 10
  · obtain ⟨t, rfl⟩ : ∃ t : Nat, a1 = (t : Int) := ⟨a1.toNat, by omega⟩
    have hl := rgTo_length a0 t (t + 1)
    obtain ⟨k, T2, m, h⟩ := marked_way (specRunGraph_ev a0 t (by omega) (by omega) (by omega)) (runGraph_ev a0 t (by omega) (by omega) (by omega)) (by omega) (fun r hr => by
      obtain ⟨x, hx, rfl⟩ := List.mem_map.1 hr
      unfold rgRow
      exact Nat.le_trans (Nat.le_of_eq rfl) (show 2 ≤ 1048576 by decide))
    exact ⟨k, _, T2, _, m, h⟩
  · have hs : Ev (fun k => spec_RunGraph.f k a0 a1) (([] : List (List Int)), false) := by
      unfold spec_RunGraph.f
      refine ev_to (spec_in _ _ _) ?_
      have hj : Ev (fun k => spec_RunGraph.j0 k a0 a1 true) (([] : List (List Int)), false) := ev_one (fun k => by rw [spec_RunGraph.j0, if_pos rfl])
      by_cases c1 : 0 ≤ a1 ∧ a1 ≤ 10
      · rw [decide_eq_true c1]
        refine ev_pos rfl (ev_to (spec_in _ _ _) ?_)
        rw [decide_eq_false (show ¬ (0 ≤ a0 ∧ a0 ≤ a1) by omega)]
        exact hj
      · rw [decide_eq_false c1]
        exact ev_neg (by decide) hj
    have hi : Ev (fun k => impl_RunGraph.f k a0 a1) (([] : List (List Int)), false) := by
      unfold impl_RunGraph.f
      refine ev_to (impl_in _ _ _) ?_
      have hj : Ev (fun k => impl_RunGraph.j0 k a0 a1 true) (([] : List (List Int)), false) := ev_one (fun k => by rw [impl_RunGraph.j0, if_pos rfl])
      by_cases c1 : 0 ≤ a0 ∧ a0 ≤ 10
      · rw [decide_eq_true c1]
        refine ev_pos rfl (ev_to (impl_in _ _ _) ?_)
        rw [decide_eq_false (show ¬ (a0 ≤ a1 ∧ a1 ≤ 10) by omega)]
        exact hj
      · rw [decide_eq_false c1]
        exact ev_neg (by decide) hj
    obtain ⟨k, T2, m, h⟩ := marked_way hs hi (by decide) (fun r hr => by cases hr)
    exact ⟨k, _, T2, _, m, h⟩

end Go.Proofs.Ytanndepgepgfoaa.Pure
