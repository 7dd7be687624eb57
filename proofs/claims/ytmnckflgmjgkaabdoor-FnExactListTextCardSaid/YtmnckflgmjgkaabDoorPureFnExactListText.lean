/-
The plain law of FnExactListText: both write the numbers with commas between them; conditions: those of the statement.
-/
import Derived.Test.YtmnckflgmjgkaabDoorQFnExactListTextx2
import Derived.Lib.Join
namespace Go.Proofs.YtmnckflgmjgkaabDoor.Pure
open Go.RowKit Go.Proofs.YtmnckflgmjgkaabDoor.QFnExactListText Go.Proofs.YtmnckflgmjgkaabDoorW.PrintWords Go.Proofs.YtmnckflgmjgkaabDoorW.PrintLast Go.Proofs.YtmnckflgmjgkaabDoorW.PrintMore
set_option linter.unusedVariables false

theorem ev_one {α : Type} {g : Nat → Option α} {r : α} (h : ∀ k, g (k + 1) = some r) : Ev g r :=
  ⟨1, fun k hk => by obtain ⟨m, rfl⟩ : ∃ m, k = m + 1 := ⟨k - 1, by omega⟩; exact h m⟩
theorem wrap64_in {x : Int} (h0 : -9223372036854775808 ≤ x) (h1 : x ≤ 9223372036854775807) : wrap64 x = x := by
  unfold wrap64; omega
theorem u64_in {x : Int} (h0 : 0 ≤ x) (h1 : x ≤ 18446744073709551615) : IntKind.u64.wrap x = x := by
  simp [IntKind.wrap, IntKind.bits, IntKind.signed]; omega
theorem i64_in {x : Int} (h0 : -9223372036854775808 ≤ x) (h1 : x ≤ 9223372036854775807) : IntKind.i64.wrap x = x := by
  rw [IntKind.wrap_i64]; omega
theorem and_one (x : Int) : Go.bits .and .i64 x 1 = x % 2 := by
  have h : (BitVec.ofInt 64 x &&& BitVec.ofInt 64 1).toNat = (x % 2).toNat := by
    have e1 : BitVec.ofInt 64 1 = 1#64 := by decide
    rw [e1, BitVec.toNat_and, BitVec.toNat_ofInt]
    have e2 : (1#64).toNat = 1 := by decide
    rw [e2, Nat.and_one_is_mod]
    omega
  show IntKind.i64.wrap (((BitVec.ofInt 64 x &&& BitVec.ofInt 64 1).toNat : Nat) : Int) = x % 2
  rw [h, i64_in (by omega) (by omega)]
  omega
theorem wf_i64 {x : Int} (h : (Lit.int .i64 x).wf = true) : -9223372036854775808 ≤ x ∧ x ≤ 9223372036854775807 := by
  simp [Lit.wf, IntKind.min, IntKind.max, IntKind.signed, IntKind.bits] at h
  omega
theorem pow_pos_int (d : Nat) : (0 : Int) < 2 ^ d := Int.pow_pos (by decide)
theorem pow_le_int {a b : Nat} (h : a ≤ b) : (2 : Int) ^ a ≤ 2 ^ b := by
  have := Nat.pow_le_pow_right (n := 2) (by decide) h
  exact_mod_cast this

theorem ev_pos {α : Type} {c : Prop} [Decidable c] {g h : Nat → Option α} {r : α} (hc : c) (hg : Ev g r) : Ev (fun k => if c then g k else h k) r := by
  obtain ⟨K, hK⟩ := hg
  exact ⟨K, fun k hk => (if_pos hc).trans (hK k hk)⟩
theorem ev_neg {α : Type} {c : Prop} [Decidable c] {g h : Nat → Option α} {r : α} (hc : ¬ c) (hg : Ev h r) : Ev (fun k => if c then g k else h k) r := by
  obtain ⟨K, hK⟩ := hg
  exact ⟨K, fun k hk => (if_neg hc).trans (hK k hk)⟩
theorem ev_some {α β : Type} {f : Nat → α → Option β} {a : α} {r : β} (h : Ev (fun k => f k a) r) : Ev (fun k => (some a).bind (f k)) r := h
theorem ev_to {α β : Type} {x : Option α} {f : Nat → α → Option β} {a : α} {r : β} (e : x = some a) (h : Ev (fun k => f k a) r) : Ev (fun k => x.bind (f k)) r := by subst e; exact h
theorem ev_det {α : Type} {g : Nat → Option α} {r r' : α} (h : Ev g r) (h' : Ev g r') : r = r' := by
  obtain ⟨K, hK⟩ := h
  obtain ⟨K', hK'⟩ := h'
  have h1 := hK (max K K') (Nat.le_max_left _ _)
  have h2 := hK' (max K K') (Nat.le_max_right _ _)
  rw [h1] at h2
  exact Option.some.inj h2
theorem wrap_succ {j n : Nat} (h : j < n) (hn : n ≤ 9223372036854775807) : wrap64 ((j : Int) + 1) = ((j + 1 : Nat) : Int) := by
  rw [wrap64_in (by omega) (by omega)]; omega
theorem nat0 (j : Nat) : (0 : Int) ≤ (j : Int) := Int.natCast_nonneg j
theorem rd_nat (l : List Int) (j : Nat) : rd l (j : Int) = l.getD j 0 := by unfold rd; rw [Int.toNat_natCast]
theorem rd_get (l : List Int) (j : Nat) (h : j < l.length) : rd l (j : Int) = l[j] := by rw [rd_nat, List.getD_eq_getElem?_getD, List.getElem?_eq_getElem h]; rfl
theorem drop_cons {α : Type} (l : List α) (j : Nat) (h : j < l.length) : l.drop j = l[j] :: l.drop (j + 1) := List.drop_eq_getElem_cons h
theorem take_snoc' {α : Type} (l : List α) (j : Nat) (h : j < l.length) : l.take (j + 1) = l.take j ++ [l[j]] := List.take_succ_eq_append_getElem h
theorem set_take {α : Type} (acc : List α) (j : Nat) (x : α) (h : j < acc.length) : (acc.set j x).take (j + 1) = acc.take j ++ [x] := by
  rw [List.take_set, List.take_succ_eq_append_getElem h, List.set_append_right _ _ (by simp; omega)]
  have : (acc.take j).length = j := by rw [List.length_take]; omega
  rw [this, Nat.sub_self]
  rfl
theorem take_all {α : Type} {a b : List α} {n : Nat} (ha : a.length = n) (hb : b.length = n) (h : a.take n = b.take n) : a = b := by
  rw [List.take_of_length_le (by omega), List.take_of_length_le (by omega)] at h; exact h
theorem w01 : wrap64 (0 + 1) = 1 := by unfold wrap64; decide
theorem w11 : wrap64 (1 + 1) = 2 := by unfold wrap64; decide

theorem spec_in (a b c : Int) : spec_l00In.f a b c = some (decide (b ≤ a ∧ a ≤ c)) := by
  unfold spec_l00In.f
  by_cases h : a ≥ b
  · rw [if_pos h]; congr 1; have : b ≤ a := h; simp [this]
  · rw [if_neg h]; congr 1; have : ¬ b ≤ a := h; simp [this]
theorem impl_in (a b c : Int) : impl_within.f a b c = some (decide (b ≤ a ∧ a ≤ c)) := by
  unfold impl_within.f
  by_cases h : a ≥ b
  · rw [if_pos h]; congr 1; have : b ≤ a := h; simp [this]
  · rw [if_neg h]; congr 1; have : ¬ b ≤ a := h; simp [this]

theorem size_l (s : ByteArray) : s.size = s.data.toList.length := by rw [Array.length_toList]; rfl
theorem bt_l (s : ByteArray) (j : Nat) (h : j < s.data.toList.length) : bt s (j : Int) = ((s.data.toList[j].toNat : Nat) : Int) := by
  have h2 : ((j : Int)).toNat < s.size := by rw [Int.toNat_natCast, size_l]; exact h
  have h3 : j < s.data.size := by rw [Array.length_toList] at h; exact h
  have e : s[((j : Int)).toNat]'h2 = s.data[j] := rfl
  rw [← bt_at s j h2, e, Array.getElem_toList]
def revD (u : Nat) : List Int := if h : u = 0 then [] else ((48 + u % 10 : Nat) : Int) :: revD (u / 10)
termination_by u
decreasing_by omega
theorem revD_pos {u : Nat} (h : 0 < u) : revD u = ((48 + u % 10 : Nat) : Int) :: revD (u / 10) := by
  rw [revD, dif_neg (by omega)]
theorem revD_zero : revD 0 = [] := by rw [revD, dif_pos rfl]
theorem revD_len (u : Nat) : ∀ m, u < 10 ^ m → (revD u).length ≤ m := by
  induction u using Nat.strongRecOn with
  | ind u ih =>
    intro m hm
    by_cases h : u = 0
    · subst h; rw [revD_zero]; simp
    · cases m with
      | zero => simp at hm; omega
      | succ m =>
        rw [Nat.pow_succ] at hm
        rw [revD_pos (by omega), List.length_cons]
        have := ih (u / 10) (by omega) m (by omega)
        omega
def toB (x : Int) : UInt8 := UInt8.ofNat x.toNat
theorem dec_rev (u : Nat) : 0 < u → Lib.decDigits u = (revD u).reverse.map toB := by
  induction u using Nat.strongRecOn with
  | ind u ih =>
    intro h
    rw [Lib.decDigits, revD_pos h, List.reverse_cons, List.map_append]
    by_cases c : u < 10
    · have e : u / 10 = 0 := by omega
      have e2 : u % 10 = u := by omega
      rw [dif_pos c, e, revD_zero, e2]
      rfl
    · rw [dif_neg c, ih (u / 10) (by omega) (by omega)]
      rfl
theorem dec_l1 (L : List Int) (hL : L.length ≤ 100) (j : Nat) : ∀ acc : List Int, j ≤ L.length → acc.length + j ≤ 200 → Ev (fun k => spec_l01Dec.l1 k L acc ((j : Int) - 1)) (strOfNums (acc ++ (L.take j).reverse)) := by
  induction j with
  | zero => intro acc _ _; rw [List.take_zero, List.reverse_nil, List.append_nil]; exact ev_one (fun k => by rw [spec_l01Dec.l1, if_neg (by omega)])
  | succ j ih =>
    intro acc h1 h2
    have hj : j < L.length := by omega
    have ex : ((j + 1 : Nat) : Int) - 1 = (j : Int) := by omega
    have ew : wrap64 ((j : Int) - 1) = (j : Int) - 1 := wrap64_in (by omega) (by omega)
    have h := ih (acc ++ [L[j]]) (by omega) (by simp; omega)
    rw [List.append_assoc, show [L[j]] ++ (L.take j).reverse = (L.take (j + 1)).reverse by rw [take_snoc' L j hj, List.reverse_append]; rfl] at h
    rw [ex]
    exact Ev.step (fun k => by rw [spec_l01Dec.l1, if_pos (by omega), if_pos (by omega), if_pos (by omega), if_pos (by omega), rd_get L j hj, ew]) h
theorem dec_j1 (L : List Int) (hL : L.length ≤ 100) : Ev (fun k => spec_l01Dec.j1 k L) (strOfNums L.reverse) := by
  have h := dec_l1 L hL L.length [] (Nat.le_refl _) (by simp; omega)
  rw [List.nil_append, List.take_length] at h
  have ew : wrap64 ((L.length : Int) - 1) = (L.length : Int) - 1 := wrap64_in (by omega) (by omega)
  exact Ev.step (fun k => by rw [spec_l01Dec.j1, ew]) h
theorem dec_l0 (n : Int) (u : Nat) : ∀ (x : Int) (acc : List Int), x.natAbs = u → -9223372036854775808 ≤ x → x ≤ 9223372036854775807 → acc.length + (revD u).length ≤ 60 →
    Ev (fun k => spec_l01Dec.l0 k n acc x) (strOfNums ((acc ++ revD u) ++ (if n < 0 then [45] else [])).reverse) := by
  induction u using Nat.strongRecOn with
  | ind u ih =>
    intro x acc hx h0 h1 hl
    by_cases h : x = 0
    · subst h
      obtain rfl : u = 0 := by simpa using hx.symm
      rw [revD_zero, List.append_nil] 
      rw [revD_zero] at hl
      by_cases c : n < 0
      · rw [if_pos c]
        exact Ev.step (fun k => by rw [spec_l01Dec.l0, if_pos rfl, if_pos c, if_pos (by simp at hl; omega)]) (dec_j1 (acc ++ [45]) (by simp at hl ⊢; omega))
      · rw [if_neg c, List.append_nil]
        exact Ev.step (fun k => by rw [spec_l01Dec.l0, if_pos rfl, if_neg c]) (dec_j1 acc (by simp at hl; omega))
    · have hu : 0 < u := by omega
      have e1 : (Int.tmod x 10).natAbs = u % 10 := by rw [Int.natAbs_tmod, hx]; rfl
      have e2 : (Int.tdiv x 10).natAbs = u / 10 := by rw [Int.natAbs_tdiv, hx]; rfl
      rw [revD_pos hu] at hl ⊢
      rw [List.length_cons] at hl
      have hw : wrap64 (Int.tdiv x 10) = Int.tdiv x 10 := wrap64_in (by omega) (by omega)
      have hr := ih (u / 10) (by omega) (Int.tdiv x 10) (acc ++ [((48 + u % 10 : Nat) : Int)]) e2 (by omega) (by omega) (by simp; omega)
      rw [List.append_assoc acc, List.singleton_append] at hr
      by_cases c : Int.tmod x 10 < 0
      · have ed : (wrap64 (48 + (wrap64 (-(Int.tmod x 10))))) % 256 = ((48 + u % 10 : Nat) : Int) := by
          rw [wrap64_in (x := -(Int.tmod x 10)) (by omega) (by omega), wrap64_in (by omega) (by omega)]; omega
        exact Ev.step (fun k => by rw [spec_l01Dec.l0, if_neg h, if_pos c, if_pos (by omega), ed, hw]) hr
      · have ed : (wrap64 (48 + (Int.tmod x 10))) % 256 = ((48 + u % 10 : Nat) : Int) := by
          rw [wrap64_in (by omega) (by omega)]; omega
        exact Ev.step (fun k => by rw [spec_l01Dec.l0, if_neg h, if_neg c, if_pos (by omega), ed, hw]) hr
theorem dec_text (n : Int) (h : n ≠ 0) : ((([] ++ revD n.natAbs) ++ (if n < 0 then [45] else [])).reverse).map toB = Lib.itoa n := by
  have hu : 0 < n.natAbs := by omega
  rw [List.nil_append, List.reverse_append, List.map_append, ← dec_rev _ hu]
  unfold Lib.itoa
  by_cases c : n < 0
  · rw [if_pos c, if_pos c]; rfl
  · rw [if_neg c, if_neg c, show n.toNat = n.natAbs by omega]; rfl
theorem specDec_ev (n : Int) (hn : -9223372036854775808 ≤ n ∧ n ≤ 9223372036854775807) : ∃ r : ByteArray, Ev (fun k => spec_l01Dec.f k n) r ∧ Lib.itoa n = r.data.toList := by
  unfold spec_l01Dec.f
  by_cases c : n = 0
  · subst c
    refine ⟨⟨#[48]⟩, ev_pos rfl (Ev.now _), ?_⟩
    unfold Lib.itoa
    rw [if_neg (by decide), Lib.decDigits, dif_pos (by decide)]
    rfl
  · have hl : (revD n.natAbs).length ≤ 19 := revD_len _ 19 (by omega)
    have h := dec_l0 n n.natAbs n [] rfl hn.1 hn.2 (by simp; omega)
    refine ⟨_, ev_neg c h, ?_⟩
    rw [strOfNums_data, ← dec_text n c]
    rfl
theorem dig_nat (d : Nat) (h : d < 10) : (UInt8.ofNat (48 + d)).toNat = 48 + d := by
  rw [UInt8.toNat_ofNat']; omega
theorem dec_first (u : Nat) : ∃ c l, Lib.decDigits u = c :: l ∧ 48 ≤ c.toNat ∧ c.toNat ≤ 57 := by
  induction u using Nat.strongRecOn with
  | ind u ih =>
    rw [Lib.decDigits]
    by_cases c : u < 10
    · rw [dif_pos c]
      exact ⟨_, _, rfl, by rw [dig_nat u c]; omega, by rw [dig_nat u c]; omega⟩
    · rw [dif_neg c]
      obtain ⟨d, l, e, h1, h2⟩ := ih (u / 10) (by omega)
      exact ⟨d, l ++ _, by rw [e]; rfl, h1, h2⟩
theorem dec_len (u : Nat) : ∀ m, u < 10 ^ (m + 1) → (Lib.decDigits u).length ≤ m + 1 := by
  induction u using Nat.strongRecOn with
  | ind u ih =>
    intro m h
    rw [Lib.decDigits]
    by_cases c : u < 10
    · rw [dif_pos c]; simp
    · rw [dif_neg c, List.length_append, List.length_singleton]
      cases m with
      | zero => rw [show 10 ^ (0 + 1) = 10 from rfl] at h; omega
      | succ m =>
        rw [Nat.pow_succ] at h
        have := ih (u / 10) (by omega) m (by omega)
        omega
theorem implDecimal_f (n : Int) (hn : -9223372036854775808 ≤ n ∧ n ≤ 9223372036854775807) : impl_Decimal.f n = some ⟨(Lib.itoa n).toArray⟩ := by
  unfold impl_Decimal.f strconv_FormatInt_53.f
  rw [if_pos ⟨rfl, hn⟩]; rfl
theorem toInt64S_loop (l : List Int) (hn : l.length ≤ 1048576) (d : Nat) : ∀ (j : Nat) (acc : List Int), j + d = l.length → acc.length = l.length → acc.take j = l.take j →
    Ev (fun k => laws_toInt64S.l0 k l acc (j : Int)) l := by
  induction d with
  | zero =>
    intro j acc h1 h2 h3
    obtain rfl : acc = l := take_all (n := j) (by omega) (by omega) h3
    exact ev_one (fun k => by rw [laws_toInt64S.l0, if_neg (by omega)])
  | succ d ih =>
    intro j acc h1 h2 h3
    have hj : j < l.length := by omega
    refine Ev.step (fun k => ?_) (ih (j + 1) (acc.set j l[j]) (by omega) (by simpa using h2) (by rw [set_take _ _ _ (by omega), take_snoc' _ _ hj, h3]))
    rw [laws_toInt64S.l0, if_pos (by omega), if_pos (by omega), if_pos (by omega), wrap_succ hj (by omega), rd_get _ _ hj, Int.toNat_natCast]
theorem toInt64S_ev (l : List Int) (hn : l.length ≤ 1048576) : Ev (fun k => laws_toInt64S.f k l) l := by
  refine Ev.congr (fun k => ?_) (toInt64S_loop l hn l.length 0 (List.replicate l.length 0) (by omega) (by simp) (by simp))
  unfold laws_toInt64S.f
  rw [if_pos (by omega), if_pos (by omega), Int.toNat_natCast]
  rfl
theorem eqInt64S_loop (l : List Int) (hn : l.length ≤ 1048576) (d : Nat) : ∀ j : Nat, j + d = l.length → Ev (fun k => laws_eqInt64S.l0 k l l (j : Int)) true := by
  induction d with
  | zero => intro j h; exact ev_one (fun k => by rw [laws_eqInt64S.l0, if_neg (by omega)])
  | succ d ih =>
    intro j h
    refine Ev.step (fun k => ?_) (ih (j + 1) (by omega))
    rw [laws_eqInt64S.l0, if_pos (by omega), if_pos (by omega), if_pos (by omega), if_pos rfl, wrap_succ (n := l.length) (by omega) (by omega)]
theorem eqInt64S_ev (l : List Int) (hn : l.length ≤ 1048576) : Ev (fun k => laws_eqInt64S.f k l l) true := by
  refine Ev.congr (fun k => ?_) (eqInt64S_loop l hn l.length 0 (by omega))
  unfold laws_eqInt64S.f
  rw [if_pos rfl]
  rfl

theorem areIn_loop (l : List Int) (lo hi : Int) (hn : l.length ≤ 9223372036854775807) (d : Nat) : ∀ j : Nat, j + d = l.length →
    Ev (fun k => impl_areIn.l0 k lo hi l (l.length : Int) (j : Int)) ((l.drop j).all fun x => decide (lo ≤ x ∧ x ≤ hi)) := by
  induction d with
  | zero =>
    intro j h
    rw [List.drop_eq_nil_of_le (by omega)]
    exact ev_one (fun k => by rw [impl_areIn.l0, if_neg (by omega)]; rfl)
  | succ d ih =>
    intro j h
    have hj : j < l.length := by omega
    rw [drop_cons _ _ hj, List.all_cons]
    by_cases c : lo ≤ l[j] ∧ l[j] ≤ hi
    · rw [decide_eq_true c, Bool.true_and]
      refine Ev.step (fun k => ?_) (ih (j + 1) (by omega))
      rw [impl_areIn.l0, if_pos (by omega), if_pos (by omega), if_pos (by omega), rd_get _ _ hj, impl_in, decide_eq_true c, Option.bind_some, if_pos rfl, wrap_succ hj hn]
    · rw [decide_eq_false c, Bool.false_and]
      refine ev_one (fun k => ?_)
      rw [impl_areIn.l0, if_pos (by omega), if_pos (by omega), if_pos (by omega), rd_get _ _ hj, impl_in, decide_eq_false c, Option.bind_some, if_neg (by decide)]
theorem areIn_ev (l : List Int) (lo hi : Int) (hn : l.length ≤ 9223372036854775807) : Ev (fun k => impl_areIn.f k l lo hi) (l.all fun x => decide (lo ≤ x ∧ x ≤ hi)) :=
  areIn_loop l lo hi hn l.length 0 (by omega)

def JT (l : List Int) : List UInt8 := Lib.join (l.map Lib.itoa) [44]
theorem tail_snoc (l : List (List UInt8)) (x : List UInt8) : Lib.joinTail [44] (l ++ [x]) = Lib.joinTail [44] l ++ (44 :: x) := by
  simp [Lib.joinTail]
theorem JT_one (x : Int) : JT [x] = Lib.itoa x := by unfold JT; rw [List.map_cons, List.map_nil, Lib.join_cons]; simp [Lib.joinTail]
theorem JT_snoc (l : List Int) (x : Int) (h : l ≠ []) : JT (l ++ [x]) = JT l ++ (44 :: Lib.itoa x) := by
  obtain ⟨a, t, rfl⟩ : ∃ a t, l = a :: t := by
    cases l with
    | nil => exact absurd rfl h
    | cons a t => exact ⟨a, t, rfl⟩
  unfold JT
  rw [List.cons_append, List.map_cons, List.map_cons, List.map_append, Lib.join_cons, Lib.join_cons, List.map_cons, List.map_nil, tail_snoc, List.append_assoc]
theorem itoa_len (x : Int) (h0 : -1000000000000000 ≤ x) (h1 : x ≤ 1000000000000000) : (Lib.itoa x).length ≤ 30 ∧ 0 < (Lib.itoa x).length := by
  have lim : x.natAbs < 10 ^ (16 + 1) := by have : (10 : Nat) ^ (16 + 1) = 100000000000000000 := by decide
                                            omega
  have hl := dec_len x.natAbs 16 lim
  obtain ⟨d, l, ed, _, _⟩ := dec_first x.natAbs
  have hp : 0 < (Lib.decDigits x.natAbs).length := by rw [ed]; simp
  unfold Lib.itoa
  by_cases c : x < 0
  · rw [if_pos c, List.length_cons]; omega
  · rw [if_neg c, show x.toNat = x.natAbs by omega]; omega
theorem JT_len (L : List Int) (hL : ∀ x ∈ L, -1000000000000000 ≤ x ∧ x ≤ 1000000000000000) : ∀ j, j ≤ L.length → (JT (L.take j)).length ≤ 31 * j ∧ (0 < j → 0 < (JT (L.take j)).length) := by
  intro j
  induction j with
  | zero => intro _; exact ⟨by simp [JT, Lib.join], fun h => absurd h (Nat.lt_irrefl _)⟩
  | succ j ih =>
    intro h
    have hj : j < L.length := by omega
    have hx := hL _ (List.getElem_mem hj)
    have hi := itoa_len _ hx.1 hx.2
    obtain ⟨h1, h2⟩ := ih (by omega)
    rw [take_snoc' L j hj]
    by_cases c : j = 0
    · subst c
      rw [List.take_zero, List.nil_append, JT_one]
      omega
    · have hne : L.take j ≠ [] := by
        intro q
        have := congrArg List.length q
        rw [List.length_take, List.length_nil] at this
        omega
      rw [JT_snoc _ _ hne, List.length_append, List.length_cons]
      omega
theorem specText_loop (L : List Int) (hl : L.length ≤ 64) (hL : ∀ x ∈ L, -1000000000000000 ≤ x ∧ x ≤ 1000000000000000) (h0 : 0 < L.length) (d : Nat) : ∀ (j : Nat) (s : ByteArray), j + d = L.length → s.data.toList = JT (L.take j) →
    ∃ r : ByteArray, Ev (fun k => spec_l01Text.l0 k L s (j : Int)) r ∧ r.data.toList = JT L := by
  induction d with
  | zero =>
    intro j s h hs
    obtain ⟨l1, l2⟩ := JT_len L hL j (by omega)
    rw [show L.take j = L from List.take_of_length_le (by omega)] at hs l2
    refine ⟨s, ev_one (fun k => ?_), hs⟩
    rw [spec_l01Text.l0, if_neg (by omega), if_neg]
    rw [Lib.toList_data, hs]
    intro q
    rw [q] at l2
    exact absurd (l2 (by omega)) (by simp)
  | succ d ih =>
    intro j s h hs
    have hj : j < L.length := by omega
    have hx := hL _ (List.getElem_mem hj)
    have hi := itoa_len _ hx.1 hx.2
    obtain ⟨l1, l2⟩ := JT_len L hL j (by omega)
    obtain ⟨t, t1, t2⟩ := specDec_ev L[j] (by omega)
    have zs : s.size ≤ 31 * j := by rw [size_l, hs]; exact l1
    have zt : t.size ≤ 30 := by rw [size_l, ← t2]; exact hi.1
    have e44 : (⟨#[44]⟩ : ByteArray).size = 1 := rfl
    have hw := Aside0.mk (wrap_succ hj (by omega))
    by_cases c : j = 0
    · subst c
      obtain ⟨r, r1, r2⟩ := ih 1 (s ++ t) (by omega) (by
        rw [ByteArray.data_append, Array.toList_append, hs, ← t2, take_snoc' L 0 hj, List.take_zero, List.nil_append, JT_one]
        simp [JT, Lib.join])
      refine ⟨r, Ev.step (fun k => by rw [spec_l01Text.l0, if_pos (by omega), if_neg (by omega), if_pos (by omega), rd_get L 0 hj]) (Ev.bind t1 (ev_pos (show s.size + t.size ≤ 9223372036854775807 by omega) ?_)), r2⟩
      rw [hw.out]
      exact r1
    · have hne : L.take j ≠ [] := by
        intro q
        have := congrArg List.length q
        rw [List.length_take, List.length_nil] at this
        omega
      obtain ⟨r, r1, r2⟩ := ih (j + 1) ((s ++ (⟨#[44]⟩ : ByteArray)) ++ t) (by omega) (by
        rw [ByteArray.data_append, Array.toList_append, ByteArray.data_append, Array.toList_append, hs, ← t2, take_snoc' L j hj, JT_snoc _ _ hne, List.append_assoc]
        rfl)
      refine ⟨r, Ev.step (fun k => by rw [spec_l01Text.l0, if_pos (by omega), if_pos (by omega), if_pos (by omega), if_pos (by omega), rd_get L j hj]) (Ev.bind t1 (ev_pos (show (s ++ (⟨#[44]⟩ : ByteArray)).size + t.size ≤ 9223372036854775807 by rw [ByteArray.size_append, e44]; omega) ?_)), r2⟩
      rw [hw.out]
      exact r1
theorem implText_loop (L : List Int) (hl : L.length ≤ 64) (hL : ∀ x ∈ L, -1000000000000000 ≤ x ∧ x ≤ 1000000000000000) (d : Nat) : ∀ (j : Nat), j + d = L.length →
    Ev (fun k => impl_listText.l0 k ((L.take j).map fun x => (⟨(Lib.itoa x).toArray⟩ : ByteArray)) L (L.length : Int) (j : Int)) ⟨(JT L).toArray⟩ := by
  induction d with
  | zero =>
    intro j h
    rw [show L.take j = L from List.take_of_length_le (by omega)]
    have e : (L.map fun x => (⟨(Lib.itoa x).toArray⟩ : ByteArray)).map (fun x => x.data.toList) = L.map Lib.itoa := by
      rw [List.map_map]; rfl
    obtain ⟨l1, _⟩ := JT_len L hL L.length (Nat.le_refl _)
    rw [List.take_length] at l1
    refine ev_one (fun k => ?_)
    rw [impl_listText.l0, if_neg (by omega)]
    unfold strings_Join.f
    rw [e, show (⟨#[44]⟩ : ByteArray).data.toList = [44] from rfl]
    rw [if_pos ⟨by rw [List.length_map]; omega, by show (JT L).length ≤ _; omega⟩]
    rfl
  | succ d ih =>
    intro j h
    have hj : j < L.length := by omega
    have hx := hL _ (List.getElem_mem hj)
    have hh := ih (j + 1) (by omega)
    rw [take_snoc' L j hj, List.map_append] at hh
    exact Ev.step (fun k => by rw [impl_listText.l0, if_pos (by omega), if_pos (by omega), if_pos (by omega), rd_get L j hj, implDecimal_f _ (by omega), Option.bind_some, if_pos (by rw [List.length_map, List.length_take]; omega), wrap_succ hj (by omega)]; rfl) hh
theorem specList_loop (L : List Int) (hn : L.length ≤ 9223372036854775807) (d : Nat) : ∀ j : Nat, j + d = L.length → Ev (fun k => spec_l01List.l0 k L (j : Int)) (((L.drop j).all fun x => decide (-1000000000000000 ≤ x ∧ x ≤ 1000000000000000)) && decide ((L.length : Int) ≤ 64)) := by
  induction d with
  | zero => intro j h; rw [List.drop_eq_nil_of_le (by omega)]; exact ev_one (fun k => by rw [spec_l01List.l0, if_neg (by omega)]; rfl)
  | succ d ih =>
    intro j h
    have hj : j < L.length := by omega
    rw [drop_cons _ _ hj, List.all_cons]
    by_cases c : -1000000000000000 ≤ L[j] ∧ L[j] ≤ 1000000000000000
    · rw [decide_eq_true c, Bool.true_and]
      exact Ev.step (fun k => by rw [spec_l01List.l0, if_pos (by omega), if_pos (by omega), rd_get _ _ hj, spec_in, decide_eq_true c, Option.bind_some, if_pos rfl, wrap_succ hj hn]) (ih (j + 1) (by omega))
    · rw [decide_eq_false c, Bool.false_and, Bool.false_and]
      exact ev_one (fun k => by rw [spec_l01List.l0, if_pos (by omega), if_pos (by omega), rd_get _ _ hj, spec_in, decide_eq_false c, Option.bind_some, if_neg Bool.false_ne_true])
theorem listText_both (L : List Int) (hn : L.length ≤ 9223372036854775807) : ∃ (r r' : ByteArray) (b : Bool), Ev (fun k => spec_ListText.f k L) (r, b) ∧ Ev (fun k => impl_ListText.f k L) (r', b) ∧ r.toList = r'.toList := by
  have h1 := specList_loop L hn L.length 0 (by omega)
  rw [List.drop_zero] at h1
  have h2 := areIn_ev L (-1000000000000000) 1000000000000000 hn
  unfold spec_ListText.f impl_ListText.f
  by_cases c : (L.length : Int) ≤ 64
  · rw [decide_eq_true c, Bool.and_true] at h1
    cases e : L.all fun x => decide (-1000000000000000 ≤ x ∧ x ≤ 1000000000000000) with
    | false =>
      rw [e] at h1 h2
      exact ⟨_, _, false, Ev.bind (show Ev (fun k => spec_l01List.f k L) _ from h1) (ev_neg Bool.false_ne_true (Ev.now _)), ev_neg (by omega) (Ev.bind h2 (ev_neg Bool.false_ne_true (Ev.now _))), rfl⟩
    | true =>
      rw [e] at h1 h2
      have hL : ∀ x ∈ L, -1000000000000000 ≤ x ∧ x ≤ 1000000000000000 := fun x hx => of_decide_eq_true (List.all_eq_true.1 e x hx)
      suffices h : ∃ (r r' : ByteArray), Ev (fun k => spec_l01Text.f k L) r ∧ Ev (fun k => impl_listText.f k L) r' ∧ r.toList = r'.toList by
        obtain ⟨r, r', q1, q2, q3⟩ := h
        exact ⟨r, r', true, Ev.bind (show Ev (fun k => spec_l01List.f k L) _ from h1) (ev_pos rfl (Ev.bind (f := fun k t => some (t, true)) q1 (Ev.now _))), ev_neg (by omega) (Ev.bind h2 (ev_pos rfl (Ev.bind (f := fun k t => some (t, true)) q2 (Ev.now _)))), q3⟩
      unfold spec_l01Text.f impl_listText.f
      by_cases c0 : L.length = 0
      · exact ⟨_, _, ev_one (fun k => by rw [spec_l01Text.l0, if_neg (by omega), if_pos (by rw [Lib.toList_data])]), ev_pos (by omega) (Ev.now _), rfl⟩
      · obtain ⟨r, r1, r2⟩ := specText_loop L (by omega) hL (by omega) L.length 0 ⟨#[]⟩ (by omega) (by simp [JT, Lib.join])
        have i1 := implText_loop L (by omega) hL L.length 0 (by omega)
        exact ⟨r, _, r1, ev_neg (by omega) i1, by rw [Lib.toList_data, Lib.toList_data, r2]⟩
  · rw [decide_eq_false c, Bool.and_false] at h1
    exact ⟨_, _, false, Ev.bind (show Ev (fun k => spec_l01List.f k L) _ from h1) (ev_neg Bool.false_ne_true (Ev.now _)), ev_pos (by omega) (Ev.now _), rfl⟩
theorem FnExactListText : laws_FnExactListText.Pure := by
  intro L hn _
  apply Ev.rounds
  unfold laws_FnExactListText.f
  by_cases c : (L.length : Int) > 1048576
  · exact ev_pos c (Ev.now _)
  have ht := toInt64S_ev L (by omega)
  obtain ⟨r, r', b, h1, h2, h3⟩ := listText_both L hn
  refine ev_neg c (Ev.bind ht (Ev.bind h1 (Ev.bind ht (Ev.bind h2 (ev_pos h3.symm ?_)))))
  show Ev (fun k => laws_FnExactListText.j0 k L L (b != b)) true
  rw [show (b != b) = false by simp]
  exact Ev.step (fun k => by rw [laws_FnExactListText.j0, if_neg Bool.false_ne_true]) (Ev.bind ht (Ev.bind (eqInt64S_ev L (by omega)) (ev_pos rfl (Ev.now _))))

end Go.Proofs.YtmnckflgmjgkaabDoor.Pure
