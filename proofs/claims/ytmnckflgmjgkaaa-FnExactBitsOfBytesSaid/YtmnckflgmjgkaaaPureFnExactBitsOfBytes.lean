/-
The law FnExactBitsOfBytes answers true for every list; there are no conditions beside the row's own bounds.
-/
import Derived.Test.YtmnckflgmjgkaaaQFnExactBitsOfBytesx2
namespace Go.Proofs.Ytmnckflgmjgkaaa.Pure
open Go.RowKit Go.Proofs.Ytmnckflgmjgkaaa.QFnExactBitsOfBytes Go.Proofs.YtmnckflgmjgkaaaW.PrintWords Go.Proofs.YtmnckflgmjgkaaaW.PrintLast Go.Proofs.YtmnckflgmjgkaaaW.PrintMore
set_option linter.unusedVariables false

theorem ev_one {α : Type} {g : Nat → Option α} {r : α} (h : ∀ k, g (k + 1) = some r) : Ev g r :=
  ⟨1, fun k hk => by obtain ⟨m, rfl⟩ : ∃ m, k = m + 1 := ⟨k - 1, by omega⟩; exact h m⟩
theorem wrap64_in {x : Int} (h0 : -9223372036854775808 ≤ x) (h1 : x ≤ 9223372036854775807) : wrap64 x = x := by
  unfold wrap64; omega
theorem u64_in {x : Int} (h0 : 0 ≤ x) (h1 : x ≤ 18446744073709551615) : IntKind.u64.wrap x = x := by
  simp [IntKind.wrap, IntKind.bits, IntKind.signed]; omega
theorem i64_in {x : Int} (h0 : -9223372036854775808 ≤ x) (h1 : x ≤ 9223372036854775807) : IntKind.i64.wrap x = x := by
  rw [IntKind.wrap_i64]; omega
theorem and_one (x : Int) : Go.bits .and .i64 x 1 = x % 2 := by
  have h : (BitVec.ofInt 64 x &&& BitVec.ofInt 64 1).toNat = (x % 2).toNat := by
    have e1 : BitVec.ofInt 64 1 = 1#64 := by decide
    rw [e1, BitVec.toNat_and, BitVec.toNat_ofInt]
    have e2 : (1#64).toNat = 1 := by decide
    rw [e2, Nat.and_one_is_mod]
    omega
  show IntKind.i64.wrap (((BitVec.ofInt 64 x &&& BitVec.ofInt 64 1).toNat : Nat) : Int) = x % 2
  rw [h, i64_in (by omega) (by omega)]
  omega
theorem wf_i64 {x : Int} (h : (Lit.int .i64 x).wf = true) : -9223372036854775808 ≤ x ∧ x ≤ 9223372036854775807 := by
  simp [Lit.wf, IntKind.min, IntKind.max, IntKind.signed, IntKind.bits] at h
  omega
theorem pow_pos_int (d : Nat) : (0 : Int) < 2 ^ d := Int.pow_pos (by decide)
theorem pow_le_int {a b : Nat} (h : a ≤ b) : (2 : Int) ^ a ≤ 2 ^ b := by
  have := Nat.pow_le_pow_right (n := 2) (by decide) h
  exact_mod_cast this

theorem ev_pos {α : Type} {c : Prop} [Decidable c] {g h : Nat → Option α} {r : α} (hc : c) (hg : Ev g r) : Ev (fun k => if c then g k else h k) r := by
  obtain ⟨K, hK⟩ := hg
  exact ⟨K, fun k hk => (if_pos hc).trans (hK k hk)⟩
theorem ev_neg {α : Type} {c : Prop} [Decidable c] {g h : Nat → Option α} {r : α} (hc : ¬ c) (hg : Ev h r) : Ev (fun k => if c then g k else h k) r := by
  obtain ⟨K, hK⟩ := hg
  exact ⟨K, fun k hk => (if_neg hc).trans (hK k hk)⟩
theorem ev_some {α β : Type} {f : Nat → α → Option β} {a : α} {r : β} (h : Ev (fun k => f k a) r) : Ev (fun k => (some a).bind (f k)) r := h
theorem ev_to {α β : Type} {x : Option α} {f : Nat → α → Option β} {a : α} {r : β} (e : x = some a) (h : Ev (fun k => f k a) r) : Ev (fun k => x.bind (f k)) r := by subst e; exact h
theorem ev_det {α : Type} {g : Nat → Option α} {r r' : α} (h : Ev g r) (h' : Ev g r') : r = r' := by
  obtain ⟨K, hK⟩ := h
  obtain ⟨K', hK'⟩ := h'
  have h1 := hK (max K K') (Nat.le_max_left _ _)
  have h2 := hK' (max K K') (Nat.le_max_right _ _)
  rw [h1] at h2
  exact Option.some.inj h2
theorem wrap_succ {j n : Nat} (h : j < n) (hn : n ≤ 9223372036854775807) : wrap64 ((j : Int) + 1) = ((j + 1 : Nat) : Int) := by
  rw [wrap64_in (by omega) (by omega)]; omega
theorem nat0 (j : Nat) : (0 : Int) ≤ (j : Int) := Int.natCast_nonneg j
theorem rd_nat (l : List Int) (j : Nat) : rd l (j : Int) = l.getD j 0 := by unfold rd; rw [Int.toNat_natCast]
theorem rd_get (l : List Int) (j : Nat) (h : j < l.length) : rd l (j : Int) = l[j] := by rw [rd_nat, List.getD_eq_getElem?_getD, List.getElem?_eq_getElem h]; rfl
theorem drop_cons {α : Type} (l : List α) (j : Nat) (h : j < l.length) : l.drop j = l[j] :: l.drop (j + 1) := List.drop_eq_getElem_cons h
theorem take_snoc' {α : Type} (l : List α) (j : Nat) (h : j < l.length) : l.take (j + 1) = l.take j ++ [l[j]] := List.take_succ_eq_append_getElem h
theorem set_take {α : Type} (acc : List α) (j : Nat) (x : α) (h : j < acc.length) : (acc.set j x).take (j + 1) = acc.take j ++ [x] := by
  rw [List.take_set, List.take_succ_eq_append_getElem h, List.set_append_right _ _ (by simp; omega)]
  have : (acc.take j).length = j := by rw [List.length_take]; omega
  rw [this, Nat.sub_self]
  rfl
theorem take_all {α : Type} {a b : List α} {n : Nat} (ha : a.length = n) (hb : b.length = n) (h : a.take n = b.take n) : a = b := by
  rw [List.take_of_length_le (by omega), List.take_of_length_le (by omega)] at h; exact h
theorem w01 : wrap64 (0 + 1) = 1 := by unfold wrap64; decide
theorem w11 : wrap64 (1 + 1) = 2 := by unfold wrap64; decide

theorem spec_in (a b c : Int) : spec_l00In.f a b c = some (decide (b ≤ a ∧ a ≤ c)) := by
  unfold spec_l00In.f
  by_cases h : a ≥ b
  · rw [if_pos h]; congr 1; have : b ≤ a := h; simp [this]
  · rw [if_neg h]; congr 1; have : ¬ b ≤ a := h; simp [this]
theorem impl_in (a b c : Int) : impl_within.f a b c = some (decide (b ≤ a ∧ a ≤ c)) := by
  unfold impl_within.f
  by_cases h : a ≥ b
  · rw [if_pos h]; congr 1; have : b ≤ a := h; simp [this]
  · rw [if_neg h]; congr 1; have : ¬ b ≤ a := h; simp [this]

theorem areIn_loop (l : List Int) (lo hi : Int) (hn : l.length ≤ 9223372036854775807) (d : Nat) : ∀ j : Nat, j + d = l.length →
    Ev (fun k => impl_areIn.l0 k lo hi l (l.length : Int) (j : Int)) ((l.drop j).all fun x => decide (lo ≤ x ∧ x ≤ hi)) := by
  induction d with
  | zero =>
    intro j h
    rw [List.drop_eq_nil_of_le (by omega)]
    exact ev_one (fun k => by rw [impl_areIn.l0, if_neg (by omega)]; rfl)
  | succ d ih =>
    intro j h
    have hj : j < l.length := by omega
    rw [drop_cons _ _ hj, List.all_cons]
    by_cases c : lo ≤ l[j] ∧ l[j] ≤ hi
    · rw [decide_eq_true c, Bool.true_and]
      refine Ev.step (fun k => ?_) (ih (j + 1) (by omega))
      rw [impl_areIn.l0, if_pos (by omega), if_pos (by omega), if_pos (by omega), rd_get _ _ hj, impl_in, decide_eq_true c, Option.bind_some, if_pos rfl, wrap_succ hj hn]
    · rw [decide_eq_false c, Bool.false_and]
      refine ev_one (fun k => ?_)
      rw [impl_areIn.l0, if_pos (by omega), if_pos (by omega), if_pos (by omega), rd_get _ _ hj, impl_in, decide_eq_false c, Option.bind_some, if_neg (by decide)]
theorem areIn_ev (l : List Int) (lo hi : Int) (hn : l.length ≤ 9223372036854775807) : Ev (fun k => impl_areIn.f k l lo hi) (l.all fun x => decide (lo ≤ x ∧ x ≤ hi)) :=
  areIn_loop l lo hi hn l.length 0 (by omega)

/-- The lowest d binary digits of n as letters, the greatest one first. -/
def digs (n : Int) : Nat → List Int
  | 0 => []
  | d + 1 => (48 + (n / 2 ^ d) % 2) :: digs n d
theorem digs_length (n : Int) (d : Nat) : (digs n d).length = d := by
  induction d with
  | zero => rfl
  | succ d ih => simp [digs, ih]
theorem shr_nat (n : Int) (d : Nat) (h : d ≤ 64) : shr .i64 n (d : Int) = n / 2 ^ d := by
  unfold shr; rw [Int.toNat_natCast]; congr 2; exact Nat.min_eq_left h

theorem spec_digits_ev (n : Int) (d : Nat) : ∀ l : List Int, d ≤ 64 → l.length + d ≤ 1000 → Ev (fun k => spec_l01Digits.l0 k n l ((d : Int) - 1)) (strOfNums (l ++ digs n d)) := by
  induction d with
  | zero =>
    intro l _ _
    exact ev_one (fun k => by rw [spec_l01Digits.l0, if_neg (by omega)]; simp [digs])
  | succ d ih =>
    intro l hd hl
    have e : ((d + 1 : Nat) : Int) - 1 = (d : Int) := by omega
    have hs := shr_nat n d (by omega)
    have hu : IntKind.u64.wrap (d : Int) = d := u64_in (by omega) (by omega)
    have hw : wrap64 ((d : Int) - 1) = (d : Int) - 1 := wrap64_in (by omega) (by omega)
    have h := ih (l ++ [48 + (n / 2 ^ d) % 2]) (by omega) (by simp; omega)
    have e2 : l ++ digs n (d + 1) = l ++ [48 + (n / 2 ^ d) % 2] ++ digs n d := by simp [digs]
    rw [e2]
    refine Ev.step (fun k => ?_) h
    rw [e, spec_l01Digits.l0, hu, if_pos (by omega), if_pos (by omega), if_pos (by omega), hs, and_one, hw, wrap64_in (by omega) (by omega)]
    congr 3
    omega
theorem spec_digits_f (n : Int) (w : Int) (h0 : 0 ≤ w) (h1 : w ≤ 64) : Ev (fun k => spec_l01Digits.f k n w) (strOfNums (digs n w.toNat)) := by
  obtain ⟨d, rfl⟩ := Int.eq_ofNat_of_zero_le h0
  have h := spec_digits_ev n d [] (by omega) (by simp; omega)
  refine Ev.congr (fun k => ?_) h
  unfold spec_l01Digits.f
  rw [wrap64_in (by omega) (by omega)]

theorem impl_digits_ev (n : Int) (d : Nat) : ∀ l : List Int, d ≤ 64 → l.length + d ≤ 1000 → Ev (fun k => impl_digits.l0 k n l ((d : Int) - 1)) (strOfNums (l ++ digs n d)) := by
  induction d with
  | zero =>
    intro l _ _
    exact ev_one (fun k => by rw [impl_digits.l0, if_neg (by omega)]; simp [digs])
  | succ d ih =>
    intro l hd hl
    have e : ((d + 1 : Nat) : Int) - 1 = (d : Int) := by omega
    have hs := shr_nat n d (by omega)
    have hw : wrap64 ((d : Int) - 1) = (d : Int) - 1 := wrap64_in (by omega) (by omega)
    have h := ih (l ++ [48 + (n / 2 ^ d) % 2]) (by omega) (by simp; omega)
    have e2 : l ++ digs n (d + 1) = l ++ [48 + (n / 2 ^ d) % 2] ++ digs n d := by simp [digs]
    rw [e2]
    refine Ev.step (fun k => ?_) h
    rw [e, impl_digits.l0, if_pos (by omega), if_pos (by omega), if_pos (by omega), hs, and_one, hw]
    congr 3
    omega
theorem impl_digits_f (n : Int) (w : Int) (h0 : 0 ≤ w) (h1 : w ≤ 64) : Ev (fun k => impl_digits.f k n w) (strOfNums (digs n w.toNat)) := by
  obtain ⟨d, rfl⟩ := Int.eq_ofNat_of_zero_le h0
  have h := impl_digits_ev n d [] (by omega) (by simp; omega)
  refine Ev.congr (fun k => ?_) h
  unfold impl_digits.f
  rw [wrap64_in (by omega) (by omega)]

theorem toInt64S_loop (l : List Int) (hn : l.length ≤ 1048576) (d : Nat) : ∀ (j : Nat) (acc : List Int), j + d = l.length → acc.length = l.length → acc.take j = l.take j →
    Ev (fun k => laws_toInt64S.l0 k l acc (j : Int)) l := by
  induction d with
  | zero =>
    intro j acc h1 h2 h3
    obtain rfl : acc = l := take_all (n := j) (by omega) (by omega) h3
    exact ev_one (fun k => by rw [laws_toInt64S.l0, if_neg (by omega)])
  | succ d ih =>
    intro j acc h1 h2 h3
    have hj : j < l.length := by omega
    refine Ev.step (fun k => ?_) (ih (j + 1) (acc.set j l[j]) (by omega) (by simpa using h2) (by rw [set_take _ _ _ (by omega), take_snoc' _ _ hj, h3]))
    rw [laws_toInt64S.l0, if_pos (by omega), if_pos (by omega), if_pos (by omega), wrap_succ hj (by omega), rd_get _ _ hj, Int.toNat_natCast]
theorem toInt64S_ev (l : List Int) (hn : l.length ≤ 1048576) : Ev (fun k => laws_toInt64S.f k l) l := by
  refine Ev.congr (fun k => ?_) (toInt64S_loop l hn l.length 0 (List.replicate l.length 0) (by omega) (by simp) (by simp))
  unfold laws_toInt64S.f
  rw [if_pos (by omega), if_pos (by omega), Int.toNat_natCast]
  rfl
theorem eqInt64S_loop (l : List Int) (hn : l.length ≤ 1048576) (d : Nat) : ∀ j : Nat, j + d = l.length → Ev (fun k => laws_eqInt64S.l0 k l l (j : Int)) true := by
  induction d with
  | zero => intro j h; exact ev_one (fun k => by rw [laws_eqInt64S.l0, if_neg (by omega)])
  | succ d ih =>
    intro j h
    refine Ev.step (fun k => ?_) (ih (j + 1) (by omega))
    rw [laws_eqInt64S.l0, if_pos (by omega), if_pos (by omega), if_pos (by omega), if_pos rfl, wrap_succ (n := l.length) (by omega) (by omega)]
theorem eqInt64S_ev (l : List Int) (hn : l.length ≤ 1048576) : Ev (fun k => laws_eqInt64S.f k l l) true := by
  refine Ev.congr (fun k => ?_) (eqInt64S_loop l hn l.length 0 (by omega))
  unfold laws_eqInt64S.f
  rw [if_pos rfl]
  rfl

theorem size_l (s : ByteArray) : s.size = s.data.toList.length := by rw [Array.length_toList]; rfl
theorem app_l (l : List UInt8) (t : ByteArray) : (⟨l.toArray⟩ : ByteArray) ++ t = ⟨(l ++ t.data.toList).toArray⟩ := by
  apply ByteArray.ext
  rw [ByteArray.data_append]
  simp
theorem bb_no (L : List Int) (hL : L.length ≤ 50) (d : Nat) : ∀ (j : Nat) (S : ByteArray), j + d = L.length → S.size ≤ 8 * j → ((L.drop j).all fun x => decide (0 ≤ x ∧ x ≤ 255)) = false → Ev (fun k => spec_BitsOfBytes.l0 k L S (j : Int)) (⟨#[]⟩, false) := by
  induction d with
  | zero => intro j S h hs ha; rw [List.drop_eq_nil_of_le (by omega)] at ha; cases ha
  | succ d ih =>
    intro j S h hs ha
    have hj : j < L.length := by omega
    have hw := wrap_succ hj (by omega)
    rw [drop_cons _ _ hj, List.all_cons] at ha
    by_cases c : 0 ≤ L[j] ∧ L[j] ≤ 255
    · rw [decide_eq_true c, Bool.true_and] at ha
      have hd := spec_digits_f (L[j]) 8 (by decide) (by decide)
      have hz : (strOfNums (digs (L[j]) (8 : Int).toNat)).size = 8 := by rw [strOfNums_size, digs_length]; rfl
      have hi := ih (j + 1) (S ++ strOfNums (digs (L[j]) (8 : Int).toNat)) (by omega) (by rw [ByteArray.size_append, hz]; omega) ha
      refine Ev.step (fun k => by rw [spec_BitsOfBytes.l0, if_pos (by omega), if_pos (by omega), rd_get _ _ hj, spec_in, decide_eq_true c, Option.bind_some, if_pos rfl, hw]) (Ev.bind hd (ev_pos (show S.size + (strOfNums (digs (L[j]) (8 : Int).toNat)).size ≤ 9223372036854775807 by rw [hz]; omega) hi))
    · exact ev_one (fun k => by rw [spec_BitsOfBytes.l0, if_pos (by omega), if_pos (by omega), rd_get _ _ hj, spec_in, decide_eq_false c, Option.bind_some, if_neg (by decide)])
theorem bb_yes (L : List Int) (hL : L.length ≤ 50) (d : Nat) : ∀ (j : Nat) (l : List UInt8), j + d = L.length → l.length ≤ 8 * j → ((L.drop j).all fun x => decide (0 ≤ x ∧ x ≤ 255)) = true →
    ∃ r, Ev (fun k => spec_BitsOfBytes.l0 k L ⟨l.toArray⟩ (j : Int)) (r, true) ∧ Ev (fun k => impl_bitsOfBytes.l0 k L l (j : Int)) r := by
  induction d with
  | zero => intro j l h hs ha; exact ⟨⟨l.toArray⟩, ev_one (fun k => by rw [spec_BitsOfBytes.l0, if_neg (by omega)]), ev_one (fun k => by rw [impl_bitsOfBytes.l0, if_neg (by omega)])⟩
  | succ d ih =>
    intro j l h hs ha
    have hj : j < L.length := by omega
    have hw := wrap_succ hj (by omega)
    rw [drop_cons _ _ hj, List.all_cons, Bool.and_eq_true, decide_eq_true_iff] at ha
    obtain ⟨c, ha⟩ := ha
    have hd := spec_digits_f (L[j]) 8 (by decide) (by decide)
    have hd2 := impl_digits_f (L[j]) 8 (by decide) (by decide)
    have hz : (strOfNums (digs (L[j]) (8 : Int).toNat)).size = 8 := by rw [strOfNums_size, digs_length]; rfl
    have hl : (⟨l.toArray⟩ : ByteArray).size = l.length := by show l.toArray.size = _; simp
    generalize strOfNums (digs (L[j]) (8 : Int).toNat) = t at hd hd2 hz
    have ht : t.data.toList.length = 8 := by rw [← size_l, hz]
    obtain ⟨r, r1, r2⟩ := ih (j + 1) (l ++ t.data.toList) (by omega) (by rw [List.length_append, ht]; omega) ha
    rw [← app_l] at r1
    refine ⟨r, Ev.step (fun k => by rw [spec_BitsOfBytes.l0, if_pos (by omega), if_pos (by omega), rd_get _ _ hj, spec_in, decide_eq_true c, Option.bind_some, if_pos rfl, hw]) (Ev.bind hd (ev_pos (show (⟨l.toArray⟩ : ByteArray).size + t.size ≤ 9223372036854775807 by rw [hz, hl]; omega) r1)), ?_⟩
    exact Ev.step (fun k => by rw [impl_bitsOfBytes.l0, if_pos (by omega), if_pos (by omega), rd_get _ _ hj, hw]) (Ev.bind hd2 (ev_pos (show l.length + t.size ≤ 140737488355328 by rw [hz]; omega) r2))
theorem bitsOfBytes_both (L : List Int) (hn : L.length ≤ 9223372036854775807) : ∃ r, Ev (fun k => spec_BitsOfBytes.f k L) r ∧ Ev (fun k => impl_BitsOfBytes.f k L) r := by
  unfold spec_BitsOfBytes.f impl_BitsOfBytes.f
  by_cases c : (L.length : Int) > 50
  · exact ⟨_, ev_pos c (Ev.now _), ev_pos c (Ev.now _)⟩
  · have ha := areIn_ev L 0 255 hn
    cases e : L.all fun x => decide (0 ≤ x ∧ x ≤ 255) with
    | false =>
      rw [e] at ha
      exact ⟨_, ev_neg c (bb_no L (by omega) L.length 0 ⟨#[]⟩ (by omega) (by decide) (by rw [List.drop_zero]; exact e)), ev_neg c (Ev.bind ha (ev_neg Bool.false_ne_true (Ev.now _)))⟩
    | true =>
      rw [e] at ha
      obtain ⟨r, r1, r2⟩ := bb_yes L (by omega) L.length 0 [] (by omega) (by simp) (by rw [List.drop_zero]; exact e)
      have f2 : Ev (fun k => impl_bitsOfBytes.f k L) r := r2
      exact ⟨(r, true), ev_neg c r1, ev_neg c (Ev.bind ha (ev_pos rfl (Ev.bind f2 (Ev.now _))))⟩
theorem FnExactBitsOfBytes : laws_FnExactBitsOfBytes.Pure := by
  intro L hn hw
  apply Ev.rounds
  unfold laws_FnExactBitsOfBytes.f
  by_cases c : (L.length : Int) > 1048576
  · exact ev_pos c (Ev.now _)
  · have ht := toInt64S_ev L (by omega)
    obtain ⟨⟨v, b⟩, r1, r2⟩ := bitsOfBytes_both L hn
    have eb : (b != b) = false := by simp
    refine ev_neg c (Ev.bind ht (Ev.bind r1 (Ev.bind ht (Ev.bind r2 (ev_pos rfl ?_)))))
    show Ev (fun k => laws_FnExactBitsOfBytes.j0 k L L (b != b)) true
    rw [eb]
    exact Ev.step (fun k => by rw [laws_FnExactBitsOfBytes.j0, if_neg Bool.false_ne_true]) (Ev.bind ht (Ev.bind (eqInt64S_ev L (by omega)) (ev_pos rfl (Ev.now _))))

end Go.Proofs.Ytmnckflgmjgkaaa.Pure
