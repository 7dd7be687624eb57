/-
The law FnExactBitsOf returns true for all numbers; there are no conditions beside the row's own bounds.
-/
import Derived.Test.YtiemojacdjkheaaQFnExactBitsOfx1
namespace Go.Proofs.Ytiemojacdjkheaa.Pure
open Go.RowKit Go.Proofs.Ytiemojacdjkheaa.QFnExactBitsOf Go.Proofs.YtiemojacdjkheaaW.PrintWords Go.Proofs.YtiemojacdjkheaaW.PrintLast Go.Proofs.YtiemojacdjkheaaW.PrintMore
set_option linter.unusedVariables false

theorem ev_one {α : Type} {g : Nat → Option α} {r : α} (h : ∀ k, g (k + 1) = some r) : Ev g r :=
  ⟨1, fun k hk => by obtain ⟨m, rfl⟩ : ∃ m, k = m + 1 := ⟨k - 1, by omega⟩; exact h m⟩
theorem wrap64_in {x : Int} (h0 : -9223372036854775808 ≤ x) (h1 : x ≤ 9223372036854775807) : wrap64 x = x := by
  unfold wrap64; omega
theorem u64_in {x : Int} (h0 : 0 ≤ x) (h1 : x ≤ 18446744073709551615) : IntKind.u64.wrap x = x := by
  simp [IntKind.wrap, IntKind.bits, IntKind.signed]; omega
theorem i64_in {x : Int} (h0 : -9223372036854775808 ≤ x) (h1 : x ≤ 9223372036854775807) : IntKind.i64.wrap x = x := by
  rw [IntKind.wrap_i64]; omega
theorem and_one (x : Int) : Go.bits .and .i64 x 1 = x % 2 := by
  have h : (BitVec.ofInt 64 x &&& BitVec.ofInt 64 1).toNat = (x % 2).toNat := by
    have e1 : BitVec.ofInt 64 1 = 1#64 := by decide
    rw [e1, BitVec.toNat_and, BitVec.toNat_ofInt]
    have e2 : (1#64).toNat = 1 := by decide
    rw [e2, Nat.and_one_is_mod]
    omega
  show IntKind.i64.wrap (((BitVec.ofInt 64 x &&& BitVec.ofInt 64 1).toNat : Nat) : Int) = x % 2
  rw [h, i64_in (by omega) (by omega)]
  omega
theorem wf_i64 {x : Int} (h : (Lit.int .i64 x).wf = true) : -9223372036854775808 ≤ x ∧ x ≤ 9223372036854775807 := by
  simp [Lit.wf, IntKind.min, IntKind.max, IntKind.signed, IntKind.bits] at h
  omega
theorem pow_pos_int (d : Nat) : (0 : Int) < 2 ^ d := Int.pow_pos (by decide)
theorem pow_le_int {a b : Nat} (h : a ≤ b) : (2 : Int) ^ a ≤ 2 ^ b := by
  have := Nat.pow_le_pow_right (n := 2) (by decide) h
  exact_mod_cast this

theorem spec_in (a b c : Int) : spec_l00In.f a b c = some (decide (b ≤ a ∧ a ≤ c)) := by
  unfold spec_l00In.f
  by_cases h : a ≥ b
  · rw [if_pos h]; congr 1; have : b ≤ a := h; simp [this]
  · rw [if_neg h]; congr 1; have : ¬ b ≤ a := h; simp [this]
theorem impl_in (a b c : Int) : impl_within.f a b c = some (decide (b ≤ a ∧ a ≤ c)) := by
  unfold impl_within.f
  by_cases h : a ≥ b
  · rw [if_pos h]; congr 1; have : b ≤ a := h; simp [this]
  · rw [if_neg h]; congr 1; have : ¬ b ≤ a := h; simp [this]

/-- The lowest d binary digits of n as letters, the greatest one first. -/
def digs (n : Int) : Nat → List Int
  | 0 => []
  | d + 1 => (48 + (n / 2 ^ d) % 2) :: digs n d
theorem digs_length (n : Int) (d : Nat) : (digs n d).length = d := by
  induction d with
  | zero => rfl
  | succ d ih => simp [digs, ih]
theorem shr_nat (n : Int) (d : Nat) (h : d ≤ 64) : shr .i64 n (d : Int) = n / 2 ^ d := by
  unfold shr; rw [Int.toNat_natCast]; congr 2; exact Nat.min_eq_left h

theorem spec_digits_ev (n : Int) (d : Nat) : ∀ l : List Int, d ≤ 64 → l.length + d ≤ 1000 → Ev (fun k => spec_l01Digits.l0 k n l ((d : Int) - 1)) (strOfNums (l ++ digs n d)) := by
  induction d with
  | zero =>
    intro l _ _
    exact ev_one (fun k => by rw [spec_l01Digits.l0, if_neg (by omega)]; simp [digs])
  | succ d ih =>
    intro l hd hl
    have e : ((d + 1 : Nat) : Int) - 1 = (d : Int) := by omega
    have hs := shr_nat n d (by omega)
    have hu : IntKind.u64.wrap (d : Int) = d := u64_in (by omega) (by omega)
    have hw : wrap64 ((d : Int) - 1) = (d : Int) - 1 := wrap64_in (by omega) (by omega)
    have h := ih (l ++ [48 + (n / 2 ^ d) % 2]) (by omega) (by simp; omega)
    have e2 : l ++ digs n (d + 1) = l ++ [48 + (n / 2 ^ d) % 2] ++ digs n d := by simp [digs]
    rw [e2]
    refine Ev.step (fun k => ?_) h
    rw [e, spec_l01Digits.l0, hu, if_pos (by omega), if_pos (by omega), if_pos (by omega), hs, and_one, hw, wrap64_in (by omega) (by omega)]
    congr 3
    omega
theorem spec_digits_f (n : Int) (w : Int) (h0 : 0 ≤ w) (h1 : w ≤ 64) : Ev (fun k => spec_l01Digits.f k n w) (strOfNums (digs n w.toNat)) := by
  obtain ⟨d, rfl⟩ := Int.eq_ofNat_of_zero_le h0
  have h := spec_digits_ev n d [] (by omega) (by simp; omega)
  refine Ev.congr (fun k => ?_) h
  unfold spec_l01Digits.f
  rw [wrap64_in (by omega) (by omega)]

theorem impl_digits_ev (n : Int) (d : Nat) : ∀ l : List Int, d ≤ 64 → l.length + d ≤ 1000 → Ev (fun k => impl_digits.l0 k n l ((d : Int) - 1)) (strOfNums (l ++ digs n d)) := by
  induction d with
  | zero =>
    intro l _ _
    exact ev_one (fun k => by rw [impl_digits.l0, if_neg (by omega)]; simp [digs])
  | succ d ih =>
    intro l hd hl
    have e : ((d + 1 : Nat) : Int) - 1 = (d : Int) := by omega
    have hs := shr_nat n d (by omega)
    have hw : wrap64 ((d : Int) - 1) = (d : Int) - 1 := wrap64_in (by omega) (by omega)
    have h := ih (l ++ [48 + (n / 2 ^ d) % 2]) (by omega) (by simp; omega)
    have e2 : l ++ digs n (d + 1) = l ++ [48 + (n / 2 ^ d) % 2] ++ digs n d := by simp [digs]
    rw [e2]
    refine Ev.step (fun k => ?_) h
    rw [e, impl_digits.l0, if_pos (by omega), if_pos (by omega), if_pos (by omega), hs, and_one, hw]
    congr 3
    omega
theorem impl_digits_f (n : Int) (w : Int) (h0 : 0 ≤ w) (h1 : w ≤ 64) : Ev (fun k => impl_digits.f k n w) (strOfNums (digs n w.toNat)) := by
  obtain ⟨d, rfl⟩ := Int.eq_ofNat_of_zero_le h0
  have h := impl_digits_ev n d [] (by omega) (by simp; omega)
  refine Ev.congr (fun k => ?_) h
  unfold impl_digits.f
  rw [wrap64_in (by omega) (by omega)]

theorem shl_one (a : Int) (h0 : 0 ≤ a) (h1 : a ≤ 62) : shl .i64 1 a = 2 ^ a.toNat := by
  obtain ⟨d, rfl⟩ := Int.eq_ofNat_of_zero_le h0
  unfold shl
  rw [Int.toNat_natCast]
  have e : min d IntKind.i64.bits = d := Nat.min_eq_left (by show d ≤ 64; omega)
  have h2 : (2 : Int) ^ d ≤ 2 ^ 62 := pow_le_int (by omega)
  have h3 : (2 : Int) ^ 62 = 4611686018427387904 := by decide
  have h4 := pow_pos_int d
  rw [e, i64_in (by omega) (by omega), Int.one_mul]
theorem div_zero_iff (n : Int) (d : Nat) (h : 0 ≤ n) : n / 2 ^ d = 0 ↔ n ≤ 2 ^ d - 1 := by
  have hp := pow_pos_int d
  constructor
  · intro e
    have := Int.lt_ediv_add_one_mul_self n hp
    rw [e] at this
    omega
  · intro e; exact Int.ediv_eq_zero_of_lt h (by omega)
theorem bitsOf_both (a0 a1 : Int) : ∃ r, Ev (fun k => spec_BitsOf.f k a0 a1) r ∧ Ev (fun k => impl_BitsOf.f k a0 a1) r := by
  by_cases h : 0 ≤ a1 ∧ a1 ≤ 60
  · have hu : IntKind.u64.wrap a1 = a1 := u64_in (by omega) (by omega)
    obtain ⟨d, hd⟩ := Int.eq_ofNat_of_zero_le h.1
    have hs : shr .i64 a0 a1 = a0 / 2 ^ d := by rw [hd]; exact shr_nat a0 d (by omega)
    have hl : shl .i64 1 a1 = 2 ^ d := by rw [shl_one a1 h.1 (by omega), hd, Int.toNat_natCast]
    have h2 : (2 : Int) ^ d ≤ 2 ^ 62 := pow_le_int (by omega)
    have h3 : (2 : Int) ^ 62 = 4611686018427387904 := by decide
    have hp := pow_pos_int d
    have hw : wrap64 (2 ^ d - 1) = 2 ^ d - 1 := wrap64_in (by omega) (by omega)
    by_cases c : 0 ≤ a0 ∧ a0 ≤ 2 ^ d - 1
    · refine ⟨(strOfNums (digs a0 a1.toNat), true), ?_, ?_⟩
      · refine Ev.congr (f := fun k => (spec_l01Digits.f k a0 a1).bind fun t => some (t, true)) (fun k => ?_) (Ev.bind (spec_digits_f a0 a1 h.1 (by omega)) (Ev.now _))
        unfold spec_BitsOf.f
        rw [spec_in, decide_eq_true h, hu, hs]
        simp only [Option.bind_some, if_true]
        rw [if_neg (by omega), if_pos h.1, if_pos ((div_zero_iff a0 d c.1).2 c.2)]
      · refine Ev.congr (f := fun k => (impl_digits.f k a0 a1).bind fun t => some (t, true)) (fun k => ?_) (Ev.bind (impl_digits_f a0 a1 h.1 (by omega)) (Ev.now _))
        unfold impl_BitsOf.f
        rw [impl_in, decide_eq_true h, hl, hw]
        simp only [Option.bind_some, if_true]
        rw [if_pos h.1, impl_in, decide_eq_true c]
        rfl
    · refine ⟨((⟨#[]⟩ : ByteArray), false), ?_, ?_⟩
      · refine Ev.congr (fun k => ?_) (Ev.now _)
        unfold spec_BitsOf.f
        rw [spec_in, decide_eq_true h, hu, hs]
        simp only [Option.bind_some, if_true]
        by_cases c0 : a0 < 0
        · rw [if_pos c0]
        · rw [if_neg c0, if_pos h.1, if_neg]
          intro e
          exact c ⟨by omega, (div_zero_iff a0 d (by omega)).1 e⟩
      · refine Ev.congr (fun k => ?_) (Ev.now _)
        unfold impl_BitsOf.f
        rw [impl_in, decide_eq_true h, hl, hw]
        simp only [Option.bind_some, if_true]
        rw [if_pos h.1, impl_in, decide_eq_false c]
        rfl
  · refine ⟨((⟨#[]⟩ : ByteArray), false), ?_, ?_⟩
    · exact Ev.congr (fun k => by unfold spec_BitsOf.f; rw [spec_in, decide_eq_false h]; rfl) (Ev.now _)
    · exact Ev.congr (fun k => by unfold impl_BitsOf.f; rw [impl_in, decide_eq_false h]; rfl) (Ev.now _)
theorem FnExactBitsOf : laws_FnExactBitsOf.Pure := by
  intro a0 a1 _ _
  obtain ⟨r, hs, hi⟩ := bitsOf_both a0 a1
  refine Ev.rounds (Ev.congr (fun k => by unfold laws_FnExactBitsOf.f; rfl) (Ev.bind (a := r) hs (Ev.bind (a := r) hi ?_)))
  simpa using Ev.now true

end Go.Proofs.Ytiemojacdjkheaa.Pure
