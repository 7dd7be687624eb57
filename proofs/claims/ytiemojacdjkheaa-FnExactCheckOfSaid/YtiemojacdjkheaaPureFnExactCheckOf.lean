/-
The law FnExactCheckOf returns true for every number and every string; there are no conditions beside the row's own bounds.
-/
import Derived.Test.YtiemojacdjkheaaPFnExactCheckOfx1
namespace Go.Proofs.Ytiemojacdjkheaa.Pure
open Go.RowKit Go.Proofs.Ytiemojacdjkheaa.PFnExactCheckOf Go.Proofs.YtiemojacdjkheaaW.PrintWords Go.Proofs.YtiemojacdjkheaaW.PrintLast Go.Proofs.YtiemojacdjkheaaW.PrintMore
set_option linter.unusedVariables false

theorem ev_one {α : Type} {g : Nat → Option α} {r : α} (h : ∀ k, g (k + 1) = some r) : Ev g r :=
  ⟨1, fun k hk => by obtain ⟨m, rfl⟩ : ∃ m, k = m + 1 := ⟨k - 1, by omega⟩; exact h m⟩
theorem wrap64_in {x : Int} (h0 : -9223372036854775808 ≤ x) (h1 : x ≤ 9223372036854775807) : wrap64 x = x := by
  unfold wrap64; omega
theorem u64_in {x : Int} (h0 : 0 ≤ x) (h1 : x ≤ 18446744073709551615) : IntKind.u64.wrap x = x := by
  simp [IntKind.wrap, IntKind.bits, IntKind.signed]; omega
theorem i64_in {x : Int} (h0 : -9223372036854775808 ≤ x) (h1 : x ≤ 9223372036854775807) : IntKind.i64.wrap x = x := by
  rw [IntKind.wrap_i64]; omega
theorem and_one (x : Int) : Go.bits .and .i64 x 1 = x % 2 := by
  have h : (BitVec.ofInt 64 x &&& BitVec.ofInt 64 1).toNat = (x % 2).toNat := by
    have e1 : BitVec.ofInt 64 1 = 1#64 := by decide
    rw [e1, BitVec.toNat_and, BitVec.toNat_ofInt]
    have e2 : (1#64).toNat = 1 := by decide
    rw [e2, Nat.and_one_is_mod]
    omega
  show IntKind.i64.wrap (((BitVec.ofInt 64 x &&& BitVec.ofInt 64 1).toNat : Nat) : Int) = x % 2
  rw [h, i64_in (by omega) (by omega)]
  omega
theorem wf_i64 {x : Int} (h : (Lit.int .i64 x).wf = true) : -9223372036854775808 ≤ x ∧ x ≤ 9223372036854775807 := by
  simp [Lit.wf, IntKind.min, IntKind.max, IntKind.signed, IntKind.bits] at h
  omega
theorem pow_pos_int (d : Nat) : (0 : Int) < 2 ^ d := Int.pow_pos (by decide)
theorem pow_le_int {a b : Nat} (h : a ≤ b) : (2 : Int) ^ a ≤ 2 ^ b := by
  have := Nat.pow_le_pow_right (n := 2) (by decide) h
  exact_mod_cast this

theorem spec_in (a b c : Int) : spec_l00In.f a b c = some (decide (b ≤ a ∧ a ≤ c)) := by
  unfold spec_l00In.f
  by_cases h : a ≥ b
  · rw [if_pos h]; congr 1; have : b ≤ a := h; simp [this]
  · rw [if_neg h]; congr 1; have : ¬ b ≤ a := h; simp [this]
theorem impl_in (a b c : Int) : impl_within.f a b c = some (decide (b ≤ a ∧ a ≤ c)) := by
  unfold impl_within.f
  by_cases h : a ≥ b
  · rw [if_pos h]; congr 1; have : b ≤ a := h; simp [this]
  · rw [if_neg h]; congr 1; have : ¬ b ≤ a := h; simp [this]

theorem check_both (s : ByteArray) (hn : s.size ≤ 1048576) (d : Nat) : ∀ i x : Int, 0 ≤ i → i + (d : Int) = (s.size : Int) →
    ∃ r, Ev (fun k => spec_l01Check.l0 k x s i) r ∧ Ev (fun k => impl_CheckOf.l0 k x s (s.size : Int) i) (r, true) := by
  induction d with
  | zero =>
    intro i x h0 h
    have h1 : ¬ i < (s.size : Int) := by omega
    exact ⟨x, ev_one (fun k => by rw [spec_l01Check.l0, if_neg h1]), ev_one (fun k => by rw [impl_CheckOf.l0, if_neg h1])⟩
  | succ d ih =>
    intro i x h0 h
    have h1 : i < (s.size : Int) := by omega
    have hw : wrap64 (i + 1) = i + 1 := wrap64_in (by omega) (by omega)
    obtain ⟨r, hs, hi⟩ := ih (i + 1) (Int.tmod (wrap64 ((wrap64 ((wrap64 (3001 * x)) + (wrap64 (bt s i)))) + 5)) 65003) (by omega) (by omega)
    exact ⟨r, Ev.step (fun k => by rw [spec_l01Check.l0, if_pos h1, if_pos h0, hw]) hs, Ev.step (fun k => by rw [impl_CheckOf.l0, if_pos h1, if_pos h0, if_pos h1, hw]) hi⟩
theorem FnExactCheckOf : laws_FnExactCheckOf.Pure := by
  intro x s _ _
  by_cases c : (s.size : Int) > 1048576
  · exact ⟨0, by unfold laws_FnExactCheckOf.f; rw [if_pos c]⟩
  · suffices h : ∃ r, Ev (fun k => spec_CheckOf.f k x s) r ∧ Ev (fun k => impl_CheckOf.f k x s) r by
      obtain ⟨r, hs, hi⟩ := h
      refine Ev.rounds (Ev.congr (fun k => by unfold laws_FnExactCheckOf.f; rw [if_neg c]) (Ev.bind (a := r) hs (Ev.bind (a := r) hi ?_)))
      simpa using Ev.now true
    by_cases h : 0 ≤ x ∧ x ≤ 65002
    · obtain ⟨r, hs, hi⟩ := check_both s (by omega) s.size 0 x (by omega) (by omega)
      refine ⟨(r, true), ?_, ?_⟩
      · refine Ev.congr (f := fun k => (spec_l01Check.f k x s).bind fun t => some (t, true)) (fun k => by unfold spec_CheckOf.f; rw [spec_in, decide_eq_true h]; rfl) (Ev.bind (a := r) hs (Ev.now _))
      · exact Ev.congr (fun k => by unfold impl_CheckOf.f; rw [impl_in, decide_eq_true h]; rfl) hi
    · refine ⟨(0, false), ?_, ?_⟩
      · exact Ev.congr (fun k => by unfold spec_CheckOf.f; rw [spec_in, decide_eq_false h]; rfl) (Ev.now _)
      · exact Ev.congr (fun k => by unfold impl_CheckOf.f; rw [impl_in, decide_eq_false h]; rfl) (Ev.now _)

end Go.Proofs.Ytiemojacdjkheaa.Pure
