/-
The law FnExactIsName returns true for every string: program and reference tell the same of it; there are no conditions beside the row's own bounds.
-/
import Derived.Test.YtiemojacdjkheaaPFnExactIsNamex1
namespace Go.Proofs.Ytiemojacdjkheaa.Pure
open Go.RowKit Go.Proofs.Ytiemojacdjkheaa.PFnExactIsName Go.Proofs.YtiemojacdjkheaaW.PrintWords Go.Proofs.YtiemojacdjkheaaW.PrintLast Go.Proofs.YtiemojacdjkheaaW.PrintMore
set_option linter.unusedVariables false

theorem ev_one {α : Type} {g : Nat → Option α} {r : α} (h : ∀ k, g (k + 1) = some r) : Ev g r :=
  ⟨1, fun k hk => by obtain ⟨m, rfl⟩ : ∃ m, k = m + 1 := ⟨k - 1, by omega⟩; exact h m⟩
theorem wrap64_in {x : Int} (h0 : -9223372036854775808 ≤ x) (h1 : x ≤ 9223372036854775807) : wrap64 x = x := by
  unfold wrap64; omega
theorem u64_in {x : Int} (h0 : 0 ≤ x) (h1 : x ≤ 18446744073709551615) : IntKind.u64.wrap x = x := by
  simp [IntKind.wrap, IntKind.bits, IntKind.signed]; omega
theorem i64_in {x : Int} (h0 : -9223372036854775808 ≤ x) (h1 : x ≤ 9223372036854775807) : IntKind.i64.wrap x = x := by
  rw [IntKind.wrap_i64]; omega
theorem and_one (x : Int) : Go.bits .and .i64 x 1 = x % 2 := by
  have h : (BitVec.ofInt 64 x &&& BitVec.ofInt 64 1).toNat = (x % 2).toNat := by
    have e1 : BitVec.ofInt 64 1 = 1#64 := by decide
    rw [e1, BitVec.toNat_and, BitVec.toNat_ofInt]
    have e2 : (1#64).toNat = 1 := by decide
    rw [e2, Nat.and_one_is_mod]
    omega
  show IntKind.i64.wrap (((BitVec.ofInt 64 x &&& BitVec.ofInt 64 1).toNat : Nat) : Int) = x % 2
  rw [h, i64_in (by omega) (by omega)]
  omega
theorem wf_i64 {x : Int} (h : (Lit.int .i64 x).wf = true) : -9223372036854775808 ≤ x ∧ x ≤ 9223372036854775807 := by
  simp [Lit.wf, IntKind.min, IntKind.max, IntKind.signed, IntKind.bits] at h
  omega
theorem pow_pos_int (d : Nat) : (0 : Int) < 2 ^ d := Int.pow_pos (by decide)
theorem pow_le_int {a b : Nat} (h : a ≤ b) : (2 : Int) ^ a ≤ 2 ^ b := by
  have := Nat.pow_le_pow_right (n := 2) (by decide) h
  exact_mod_cast this

theorem isName_both (s : ByteArray) (hn : s.size ≤ 1048576) (d : Nat) : ∀ i : Int, 0 ≤ i → i + (d : Int) = (s.size : Int) →
    ∃ r, Ev (fun k => spec_IsName.l0 k s i) r ∧ Ev (fun k => impl_IsName.l0 k s (s.size : Int) i) r := by
  induction d with
  | zero =>
    intro i h0 h
    have h1 : ¬ i < (s.size : Int) := by omega
    by_cases c : (s.size : Int) ≥ 1
    · exact ⟨_, ev_one (fun k => by rw [spec_IsName.l0, if_neg h1, if_pos c]), ev_one (fun k => by rw [impl_IsName.l0, if_neg h1, if_pos c])⟩
    · exact ⟨_, ev_one (fun k => by rw [spec_IsName.l0, if_neg h1, if_neg c]), ev_one (fun k => by rw [impl_IsName.l0, if_neg h1, if_neg c])⟩
  | succ d ih =>
    intro i h0 h
    have h1 : i < (s.size : Int) := by omega
    have hw : wrap64 (i + 1) = i + 1 := wrap64_in (by omega) (by omega)
    by_cases c1 : bt s i < 97
    · exact ⟨_, ev_one (fun k => by rw [spec_IsName.l0, if_pos h1, if_pos h0, if_pos c1]), ev_one (fun k => by rw [impl_IsName.l0, if_pos h1, if_pos h0, if_pos h1, if_pos c1])⟩
    · by_cases c2 : bt s i > 122
      · exact ⟨_, ev_one (fun k => by rw [spec_IsName.l0, if_pos h1, if_pos h0, if_neg c1, if_pos c2]), ev_one (fun k => by rw [impl_IsName.l0, if_pos h1, if_pos h0, if_pos h1, if_neg c1, if_pos c2])⟩
      · obtain ⟨r, hs, hi⟩ := ih (i + 1) (by omega) (by omega)
        exact ⟨r, Ev.step (fun k => by rw [spec_IsName.l0, if_pos h1, if_pos h0, if_neg c1, if_neg c2, hw]) hs, Ev.step (fun k => by rw [impl_IsName.l0, if_pos h1, if_pos h0, if_pos h1, if_neg c1, if_neg c2, hw]) hi⟩
theorem FnExactIsName : laws_FnExactIsName.Pure := by
  intro s _
  by_cases c : (s.size : Int) > 1048576
  · exact ⟨0, by unfold laws_FnExactIsName.f; rw [if_pos c]⟩
  · obtain ⟨r, hs, hi⟩ := isName_both s (by omega) s.size 0 (by omega) (by omega)
    refine Ev.rounds (Ev.congr (f := fun k => (spec_IsName.f k s).bind fun t101 => (impl_IsName.f k s).bind fun t102 => if (t102 != t101) = true then some false else some true) (fun k => by unfold laws_FnExactIsName.f; rw [if_neg c]) ?_)
    refine Ev.bind (a := r) hs (Ev.bind (a := r) hi ?_)
    simpa using Ev.now true

end Go.Proofs.Ytiemojacdjkheaa.Pure
