/-
How a comparison of strings and a wrap of a byte are spelt; there are no conditions.
-/
import Derived.WalkKit
namespace Go.Proofs.YtmnckflgmjgkaabDoor.MStr
open Go
theorem less_total (a : List UInt8) : ∀ b : List UInt8, (Op.bytesLess a b || a == b) = !(Op.bytesLess b a) := by
  induction a with
  | nil => intro b; cases b <;> rfl
  | cons x a ih =>
    intro b
    cases b with
    | nil => rfl
    | cons y b =>
      have h := ih b
      simp only [Op.bytesLess, List.cons_beq_cons]
      by_cases e : x = y
      · subst e
        simp [UInt8.lt_irrefl, h]
      · have e1 : (x == y) = false := beq_eq_false_iff_ne.2 e
        have e2 : (y == x) = false := beq_eq_false_iff_ne.2 (Ne.symm e)
        rw [e1, e2]
        rcases UInt8.lt_or_lt_of_ne e with h | h
        · simp [h, UInt8.lt_asymm h]
        · simp [h, UInt8.lt_asymm h]
theorem binOp_string_leq (t : TypeId) (a b : ByteArray) : binOp .leq t (.string a) (.string b) = pure (.bool !(Op.bytesLess b.toList a.toList)) := by
  simp [binOp, Op.stringOp, less_total]
theorem u8_mod (x : Int) : IntKind.u8.wrap x = x % 256 := by
  simp [IntKind.wrap, IntKind.bits, IntKind.signed]
theorem u8_in (a b : Int) : (a + b % 256) % 256 = (a + b) % 256 := by omega
end Go.Proofs.YtmnckflgmjgkaabDoor.MStr
