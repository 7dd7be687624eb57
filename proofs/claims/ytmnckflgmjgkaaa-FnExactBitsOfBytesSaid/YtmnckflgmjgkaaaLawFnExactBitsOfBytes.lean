/-
The law FnExactBitsOfBytes returns true for every input, each argument reads afterwards as it read before; conditions: those of the row alone.
-/
import Derived.Test.YtmnckflgmjgkaaaRows
import Derived.Test.YtmnckflgmjgkaaaQFnExactBitsOfBytesx2
import Derived.Test.YtmnckflgmjgkaaaPureFnExactBitsOfBytes
import Derived.Test.YtmnckflgmjgkaaaMOpen
import Derived.WalkKit
import Derived.ProofKit
import Derived.OpenShut
import Derived.ShutString
import Derived.ChangeOld
import Derived.Below
import Derived.SizedLaws
import Derived.Test.YtmnckflgmjgkaaaWSized
namespace Go.Proofs.Ytmnckflgmjgkaaa.fnExactBitsOfBytes
open Go.ChangeShapes Go.WideShapes Go.ChangeAt Go.RowKit Go.Joins
open Go.ChangeMaps (open_string shut_string)
set_option linter.unusedVariables false
theorem own : ownKnob Try.prog.godebug = none := by kernel_rfl
theorem laidOut : laidOutB Try.prog = true := by kernel_rfl
set_option maxRecDepth 100000 in
theorem lifted (os : Os) (started : os.Started) (H : Type) (enc : TypeId × Value → H) :
    ReturnsInHanded {} Try.checked os 4 .any (Rows.fnExactBitsOfBytesSpec.pre6 enc Try.prog Try.f4 Rows.fnExactBitsOfBytesRow.domain false) (Rows.fnExactBitsOfBytesSpec.post enc Try.prog Try.f4 false true false false) := by
  refine returnsInHanded_of_change_sized (C := Try.checked) own started (by kernel_rfl) Try.func4
    (ChangeSpec.witness6 (enc := enc) (C := Try.checked) false ⟨#[], #[.slice none 0 0], []⟩ 8 (by kernel_rfl) (by kernel_rfl) (by kernel_rfl) (by kernel_rfl)) ?_
  intro W base args ds gs before hval0 hW hcnd hsz0 _
  have hval : ∀ (j : Nat) t v, Try.f4.params[j]? = some t → args[j]? = some v → Value.okWide Try.prog W .any base t v := hval0
  have hW' := hW
  obtain ⟨p, q, hA0, hV, rfl, hfz, hnd⟩ := hW
  have hA : DataW.TrodAll enc Try.prog W 0 (fun _ => true) true Try.f4.params.toList args.toList ds p := hA0
  rw [Try.params4] at hA hval
  obtain ⟨v0, vs0, d0, ds0, p0, q0, hargs, rfl, rfl, h0, r0⟩ := trodAll_cons hA
  obtain ⟨rfl, rfl, rfl⟩ := trodAll_nil r0
  obtain rfl : args = #[v0] := by cases args; simp_all
  obtain ⟨rfl, rfl⟩ := trodVars_none hV
  obtain ⟨a_, len_, cap_, rfl⟩ := okWide_slice Try.underlying25 (hval 0 25 v0 rfl rfl)
  have k0 := h0
  have lt0 : ∀ x ∈ p0, x.block < W.heap.size := by obtain ⟨m, hm⟩ := k0; exact DataW.trod_lt m _ _ _ hm
  obtain ⟨nf0, y0, hf0⟩ := MOpen.cell_of_trod h0
  obtain ⟨A0, c0, l0, e_0, hC0, hc0, hm0, hw0⟩ := MOpen.ints_C Try.underlying25 Try.underlying2 (by kernel_rfl) hf0
  simp only [Value.slice.injEq] at e_0
  obtain ⟨q1_, q2_, q3_⟩ := e_0
  have q1_ := q1_.symm
  have q2_ := q2_.symm
  have q3_ := q3_.symm
  subst q1_
  subst q2_
  subst q3_
  obtain ⟨kr, hr⟩ := Pure.FnExactBitsOfBytes l0 hm0 hw0
  clear hA0 hval0
  refine (QFnExactBitsOfBytes.laws_FnExactBitsOfBytes.calls kr A0 c0 l0 true W hC0 hc0 hr).mono fun e W' ⟨he, bel0⟩ => ?_
  have bel : Below W.heap.size W W' := bel0
  subst he
  exact ⟨_, rfl, _, _, _, [], _, [], hW', trodAll_mk1 (shut_bool Try.underlying4 _), (trodAll_cons_mk (Below.trod laidOut (by kernel_rfl) (of_decide_eq_true (by kernel_rfl)) k0 bel lt0) trodAll_mk0), rfl, bel.frame _, fun h => by cases h⟩
theorem over : Rows.fnExactBitsOfBytesRow.holds Try.pinned (OpenSpec.ofChange Rows.fnExactBitsOfBytesSpec) :=
  OpenClaim.holds_of_wide 4 Try.f4 rfl rfl rfl rfl rfl rfl rfl ⟨rfl, rfl, rfl, rfl, rfl⟩ rfl rfl rfl rfl rfl (by kernel_rfl) Try.func4 (by kernel_rfl)
    (of_decide_eq_true (by kernel_rfl)) (by unfold Func.isWrapper; first | (rw [if_pos (by decide +kernel)]; kernel_rfl) | (rw [if_neg (by decide +kernel)]; exact ⟨rfl, rfl⟩))
    (fun os started H enc _ => lifted os started H enc)
theorem proved : Rows.FnExactBitsOfBytesSaid := over
#print axioms proved
end Go.Proofs.Ytmnckflgmjgkaaa.fnExactBitsOfBytes
namespace Go.Proofs.Ytmnckflgmjgkaaa
/-- The row, under a short name, for the claim. -/
theorem fnExactBitsOfBytes_holds : Rows.FnExactBitsOfBytesSaid := fnExactBitsOfBytes.proved
end Go.Proofs.Ytmnckflgmjgkaaa
