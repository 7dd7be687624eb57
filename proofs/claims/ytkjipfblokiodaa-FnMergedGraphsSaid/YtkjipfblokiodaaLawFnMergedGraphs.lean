/-
The law FnMergedGraphs returns true for every input, each argument reads afterwards as it read before; conditions: those of the row alone.
-/
import Derived.Test.YtkjipfblokiodaaRows
import Derived.Test.YtkjipfblokiodaaQFnMergedGraphsx7
import Derived.Test.YtkjipfblokiodaaPureFnMergedGraphs
import Derived.Test.YtkjipfblokiodaaMOpen
import Derived.WalkKit
import Derived.ProofKit
import Derived.OpenShut
import Derived.ShutString
import Derived.ChangeOld
import Derived.Below
import Derived.SizedLaws
import Derived.Test.YtkjipfblokiodaaWSized
namespace Go.Proofs.Ytkjipfblokiodaa.fnMergedGraphs
open Go.ChangeShapes Go.WideShapes Go.ChangeAt Go.RowKit Go.Joins
open Go.ChangeMaps (open_string shut_string)
set_option linter.unusedVariables false
theorem own : ownKnob Try.prog.godebug = none := by kernel_rfl
theorem laidOut : laidOutB Try.prog = true := by kernel_rfl
set_option maxRecDepth 100000 in
theorem lifted (os : Os) (started : os.Started) (H : Type) (enc : TypeId × Value → H) :
    ReturnsInHanded {} Try.checked os 3 .any (Rows.fnMergedGraphsSpec.pre6 enc Try.prog Try.f3 Rows.fnMergedGraphsRow.domain false) (Rows.fnMergedGraphsSpec.post enc Try.prog Try.f3 false true false false) := by
  refine returnsInHanded_of_change_sized (C := Try.checked) own started (by kernel_rfl) Try.func3
    (ChangeSpec.witness6 (enc := enc) (C := Try.checked) false ⟨#[], #[.slice none 0 0, .slice none 0 0], []⟩ 8 (by kernel_rfl) (by kernel_rfl) (by kernel_rfl) (by kernel_rfl)) ?_
  intro W base args ds gs before hval0 hW hcnd hsz0 _
  have hval : ∀ (j : Nat) t v, Try.f3.params[j]? = some t → args[j]? = some v → Value.okWide Try.prog W .any base t v := hval0
  have hW' := hW
  obtain ⟨p, q, hA0, hV, rfl, hfz, hnd⟩ := hW
  have hA : DataW.TrodAll enc Try.prog W 0 (fun _ => true) true Try.f3.params.toList args.toList ds p := hA0
  rw [Try.params3] at hA hval
  obtain ⟨v0, vs0, d0, ds0, p0, q0, hargs, rfl, rfl, h0, r0⟩ := trodAll_cons hA
  obtain ⟨v1, vs1, d1, ds1, p1, q1, rfl, rfl, rfl, h1, r1⟩ := trodAll_cons r0
  obtain ⟨rfl, rfl, rfl⟩ := trodAll_nil r1
  obtain rfl : args = #[v0, v1] := by cases args; simp_all
  obtain ⟨rfl, rfl⟩ := trodVars_none hV
  obtain ⟨a_, len_, cap_, rfl⟩ := okWide_slice Try.underlying22 (hval 0 22 v0 rfl rfl)
  have k0 := h0
  have lt0 : ∀ x ∈ p0, x.block < W.heap.size := by obtain ⟨m, hm⟩ := k0; exact DataW.trod_lt m _ _ _ hm
  obtain ⟨nf0, y0, hf0⟩ := MOpen.cell_of_trod h0
  obtain ⟨A0, c0, l0, e_0, hC0, hc0, hm0, hw0⟩ := MOpen.ints_C Try.underlying22 Try.underlying5 (by kernel_rfl) hf0
  simp only [Value.slice.injEq] at e_0
  obtain ⟨q1_, q2_, q3_⟩ := e_0
  have q1_ := q1_.symm
  have q2_ := q2_.symm
  have q3_ := q3_.symm
  subst q1_
  subst q2_
  subst q3_
  obtain ⟨a_, len_, cap_, rfl⟩ := okWide_slice Try.underlying22 (hval 1 22 v1 rfl rfl)
  have k1 := h1
  have lt1 : ∀ x ∈ p1, x.block < W.heap.size := by obtain ⟨m, hm⟩ := k1; exact DataW.trod_lt m _ _ _ hm
  obtain ⟨nf1, y1, hf1⟩ := MOpen.cell_of_trod h1
  obtain ⟨A1, c1, l1, e_1, hC1, hc1, hm1, hw1⟩ := MOpen.ints_C Try.underlying22 Try.underlying5 (by kernel_rfl) hf1
  simp only [Value.slice.injEq] at e_1
  obtain ⟨q1_, q2_, q3_⟩ := e_1
  have q1_ := q1_.symm
  have q2_ := q2_.symm
  have q3_ := q3_.symm
  subst q1_
  subst q2_
  subst q3_
  obtain ⟨kr, hr⟩ := Pure.FnMergedGraphs l0 l1 hm0 hw0 hm1 hw1
  clear hA0 hval0
  refine (QFnMergedGraphs.laws_FnMergedGraphs.calls kr A0 c0 l0 A1 c1 l1 true W hC0 hc0 hC1 hc1 hr).mono fun e W' ⟨he, bel0⟩ => ?_
  have bel : Below W.heap.size W W' := bel0
  subst he
  exact ⟨_, rfl, _, _, _, [], _, [], hW', trodAll_mk1 (shut_bool Try.underlying4 _), (trodAll_cons_mk (Below.trod laidOut (by kernel_rfl) (of_decide_eq_true (by kernel_rfl)) k0 bel lt0) (trodAll_cons_mk (Below.trod laidOut (by kernel_rfl) (of_decide_eq_true (by kernel_rfl)) k1 bel lt1) trodAll_mk0)), rfl, bel.frame _, fun h => by cases h⟩
theorem over : Rows.fnMergedGraphsRow.holds Try.pinned (OpenSpec.ofChange Rows.fnMergedGraphsSpec) :=
  OpenClaim.holds_of_wide 3 Try.f3 rfl rfl rfl rfl rfl rfl rfl ⟨rfl, rfl, rfl, rfl, rfl⟩ rfl rfl rfl rfl rfl (by kernel_rfl) Try.func3 (by kernel_rfl)
    (of_decide_eq_true (by kernel_rfl)) (by unfold Func.isWrapper; first | (rw [if_pos (by decide +kernel)]; kernel_rfl) | (rw [if_neg (by decide +kernel)]; exact ⟨rfl, rfl⟩))
    (fun os started H enc _ => lifted os started H enc)
theorem proved : Rows.FnMergedGraphsSaid := over
#print axioms proved
end Go.Proofs.Ytkjipfblokiodaa.fnMergedGraphs
namespace Go.Proofs.Ytkjipfblokiodaa
/-- The row, under a short name, for the claim. -/
theorem fnMergedGraphs_holds : Rows.FnMergedGraphsSaid := fnMergedGraphs.proved
end Go.Proofs.Ytkjipfblokiodaa
