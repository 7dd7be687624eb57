/-
The law FnExactMergeGraph returns true for every input; conditions: those of the row alone.
-/
import Derived.Test.YtkjipfblokiodaaRows
import Derived.Test.YtkjipfblokiodaaQFnExactMergeGraphx8
import Derived.Test.YtkjipfblokiodaaPureFnExactMergeGraph
import Derived.Test.YtkjipfblokiodaaMOpen
import Derived.WalkKit
import Derived.ProofKit
import Derived.OpenShut
import Derived.ShutString
import Derived.ChangeOld
import Derived.Below
import Derived.SizedLaws
import Derived.Test.YtkjipfblokiodaaWSized
namespace Go.Proofs.Ytkjipfblokiodaa.fnExactMergeGraph
open Go.ChangeShapes Go.WideShapes Go.ChangeAt Go.RowKit Go.Joins
open Go.ChangeMaps (open_string shut_string)
set_option linter.unusedVariables false
theorem own : ownKnob Try.prog.godebug = none := by kernel_rfl
theorem laidOut : laidOutB Try.prog = true := by kernel_rfl
set_option maxRecDepth 100000 in
theorem lifted (os : Os) (started : os.Started) (H : Type) (enc : TypeId × Value → H) :
    ReturnsInHanded {} Try.checked os 5 .any (Rows.fnExactMergeGraphSpec.pre6 enc Try.prog Try.f5 Rows.fnExactMergeGraphRow.domain false) (Rows.fnExactMergeGraphSpec.post enc Try.prog Try.f5 false true false false) := by
  refine returnsInHanded_of_change_sized (C := Try.checked) own started (by kernel_rfl) Try.func5
    (ChangeSpec.witness6 (enc := enc) (C := Try.checked) false ⟨#[], #[.agg #[.slice none 0 0]], []⟩ 8 (by kernel_rfl) (by kernel_rfl) (by kernel_rfl) (by kernel_rfl)) ?_
  intro W base args ds gs before hval0 hW hcnd hsz0 _
  have hval : ∀ (j : Nat) t v, Try.f5.params[j]? = some t → args[j]? = some v → Value.okWide Try.prog W .any base t v := hval0
  have hW' := hW
  obtain ⟨p, q, hA0, hV, rfl, hfz, hnd⟩ := hW
  have hA : DataW.TrodAll enc Try.prog W 0 (fun _ => true) true Try.f5.params.toList args.toList ds p := hA0
  rw [Try.params5] at hA hval
  obtain ⟨v0, vs0, d0, ds0, p0, q0, hargs, rfl, rfl, h0, r0⟩ := trodAll_cons hA
  obtain ⟨rfl, rfl, rfl⟩ := trodAll_nil r0
  obtain rfl : args = #[v0] := by cases args; simp_all
  obtain ⟨rfl, rfl⟩ := trodVars_none hV
  have k0 := h0
  have lt0 : ∀ x ∈ p0, x.block < W.heap.size := by obtain ⟨m, hm⟩ := k0; exact DataW.trod_lt m _ _ _ hm
  obtain ⟨v0_0, y0_0, nf0, rfl, e0_0⟩ := MOpen.open_agg1 Try.underlying37 (by kernel_rfl) (by kernel_rfl) (hval 0 37 v0 rfl rfl) h0
  obtain ⟨A0_0, c0_0, l0_0, e_0_0, hC0_0, hc0_0, hm0_0, hw0_0⟩ := MOpen.rows_C Try.underlying24 Try.underlying28 Try.underlying2 (by kernel_rfl) (by kernel_rfl) e0_0
  subst e_0_0
  have fin : Calls Try.prog 5 #[.agg #[.slice A0_0 l0_0.length c0_0]] W fun e w' => e = .returned (.bool true) ∧ Below W.heap.size W w' := by
    rcases Pure.FnExactMergeGraph l0_0 hm0_0 hw0_0 with ⟨kr, t, e0, ht⟩ | ⟨kr, t, r, TX, TG, rr, rr2, b, mx, m, m2, e0, ht, hmx, hm, hm2, hlg, hlr, eT, e1, e2, e3, e3s, e4, e5, e6, e7, e8, e9⟩
    · exact QFnExactMergeGraph.laws_FnExactMergeGraph.calls_big kr A0_0 c0_0 l0_0 t W hC0_0 hc0_0 e0 ht
    · exact QFnExactMergeGraph.laws_FnExactMergeGraph.calls kr A0_0 c0_0 l0_0 t r TX TG rr rr2 b mx m m2 W hC0_0 hc0_0 e0 ht hmx hm hm2 hlg hlr eT e1 e2 e3 e3s e4 e5 e6 e7 e8 e9
  clear hA0 hval0
  refine fin.mono fun e W' ⟨he, bel0⟩ => ?_
  have bel : Below W.heap.size W W' := bel0
  subst he
  exact ⟨_, rfl, _, _, _, [], _, [], hW', trodAll_mk1 (shut_bool Try.underlying4 _), (trodAll_cons_mk (Below.trod laidOut (by kernel_rfl) (of_decide_eq_true (by kernel_rfl)) k0 bel lt0) trodAll_mk0), rfl, bel.frame _, fun h => by cases h⟩
theorem over : Rows.fnExactMergeGraphRow.holds Try.pinned (OpenSpec.ofChange Rows.fnExactMergeGraphSpec) :=
  OpenClaim.holds_of_wide 5 Try.f5 rfl rfl rfl rfl rfl rfl rfl ⟨rfl, rfl, rfl, rfl, rfl⟩ rfl rfl rfl rfl rfl (by kernel_rfl) Try.func5 (by kernel_rfl)
    (of_decide_eq_true (by kernel_rfl)) (by unfold Func.isWrapper; first | (rw [if_pos (by decide +kernel)]; kernel_rfl) | (rw [if_neg (by decide +kernel)]; exact ⟨rfl, rfl⟩))
    (fun os started H enc _ => lifted os started H enc)
theorem proved : Rows.FnExactMergeGraphSaid := over
#print axioms proved
end Go.Proofs.Ytkjipfblokiodaa.fnExactMergeGraph
namespace Go.Proofs.Ytkjipfblokiodaa
/-- The row, under a short name, for the claim. -/
theorem fnExactMergeGraph_holds : Rows.FnExactMergeGraphSaid := fnExactMergeGraph.proved
end Go.Proofs.Ytkjipfblokiodaa
