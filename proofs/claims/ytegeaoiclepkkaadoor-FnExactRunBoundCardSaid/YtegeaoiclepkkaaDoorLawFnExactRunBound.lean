/-
The law FnExactRunBound returns true for every input, each argument reads afterwards as it read before; conditions: those of the row alone (the listed variables, which the card ties to the program's text).
-/
import Derived.Test.YtegeaoiclepkkaaDoorCards
import Derived.Test.YtegeaoiclepkkaaDoorTie
import Derived.Test.YtegeaoiclepkkaaDoorQFnExactRunBoundx10
import Derived.Test.YtegeaoiclepkkaaDoorPureFnExactRunBound
import Derived.Test.YtegeaoiclepkkaaDoorMOpen
import Derived.WalkKit
import Derived.ProofKit
import Derived.OpenShut
import Derived.ShutString
import Derived.ChangeOld
import Derived.Below
import Derived.SizedLaws
import Derived.LaidMore
import Derived.Lay
import Derived.SevenTiedAt
import Derived.Stop.Joined
import Derived.Test.YtegeaoiclepkkaaDoorWSized
namespace Go.Proofs.YtegeaoiclepkkaaDoor.fnExactRunBound
open Go.ChangeShapes Go.WideShapes Go.ChangeAt Go.RowKit Go.Joins
open Go.ChangeMaps (open_string shut_string)
set_option linter.unusedVariables false
theorem own : ownKnob Tryd.prog.godebug = none := by kernel_rfl
theorem laidOut : laidOutB Tryd.prog = true := by kernel_rfl
set_option maxRecDepth 100000 in
theorem lifted (os : Os) (started : os.Started) (H : Type) (enc : TypeId × Value → H) :
    ReturnsInHanded {} Tryd.checked os 9 .any (fun w args => (Rows.fnExactRunBoundSpec.pre enc Tryd.prog Tryd.f9 Rows.fnExactRunBoundRow.domain false w args ∧ laidMetH Tryd.prog Rows.fnExactRunBoundRow.laid w) ∧ sizedMet enc Tryd.prog Tryd.f9 (OpenSpec.ofChange Rows.fnExactRunBoundSpec) false w args)
      (Rows.fnExactRunBoundSpec.post enc Tryd.prog Tryd.f9 false true false false) := by
  refine returnsInHanded_of_change_and (C := Tryd.checked) (X := fun w _ => laidMetH Tryd.prog Rows.fnExactRunBoundRow.laid w) (fun _ _ _ hh h => h.of_heap hh) own started (by kernel_rfl) Tryd.func9
    (ChangeSpec.witness_shaped (enc := enc) (C := Tryd.checked) (os := os) (X := fun w _ => laidMetH Tryd.prog Rows.fnExactRunBoundRow.laid w) false (World.laidAll Tryd.prog os Rows.fnExactRunBoundRow.laid) #[.agg #[.int .i64 0, .int .i64 0, .slice none 0 0, .slice none 0 0]] 8 (World.laidAll_os _ _ _)
      (World.shaped_of_ZipB (by kernel_rfl) (by kernel_rfl)) (by kernel_rfl) (by kernel_rfl) (by kernel_rfl)
      (by rw [MakeChecks.laidMetH_plain _ _ _ (by kernel_rfl)]; exact laidMet_laidAll _ (by kernel_rfl) (by kernel_rfl))) ?_
  intro W base args ds gs before hval0 hW hcnd _ hL _
  have hval : ∀ (j : Nat) t v, Tryd.f9.params[j]? = some t → args[j]? = some v → Value.okWide Tryd.prog W .any base t v := hval0
  have hW' := hW
  obtain ⟨p, q, hA0, hV, rfl, hfz, hnd⟩ := hW
  have hA : DataW.TrodAll enc Tryd.prog W 0 (fun _ => true) true Tryd.f9.params.toList args.toList ds p := hA0
  rw [Tryd.params9] at hA hval
  obtain ⟨v0, vs0, d0, ds0, p0, q0, hargs, rfl, rfl, h0, r0⟩ := trodAll_cons hA
  obtain ⟨rfl, rfl, rfl⟩ := trodAll_nil r0
  obtain rfl : args = #[v0] := by cases args; simp_all
  obtain ⟨rfl, rfl⟩ := trodVars_none hV
  have k0 := h0
  have lt0 : ∀ x ∈ p0, x.block < W.heap.size := by obtain ⟨m, hm⟩ := k0; exact DataW.trod_lt m _ _ _ hm
  obtain ⟨v0_0, v0_1, v0_2, v0_3, y0_0, y0_1, y0_2, y0_3, nf0, rfl, _, _, e0_0, e0_1, e0_2, e0_3⟩ := Joins.open_agg4 Tryd.underlying27 (by kernel_rfl) (by kernel_rfl) (hval 0 27 v0 rfl rfl) h0
  obtain ⟨a0_0, u0_0, _, w0_0⟩ := DataW.trod_int Tryd.underlying2 e0_0
  obtain rfl : v0_0 = .int .i64 a0_0 := by simpa using u0_0
  obtain ⟨a0_1, u0_1, _, w0_1⟩ := DataW.trod_int Tryd.underlying2 e0_1
  obtain rfl : v0_1 = .int .i64 a0_1 := by simpa using u0_1
  obtain ⟨A0_2, c0_2, l0_2, e_0_2, hC0_2, hc0_2, hm0_2, hw0_2⟩ := MOpen.strs_C Tryd.underlying25 Tryd.underlying9 (by kernel_rfl) e0_2
  subst e_0_2
  obtain ⟨A0_3, c0_3, l0_3, e_0_3, hC0_3, hc0_3, hm0_3, hw0_3⟩ := MOpen.strs_C Tryd.underlying25 Tryd.underlying9 (by kernel_rfl) e0_3
  subst e_0_3
  obtain ⟨kr, hr⟩ := Pure.FnExactRunBound a0_0 a0_1 l0_2 l0_3 w0_0 w0_1 hm0_2 hw0_2 hm0_3 hw0_3
  clear hA0 hval0
  refine (QFnExactRunBound.laws_FnExactRunBound.calls kr a0_0 a0_1 A0_2 c0_2 l0_2 A0_3 c0_3 l0_3 true W hC0_2 hc0_2 hC0_3 hc0_3 hr).mono fun e W' ⟨he, bel0⟩ => ?_
  have bel : Below W.heap.size W W' := bel0
  subst he
  exact ⟨_, rfl, _, _, _, [], _, [], hW', trodAll_mk1 (shut_bool Tryd.underlying4 _), (trodAll_cons_mk (Below.trod laidOut (by kernel_rfl) (of_decide_eq_true (by kernel_rfl)) k0 bel lt0) trodAll_mk0), rfl, bel.frame _, fun h => by cases h⟩
theorem over : Rows.fnExactRunBoundRow.holds Tryd.pinned (OpenSpec.ofChange Rows.fnExactRunBoundSpec) :=
  OpenClaim.holds_of_wide 9 Tryd.f9 rfl rfl rfl rfl rfl rfl rfl ⟨rfl, rfl, rfl, rfl, rfl⟩ rfl rfl rfl rfl rfl (by kernel_rfl) Tryd.func9 (by kernel_rfl)
    (of_decide_eq_true (by kernel_rfl)) (by unfold Func.isWrapper; first | (rw [if_pos (by decide +kernel)]; kernel_rfl) | (rw [if_neg (by decide +kernel)]; exact ⟨rfl, rfl⟩))
    (fun os started H enc _ => lifted os started H enc)
theorem plain (f : FuncId) (fn : Func) (hf : Tryd.pinned.checked.prog.funcNamed "loop.example/g01142/laws.FnExactRunBound" = some f) (hfn : Tryd.pinned.checked.prog.funcs[f]? = some fn) :
    false = Tryd.pinned.checked.prog.looks [] ∧ ∀ (j : Nat) t, fn.params[j]? = some t → Tryd.pinned.checked.prog.wantsStandIn t = false := by
  obtain rfl : f = 9 := Option.some.inj ((show Tryd.prog.funcNamed "loop.example/g01142/laws.FnExactRunBound" = some 9 by kernel_rfl).symm.trans hf) |>.symm
  obtain rfl : fn = Tryd.f9 := (Option.some.inj (Tryd.func9.symm.trans hfn)).symm
  refine ⟨by kernel_rfl, fun j t ht => ?_⟩
  rw [Tryd.params9] at ht
  have hm : t ∈ [27] := by simpa using Array.mem_of_getElem? ht
  have hall : ([27].all fun u => !Tryd.prog.wantsStandIn u) = true := by kernel_rfl
  exact (show Tryd.prog.wantsStandIn t = false by simpa using List.all_eq_true.1 hall t hm)
theorem proved : Rows.FnExactRunBoundCardSaid :=
  Claim7.holds_tied_plain_at .later [] _ _ _ _ over (fun _ h => by cases h) (by kernel_rfl) (fun _ h => by cases h) fnExactRunBound_row_tie rfl ⟨rfl, rfl⟩ (by kernel_rfl) rfl plain (by kernel_rfl)
#print axioms proved
end Go.Proofs.YtegeaoiclepkkaaDoor.fnExactRunBound
namespace Go.Proofs.YtegeaoiclepkkaaDoor
/-- The row, under a short name, for the claim. -/
theorem fnExactRunBound_holds : Rows.FnExactRunBoundCardSaid := fnExactRunBound.proved
end Go.Proofs.YtegeaoiclepkkaaDoor
