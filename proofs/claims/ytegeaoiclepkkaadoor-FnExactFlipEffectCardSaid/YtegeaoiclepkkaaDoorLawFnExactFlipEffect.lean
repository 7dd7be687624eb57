/-
The law FnExactFlipEffect returns true for every input, each argument reads afterwards as it read before; conditions: those of the row alone (the listed variables, which the card ties to the program's text).
-/
import Derived.Test.YtegeaoiclepkkaaDoorCards
import Derived.Test.YtegeaoiclepkkaaDoorTie
import Derived.Test.YtegeaoiclepkkaaDoorQFnExactFlipEffectx13
import Derived.Test.YtegeaoiclepkkaaDoorPureFnExactFlipEffect
import Derived.Test.YtegeaoiclepkkaaDoorMOpen
import Derived.WalkKit
import Derived.ProofKit
import Derived.OpenShut
import Derived.ShutString
import Derived.ChangeOld
import Derived.Below
import Derived.SizedLaws
import Derived.LaidMore
import Derived.Lay
import Derived.SevenTiedAt
import Derived.Stop.Joined
import Derived.Test.YtegeaoiclepkkaaDoorWSized
namespace Go.Proofs.YtegeaoiclepkkaaDoor.fnExactFlipEffect
open Go.ChangeShapes Go.WideShapes Go.ChangeAt Go.RowKit Go.Joins
open Go.ChangeMaps (open_string shut_string)
set_option linter.unusedVariables false
theorem own : ownKnob Tryd.prog.godebug = none := by kernel_rfl
theorem laidOut : laidOutB Tryd.prog = true := by kernel_rfl
set_option maxRecDepth 100000 in
theorem lifted (os : Os) (started : os.Started) (H : Type) (enc : TypeId × Value → H) :
    ReturnsInHanded {} Tryd.checked os 11 .any (fun w args => (Rows.fnExactFlipEffectSpec.pre enc Tryd.prog Tryd.f11 Rows.fnExactFlipEffectRow.domain false w args ∧ laidMetH Tryd.prog Rows.fnExactFlipEffectRow.laid w) ∧ sizedMet enc Tryd.prog Tryd.f11 (OpenSpec.ofChange Rows.fnExactFlipEffectSpec) false w args)
      (Rows.fnExactFlipEffectSpec.post enc Tryd.prog Tryd.f11 false true false false) := by
  refine returnsInHanded_of_change_and (C := Tryd.checked) (X := fun w _ => laidMetH Tryd.prog Rows.fnExactFlipEffectRow.laid w) (fun _ _ _ hh h => h.of_heap hh) own started (by kernel_rfl) Tryd.func11
    (ChangeSpec.witness_shaped (enc := enc) (C := Tryd.checked) (os := os) (X := fun w _ => laidMetH Tryd.prog Rows.fnExactFlipEffectRow.laid w) false (World.laidAll Tryd.prog os Rows.fnExactFlipEffectRow.laid) #[.agg #[.int .i64 0, .int .i64 0, .slice none 0 0, .slice none 0 0], .int .i64 0, .slice none 0 0, .int .i64 0] 8 (World.laidAll_os _ _ _)
      (World.shaped_of_ZipB (by kernel_rfl) (by kernel_rfl)) (by kernel_rfl) (by kernel_rfl) (by kernel_rfl)
      (by rw [MakeChecks.laidMetH_plain _ _ _ (by kernel_rfl)]; exact laidMet_laidAll _ (by kernel_rfl) (by kernel_rfl))) ?_
  intro W base args ds gs before hval0 hW hcnd _ hL _
  have hval : ∀ (j : Nat) t v, Tryd.f11.params[j]? = some t → args[j]? = some v → Value.okWide Tryd.prog W .any base t v := hval0
  have hW' := hW
  obtain ⟨p, q, hA0, hV, rfl, hfz, hnd⟩ := hW
  have hA : DataW.TrodAll enc Tryd.prog W 0 (fun _ => true) true Tryd.f11.params.toList args.toList ds p := hA0
  rw [Tryd.params11] at hA hval
  obtain ⟨v0, vs0, d0, ds0, p0, q0, hargs, rfl, rfl, h0, r0⟩ := trodAll_cons hA
  obtain ⟨v1, vs1, d1, ds1, p1, q1, rfl, rfl, rfl, h1, r1⟩ := trodAll_cons r0
  obtain ⟨v2, vs2, d2, ds2, p2, q2, rfl, rfl, rfl, h2, r2⟩ := trodAll_cons r1
  obtain ⟨v3, vs3, d3, ds3, p3, q3, rfl, rfl, rfl, h3, r3⟩ := trodAll_cons r2
  obtain ⟨rfl, rfl, rfl⟩ := trodAll_nil r3
  obtain rfl : args = #[v0, v1, v2, v3] := by cases args; simp_all
  obtain ⟨rfl, rfl⟩ := trodVars_none hV
  have k0 := h0
  have lt0 : ∀ x ∈ p0, x.block < W.heap.size := by obtain ⟨m, hm⟩ := k0; exact DataW.trod_lt m _ _ _ hm
  obtain ⟨v0_0, v0_1, v0_2, v0_3, y0_0, y0_1, y0_2, y0_3, nf0, rfl, _, _, e0_0, e0_1, e0_2, e0_3⟩ := Joins.open_agg4 Tryd.underlying27 (by kernel_rfl) (by kernel_rfl) (hval 0 27 v0 rfl rfl) h0
  obtain ⟨a0_0, u0_0, _, w0_0⟩ := DataW.trod_int Tryd.underlying2 e0_0
  obtain rfl : v0_0 = .int .i64 a0_0 := by simpa using u0_0
  obtain ⟨a0_1, u0_1, _, w0_1⟩ := DataW.trod_int Tryd.underlying2 e0_1
  obtain rfl : v0_1 = .int .i64 a0_1 := by simpa using u0_1
  obtain ⟨A0_2, c0_2, l0_2, e_0_2, hC0_2, hc0_2, hm0_2, hw0_2⟩ := MOpen.strs_C Tryd.underlying25 Tryd.underlying9 (by kernel_rfl) e0_2
  subst e_0_2
  obtain ⟨A0_3, c0_3, l0_3, e_0_3, hC0_3, hc0_3, hm0_3, hw0_3⟩ := MOpen.strs_C Tryd.underlying25 Tryd.underlying9 (by kernel_rfl) e0_3
  subst e_0_3
  obtain ⟨a1, rfl, rfl, rfl, w1⟩ := open_int Tryd.underlying2 (hval 1 2 v1 rfl rfl) h1
  obtain ⟨a_, len_, cap_, rfl⟩ := okWide_slice Tryd.underlying38 (hval 2 38 v2 rfl rfl)
  have k2 := h2
  have lt2 : ∀ x ∈ p2, x.block < W.heap.size := by obtain ⟨m, hm⟩ := k2; exact DataW.trod_lt m _ _ _ hm
  obtain ⟨nf2, y2, hf2⟩ := MOpen.cell_of_trod h2
  obtain ⟨A2, c2, l2, e_2, hC2, hc2, hm2, hw2⟩ := MOpen.ints_C Tryd.underlying38 Tryd.underlying2 (by kernel_rfl) hf2
  simp only [Value.slice.injEq] at e_2
  obtain ⟨q1_, q2_, q3_⟩ := e_2
  have q1_ := q1_.symm
  have q2_ := q2_.symm
  have q3_ := q3_.symm
  subst q1_
  subst q2_
  subst q3_
  obtain ⟨a3, rfl, rfl, rfl, w3⟩ := open_int Tryd.underlying2 (hval 3 2 v3 rfl rfl) h3
  obtain ⟨kr, hr⟩ := Pure.FnExactFlipEffect a0_0 a0_1 l0_2 l0_3 a1 l2 a3 w0_0 w0_1 hm0_2 hw0_2 hm0_3 hw0_3 w1 hm2 hw2 w3
  clear hA0 hval0
  refine (QFnExactFlipEffect.laws_FnExactFlipEffect.calls kr a0_0 a0_1 A0_2 c0_2 l0_2 A0_3 c0_3 l0_3 a1 A2 c2 l2 a3 true W hC0_2 hc0_2 hC0_3 hc0_3 hC2 hc2 hr).mono fun e W' ⟨he, bel0⟩ => ?_
  have bel : Below W.heap.size W W' := bel0
  subst he
  exact ⟨_, rfl, _, _, _, [], _, [], hW', trodAll_mk1 (shut_bool Tryd.underlying4 _), (trodAll_cons_mk (Below.trod laidOut (by kernel_rfl) (of_decide_eq_true (by kernel_rfl)) k0 bel lt0) (trodAll_cons_mk (shut_int Tryd.underlying2 w1) (trodAll_cons_mk (Below.trod laidOut (by kernel_rfl) (of_decide_eq_true (by kernel_rfl)) k2 bel lt2) (trodAll_cons_mk (shut_int Tryd.underlying2 w3) trodAll_mk0)))), rfl, bel.frame _, fun h => by cases h⟩
theorem over : Rows.fnExactFlipEffectRow.holds Tryd.pinned (OpenSpec.ofChange Rows.fnExactFlipEffectSpec) :=
  OpenClaim.holds_of_wide 11 Tryd.f11 rfl rfl rfl rfl rfl rfl rfl ⟨rfl, rfl, rfl, rfl, rfl⟩ rfl rfl rfl rfl rfl (by kernel_rfl) Tryd.func11 (by kernel_rfl)
    (of_decide_eq_true (by kernel_rfl)) (by unfold Func.isWrapper; first | (rw [if_pos (by decide +kernel)]; kernel_rfl) | (rw [if_neg (by decide +kernel)]; exact ⟨rfl, rfl⟩))
    (fun os started H enc _ => lifted os started H enc)
theorem plain (f : FuncId) (fn : Func) (hf : Tryd.pinned.checked.prog.funcNamed "loop.example/g01142/laws.FnExactFlipEffect" = some f) (hfn : Tryd.pinned.checked.prog.funcs[f]? = some fn) :
    false = Tryd.pinned.checked.prog.looks [] ∧ ∀ (j : Nat) t, fn.params[j]? = some t → Tryd.pinned.checked.prog.wantsStandIn t = false := by
  obtain rfl : f = 11 := Option.some.inj ((show Tryd.prog.funcNamed "loop.example/g01142/laws.FnExactFlipEffect" = some 11 by kernel_rfl).symm.trans hf) |>.symm
  obtain rfl : fn = Tryd.f11 := (Option.some.inj (Tryd.func11.symm.trans hfn)).symm
  refine ⟨by kernel_rfl, fun j t ht => ?_⟩
  rw [Tryd.params11] at ht
  have hm : t ∈ [27, 2, 38, 2] := by simpa using Array.mem_of_getElem? ht
  have hall : ([27, 2, 38, 2].all fun u => !Tryd.prog.wantsStandIn u) = true := by kernel_rfl
  exact (show Tryd.prog.wantsStandIn t = false by simpa using List.all_eq_true.1 hall t hm)
theorem proved : Rows.FnExactFlipEffectCardSaid :=
  Claim7.holds_tied_plain_at .later [] _ _ _ _ over (fun _ h => by cases h) (by kernel_rfl) (fun _ h => by cases h) fnExactFlipEffect_row_tie rfl ⟨rfl, rfl⟩ (by kernel_rfl) rfl plain (by kernel_rfl)
#print axioms proved
end Go.Proofs.YtegeaoiclepkkaaDoor.fnExactFlipEffect
namespace Go.Proofs.YtegeaoiclepkkaaDoor
/-- The row, under a short name, for the claim. -/
theorem fnExactFlipEffect_holds : Rows.FnExactFlipEffectCardSaid := fnExactFlipEffect.proved
end Go.Proofs.YtegeaoiclepkkaaDoor
