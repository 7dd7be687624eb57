/-
Each Go function that this text names answers as the Lean function beside it says, wherever that one answers; conditions: the arguments lie in memory as each theorem states it.
-/
import Derived.Test.YtanndepgepgfoabQFnCodeVectorsx0
import Derived.Test.YtanndepgepgfoabQFnCodeVectorsx3
import Derived.Test.YtanndepgepgfoabQFnCodeVectorsx4
import Derived.Test.YtanndepgepgfoabQFnCodeVectorsx6
import Derived.Test.YtanndepgepgfoabQFnCodeVectorsx8
import Derived.Test.YtanndepgepgfoabQFnCodeVectorsx9
namespace Go.Proofs.Ytanndepgepgfoab.QFnCodeVectors
open Go.RowKit Go.Proofs.YtanndepgepgfoabW.PrintWords Go.Proofs.YtanndepgepgfoabW.PrintLast Go.Proofs.YtanndepgepgfoabW.PrintMore
attribute [local go_sem] max2_int min2_int max_two min_two max_three min_three max_four min_four   -- for this text's walks alone
set_option linter.unusedVariables false
set_option linter.unusedSimpArgs false

/-! ### laws_FnCodeVectors: function 5 -/
mutual
def laws_FnCodeVectors.j0 : Nat → List Int → Int → Int → Int → List Int → Bool → Bool → List (List Int) → Option (Bool)
  | 0, _, _, _, _, _, _, _, _ => none
  | k + 1, x1, x6, x7, x8, x9, x10, x69, x359000 => if x69 = true then (some false) else (laws_FnCodeVectors.l0 k x1 x6 x7 x8 x9 x10 (([] : List Int)) 0 x359000)
def laws_FnCodeVectors.l0 : Nat → List Int → Int → Int → Int → List Int → Bool → List Int → Int → List (List Int) → Option (Bool)
  | 0, _, _, _, _, _, _, _, _, _ => none
  | k + 1, x1, x6, x7, x8, x9, x10, x13, x14, x359000 => if x14 < (x359000.length : Int) then ((laws_r8At.f x1 (wrap64 (x14 + 3)) (wrap64 (x8 + 1))).bind fun t374 => (if x13.length < 17592186044416 then (laws_FnCodeVectors.l0 k x1 x6 x7 x8 x9 x10 (x13 ++ [t374]) (wrap64 (x14 + 1)) x359000) else (none))) else ((impl_IsCodeVector.f k x359000 x6 x7 x13).bind fun t378 => (if t378 = true then (laws_FnCodeVectors.j2 k x8 x9 x10 x13 t378 (!x10) x359000) else (laws_FnCodeVectors.j2 k x8 x9 x10 x13 t378 false x359000)))
def laws_FnCodeVectors.j2 : Nat → Int → List Int → Bool → List Int → Bool → Bool → List (List Int) → Option (Bool)
  | 0, _, _, _, _, _, _, _ => none
  | k + 1, x8, x9, x10, x13, x15, x96, x359000 => if x96 = true then (some false) else (laws_FnCodeVectors.l1 k x8 x9 x10 x13 x15 0 x359000)
def laws_FnCodeVectors.l1 : Nat → Int → List Int → Bool → List Int → Bool → Int → List (List Int) → Option (Bool)
  | 0, _, _, _, _, _, _, _ => none
  | k + 1, x8, x9, x10, x13, x15, x16, x359000 => if x16 < (x13.length : Int) then (if x15 = true then (if 0 ≤ x16 then (if x16 < (x9.length : Int) then (if (rd x13 x16) > (rd x9 x16) then (some false) else (if x10 = true then (if (rd x9 x16) > x8 then (some false) else (laws_FnCodeVectors.l1 k x8 x9 x10 x13 x15 (wrap64 (x16 + 1)) x359000)) else (laws_FnCodeVectors.l1 k x8 x9 x10 x13 x15 (wrap64 (x16 + 1)) x359000))) else (none)) else (none)) else (if x10 = true then (if 0 ≤ x16 then (if x16 < (x9.length : Int) then (if (rd x9 x16) > x8 then (some false) else (laws_FnCodeVectors.l1 k x8 x9 x10 x13 x15 (wrap64 (x16 + 1)) x359000)) else (none)) else (none)) else (laws_FnCodeVectors.l1 k x8 x9 x10 x13 x15 (wrap64 (x16 + 1)) x359000))) else ((impl_ValidGraph.f k x359000).bind fun t383 => (some t383))
end
def laws_FnCodeVectors.f (k : Nat) (l0 : List Int) (l1 : List Int) : Option (Bool) := (laws_r8Long.f l0 l1).bind fun t354 => (if t354 = true then (some true) else ((spec_R8Graph.f k l0).bind fun t355 => ((laws_r8At.f l1 0 3).bind fun t359 => ((laws_r8At.f l1 1 3).bind fun t360 => ((laws_r8At.f l1 2 5).bind fun t361 => ((impl_CodeVector.f k t355 (wrap64 (1 + t359)) (wrap64 ((wrap64 (1 + t359)) + t360)) (wrap64 (1 + t361))).bind fun bt362 => ((spec_CodeVector.f k t355 (wrap64 (1 + t359)) (wrap64 ((wrap64 (1 + t359)) + t360)) (wrap64 (1 + t361))).bind fun bt366 => (if (bt362.2 != bt366.2) = true then (laws_FnCodeVectors.j0 k l1 (wrap64 (1 + t359)) (wrap64 ((wrap64 (1 + t359)) + t360)) (wrap64 (1 + t361)) bt362.1 bt362.2 true t355) else (if bt362.2 = true then ((impl_IsCodeVector.f k t355 (wrap64 (1 + t359)) (wrap64 ((wrap64 (1 + t359)) + t360)) bt362.1).bind fun t370 => (if t370 = true then (laws_FnCodeVectors.j0 k l1 (wrap64 (1 + t359)) (wrap64 ((wrap64 (1 + t359)) + t360)) (wrap64 (1 + t361)) bt362.1 bt362.2 ((bt362.1.length : Int) != (t355.length : Int)) t355) else (laws_FnCodeVectors.j0 k l1 (wrap64 (1 + t359)) (wrap64 ((wrap64 (1 + t359)) + t360)) (wrap64 (1 + t361)) bt362.1 bt362.2 true t355))) else (laws_FnCodeVectors.j0 k l1 (wrap64 (1 + t359)) (wrap64 ((wrap64 (1 + t359)) + t360)) (wrap64 (1 + t361)) bt362.1 bt362.2 false t355))))))))))
set_option maxHeartbeats 8000000 in
set_option maxRecDepth 100000 in
theorem laws_FnCodeVectors.calls (k : Nat) (A0 : Option Addr) (c0 : Nat) (l0 : List Int) (A1 : Option Addr) (c1 : Nat) (l1 : List Int) (r : Bool) (w : World) (hr0 : Kd.C (Kd.int .u8) w A0 l0.length l0) (hc0 : l0.length ≤ c0) (hr1 : Kd.C (Kd.int .u8) w A1 l1.length l1) (hc1 : l1.length ≤ c1) (h : laws_FnCodeVectors.f k l0 l1 = some r) :
    Calls Try.prog 5 #[.slice A0 l0.length c0, .slice A1 l1.length c1] w fun e w' => e = .returned (.bool r) ∧ Below w.heap.size w w' := by
  have hu29 := Try.underlying29
  have HR0 := Aside0.mk hr0
  have HC0 := Aside0.mk hc0
  clear hr0 hc0
  have HR1 := Aside0.mk hr1
  have HC1 := Aside0.mk hc1
  clear hr1 hc1
  have HB := Aside0.mk (Below.refl w.heap.size w)
  have H : ((laws_r8Long.f l0 l1).bind fun t354 => (if t354 = true then (some true) else ((spec_R8Graph.f k l0).bind fun t355 => ((laws_r8At.f l1 0 3).bind fun t359 => ((laws_r8At.f l1 1 3).bind fun t360 => ((laws_r8At.f l1 2 5).bind fun t361 => ((impl_CodeVector.f k t355 (wrap64 (1 + t359)) (wrap64 ((wrap64 (1 + t359)) + t360)) (wrap64 (1 + t361))).bind fun bt362 => ((spec_CodeVector.f k t355 (wrap64 (1 + t359)) (wrap64 ((wrap64 (1 + t359)) + t360)) (wrap64 (1 + t361))).bind fun bt366 => (if (bt362.2 != bt366.2) = true then (laws_FnCodeVectors.j0 k l1 (wrap64 (1 + t359)) (wrap64 ((wrap64 (1 + t359)) + t360)) (wrap64 (1 + t361)) bt362.1 bt362.2 true t355) else (if bt362.2 = true then ((impl_IsCodeVector.f k t355 (wrap64 (1 + t359)) (wrap64 ((wrap64 (1 + t359)) + t360)) bt362.1).bind fun t370 => (if t370 = true then (laws_FnCodeVectors.j0 k l1 (wrap64 (1 + t359)) (wrap64 ((wrap64 (1 + t359)) + t360)) (wrap64 (1 + t361)) bt362.1 bt362.2 ((bt362.1.length : Int) != (t355.length : Int)) t355) else (laws_FnCodeVectors.j0 k l1 (wrap64 (1 + t359)) (wrap64 ((wrap64 (1 + t359)) + t360)) (wrap64 (1 + t361)) bt362.1 bt362.2 true t355))) else (laws_FnCodeVectors.j0 k l1 (wrap64 (1 + t359)) (wrap64 ((wrap64 (1 + t359)) + t360)) (wrap64 (1 + t361)) bt362.1 bt362.2 false t355))))))))))) = some r := h
  clear h
  replace H := Option.bind_eq_some_iff.mp H
  obtain ⟨t354, A30, H⟩ := H
  replace H : (if t354 = true then (some true) else ((spec_R8Graph.f k l0).bind fun t355 => ((laws_r8At.f l1 0 3).bind fun t359 => ((laws_r8At.f l1 1 3).bind fun t360 => ((laws_r8At.f l1 2 5).bind fun t361 => ((impl_CodeVector.f k t355 (wrap64 (1 + t359)) (wrap64 ((wrap64 (1 + t359)) + t360)) (wrap64 (1 + t361))).bind fun bt362 => ((spec_CodeVector.f k t355 (wrap64 (1 + t359)) (wrap64 ((wrap64 (1 + t359)) + t360)) (wrap64 (1 + t361))).bind fun bt366 => (if (bt362.2 != bt366.2) = true then (laws_FnCodeVectors.j0 k l1 (wrap64 (1 + t359)) (wrap64 ((wrap64 (1 + t359)) + t360)) (wrap64 (1 + t361)) bt362.1 bt362.2 true t355) else (if bt362.2 = true then ((impl_IsCodeVector.f k t355 (wrap64 (1 + t359)) (wrap64 ((wrap64 (1 + t359)) + t360)) bt362.1).bind fun t370 => (if t370 = true then (laws_FnCodeVectors.j0 k l1 (wrap64 (1 + t359)) (wrap64 ((wrap64 (1 + t359)) + t360)) (wrap64 (1 + t361)) bt362.1 bt362.2 ((bt362.1.length : Int) != (t355.length : Int)) t355) else (laws_FnCodeVectors.j0 k l1 (wrap64 (1 + t359)) (wrap64 ((wrap64 (1 + t359)) + t360)) (wrap64 (1 + t361)) bt362.1 bt362.2 true t355))) else (laws_FnCodeVectors.j0 k l1 (wrap64 (1 + t359)) (wrap64 ((wrap64 (1 + t359)) + t360)) (wrap64 (1 + t361)) bt362.1 bt362.2 false t355)))))))))) = some r := H
  have A3 := Aside0.mk A30
  clear A30
  by_cases c4 : t354 = true
  · subst c4
    have H1 : (some true) = some r := by rw [if_pos rfl] at H; exact H
    clear H
    have H := H1
    clear H1
    obtain rfl := Option.some.inj H
    go_enter Try.func5, Try.ntmps5
    go_wp2_with (first | (go_at_call 15; (with_reducible refine (laws_r8Long.calls _ _ l0 _ _ l1 true _ ?side1 ?side2 ?side3 ?side4 A3.out).mono ?_); (case side1 => repeat (first | exact HR0.out | (with_reducible refine Kd.C_alloc ?_ _) | (with_reducible refine Kd.C_drewN ?_ _) | (with_reducible refine Kd.C_drew ?_))); (case side2 => exact HC0.out); (case side3 => repeat (first | exact HR1.out | (with_reducible refine Kd.C_alloc ?_ _) | (with_reducible refine Kd.C_drewN ?_ _) | (with_reducible refine Kd.C_drew ?_))); (case side4 => exact HC1.out); rintro e w' ⟨rfl, ⟨nd, rfl⟩⟩; (try first | exact ⟨rfl, _, World.drewN_drewN _ _ _⟩ | exact ⟨rfl, _, Eq.trans (World.drewN_drewN _ _ _) (congrArg (World.drewN _) (Nat.add_assoc _ _ _))⟩)))
    repeat (go_quiet (first | (go_at_call 15; (with_reducible refine (laws_r8Long.calls _ _ l0 _ _ l1 true _ ?side1 ?side2 ?side3 ?side4 A3.out).mono ?_); (case side1 => repeat (first | exact HR0.out | (with_reducible refine Kd.C_alloc ?_ _) | (with_reducible refine Kd.C_drewN ?_ _) | (with_reducible refine Kd.C_drew ?_))); (case side2 => exact HC0.out); (case side3 => repeat (first | exact HR1.out | (with_reducible refine Kd.C_alloc ?_ _) | (with_reducible refine Kd.C_drewN ?_ _) | (with_reducible refine Kd.C_drew ?_))); (case side4 => exact HC1.out); rintro e w' ⟨rfl, ⟨nd, rfl⟩⟩; (try first | exact ⟨rfl, _, World.drewN_drewN _ _ _⟩ | exact ⟨rfl, _, Eq.trans (World.drewN_drewN _ _ _) (congrArg (World.drewN _) (Nat.add_assoc _ _ _))⟩))); try go_wp2_with (first | (go_at_call 15; (with_reducible refine (laws_r8Long.calls _ _ l0 _ _ l1 true _ ?side1 ?side2 ?side3 ?side4 A3.out).mono ?_); (case side1 => repeat (first | exact HR0.out | (with_reducible refine Kd.C_alloc ?_ _) | (with_reducible refine Kd.C_drewN ?_ _) | (with_reducible refine Kd.C_drew ?_))); (case side2 => exact HC0.out); (case side3 => repeat (first | exact HR1.out | (with_reducible refine Kd.C_alloc ?_ _) | (with_reducible refine Kd.C_drewN ?_ _) | (with_reducible refine Kd.C_drew ?_))); (case side4 => exact HC1.out); rintro e w' ⟨rfl, ⟨nd, rfl⟩⟩; (try first | exact ⟨rfl, _, World.drewN_drewN _ _ _⟩ | exact ⟨rfl, _, Eq.trans (World.drewN_drewN _ _ _) (congrArg (World.drewN _) (Nat.add_assoc _ _ _))⟩))))
    go_ret
    exact ⟨by first | rfl | (simp [errW_none, errW_some] <;> rfl) | (simp [*, errW_none, errW_some] <;> rfl), by repeat (first | (with_reducible first | exact HB.out | apply below_alloc | apply pw_below_drewN | apply below_drew1) | exact HB.out)⟩
  · replace c4 := Bool.eq_false_iff.mpr c4
    subst c4
    have H1 : ((spec_R8Graph.f k l0).bind fun t355 => ((laws_r8At.f l1 0 3).bind fun t359 => ((laws_r8At.f l1 1 3).bind fun t360 => ((laws_r8At.f l1 2 5).bind fun t361 => ((impl_CodeVector.f k t355 (wrap64 (1 + t359)) (wrap64 ((wrap64 (1 + t359)) + t360)) (wrap64 (1 + t361))).bind fun bt362 => ((spec_CodeVector.f k t355 (wrap64 (1 + t359)) (wrap64 ((wrap64 (1 + t359)) + t360)) (wrap64 (1 + t361))).bind fun bt366 => (if (bt362.2 != bt366.2) = true then (laws_FnCodeVectors.j0 k l1 (wrap64 (1 + t359)) (wrap64 ((wrap64 (1 + t359)) + t360)) (wrap64 (1 + t361)) bt362.1 bt362.2 true t355) else (if bt362.2 = true then ((impl_IsCodeVector.f k t355 (wrap64 (1 + t359)) (wrap64 ((wrap64 (1 + t359)) + t360)) bt362.1).bind fun t370 => (if t370 = true then (laws_FnCodeVectors.j0 k l1 (wrap64 (1 + t359)) (wrap64 ((wrap64 (1 + t359)) + t360)) (wrap64 (1 + t361)) bt362.1 bt362.2 ((bt362.1.length : Int) != (t355.length : Int)) t355) else (laws_FnCodeVectors.j0 k l1 (wrap64 (1 + t359)) (wrap64 ((wrap64 (1 + t359)) + t360)) (wrap64 (1 + t361)) bt362.1 bt362.2 true t355))) else (laws_FnCodeVectors.j0 k l1 (wrap64 (1 + t359)) (wrap64 ((wrap64 (1 + t359)) + t360)) (wrap64 (1 + t361)) bt362.1 bt362.2 false t355))))))))) = some r := by rw [if_neg (show ¬ (false = true) by decide)] at H; exact H
    clear H
    have H := H1
    clear H1
    replace H := Option.bind_eq_some_iff.mp H
    obtain ⟨t355, A50, H⟩ := H
    replace H : ((laws_r8At.f l1 0 3).bind fun t359 => ((laws_r8At.f l1 1 3).bind fun t360 => ((laws_r8At.f l1 2 5).bind fun t361 => ((impl_CodeVector.f k t355 (wrap64 (1 + t359)) (wrap64 ((wrap64 (1 + t359)) + t360)) (wrap64 (1 + t361))).bind fun bt362 => ((spec_CodeVector.f k t355 (wrap64 (1 + t359)) (wrap64 ((wrap64 (1 + t359)) + t360)) (wrap64 (1 + t361))).bind fun bt366 => (if (bt362.2 != bt366.2) = true then (laws_FnCodeVectors.j0 k l1 (wrap64 (1 + t359)) (wrap64 ((wrap64 (1 + t359)) + t360)) (wrap64 (1 + t361)) bt362.1 bt362.2 true t355) else (if bt362.2 = true then ((impl_IsCodeVector.f k t355 (wrap64 (1 + t359)) (wrap64 ((wrap64 (1 + t359)) + t360)) bt362.1).bind fun t370 => (if t370 = true then (laws_FnCodeVectors.j0 k l1 (wrap64 (1 + t359)) (wrap64 ((wrap64 (1 + t359)) + t360)) (wrap64 (1 + t361)) bt362.1 bt362.2 ((bt362.1.length : Int) != (t355.length : Int)) t355) else (laws_FnCodeVectors.j0 k l1 (wrap64 (1 + t359)) (wrap64 ((wrap64 (1 + t359)) + t360)) (wrap64 (1 + t361)) bt362.1 bt362.2 true t355))) else (laws_FnCodeVectors.j0 k l1 (wrap64 (1 + t359)) (wrap64 ((wrap64 (1 + t359)) + t360)) (wrap64 (1 + t361)) bt362.1 bt362.2 false t355)))))))) = some r := H
    have A5 := Aside0.mk A50
    clear A50
    replace H := Option.bind_eq_some_iff.mp H
    obtain ⟨t359, A60, H⟩ := H
    replace H : ((laws_r8At.f l1 1 3).bind fun t360 => ((laws_r8At.f l1 2 5).bind fun t361 => ((impl_CodeVector.f k t355 (wrap64 (1 + t359)) (wrap64 ((wrap64 (1 + t359)) + t360)) (wrap64 (1 + t361))).bind fun bt362 => ((spec_CodeVector.f k t355 (wrap64 (1 + t359)) (wrap64 ((wrap64 (1 + t359)) + t360)) (wrap64 (1 + t361))).bind fun bt366 => (if (bt362.2 != bt366.2) = true then (laws_FnCodeVectors.j0 k l1 (wrap64 (1 + t359)) (wrap64 ((wrap64 (1 + t359)) + t360)) (wrap64 (1 + t361)) bt362.1 bt362.2 true t355) else (if bt362.2 = true then ((impl_IsCodeVector.f k t355 (wrap64 (1 + t359)) (wrap64 ((wrap64 (1 + t359)) + t360)) bt362.1).bind fun t370 => (if t370 = true then (laws_FnCodeVectors.j0 k l1 (wrap64 (1 + t359)) (wrap64 ((wrap64 (1 + t359)) + t360)) (wrap64 (1 + t361)) bt362.1 bt362.2 ((bt362.1.length : Int) != (t355.length : Int)) t355) else (laws_FnCodeVectors.j0 k l1 (wrap64 (1 + t359)) (wrap64 ((wrap64 (1 + t359)) + t360)) (wrap64 (1 + t361)) bt362.1 bt362.2 true t355))) else (laws_FnCodeVectors.j0 k l1 (wrap64 (1 + t359)) (wrap64 ((wrap64 (1 + t359)) + t360)) (wrap64 (1 + t361)) bt362.1 bt362.2 false t355))))))) = some r := H
    have A6 := Aside0.mk A60
    clear A60
    replace H := Option.bind_eq_some_iff.mp H
    obtain ⟨t360, A70, H⟩ := H
    replace H : ((laws_r8At.f l1 2 5).bind fun t361 => ((impl_CodeVector.f k t355 (wrap64 (1 + t359)) (wrap64 ((wrap64 (1 + t359)) + t360)) (wrap64 (1 + t361))).bind fun bt362 => ((spec_CodeVector.f k t355 (wrap64 (1 + t359)) (wrap64 ((wrap64 (1 + t359)) + t360)) (wrap64 (1 + t361))).bind fun bt366 => (if (bt362.2 != bt366.2) = true then (laws_FnCodeVectors.j0 k l1 (wrap64 (1 + t359)) (wrap64 ((wrap64 (1 + t359)) + t360)) (wrap64 (1 + t361)) bt362.1 bt362.2 true t355) else (if bt362.2 = true then ((impl_IsCodeVector.f k t355 (wrap64 (1 + t359)) (wrap64 ((wrap64 (1 + t359)) + t360)) bt362.1).bind fun t370 => (if t370 = true then (laws_FnCodeVectors.j0 k l1 (wrap64 (1 + t359)) (wrap64 ((wrap64 (1 + t359)) + t360)) (wrap64 (1 + t361)) bt362.1 bt362.2 ((bt362.1.length : Int) != (t355.length : Int)) t355) else (laws_FnCodeVectors.j0 k l1 (wrap64 (1 + t359)) (wrap64 ((wrap64 (1 + t359)) + t360)) (wrap64 (1 + t361)) bt362.1 bt362.2 true t355))) else (laws_FnCodeVectors.j0 k l1 (wrap64 (1 + t359)) (wrap64 ((wrap64 (1 + t359)) + t360)) (wrap64 (1 + t361)) bt362.1 bt362.2 false t355)))))) = some r := H
    have A7 := Aside0.mk A70
    clear A70
    replace H := Option.bind_eq_some_iff.mp H
    obtain ⟨t361, A80, H⟩ := H
    replace H : ((impl_CodeVector.f k t355 (wrap64 (1 + t359)) (wrap64 ((wrap64 (1 + t359)) + t360)) (wrap64 (1 + t361))).bind fun bt362 => ((spec_CodeVector.f k t355 (wrap64 (1 + t359)) (wrap64 ((wrap64 (1 + t359)) + t360)) (wrap64 (1 + t361))).bind fun bt366 => (if (bt362.2 != bt366.2) = true then (laws_FnCodeVectors.j0 k l1 (wrap64 (1 + t359)) (wrap64 ((wrap64 (1 + t359)) + t360)) (wrap64 (1 + t361)) bt362.1 bt362.2 true t355) else (if bt362.2 = true then ((impl_IsCodeVector.f k t355 (wrap64 (1 + t359)) (wrap64 ((wrap64 (1 + t359)) + t360)) bt362.1).bind fun t370 => (if t370 = true then (laws_FnCodeVectors.j0 k l1 (wrap64 (1 + t359)) (wrap64 ((wrap64 (1 + t359)) + t360)) (wrap64 (1 + t361)) bt362.1 bt362.2 ((bt362.1.length : Int) != (t355.length : Int)) t355) else (laws_FnCodeVectors.j0 k l1 (wrap64 (1 + t359)) (wrap64 ((wrap64 (1 + t359)) + t360)) (wrap64 (1 + t361)) bt362.1 bt362.2 true t355))) else (laws_FnCodeVectors.j0 k l1 (wrap64 (1 + t359)) (wrap64 ((wrap64 (1 + t359)) + t360)) (wrap64 (1 + t361)) bt362.1 bt362.2 false t355))))) = some r := H
    have A8 := Aside0.mk A80
    clear A80
    replace H := Option.bind_eq_some_iff.mp H
    obtain ⟨⟨t362, t365⟩, A90, H⟩ := H
    replace H : ((spec_CodeVector.f k t355 (wrap64 (1 + t359)) (wrap64 ((wrap64 (1 + t359)) + t360)) (wrap64 (1 + t361))).bind fun bt366 => (if (t365 != bt366.2) = true then (laws_FnCodeVectors.j0 k l1 (wrap64 (1 + t359)) (wrap64 ((wrap64 (1 + t359)) + t360)) (wrap64 (1 + t361)) t362 t365 true t355) else (if t365 = true then ((impl_IsCodeVector.f k t355 (wrap64 (1 + t359)) (wrap64 ((wrap64 (1 + t359)) + t360)) t362).bind fun t370 => (if t370 = true then (laws_FnCodeVectors.j0 k l1 (wrap64 (1 + t359)) (wrap64 ((wrap64 (1 + t359)) + t360)) (wrap64 (1 + t361)) t362 t365 ((t362.length : Int) != (t355.length : Int)) t355) else (laws_FnCodeVectors.j0 k l1 (wrap64 (1 + t359)) (wrap64 ((wrap64 (1 + t359)) + t360)) (wrap64 (1 + t361)) t362 t365 true t355))) else (laws_FnCodeVectors.j0 k l1 (wrap64 (1 + t359)) (wrap64 ((wrap64 (1 + t359)) + t360)) (wrap64 (1 + t361)) t362 t365 false t355)))) = some r := H
    have A9 := Aside0.mk A90
    clear A90
    replace H := Option.bind_eq_some_iff.mp H
    obtain ⟨⟨t366, t369⟩, A100, H⟩ := H
    replace H : (if (t365 != t369) = true then (laws_FnCodeVectors.j0 k l1 (wrap64 (1 + t359)) (wrap64 ((wrap64 (1 + t359)) + t360)) (wrap64 (1 + t361)) t362 t365 true t355) else (if t365 = true then ((impl_IsCodeVector.f k t355 (wrap64 (1 + t359)) (wrap64 ((wrap64 (1 + t359)) + t360)) t362).bind fun t370 => (if t370 = true then (laws_FnCodeVectors.j0 k l1 (wrap64 (1 + t359)) (wrap64 ((wrap64 (1 + t359)) + t360)) (wrap64 (1 + t361)) t362 t365 ((t362.length : Int) != (t355.length : Int)) t355) else (laws_FnCodeVectors.j0 k l1 (wrap64 (1 + t359)) (wrap64 ((wrap64 (1 + t359)) + t360)) (wrap64 (1 + t361)) t362 t365 true t355))) else (laws_FnCodeVectors.j0 k l1 (wrap64 (1 + t359)) (wrap64 ((wrap64 (1 + t359)) + t360)) (wrap64 (1 + t361)) t362 t365 false t355))) = some r := H
    have A10 := Aside0.mk A100
    clear A100
    have HC11 := Aside0.mk H
    clear H
    go_enter Try.func5, Try.ntmps5
    go_upto_region 9 with (first | (go_at_call 15; (with_reducible refine (laws_r8Long.calls _ _ l0 _ _ l1 false _ ?side1 ?side2 ?side3 ?side4 A3.out).mono ?_); (case side1 => repeat (first | exact HR0.out | (with_reducible refine Kd.C_alloc ?_ _) | (with_reducible refine Kd.C_drewN ?_ _) | (with_reducible refine Kd.C_drew ?_))); (case side2 => exact HC0.out); (case side3 => repeat (first | exact HR1.out | (with_reducible refine Kd.C_alloc ?_ _) | (with_reducible refine Kd.C_drewN ?_ _) | (with_reducible refine Kd.C_drew ?_))); (case side4 => exact HC1.out); rintro e w' ⟨rfl, ⟨nd, rfl⟩⟩; (try first | exact ⟨rfl, _, World.drewN_drewN _ _ _⟩ | exact ⟨rfl, _, Eq.trans (World.drewN_drewN _ _ _) (congrArg (World.drewN _) (Nat.add_assoc _ _ _))⟩)) | (go_at_call 16; (with_reducible refine (spec_R8Graph.calls k _ _ l0 t355 _ ?side1 ?side2 A5.out).mono ?_); (case side1 => repeat (first | exact HR0.out | (with_reducible refine Kd.C_alloc ?_ _) | (with_reducible refine Kd.C_drewN ?_ _) | (with_reducible refine Kd.C_drew ?_))); (case side2 => exact HC0.out); rintro e w12 ⟨v356, rfl, ho0, hb⟩; have n0_ := Aside0.mk (Kd.S_lower ho0 (below_size (by repeat (first | (with_reducible first | exact HB.out | apply below_alloc | apply pw_below_drewN | apply below_drew1) | exact HB.out)))); have n1_ := Aside0.mk (below_step (by repeat (first | (with_reducible first | exact HB.out | apply below_alloc | apply pw_below_drewN | apply below_drew1) | exact HB.out)) hb); clear HB; have HO357 := n0_; have HB := n1_; clear n0_ n1_; (try clear hb); (try clear hb2); (try clear hk); (try clear hi); (try clear ho0)) | ((with_reducible refine gate_dst (N := 5) rfl ?_); (try (refine gate_guard (by rfl) ?_; dsimp only)); refine box_event ?hg (N := 5) ?hd (cs := #[.slice none 0 0]) (t := 29) ?hr ?_; (case hd => rfl); (case hg => rfl); (case hr => first | (go_simp; done) | (go_simp; rfl)); intro gb358 hg w13 hbox hb; have n0_ := Aside0.mk (Kd.S_below (by (with_reducible repeat (first | apply Kd.S_alloc | apply Kd.S_drewN | apply Kd.S_drew)); exact HO357.out) hb); have n1_ := Aside0.mk (below_step (by repeat (first | (with_reducible first | exact HB.out | apply below_alloc | apply pw_below_drewN | apply below_drew1) | exact HB.out)) hb); have n2_ := Aside0.mk (hbox); have n3_ := Aside0.mk ((by rw [hg]; exact (below_size (by repeat (first | (with_reducible first | exact HB.out | apply below_alloc | apply pw_below_drewN | apply below_drew1) | exact HB.out))) : w.heap.size ≤ gb358)); have n4_ := Aside0.mk ((by rw [hg]; exact (below_size (by repeat (first | (with_reducible first | exact HB.out | apply below_alloc | apply pw_below_drewN | apply below_drew1) | exact HB.out))) : w.heap.size ≤ gb358)); clear HO357; clear HB; have HO357 := n0_; have HB := n1_; have BK358 := n2_; have GW358 := n3_; have GE358 := n4_; clear n0_ n1_ n2_ n3_ n4_; clear hb hbox hg; obtain ⟨Ao14, co14, eo14⟩ := Kd.S_slice HO357.out; subst eo14; have hcz15_0 : w13.cell? ⟨gb358, 0, none⟩ = some (.slice none 0 0) := (blk_cell BK358.out 0).trans rfl; have hfz15_0 := blk_frozen BK358.out 0) | (go_at_call 18; (with_reducible refine (laws_r8At.calls _ _ l1 0 3 t359 _ ?side1 ?side2 A6.out).mono ?_); (case side1 => exact Kd.C_below HR1.out (by repeat (first | (with_reducible first | exact HB.out | apply below_alloc | apply pw_below_drewN | apply below_drew1 | refine below_set ?_ GE358.out) | exact HB.out))); (case side2 => exact HC1.out); rintro e w' ⟨rfl, ⟨nd, rfl⟩⟩; (try first | exact ⟨rfl, _, World.drewN_drewN _ _ _⟩ | exact ⟨rfl, _, Eq.trans (World.drewN_drewN _ _ _) (congrArg (World.drewN _) (Nat.add_assoc _ _ _))⟩)) | (go_at_call 18; (with_reducible refine (laws_r8At.calls _ _ l1 1 3 t360 _ ?side1 ?side2 A7.out).mono ?_); (case side1 => exact Kd.C_below HR1.out (by repeat (first | (with_reducible first | exact HB.out | apply below_alloc | apply pw_below_drewN | apply below_drew1 | refine below_set ?_ GE358.out) | exact HB.out))); (case side2 => exact HC1.out); rintro e w' ⟨rfl, ⟨nd, rfl⟩⟩; (try first | exact ⟨rfl, _, World.drewN_drewN _ _ _⟩ | exact ⟨rfl, _, Eq.trans (World.drewN_drewN _ _ _) (congrArg (World.drewN _) (Nat.add_assoc _ _ _))⟩)) | (go_at_call 18; (with_reducible refine (laws_r8At.calls _ _ l1 2 5 t361 _ ?side1 ?side2 A8.out).mono ?_); (case side1 => exact Kd.C_below HR1.out (by repeat (first | (with_reducible first | exact HB.out | apply below_alloc | apply pw_below_drewN | apply below_drew1 | refine below_set ?_ GE358.out) | exact HB.out))); (case side2 => exact HC1.out); rintro e w' ⟨rfl, ⟨nd, rfl⟩⟩; (try first | exact ⟨rfl, _, World.drewN_drewN _ _ _⟩ | exact ⟨rfl, _, Eq.trans (World.drewN_drewN _ _ _) (congrArg (World.drewN _) (Nat.add_assoc _ _ _))⟩)) | (go_at_call 9; (with_reducible refine (impl_CodeVector.calls k _ _ t355 (wrap64 (1 + t359)) (wrap64 ((wrap64 (1 + t359)) + t360)) (wrap64 (1 + t361)) t362 t365 _ ?side1 ?side2 A9.out).mono ?_); (case side1 => refine (Kd.S_reads' (e := 26) (base := w.heap.size) (ok := fun k_ => True) (n := t355.length) (c := co14) ?_).2.2; exact (by (with_reducible repeat (first | apply Kd.S_alloc | apply Kd.S_drewN | apply Kd.S_drew)); exact (Kd.S_mono (Kd.S_far (p := ⟨gb358, 0, none⟩) (Kd.S_types HO357.out BK358.out (by decide)) (fun _ hk => hk.2) (.slice Ao14 t355.length co14)) (fun _ h_ => h_.1)))); (case side2 => exact (Kd.S_reads' HO357.out).2.1); rintro e w16 ⟨v363, rfl, ho0, hb⟩; have n0_ := Aside0.mk (Kd.S_elder' (by (with_reducible repeat (first | apply Kd.S_alloc | apply Kd.S_drewN | apply Kd.S_drew)); exact (Kd.S_mono (Kd.S_far (p := ⟨gb358, 0, none⟩) (Kd.S_types HO357.out BK358.out (by decide)) (fun _ hk => hk.2) (.slice Ao14 t355.length co14)) (fun _ h_ => h_.1))) (Kd.R_base ho0) hb); have n1_ := Aside0.mk (Kd.R_lower ho0 (below_size (by repeat (first | (with_reducible first | exact HB.out | apply below_alloc | apply pw_below_drewN | apply below_drew1 | refine below_set ?_ GE358.out) | exact HB.out)))); have n2_ := Aside0.mk (blk_below (g := gb358) (o := .cells #[.slice Ao14 t355.length co14] 29 (0, 0)) (by (with_reducible repeat (first | refine blk_drewN ?_ _ | refine blk_drew ?_ | refine blk_alloc ?_ _)); refine blk_put (cs := #[.slice none 0 0]) ?_ 0 _ rfl; (with_reducible repeat (first | refine blk_drewN ?_ _ | refine blk_drew ?_ | refine blk_alloc ?_ _)); exact BK358.out) hb); have n3_ := Aside0.mk (below_step (by repeat (first | (with_reducible first | exact HB.out | apply below_alloc | apply pw_below_drewN | apply below_drew1 | refine below_set ?_ GE358.out) | exact HB.out)) hb); clear HO357; clear BK358; clear HB; have HO357 := n0_; have HO364 := n1_; have BK358 := n2_; have HB := n3_; clear n0_ n1_ n2_ n3_; (try clear hb); (try clear hb2); (try clear hk); (try clear hi); (try clear ho0); have hcz17_0 : w16.cell? ⟨gb358, 0, none⟩ = some (.slice Ao14 t355.length co14) := (blk_cell BK358.out 0).trans rfl; have hfz17_0 := blk_frozen BK358.out 0) | (go_at_call 7; (with_reducible refine (spec_CodeVector.calls k _ _ t355 (wrap64 (1 + t359)) (wrap64 ((wrap64 (1 + t359)) + t360)) (wrap64 (1 + t361)) t366 t369 _ ?side1 ?side2 A10.out).mono ?_); (case side1 => repeat (first | exact (Kd.S_reads' HO357.out).2.2 | (with_reducible refine Kd.C_alloc ?_ _) | (with_reducible refine Kd.C_drewN ?_ _) | (with_reducible refine Kd.C_drew ?_))); (case side2 => exact (Kd.S_reads' HO357.out).2.1); rintro e w18 ⟨v367, rfl, ho0, hb⟩; have n0_ := Aside0.mk (Kd.S_elder' (by (with_reducible repeat (first | apply Kd.S_alloc | apply Kd.S_drewN | apply Kd.S_drew)); exact HO357.out) (Kd.R_base ho0) hb); have n1_ := Aside0.mk (Kd.R_elder' (by (with_reducible repeat (first | apply Kd.R_alloc | apply Kd.R_drewN | apply Kd.R_drew)); exact HO364.out) (Kd.R_base ho0) hb); have n2_ := Aside0.mk (Kd.R_lower (Kd.R_new' ho0 (Kd.R_lt (by (with_reducible repeat (first | apply Kd.R_alloc | apply Kd.R_drewN | apply Kd.R_drew)); exact HO364.out))) (below_size (by repeat (first | (with_reducible first | exact HB.out | apply below_alloc | apply pw_below_drewN | apply below_drew1 | refine below_set ?_ GE358.out) | exact HB.out)))); have n3_ := Aside0.mk (blk_below (g := gb358) (o := .cells #[.slice Ao14 t355.length co14] 29 (0, 0)) (by (with_reducible repeat (first | refine blk_drewN ?_ _ | refine blk_drew ?_ | refine blk_alloc ?_ _)); exact BK358.out) hb); have n4_ := Aside0.mk (below_step (by repeat (first | (with_reducible first | exact HB.out | apply below_alloc | apply pw_below_drewN | apply below_drew1 | refine below_set ?_ GE358.out) | exact HB.out)) hb); clear HO357; clear HO364; clear BK358; clear HB; have HO357 := n0_; have HO364 := n1_; have HO368 := n2_; have BK358 := n3_; have HB := n4_; clear n0_ n1_ n2_ n3_ n4_; (try clear hb); (try clear hb2); (try clear hk); (try clear hi); (try clear ho0)))
    repeat (go_quiet (first | (go_at_call 15; (with_reducible refine (laws_r8Long.calls _ _ l0 _ _ l1 false _ ?side1 ?side2 ?side3 ?side4 A3.out).mono ?_); (case side1 => repeat (first | exact HR0.out | (with_reducible refine Kd.C_alloc ?_ _) | (with_reducible refine Kd.C_drewN ?_ _) | (with_reducible refine Kd.C_drew ?_))); (case side2 => exact HC0.out); (case side3 => repeat (first | exact HR1.out | (with_reducible refine Kd.C_alloc ?_ _) | (with_reducible refine Kd.C_drewN ?_ _) | (with_reducible refine Kd.C_drew ?_))); (case side4 => exact HC1.out); rintro e w' ⟨rfl, ⟨nd, rfl⟩⟩; (try first | exact ⟨rfl, _, World.drewN_drewN _ _ _⟩ | exact ⟨rfl, _, Eq.trans (World.drewN_drewN _ _ _) (congrArg (World.drewN _) (Nat.add_assoc _ _ _))⟩)) | (go_at_call 16; (with_reducible refine (spec_R8Graph.calls k _ _ l0 t355 _ ?side1 ?side2 A5.out).mono ?_); (case side1 => repeat (first | exact HR0.out | (with_reducible refine Kd.C_alloc ?_ _) | (with_reducible refine Kd.C_drewN ?_ _) | (with_reducible refine Kd.C_drew ?_))); (case side2 => exact HC0.out); rintro e w12 ⟨v356, rfl, ho0, hb⟩; have n0_ := Aside0.mk (Kd.S_lower ho0 (below_size (by repeat (first | (with_reducible first | exact HB.out | apply below_alloc | apply pw_below_drewN | apply below_drew1) | exact HB.out)))); have n1_ := Aside0.mk (below_step (by repeat (first | (with_reducible first | exact HB.out | apply below_alloc | apply pw_below_drewN | apply below_drew1) | exact HB.out)) hb); clear HB; have HO357 := n0_; have HB := n1_; clear n0_ n1_; (try clear hb); (try clear hb2); (try clear hk); (try clear hi); (try clear ho0)) | ((with_reducible refine gate_dst (N := 5) rfl ?_); (try (refine gate_guard (by rfl) ?_; dsimp only)); refine box_event ?hg (N := 5) ?hd (cs := #[.slice none 0 0]) (t := 29) ?hr ?_; (case hd => rfl); (case hg => rfl); (case hr => first | (go_simp; done) | (go_simp; rfl)); intro gb358 hg w13 hbox hb; have n0_ := Aside0.mk (Kd.S_below (by (with_reducible repeat (first | apply Kd.S_alloc | apply Kd.S_drewN | apply Kd.S_drew)); exact HO357.out) hb); have n1_ := Aside0.mk (below_step (by repeat (first | (with_reducible first | exact HB.out | apply below_alloc | apply pw_below_drewN | apply below_drew1) | exact HB.out)) hb); have n2_ := Aside0.mk (hbox); have n3_ := Aside0.mk ((by rw [hg]; exact (below_size (by repeat (first | (with_reducible first | exact HB.out | apply below_alloc | apply pw_below_drewN | apply below_drew1) | exact HB.out))) : w.heap.size ≤ gb358)); have n4_ := Aside0.mk ((by rw [hg]; exact (below_size (by repeat (first | (with_reducible first | exact HB.out | apply below_alloc | apply pw_below_drewN | apply below_drew1) | exact HB.out))) : w.heap.size ≤ gb358)); clear HO357; clear HB; have HO357 := n0_; have HB := n1_; have BK358 := n2_; have GW358 := n3_; have GE358 := n4_; clear n0_ n1_ n2_ n3_ n4_; clear hb hbox hg; obtain ⟨Ao14, co14, eo14⟩ := Kd.S_slice HO357.out; subst eo14; have hcz15_0 : w13.cell? ⟨gb358, 0, none⟩ = some (.slice none 0 0) := (blk_cell BK358.out 0).trans rfl; have hfz15_0 := blk_frozen BK358.out 0) | (go_at_call 18; (with_reducible refine (laws_r8At.calls _ _ l1 0 3 t359 _ ?side1 ?side2 A6.out).mono ?_); (case side1 => exact Kd.C_below HR1.out (by repeat (first | (with_reducible first | exact HB.out | apply below_alloc | apply pw_below_drewN | apply below_drew1 | refine below_set ?_ GE358.out) | exact HB.out))); (case side2 => exact HC1.out); rintro e w' ⟨rfl, ⟨nd, rfl⟩⟩; (try first | exact ⟨rfl, _, World.drewN_drewN _ _ _⟩ | exact ⟨rfl, _, Eq.trans (World.drewN_drewN _ _ _) (congrArg (World.drewN _) (Nat.add_assoc _ _ _))⟩)) | (go_at_call 18; (with_reducible refine (laws_r8At.calls _ _ l1 1 3 t360 _ ?side1 ?side2 A7.out).mono ?_); (case side1 => exact Kd.C_below HR1.out (by repeat (first | (with_reducible first | exact HB.out | apply below_alloc | apply pw_below_drewN | apply below_drew1 | refine below_set ?_ GE358.out) | exact HB.out))); (case side2 => exact HC1.out); rintro e w' ⟨rfl, ⟨nd, rfl⟩⟩; (try first | exact ⟨rfl, _, World.drewN_drewN _ _ _⟩ | exact ⟨rfl, _, Eq.trans (World.drewN_drewN _ _ _) (congrArg (World.drewN _) (Nat.add_assoc _ _ _))⟩)) | (go_at_call 18; (with_reducible refine (laws_r8At.calls _ _ l1 2 5 t361 _ ?side1 ?side2 A8.out).mono ?_); (case side1 => exact Kd.C_below HR1.out (by repeat (first | (with_reducible first | exact HB.out | apply below_alloc | apply pw_below_drewN | apply below_drew1 | refine below_set ?_ GE358.out) | exact HB.out))); (case side2 => exact HC1.out); rintro e w' ⟨rfl, ⟨nd, rfl⟩⟩; (try first | exact ⟨rfl, _, World.drewN_drewN _ _ _⟩ | exact ⟨rfl, _, Eq.trans (World.drewN_drewN _ _ _) (congrArg (World.drewN _) (Nat.add_assoc _ _ _))⟩)) | (go_at_call 9; (with_reducible refine (impl_CodeVector.calls k _ _ t355 (wrap64 (1 + t359)) (wrap64 ((wrap64 (1 + t359)) + t360)) (wrap64 (1 + t361)) t362 t365 _ ?side1 ?side2 A9.out).mono ?_); (case side1 => refine (Kd.S_reads' (e := 26) (base := w.heap.size) (ok := fun k_ => True) (n := t355.length) (c := co14) ?_).2.2; exact (by (with_reducible repeat (first | apply Kd.S_alloc | apply Kd.S_drewN | apply Kd.S_drew)); exact (Kd.S_mono (Kd.S_far (p := ⟨gb358, 0, none⟩) (Kd.S_types HO357.out BK358.out (by decide)) (fun _ hk => hk.2) (.slice Ao14 t355.length co14)) (fun _ h_ => h_.1)))); (case side2 => exact (Kd.S_reads' HO357.out).2.1); rintro e w16 ⟨v363, rfl, ho0, hb⟩; have n0_ := Aside0.mk (Kd.S_elder' (by (with_reducible repeat (first | apply Kd.S_alloc | apply Kd.S_drewN | apply Kd.S_drew)); exact (Kd.S_mono (Kd.S_far (p := ⟨gb358, 0, none⟩) (Kd.S_types HO357.out BK358.out (by decide)) (fun _ hk => hk.2) (.slice Ao14 t355.length co14)) (fun _ h_ => h_.1))) (Kd.R_base ho0) hb); have n1_ := Aside0.mk (Kd.R_lower ho0 (below_size (by repeat (first | (with_reducible first | exact HB.out | apply below_alloc | apply pw_below_drewN | apply below_drew1 | refine below_set ?_ GE358.out) | exact HB.out)))); have n2_ := Aside0.mk (blk_below (g := gb358) (o := .cells #[.slice Ao14 t355.length co14] 29 (0, 0)) (by (with_reducible repeat (first | refine blk_drewN ?_ _ | refine blk_drew ?_ | refine blk_alloc ?_ _)); refine blk_put (cs := #[.slice none 0 0]) ?_ 0 _ rfl; (with_reducible repeat (first | refine blk_drewN ?_ _ | refine blk_drew ?_ | refine blk_alloc ?_ _)); exact BK358.out) hb); have n3_ := Aside0.mk (below_step (by repeat (first | (with_reducible first | exact HB.out | apply below_alloc | apply pw_below_drewN | apply below_drew1 | refine below_set ?_ GE358.out) | exact HB.out)) hb); clear HO357; clear BK358; clear HB; have HO357 := n0_; have HO364 := n1_; have BK358 := n2_; have HB := n3_; clear n0_ n1_ n2_ n3_; (try clear hb); (try clear hb2); (try clear hk); (try clear hi); (try clear ho0); have hcz17_0 : w16.cell? ⟨gb358, 0, none⟩ = some (.slice Ao14 t355.length co14) := (blk_cell BK358.out 0).trans rfl; have hfz17_0 := blk_frozen BK358.out 0) | (go_at_call 7; (with_reducible refine (spec_CodeVector.calls k _ _ t355 (wrap64 (1 + t359)) (wrap64 ((wrap64 (1 + t359)) + t360)) (wrap64 (1 + t361)) t366 t369 _ ?side1 ?side2 A10.out).mono ?_); (case side1 => repeat (first | exact (Kd.S_reads' HO357.out).2.2 | (with_reducible refine Kd.C_alloc ?_ _) | (with_reducible refine Kd.C_drewN ?_ _) | (with_reducible refine Kd.C_drew ?_))); (case side2 => exact (Kd.S_reads' HO357.out).2.1); rintro e w18 ⟨v367, rfl, ho0, hb⟩; have n0_ := Aside0.mk (Kd.S_elder' (by (with_reducible repeat (first | apply Kd.S_alloc | apply Kd.S_drewN | apply Kd.S_drew)); exact HO357.out) (Kd.R_base ho0) hb); have n1_ := Aside0.mk (Kd.R_elder' (by (with_reducible repeat (first | apply Kd.R_alloc | apply Kd.R_drewN | apply Kd.R_drew)); exact HO364.out) (Kd.R_base ho0) hb); have n2_ := Aside0.mk (Kd.R_lower (Kd.R_new' ho0 (Kd.R_lt (by (with_reducible repeat (first | apply Kd.R_alloc | apply Kd.R_drewN | apply Kd.R_drew)); exact HO364.out))) (below_size (by repeat (first | (with_reducible first | exact HB.out | apply below_alloc | apply pw_below_drewN | apply below_drew1 | refine below_set ?_ GE358.out) | exact HB.out)))); have n3_ := Aside0.mk (blk_below (g := gb358) (o := .cells #[.slice Ao14 t355.length co14] 29 (0, 0)) (by (with_reducible repeat (first | refine blk_drewN ?_ _ | refine blk_drew ?_ | refine blk_alloc ?_ _)); exact BK358.out) hb); have n4_ := Aside0.mk (below_step (by repeat (first | (with_reducible first | exact HB.out | apply below_alloc | apply pw_below_drewN | apply below_drew1 | refine below_set ?_ GE358.out) | exact HB.out)) hb); clear HO357; clear HO364; clear BK358; clear HB; have HO357 := n0_; have HO364 := n1_; have HO368 := n2_; have BK358 := n3_; have HB := n4_; clear n0_ n1_ n2_ n3_ n4_; (try clear hb); (try clear hb2); (try clear hk); (try clear hi); (try clear ho0))); go_upto_region 9 with (first | (go_at_call 15; (with_reducible refine (laws_r8Long.calls _ _ l0 _ _ l1 false _ ?side1 ?side2 ?side3 ?side4 A3.out).mono ?_); (case side1 => repeat (first | exact HR0.out | (with_reducible refine Kd.C_alloc ?_ _) | (with_reducible refine Kd.C_drewN ?_ _) | (with_reducible refine Kd.C_drew ?_))); (case side2 => exact HC0.out); (case side3 => repeat (first | exact HR1.out | (with_reducible refine Kd.C_alloc ?_ _) | (with_reducible refine Kd.C_drewN ?_ _) | (with_reducible refine Kd.C_drew ?_))); (case side4 => exact HC1.out); rintro e w' ⟨rfl, ⟨nd, rfl⟩⟩; (try first | exact ⟨rfl, _, World.drewN_drewN _ _ _⟩ | exact ⟨rfl, _, Eq.trans (World.drewN_drewN _ _ _) (congrArg (World.drewN _) (Nat.add_assoc _ _ _))⟩)) | (go_at_call 16; (with_reducible refine (spec_R8Graph.calls k _ _ l0 t355 _ ?side1 ?side2 A5.out).mono ?_); (case side1 => repeat (first | exact HR0.out | (with_reducible refine Kd.C_alloc ?_ _) | (with_reducible refine Kd.C_drewN ?_ _) | (with_reducible refine Kd.C_drew ?_))); (case side2 => exact HC0.out); rintro e w12 ⟨v356, rfl, ho0, hb⟩; have n0_ := Aside0.mk (Kd.S_lower ho0 (below_size (by repeat (first | (with_reducible first | exact HB.out | apply below_alloc | apply pw_below_drewN | apply below_drew1) | exact HB.out)))); have n1_ := Aside0.mk (below_step (by repeat (first | (with_reducible first | exact HB.out | apply below_alloc | apply pw_below_drewN | apply below_drew1) | exact HB.out)) hb); clear HB; have HO357 := n0_; have HB := n1_; clear n0_ n1_; (try clear hb); (try clear hb2); (try clear hk); (try clear hi); (try clear ho0)) | ((with_reducible refine gate_dst (N := 5) rfl ?_); (try (refine gate_guard (by rfl) ?_; dsimp only)); refine box_event ?hg (N := 5) ?hd (cs := #[.slice none 0 0]) (t := 29) ?hr ?_; (case hd => rfl); (case hg => rfl); (case hr => first | (go_simp; done) | (go_simp; rfl)); intro gb358 hg w13 hbox hb; have n0_ := Aside0.mk (Kd.S_below (by (with_reducible repeat (first | apply Kd.S_alloc | apply Kd.S_drewN | apply Kd.S_drew)); exact HO357.out) hb); have n1_ := Aside0.mk (below_step (by repeat (first | (with_reducible first | exact HB.out | apply below_alloc | apply pw_below_drewN | apply below_drew1) | exact HB.out)) hb); have n2_ := Aside0.mk (hbox); have n3_ := Aside0.mk ((by rw [hg]; exact (below_size (by repeat (first | (with_reducible first | exact HB.out | apply below_alloc | apply pw_below_drewN | apply below_drew1) | exact HB.out))) : w.heap.size ≤ gb358)); have n4_ := Aside0.mk ((by rw [hg]; exact (below_size (by repeat (first | (with_reducible first | exact HB.out | apply below_alloc | apply pw_below_drewN | apply below_drew1) | exact HB.out))) : w.heap.size ≤ gb358)); clear HO357; clear HB; have HO357 := n0_; have HB := n1_; have BK358 := n2_; have GW358 := n3_; have GE358 := n4_; clear n0_ n1_ n2_ n3_ n4_; clear hb hbox hg; obtain ⟨Ao14, co14, eo14⟩ := Kd.S_slice HO357.out; subst eo14; have hcz15_0 : w13.cell? ⟨gb358, 0, none⟩ = some (.slice none 0 0) := (blk_cell BK358.out 0).trans rfl; have hfz15_0 := blk_frozen BK358.out 0) | (go_at_call 18; (with_reducible refine (laws_r8At.calls _ _ l1 0 3 t359 _ ?side1 ?side2 A6.out).mono ?_); (case side1 => exact Kd.C_below HR1.out (by repeat (first | (with_reducible first | exact HB.out | apply below_alloc | apply pw_below_drewN | apply below_drew1 | refine below_set ?_ GE358.out) | exact HB.out))); (case side2 => exact HC1.out); rintro e w' ⟨rfl, ⟨nd, rfl⟩⟩; (try first | exact ⟨rfl, _, World.drewN_drewN _ _ _⟩ | exact ⟨rfl, _, Eq.trans (World.drewN_drewN _ _ _) (congrArg (World.drewN _) (Nat.add_assoc _ _ _))⟩)) | (go_at_call 18; (with_reducible refine (laws_r8At.calls _ _ l1 1 3 t360 _ ?side1 ?side2 A7.out).mono ?_); (case side1 => exact Kd.C_below HR1.out (by repeat (first | (with_reducible first | exact HB.out | apply below_alloc | apply pw_below_drewN | apply below_drew1 | refine below_set ?_ GE358.out) | exact HB.out))); (case side2 => exact HC1.out); rintro e w' ⟨rfl, ⟨nd, rfl⟩⟩; (try first | exact ⟨rfl, _, World.drewN_drewN _ _ _⟩ | exact ⟨rfl, _, Eq.trans (World.drewN_drewN _ _ _) (congrArg (World.drewN _) (Nat.add_assoc _ _ _))⟩)) | (go_at_call 18; (with_reducible refine (laws_r8At.calls _ _ l1 2 5 t361 _ ?side1 ?side2 A8.out).mono ?_); (case side1 => exact Kd.C_below HR1.out (by repeat (first | (with_reducible first | exact HB.out | apply below_alloc | apply pw_below_drewN | apply below_drew1 | refine below_set ?_ GE358.out) | exact HB.out))); (case side2 => exact HC1.out); rintro e w' ⟨rfl, ⟨nd, rfl⟩⟩; (try first | exact ⟨rfl, _, World.drewN_drewN _ _ _⟩ | exact ⟨rfl, _, Eq.trans (World.drewN_drewN _ _ _) (congrArg (World.drewN _) (Nat.add_assoc _ _ _))⟩)) | (go_at_call 9; (with_reducible refine (impl_CodeVector.calls k _ _ t355 (wrap64 (1 + t359)) (wrap64 ((wrap64 (1 + t359)) + t360)) (wrap64 (1 + t361)) t362 t365 _ ?side1 ?side2 A9.out).mono ?_); (case side1 => refine (Kd.S_reads' (e := 26) (base := w.heap.size) (ok := fun k_ => True) (n := t355.length) (c := co14) ?_).2.2; exact (by (with_reducible repeat (first | apply Kd.S_alloc | apply Kd.S_drewN | apply Kd.S_drew)); exact (Kd.S_mono (Kd.S_far (p := ⟨gb358, 0, none⟩) (Kd.S_types HO357.out BK358.out (by decide)) (fun _ hk => hk.2) (.slice Ao14 t355.length co14)) (fun _ h_ => h_.1)))); (case side2 => exact (Kd.S_reads' HO357.out).2.1); rintro e w16 ⟨v363, rfl, ho0, hb⟩; have n0_ := Aside0.mk (Kd.S_elder' (by (with_reducible repeat (first | apply Kd.S_alloc | apply Kd.S_drewN | apply Kd.S_drew)); exact (Kd.S_mono (Kd.S_far (p := ⟨gb358, 0, none⟩) (Kd.S_types HO357.out BK358.out (by decide)) (fun _ hk => hk.2) (.slice Ao14 t355.length co14)) (fun _ h_ => h_.1))) (Kd.R_base ho0) hb); have n1_ := Aside0.mk (Kd.R_lower ho0 (below_size (by repeat (first | (with_reducible first | exact HB.out | apply below_alloc | apply pw_below_drewN | apply below_drew1 | refine below_set ?_ GE358.out) | exact HB.out)))); have n2_ := Aside0.mk (blk_below (g := gb358) (o := .cells #[.slice Ao14 t355.length co14] 29 (0, 0)) (by (with_reducible repeat (first | refine blk_drewN ?_ _ | refine blk_drew ?_ | refine blk_alloc ?_ _)); refine blk_put (cs := #[.slice none 0 0]) ?_ 0 _ rfl; (with_reducible repeat (first | refine blk_drewN ?_ _ | refine blk_drew ?_ | refine blk_alloc ?_ _)); exact BK358.out) hb); have n3_ := Aside0.mk (below_step (by repeat (first | (with_reducible first | exact HB.out | apply below_alloc | apply pw_below_drewN | apply below_drew1 | refine below_set ?_ GE358.out) | exact HB.out)) hb); clear HO357; clear BK358; clear HB; have HO357 := n0_; have HO364 := n1_; have BK358 := n2_; have HB := n3_; clear n0_ n1_ n2_ n3_; (try clear hb); (try clear hb2); (try clear hk); (try clear hi); (try clear ho0); have hcz17_0 : w16.cell? ⟨gb358, 0, none⟩ = some (.slice Ao14 t355.length co14) := (blk_cell BK358.out 0).trans rfl; have hfz17_0 := blk_frozen BK358.out 0) | (go_at_call 7; (with_reducible refine (spec_CodeVector.calls k _ _ t355 (wrap64 (1 + t359)) (wrap64 ((wrap64 (1 + t359)) + t360)) (wrap64 (1 + t361)) t366 t369 _ ?side1 ?side2 A10.out).mono ?_); (case side1 => repeat (first | exact (Kd.S_reads' HO357.out).2.2 | (with_reducible refine Kd.C_alloc ?_ _) | (with_reducible refine Kd.C_drewN ?_ _) | (with_reducible refine Kd.C_drew ?_))); (case side2 => exact (Kd.S_reads' HO357.out).2.1); rintro e w18 ⟨v367, rfl, ho0, hb⟩; have n0_ := Aside0.mk (Kd.S_elder' (by (with_reducible repeat (first | apply Kd.S_alloc | apply Kd.S_drewN | apply Kd.S_drew)); exact HO357.out) (Kd.R_base ho0) hb); have n1_ := Aside0.mk (Kd.R_elder' (by (with_reducible repeat (first | apply Kd.R_alloc | apply Kd.R_drewN | apply Kd.R_drew)); exact HO364.out) (Kd.R_base ho0) hb); have n2_ := Aside0.mk (Kd.R_lower (Kd.R_new' ho0 (Kd.R_lt (by (with_reducible repeat (first | apply Kd.R_alloc | apply Kd.R_drewN | apply Kd.R_drew)); exact HO364.out))) (below_size (by repeat (first | (with_reducible first | exact HB.out | apply below_alloc | apply pw_below_drewN | apply below_drew1 | refine below_set ?_ GE358.out) | exact HB.out)))); have n3_ := Aside0.mk (blk_below (g := gb358) (o := .cells #[.slice Ao14 t355.length co14] 29 (0, 0)) (by (with_reducible repeat (first | refine blk_drewN ?_ _ | refine blk_drew ?_ | refine blk_alloc ?_ _)); exact BK358.out) hb); have n4_ := Aside0.mk (below_step (by repeat (first | (with_reducible first | exact HB.out | apply below_alloc | apply pw_below_drewN | apply below_drew1 | refine below_set ?_ GE358.out) | exact HB.out)) hb); clear HO357; clear HO364; clear BK358; clear HB; have HO357 := n0_; have HO364 := n1_; have HO368 := n2_; have BK358 := n3_; have HB := n4_; clear n0_ n1_ n2_ n3_ n4_; (try clear hb); (try clear hb2); (try clear hk); (try clear hi); (try clear ho0))))
    (try simp only [Act.put, List.setIfInBounds_toArray, List.set_cons_zero, List.set_cons_succ])
    go_cut [69] (fun v69 wc => ∃ (kq : Nat) (x69_10 : Bool), v69 = .bool x69_10 ∧ Aside0 (laws_FnCodeVectors.j0 kq l1 (wrap64 (1 + t359)) (wrap64 ((wrap64 (1 + t359)) + t360)) (wrap64 (1 + t361)) t362 t365 x69_10 t355 = some r) ∧ Aside0 (kq ≤ k) ∧ Aside0 (Kd.R (Kd.int .i64) 2 wc w.heap.size (fun _ => True) v363 t362) ∧ Aside0 (Kd.S (Kd.slice 2 (Kd.int .i64)) 26 wc w.heap.size (fun k_ => some k_ ≠ (v363 : Value).ownBlock) (.slice Ao14 t355.length co14) t355) ∧ Aside0 (wc.heap[gb358]? = some (.cells #[(.slice Ao14 t355.length co14)] 29 (0, 0))) ∧ Aside0 (Below w.heap.size w wc))
    case first =>
      have H := HC11.out
      clear HC11
      by_cases c19 : (t365 != t369) = true
      · rw [if_pos c19] at H
        have c19b0 : (t365 != t369) = true := c19
        (try (have c19b1 : decide (t365 = t369) = false := by simpa using c19))
        (try (have c19b2 : (t365 == t369) = false := by simpa using c19))
        (try (have c19b3 : ¬ (t365 = t369) := by simpa using c19))
        clear c19
        (first | rw [c19b0] | (simp only [i64_w, i32_w]; rw [c19b0]) | skip)
        have H' := Aside0.mk H
        clear H
        go_wp2
        repeat (go_quiet (fail); try go_wp2)
        go_meet
        case rel => exact ⟨_, (true), (by first | rfl | (simp; done) | (simp [*]; done)), H', ⟨by first | omega | exact Nat.le_refl _⟩, ⟨by (with_reducible repeat (first | apply Kd.R_alloc | apply Kd.R_drewN | apply Kd.R_drew)); exact Kd.R_mono HO364.out (fun _ hk => trivial)⟩, ⟨by (with_reducible repeat (first | apply Kd.S_alloc | apply Kd.S_drewN | apply Kd.S_drew)); exact Kd.S_mono HO357.out (fun _ hk => hk.1.2)⟩, ⟨by (with_reducible repeat (first | refine blk_drewN ?_ _ | refine blk_drew ?_ | refine blk_alloc ?_ _)); exact BK358.out⟩, ⟨by repeat (first | (with_reducible first | exact HB.out | apply below_alloc | apply pw_below_drewN | apply below_drew1 | refine below_set ?_ GE358.out) | exact HB.out)⟩⟩
      · rw [if_neg c19] at H
        have c19b0 : (t365 != t369) = false := by simpa using c19
        (try (have c19b1 : decide (t365 = t369) = true := by simpa using c19))
        (try (have c19b2 : (t365 == t369) = true := by simpa using c19))
        clear c19
        (first | rw [c19b0] | (simp only [i64_w, i32_w]; rw [c19b0]) | skip)
        by_cases c20 : t365 = true
        · subst c20
          have H1 : ((impl_IsCodeVector.f k t355 (wrap64 (1 + t359)) (wrap64 ((wrap64 (1 + t359)) + t360)) t362).bind fun t370 => (if t370 = true then (laws_FnCodeVectors.j0 k l1 (wrap64 (1 + t359)) (wrap64 ((wrap64 (1 + t359)) + t360)) (wrap64 (1 + t361)) t362 true ((t362.length : Int) != (t355.length : Int)) t355) else (laws_FnCodeVectors.j0 k l1 (wrap64 (1 + t359)) (wrap64 ((wrap64 (1 + t359)) + t360)) (wrap64 (1 + t361)) t362 true true t355))) = some r := by rw [if_pos rfl] at H; exact H
          clear H
          have H := H1
          clear H1
          replace H := Option.bind_eq_some_iff.mp H
          obtain ⟨t370, A210, H⟩ := H
          replace H : (if t370 = true then (laws_FnCodeVectors.j0 k l1 (wrap64 (1 + t359)) (wrap64 ((wrap64 (1 + t359)) + t360)) (wrap64 (1 + t361)) t362 true ((t362.length : Int) != (t355.length : Int)) t355) else (laws_FnCodeVectors.j0 k l1 (wrap64 (1 + t359)) (wrap64 ((wrap64 (1 + t359)) + t360)) (wrap64 (1 + t361)) t362 true true t355)) = some r := H
          have A21 := Aside0.mk A210
          clear A210
          by_cases c22 : t370 = true
          · subst c22
            have H1 : (laws_FnCodeVectors.j0 k l1 (wrap64 (1 + t359)) (wrap64 ((wrap64 (1 + t359)) + t360)) (wrap64 (1 + t361)) t362 true ((t362.length : Int) != (t355.length : Int)) t355) = some r := by rw [if_pos rfl] at H; exact H
            clear H
            have H := H1
            clear H1
            have H' := Aside0.mk H
            clear H
            have hcz23_0 : w18.cell? ⟨gb358, 0, none⟩ = some (.slice Ao14 t355.length co14) := (blk_cell BK358.out 0).trans rfl
            have hfz23_0 := blk_frozen BK358.out 0
            obtain ⟨Ao24, co24, eo24⟩ := Kd.R_slice HO364.out
            subst eo24
            go_wp2_with (first | (go_at_call 22; (with_reducible refine (impl_IsCodeVector.calls k _ _ t355 (wrap64 (1 + t359)) (wrap64 ((wrap64 (1 + t359)) + t360)) _ _ t362 true _ ?side1 ?side2 ?side3 ?side4 A21.out).mono ?_); (case side1 => repeat (first | exact (Kd.S_reads' HO357.out).2.2 | (with_reducible refine Kd.C_alloc ?_ _) | (with_reducible refine Kd.C_drewN ?_ _) | (with_reducible refine Kd.C_drew ?_))); (case side2 => exact (Kd.S_reads' HO357.out).2.1); (case side3 => repeat (first | exact (Kd.R_reads' HO364.out).2.2 | (with_reducible refine Kd.C_alloc ?_ _) | (with_reducible refine Kd.C_drewN ?_ _) | (with_reducible refine Kd.C_drew ?_))); (case side4 => exact (Kd.R_reads' HO364.out).2.1); rintro e w25 ⟨rfl, hb⟩; have n0_ := Aside0.mk (Kd.S_below (by (with_reducible repeat (first | apply Kd.S_alloc | apply Kd.S_drewN | apply Kd.S_drew)); exact HO357.out) hb); have n1_ := Aside0.mk (Kd.R_below (by (with_reducible repeat (first | apply Kd.R_alloc | apply Kd.R_drewN | apply Kd.R_drew)); exact HO364.out) hb); have n2_ := Aside0.mk (Kd.R_below (by (with_reducible repeat (first | apply Kd.R_alloc | apply Kd.R_drewN | apply Kd.R_drew)); exact HO368.out) hb); have n3_ := Aside0.mk (blk_below (g := gb358) (o := .cells #[.slice Ao14 t355.length co14] 29 (0, 0)) (by (with_reducible repeat (first | refine blk_drewN ?_ _ | refine blk_drew ?_ | refine blk_alloc ?_ _)); exact BK358.out) hb); have n4_ := Aside0.mk (below_step (by repeat (first | (with_reducible first | exact HB.out | apply below_alloc | apply pw_below_drewN | apply below_drew1 | refine below_set ?_ GE358.out) | exact HB.out)) hb); clear HO357; clear HO364; clear HO368; clear BK358; clear HB; have HO357 := n0_; have HO364 := n1_; have HO368 := n2_; have BK358 := n3_; have HB := n4_; clear n0_ n1_ n2_ n3_ n4_; (try clear hb); (try clear hb2); (try clear hk); (try clear hi); have hcz26_0 : w25.cell? ⟨gb358, 0, none⟩ = some (.slice Ao14 t355.length co14) := (blk_cell BK358.out 0).trans rfl; have hfz26_0 := blk_frozen BK358.out 0))
            repeat (go_quiet (first | (go_at_call 22; (with_reducible refine (impl_IsCodeVector.calls k _ _ t355 (wrap64 (1 + t359)) (wrap64 ((wrap64 (1 + t359)) + t360)) _ _ t362 true _ ?side1 ?side2 ?side3 ?side4 A21.out).mono ?_); (case side1 => repeat (first | exact (Kd.S_reads' HO357.out).2.2 | (with_reducible refine Kd.C_alloc ?_ _) | (with_reducible refine Kd.C_drewN ?_ _) | (with_reducible refine Kd.C_drew ?_))); (case side2 => exact (Kd.S_reads' HO357.out).2.1); (case side3 => repeat (first | exact (Kd.R_reads' HO364.out).2.2 | (with_reducible refine Kd.C_alloc ?_ _) | (with_reducible refine Kd.C_drewN ?_ _) | (with_reducible refine Kd.C_drew ?_))); (case side4 => exact (Kd.R_reads' HO364.out).2.1); rintro e w25 ⟨rfl, hb⟩; have n0_ := Aside0.mk (Kd.S_below (by (with_reducible repeat (first | apply Kd.S_alloc | apply Kd.S_drewN | apply Kd.S_drew)); exact HO357.out) hb); have n1_ := Aside0.mk (Kd.R_below (by (with_reducible repeat (first | apply Kd.R_alloc | apply Kd.R_drewN | apply Kd.R_drew)); exact HO364.out) hb); have n2_ := Aside0.mk (Kd.R_below (by (with_reducible repeat (first | apply Kd.R_alloc | apply Kd.R_drewN | apply Kd.R_drew)); exact HO368.out) hb); have n3_ := Aside0.mk (blk_below (g := gb358) (o := .cells #[.slice Ao14 t355.length co14] 29 (0, 0)) (by (with_reducible repeat (first | refine blk_drewN ?_ _ | refine blk_drew ?_ | refine blk_alloc ?_ _)); exact BK358.out) hb); have n4_ := Aside0.mk (below_step (by repeat (first | (with_reducible first | exact HB.out | apply below_alloc | apply pw_below_drewN | apply below_drew1 | refine below_set ?_ GE358.out) | exact HB.out)) hb); clear HO357; clear HO364; clear HO368; clear BK358; clear HB; have HO357 := n0_; have HO364 := n1_; have HO368 := n2_; have BK358 := n3_; have HB := n4_; clear n0_ n1_ n2_ n3_ n4_; (try clear hb); (try clear hb2); (try clear hk); (try clear hi); have hcz26_0 : w25.cell? ⟨gb358, 0, none⟩ = some (.slice Ao14 t355.length co14) := (blk_cell BK358.out 0).trans rfl; have hfz26_0 := blk_frozen BK358.out 0)); try go_wp2_with (first | (go_at_call 22; (with_reducible refine (impl_IsCodeVector.calls k _ _ t355 (wrap64 (1 + t359)) (wrap64 ((wrap64 (1 + t359)) + t360)) _ _ t362 true _ ?side1 ?side2 ?side3 ?side4 A21.out).mono ?_); (case side1 => repeat (first | exact (Kd.S_reads' HO357.out).2.2 | (with_reducible refine Kd.C_alloc ?_ _) | (with_reducible refine Kd.C_drewN ?_ _) | (with_reducible refine Kd.C_drew ?_))); (case side2 => exact (Kd.S_reads' HO357.out).2.1); (case side3 => repeat (first | exact (Kd.R_reads' HO364.out).2.2 | (with_reducible refine Kd.C_alloc ?_ _) | (with_reducible refine Kd.C_drewN ?_ _) | (with_reducible refine Kd.C_drew ?_))); (case side4 => exact (Kd.R_reads' HO364.out).2.1); rintro e w25 ⟨rfl, hb⟩; have n0_ := Aside0.mk (Kd.S_below (by (with_reducible repeat (first | apply Kd.S_alloc | apply Kd.S_drewN | apply Kd.S_drew)); exact HO357.out) hb); have n1_ := Aside0.mk (Kd.R_below (by (with_reducible repeat (first | apply Kd.R_alloc | apply Kd.R_drewN | apply Kd.R_drew)); exact HO364.out) hb); have n2_ := Aside0.mk (Kd.R_below (by (with_reducible repeat (first | apply Kd.R_alloc | apply Kd.R_drewN | apply Kd.R_drew)); exact HO368.out) hb); have n3_ := Aside0.mk (blk_below (g := gb358) (o := .cells #[.slice Ao14 t355.length co14] 29 (0, 0)) (by (with_reducible repeat (first | refine blk_drewN ?_ _ | refine blk_drew ?_ | refine blk_alloc ?_ _)); exact BK358.out) hb); have n4_ := Aside0.mk (below_step (by repeat (first | (with_reducible first | exact HB.out | apply below_alloc | apply pw_below_drewN | apply below_drew1 | refine below_set ?_ GE358.out) | exact HB.out)) hb); clear HO357; clear HO364; clear HO368; clear BK358; clear HB; have HO357 := n0_; have HO364 := n1_; have HO368 := n2_; have BK358 := n3_; have HB := n4_; clear n0_ n1_ n2_ n3_ n4_; (try clear hb); (try clear hb2); (try clear hk); (try clear hi); have hcz26_0 : w25.cell? ⟨gb358, 0, none⟩ = some (.slice Ao14 t355.length co14) := (blk_cell BK358.out 0).trans rfl; have hfz26_0 := blk_frozen BK358.out 0)))
            go_meet
            case rel => exact ⟨_, (((t362.length : Int) != (t355.length : Int))), (by first | rfl | (simp; done) | (simp [*]; done)), H', ⟨by first | omega | exact Nat.le_refl _⟩, ⟨by (with_reducible repeat (first | apply Kd.R_alloc | apply Kd.R_drewN | apply Kd.R_drew)); exact Kd.R_mono HO364.out (fun _ hk => trivial)⟩, ⟨by (with_reducible repeat (first | apply Kd.S_alloc | apply Kd.S_drewN | apply Kd.S_drew)); exact Kd.S_mono HO357.out (fun _ hk => hk.1.2)⟩, ⟨by (with_reducible repeat (first | refine blk_drewN ?_ _ | refine blk_drew ?_ | refine blk_alloc ?_ _)); exact BK358.out⟩, ⟨by repeat (first | (with_reducible first | exact HB.out | apply below_alloc | apply pw_below_drewN | apply below_drew1 | refine below_set ?_ GE358.out) | exact HB.out)⟩⟩
          · replace c22 := Bool.eq_false_iff.mpr c22
            subst c22
            have H1 : (laws_FnCodeVectors.j0 k l1 (wrap64 (1 + t359)) (wrap64 ((wrap64 (1 + t359)) + t360)) (wrap64 (1 + t361)) t362 true true t355) = some r := by rw [if_neg (show ¬ (false = true) by decide)] at H; exact H
            clear H
            have H := H1
            clear H1
            have H' := Aside0.mk H
            clear H
            have hcz27_0 : w18.cell? ⟨gb358, 0, none⟩ = some (.slice Ao14 t355.length co14) := (blk_cell BK358.out 0).trans rfl
            have hfz27_0 := blk_frozen BK358.out 0
            obtain ⟨Ao28, co28, eo28⟩ := Kd.R_slice HO364.out
            subst eo28
            go_wp2_with (first | (go_at_call 22; (with_reducible refine (impl_IsCodeVector.calls k _ _ t355 (wrap64 (1 + t359)) (wrap64 ((wrap64 (1 + t359)) + t360)) _ _ t362 false _ ?side1 ?side2 ?side3 ?side4 A21.out).mono ?_); (case side1 => repeat (first | exact (Kd.S_reads' HO357.out).2.2 | (with_reducible refine Kd.C_alloc ?_ _) | (with_reducible refine Kd.C_drewN ?_ _) | (with_reducible refine Kd.C_drew ?_))); (case side2 => exact (Kd.S_reads' HO357.out).2.1); (case side3 => repeat (first | exact (Kd.R_reads' HO364.out).2.2 | (with_reducible refine Kd.C_alloc ?_ _) | (with_reducible refine Kd.C_drewN ?_ _) | (with_reducible refine Kd.C_drew ?_))); (case side4 => exact (Kd.R_reads' HO364.out).2.1); rintro e w29 ⟨rfl, hb⟩; have n0_ := Aside0.mk (Kd.S_below (by (with_reducible repeat (first | apply Kd.S_alloc | apply Kd.S_drewN | apply Kd.S_drew)); exact HO357.out) hb); have n1_ := Aside0.mk (Kd.R_below (by (with_reducible repeat (first | apply Kd.R_alloc | apply Kd.R_drewN | apply Kd.R_drew)); exact HO364.out) hb); have n2_ := Aside0.mk (Kd.R_below (by (with_reducible repeat (first | apply Kd.R_alloc | apply Kd.R_drewN | apply Kd.R_drew)); exact HO368.out) hb); have n3_ := Aside0.mk (blk_below (g := gb358) (o := .cells #[.slice Ao14 t355.length co14] 29 (0, 0)) (by (with_reducible repeat (first | refine blk_drewN ?_ _ | refine blk_drew ?_ | refine blk_alloc ?_ _)); exact BK358.out) hb); have n4_ := Aside0.mk (below_step (by repeat (first | (with_reducible first | exact HB.out | apply below_alloc | apply pw_below_drewN | apply below_drew1 | refine below_set ?_ GE358.out) | exact HB.out)) hb); clear HO357; clear HO364; clear HO368; clear BK358; clear HB; have HO357 := n0_; have HO364 := n1_; have HO368 := n2_; have BK358 := n3_; have HB := n4_; clear n0_ n1_ n2_ n3_ n4_; (try clear hb); (try clear hb2); (try clear hk); (try clear hi)))
            repeat (go_quiet (first | (go_at_call 22; (with_reducible refine (impl_IsCodeVector.calls k _ _ t355 (wrap64 (1 + t359)) (wrap64 ((wrap64 (1 + t359)) + t360)) _ _ t362 false _ ?side1 ?side2 ?side3 ?side4 A21.out).mono ?_); (case side1 => repeat (first | exact (Kd.S_reads' HO357.out).2.2 | (with_reducible refine Kd.C_alloc ?_ _) | (with_reducible refine Kd.C_drewN ?_ _) | (with_reducible refine Kd.C_drew ?_))); (case side2 => exact (Kd.S_reads' HO357.out).2.1); (case side3 => repeat (first | exact (Kd.R_reads' HO364.out).2.2 | (with_reducible refine Kd.C_alloc ?_ _) | (with_reducible refine Kd.C_drewN ?_ _) | (with_reducible refine Kd.C_drew ?_))); (case side4 => exact (Kd.R_reads' HO364.out).2.1); rintro e w29 ⟨rfl, hb⟩; have n0_ := Aside0.mk (Kd.S_below (by (with_reducible repeat (first | apply Kd.S_alloc | apply Kd.S_drewN | apply Kd.S_drew)); exact HO357.out) hb); have n1_ := Aside0.mk (Kd.R_below (by (with_reducible repeat (first | apply Kd.R_alloc | apply Kd.R_drewN | apply Kd.R_drew)); exact HO364.out) hb); have n2_ := Aside0.mk (Kd.R_below (by (with_reducible repeat (first | apply Kd.R_alloc | apply Kd.R_drewN | apply Kd.R_drew)); exact HO368.out) hb); have n3_ := Aside0.mk (blk_below (g := gb358) (o := .cells #[.slice Ao14 t355.length co14] 29 (0, 0)) (by (with_reducible repeat (first | refine blk_drewN ?_ _ | refine blk_drew ?_ | refine blk_alloc ?_ _)); exact BK358.out) hb); have n4_ := Aside0.mk (below_step (by repeat (first | (with_reducible first | exact HB.out | apply below_alloc | apply pw_below_drewN | apply below_drew1 | refine below_set ?_ GE358.out) | exact HB.out)) hb); clear HO357; clear HO364; clear HO368; clear BK358; clear HB; have HO357 := n0_; have HO364 := n1_; have HO368 := n2_; have BK358 := n3_; have HB := n4_; clear n0_ n1_ n2_ n3_ n4_; (try clear hb); (try clear hb2); (try clear hk); (try clear hi))); try go_wp2_with (first | (go_at_call 22; (with_reducible refine (impl_IsCodeVector.calls k _ _ t355 (wrap64 (1 + t359)) (wrap64 ((wrap64 (1 + t359)) + t360)) _ _ t362 false _ ?side1 ?side2 ?side3 ?side4 A21.out).mono ?_); (case side1 => repeat (first | exact (Kd.S_reads' HO357.out).2.2 | (with_reducible refine Kd.C_alloc ?_ _) | (with_reducible refine Kd.C_drewN ?_ _) | (with_reducible refine Kd.C_drew ?_))); (case side2 => exact (Kd.S_reads' HO357.out).2.1); (case side3 => repeat (first | exact (Kd.R_reads' HO364.out).2.2 | (with_reducible refine Kd.C_alloc ?_ _) | (with_reducible refine Kd.C_drewN ?_ _) | (with_reducible refine Kd.C_drew ?_))); (case side4 => exact (Kd.R_reads' HO364.out).2.1); rintro e w29 ⟨rfl, hb⟩; have n0_ := Aside0.mk (Kd.S_below (by (with_reducible repeat (first | apply Kd.S_alloc | apply Kd.S_drewN | apply Kd.S_drew)); exact HO357.out) hb); have n1_ := Aside0.mk (Kd.R_below (by (with_reducible repeat (first | apply Kd.R_alloc | apply Kd.R_drewN | apply Kd.R_drew)); exact HO364.out) hb); have n2_ := Aside0.mk (Kd.R_below (by (with_reducible repeat (first | apply Kd.R_alloc | apply Kd.R_drewN | apply Kd.R_drew)); exact HO368.out) hb); have n3_ := Aside0.mk (blk_below (g := gb358) (o := .cells #[.slice Ao14 t355.length co14] 29 (0, 0)) (by (with_reducible repeat (first | refine blk_drewN ?_ _ | refine blk_drew ?_ | refine blk_alloc ?_ _)); exact BK358.out) hb); have n4_ := Aside0.mk (below_step (by repeat (first | (with_reducible first | exact HB.out | apply below_alloc | apply pw_below_drewN | apply below_drew1 | refine below_set ?_ GE358.out) | exact HB.out)) hb); clear HO357; clear HO364; clear HO368; clear BK358; clear HB; have HO357 := n0_; have HO364 := n1_; have HO368 := n2_; have BK358 := n3_; have HB := n4_; clear n0_ n1_ n2_ n3_ n4_; (try clear hb); (try clear hb2); (try clear hk); (try clear hi))))
            go_meet
            case rel => exact ⟨_, (true), (by first | rfl | (simp; done) | (simp [*]; done)), H', ⟨by first | omega | exact Nat.le_refl _⟩, ⟨by (with_reducible repeat (first | apply Kd.R_alloc | apply Kd.R_drewN | apply Kd.R_drew)); exact Kd.R_mono HO364.out (fun _ hk => trivial)⟩, ⟨by (with_reducible repeat (first | apply Kd.S_alloc | apply Kd.S_drewN | apply Kd.S_drew)); exact Kd.S_mono HO357.out (fun _ hk => hk.1.2)⟩, ⟨by (with_reducible repeat (first | refine blk_drewN ?_ _ | refine blk_drew ?_ | refine blk_alloc ?_ _)); exact BK358.out⟩, ⟨by repeat (first | (with_reducible first | exact HB.out | apply below_alloc | apply pw_below_drewN | apply below_drew1 | refine below_set ?_ GE358.out) | exact HB.out)⟩⟩
        · replace c20 := Bool.eq_false_iff.mpr c20
          subst c20
          have H1 : (laws_FnCodeVectors.j0 k l1 (wrap64 (1 + t359)) (wrap64 ((wrap64 (1 + t359)) + t360)) (wrap64 (1 + t361)) t362 false false t355) = some r := by rw [if_neg (show ¬ (false = true) by decide)] at H; exact H
          clear H
          have H := H1
          clear H1
          have H' := Aside0.mk H
          clear H
          go_wp2
          repeat (go_quiet (fail); try go_wp2)
          go_meet
          case rel => exact ⟨_, (false), (by first | rfl | (simp; done) | (simp [*]; done)), H', ⟨by first | omega | exact Nat.le_refl _⟩, ⟨by (with_reducible repeat (first | apply Kd.R_alloc | apply Kd.R_drewN | apply Kd.R_drew)); exact Kd.R_mono HO364.out (fun _ hk => trivial)⟩, ⟨by (with_reducible repeat (first | apply Kd.S_alloc | apply Kd.S_drewN | apply Kd.S_drew)); exact Kd.S_mono HO357.out (fun _ hk => hk.1.2)⟩, ⟨by (with_reducible repeat (first | refine blk_drewN ?_ _ | refine blk_drew ?_ | refine blk_alloc ?_ _)); exact BK358.out⟩, ⟨by repeat (first | (with_reducible first | exact HB.out | apply below_alloc | apply pw_below_drewN | apply below_drew1 | refine below_set ?_ GE358.out) | exact HB.out)⟩⟩
    case rest =>
      clear HC11
      try clear c1
      try clear c2
      try clear p2
      try clear c4
      try clear c5
      try clear p6
      try clear c19
      try clear c19b0
      try clear c19b1
      try clear c19b2
      try clear c20
      try clear c22
      try clear hcz15_0
      try clear hcz17_0
      try clear hcz23_0
      try clear hcz26_0
      try clear hcz27_0
      try clear hfz15_0
      try clear hfz17_0
      try clear hfz23_0
      try clear hfz26_0
      try clear hfz27_0
      obtain ⟨kq, x69_10, rfl, HA, HJ10, HO_9, HO_359000, BK358, HB⟩ := hcut
      cases kq with
      | zero => exact absurd HA.out (by simp [laws_FnCodeVectors.j0])
      | succ kj10 =>
        have H := HA.out
        clear HA
        simp only [laws_FnCodeVectors.j0] at H
        by_cases c30 : x69_10 = true
        · subst c30
          have H1 : (some false) = some r := by rw [if_pos rfl] at H; exact H
          clear H
          have H := H1
          clear H1
          obtain rfl := Option.some.inj H
          go_wp2
          repeat (go_quiet (fail); try go_wp2)
          go_ret
          exact ⟨by first | rfl | (simp [errW_none, errW_some] <;> rfl) | (simp [*, errW_none, errW_some] <;> rfl), by repeat (first | (with_reducible first | exact HB.out | apply below_alloc | apply pw_below_drewN | apply below_drew1 | refine below_set ?_ GE358.out) | exact HB.out)⟩
        · replace c30 := Bool.eq_false_iff.mpr c30
          subst c30
          have H1 : (laws_FnCodeVectors.l0 kj10 l1 (wrap64 (1 + t359)) (wrap64 ((wrap64 (1 + t359)) + t360)) (wrap64 (1 + t361)) t362 t365 (([] : List Int)) 0 t355) = some r := by rw [if_neg (show ¬ (false = true) by decide)] at H; exact H
          clear H
          have H := H1
          clear H1
          obtain ⟨y371, hy371⟩ : ∃ y_ : List Int, y_ = (([] : List Int)) := ⟨_, rfl⟩
          replace H : (laws_FnCodeVectors.l0 kj10 l1 (wrap64 (1 + t359)) (wrap64 ((wrap64 (1 + t359)) + t360)) (wrap64 (1 + t361)) t362 t365 y371 0 t355) = some r := by first | (rw [hy371]; with_reducible exact H) | (have H2_ := (Option.bind_some _ _).symm.trans H; rw [hy371]; with_reducible exact H2_) | (have H2_ := (Option.bind_some _ _).symm.trans H; with_reducible exact H2_) | with_reducible exact H | (rw [hy371]; exact H) | exact H
          have Ny371 := Aside0.mk hy371
          clear hy371
          have H' := Aside0.mk H
          clear H
          go_wp2_with (first | ((with_reducible refine gate_dst (N := 70) rfl ?_); (try (refine gate_guard (by rfl) ?_; dsimp only)); refine Kd.R_lit (Kd.int .i64) _ 2 ?hg (N := 70) ?hd (xs := ([] : List Int)) (inner := []) (ok := fun _ => True) (okp := fun _ => True) ?hr ?hp (fun _ hk => hk) trivial (Below.refl _ _) (Nat.le_refl _) (by simp) ?_; (case hd => rfl); (case hg => rfl); (case hr => first | (go_simp; done) | (go_simp; rfl)); (case hp => exact (Reps.none _ _)); intro v372 w31 ho32 hb hg_ hnew_; clear hg_ hnew_; (first | rw [← Ny371.out] at ho32 | (simp only [Int.reduceToNat] at ho32; rw [← Ny371.out] at ho32)); have n0_ := Aside0.mk (Kd.R_elder' (by (with_reducible repeat (first | apply Kd.R_alloc | apply Kd.R_drewN | apply Kd.R_drew)); exact HO_9.out) (Kd.R_base ho32) hb); have n1_ := Aside0.mk (Kd.S_elder' (by (with_reducible repeat (first | apply Kd.S_alloc | apply Kd.S_drewN | apply Kd.S_drew)); exact HO_359000.out) (Kd.R_base ho32) hb); have n2_ := Aside0.mk (Kd.R_lower (Kd.R_new' ho32 (Kd.R_lt (by (with_reducible repeat (first | apply Kd.R_alloc | apply Kd.R_drewN | apply Kd.R_drew)); exact HO_9.out))) (below_size (by repeat (first | (with_reducible first | exact HB.out | apply below_alloc | apply pw_below_drewN | apply below_drew1 | refine below_set ?_ GE358.out) | exact HB.out)))); have n3_ := Aside0.mk (blk_below (g := gb358) (o := .cells #[.slice Ao14 t355.length co14] 29 (0, 0)) (by (with_reducible repeat (first | refine blk_drewN ?_ _ | refine blk_drew ?_ | refine blk_alloc ?_ _)); exact BK358.out) hb); have n4_ := Aside0.mk (below_step (by repeat (first | (with_reducible first | exact HB.out | apply below_alloc | apply pw_below_drewN | apply below_drew1 | refine below_set ?_ GE358.out) | exact HB.out)) hb); clear HO_9; clear HO_359000; clear BK358; clear HB; have HO_9 := n0_; have HO_359000 := n1_; have HO373 := n2_; have BK358 := n3_; have HB := n4_; clear n0_ n1_ n2_ n3_ n4_; clear hb ho32))
          repeat (go_quiet (first | ((with_reducible refine gate_dst (N := 70) rfl ?_); (try (refine gate_guard (by rfl) ?_; dsimp only)); refine Kd.R_lit (Kd.int .i64) _ 2 ?hg (N := 70) ?hd (xs := ([] : List Int)) (inner := []) (ok := fun _ => True) (okp := fun _ => True) ?hr ?hp (fun _ hk => hk) trivial (Below.refl _ _) (Nat.le_refl _) (by simp) ?_; (case hd => rfl); (case hg => rfl); (case hr => first | (go_simp; done) | (go_simp; rfl)); (case hp => exact (Reps.none _ _)); intro v372 w31 ho32 hb hg_ hnew_; clear hg_ hnew_; (first | rw [← Ny371.out] at ho32 | (simp only [Int.reduceToNat] at ho32; rw [← Ny371.out] at ho32)); have n0_ := Aside0.mk (Kd.R_elder' (by (with_reducible repeat (first | apply Kd.R_alloc | apply Kd.R_drewN | apply Kd.R_drew)); exact HO_9.out) (Kd.R_base ho32) hb); have n1_ := Aside0.mk (Kd.S_elder' (by (with_reducible repeat (first | apply Kd.S_alloc | apply Kd.S_drewN | apply Kd.S_drew)); exact HO_359000.out) (Kd.R_base ho32) hb); have n2_ := Aside0.mk (Kd.R_lower (Kd.R_new' ho32 (Kd.R_lt (by (with_reducible repeat (first | apply Kd.R_alloc | apply Kd.R_drewN | apply Kd.R_drew)); exact HO_9.out))) (below_size (by repeat (first | (with_reducible first | exact HB.out | apply below_alloc | apply pw_below_drewN | apply below_drew1 | refine below_set ?_ GE358.out) | exact HB.out)))); have n3_ := Aside0.mk (blk_below (g := gb358) (o := .cells #[.slice Ao14 t355.length co14] 29 (0, 0)) (by (with_reducible repeat (first | refine blk_drewN ?_ _ | refine blk_drew ?_ | refine blk_alloc ?_ _)); exact BK358.out) hb); have n4_ := Aside0.mk (below_step (by repeat (first | (with_reducible first | exact HB.out | apply below_alloc | apply pw_below_drewN | apply below_drew1 | refine below_set ?_ GE358.out) | exact HB.out)) hb); clear HO_9; clear HO_359000; clear BK358; clear HB; have HO_9 := n0_; have HO_359000 := n1_; have HO373 := n2_; have BK358 := n3_; have HB := n4_; clear n0_ n1_ n2_ n3_ n4_; clear hb ho32)); try go_wp2_with (first | ((with_reducible refine gate_dst (N := 70) rfl ?_); (try (refine gate_guard (by rfl) ?_; dsimp only)); refine Kd.R_lit (Kd.int .i64) _ 2 ?hg (N := 70) ?hd (xs := ([] : List Int)) (inner := []) (ok := fun _ => True) (okp := fun _ => True) ?hr ?hp (fun _ hk => hk) trivial (Below.refl _ _) (Nat.le_refl _) (by simp) ?_; (case hd => rfl); (case hg => rfl); (case hr => first | (go_simp; done) | (go_simp; rfl)); (case hp => exact (Reps.none _ _)); intro v372 w31 ho32 hb hg_ hnew_; clear hg_ hnew_; (first | rw [← Ny371.out] at ho32 | (simp only [Int.reduceToNat] at ho32; rw [← Ny371.out] at ho32)); have n0_ := Aside0.mk (Kd.R_elder' (by (with_reducible repeat (first | apply Kd.R_alloc | apply Kd.R_drewN | apply Kd.R_drew)); exact HO_9.out) (Kd.R_base ho32) hb); have n1_ := Aside0.mk (Kd.S_elder' (by (with_reducible repeat (first | apply Kd.S_alloc | apply Kd.S_drewN | apply Kd.S_drew)); exact HO_359000.out) (Kd.R_base ho32) hb); have n2_ := Aside0.mk (Kd.R_lower (Kd.R_new' ho32 (Kd.R_lt (by (with_reducible repeat (first | apply Kd.R_alloc | apply Kd.R_drewN | apply Kd.R_drew)); exact HO_9.out))) (below_size (by repeat (first | (with_reducible first | exact HB.out | apply below_alloc | apply pw_below_drewN | apply below_drew1 | refine below_set ?_ GE358.out) | exact HB.out)))); have n3_ := Aside0.mk (blk_below (g := gb358) (o := .cells #[.slice Ao14 t355.length co14] 29 (0, 0)) (by (with_reducible repeat (first | refine blk_drewN ?_ _ | refine blk_drew ?_ | refine blk_alloc ?_ _)); exact BK358.out) hb); have n4_ := Aside0.mk (below_step (by repeat (first | (with_reducible first | exact HB.out | apply below_alloc | apply pw_below_drewN | apply below_drew1 | refine below_set ?_ GE358.out) | exact HB.out)) hb); clear HO_9; clear HO_359000; clear BK358; clear HB; have HO_9 := n0_; have HO_359000 := n1_; have HO373 := n2_; have BK358 := n3_; have HB := n4_; clear n0_ n1_ n2_ n3_ n4_; clear hb ho32)))
          go_loopg [13, 14] kj10 (fun kq v13 v14 w' => ∃ (x13_2 : List Int) (x14_2 : Int), v14 = .int .i64 x14_2 ∧ Aside0 (laws_FnCodeVectors.l0 kq l1 (wrap64 (1 + t359)) (wrap64 ((wrap64 (1 + t359)) + t360)) (wrap64 (1 + t361)) t362 t365 x13_2 x14_2 t355 = some r) ∧ Aside0 (kq ≤ kj10) ∧ Aside0 (Kd.R (Kd.int .i64) 2 w' w.heap.size (fun k_ => some k_ ≠ (v13 : Value).ownBlock) v363 t362) ∧ Aside0 (Kd.R (Kd.int .i64) 2 w' w.heap.size (fun k_ => some k_ ≠ (v363 : Value).ownBlock) v13 x13_2) ∧ Aside0 (Kd.S (Kd.slice 2 (Kd.int .i64)) 26 w' w.heap.size (fun k_ => some k_ ≠ (v363 : Value).ownBlock ∧ some k_ ≠ (v13 : Value).ownBlock) (.slice Ao14 t355.length co14) t355) ∧ Aside0 (w'.heap[gb358]? = some (.cells #[(.slice Ao14 t355.length co14)] 29 (0, 0))) ∧ Aside0 (Below w.heap.size w w'))
          case atStart => exact ⟨(y371), (0), (by first | rfl | (simp; done) | (simp [*]; done)), H', ⟨Nat.le_refl _⟩, ⟨by (with_reducible repeat (first | apply Kd.R_alloc | apply Kd.R_drewN | apply Kd.R_drew)); exact Kd.R_mono HO_9.out (fun _ hk => hk.2)⟩, ⟨by (with_reducible repeat (first | apply Kd.R_alloc | apply Kd.R_drewN | apply Kd.R_drew)); exact Kd.R_mono HO373.out (fun _ hk => hk.2)⟩, ⟨by (with_reducible repeat (first | apply Kd.S_alloc | apply Kd.S_drewN | apply Kd.S_drew)); exact HO_359000.out⟩, ⟨by (with_reducible repeat (first | refine blk_drewN ?_ _ | refine blk_drew ?_ | refine blk_alloc ?_ _)); exact BK358.out⟩, ⟨by repeat (first | (with_reducible first | exact HB.out | apply below_alloc | apply pw_below_drewN | apply below_drew1 | refine below_set ?_ GE358.out) | exact HB.out)⟩⟩
          case round =>
            clear H'
            try clear c1
            try clear c2
            try clear p2
            try clear c3
            try clear c4
            try clear c5
            try clear p6
            try clear c19
            try clear c19b0
            try clear c19b1
            try clear c19b2
            try clear c20
            try clear c22
            try clear c30
            try clear hcz15_0
            try clear hcz17_0
            try clear hcz23_0
            try clear hcz26_0
            try clear hcz27_0
            try clear hfz15_0
            try clear hfz17_0
            try clear hfz23_0
            try clear hfz26_0
            try clear hfz27_0
            try clear p2
            try clear p6
            obtain ⟨x13_2, x14_2, rfl, HA, HK2, HO_9, HO_13, HO_359000, BK358, HB⟩ := hrel
            cases gk with
            | zero => exact absurd HA.out (by simp [laws_FnCodeVectors.l0])
            | succ k2 =>
              have H := HA.out
              clear HA
              simp only [laws_FnCodeVectors.l0] at H
              by_cases c33 : x14_2 < (t355.length : Int)
              · rw [if_pos c33] at H
                have c33b0 : decide (x14_2 < (t355.length : Int)) = true := decide_eq_true c33
                clear c33
                replace H := Option.bind_eq_some_iff.mp H
                obtain ⟨t374, A340, H⟩ := H
                replace H : (if x13_2.length < 17592186044416 then (laws_FnCodeVectors.l0 k2 l1 (wrap64 (1 + t359)) (wrap64 ((wrap64 (1 + t359)) + t360)) (wrap64 (1 + t361)) t362 t365 (x13_2 ++ [t374]) (wrap64 (x14_2 + 1)) t355) else (none)) = some r := H
                have A34 := Aside0.mk A340
                clear A340
                by_cases c35 : x13_2.length < 17592186044416
                · rw [if_pos c35] at H
                  have LMc35 := Aside0.mk c35
                  clear c35
                  obtain ⟨y375, hy375⟩ : ∃ y_ : List Int, y_ = (x13_2 ++ [t374]) := ⟨_, rfl⟩
                  replace H : (laws_FnCodeVectors.l0 k2 l1 (wrap64 (1 + t359)) (wrap64 ((wrap64 (1 + t359)) + t360)) (wrap64 (1 + t361)) t362 t365 y375 (wrap64 (x14_2 + 1)) t355) = some r := by first | (rw [hy375]; with_reducible exact H) | (have H2_ := (Option.bind_some _ _).symm.trans H; rw [hy375]; with_reducible exact H2_) | (have H2_ := (Option.bind_some _ _).symm.trans H; with_reducible exact H2_) | with_reducible exact H | (rw [hy375]; exact H) | exact H
                  have Ny375 := Aside0.mk hy375
                  clear hy375
                  have H' := Aside0.mk H
                  clear H
                  have hcz36_0 : wr.cell? ⟨gb358, 0, none⟩ = some (.slice Ao14 t355.length co14) := (blk_cell BK358.out 0).trans rfl
                  have hfz36_0 := blk_frozen BK358.out 0
                  go_wp2_with (first | (go_at_call 18; (with_reducible refine (laws_r8At.calls _ _ l1 (wrap64 (x14_2 + 3)) (wrap64 ((wrap64 (1 + t361)) + 1)) t374 _ ?side1 ?side2 A34.out).mono ?_); (case side1 => repeat (first | exact (Kd.C_below HR1.out HB.out) | (with_reducible refine Kd.C_alloc ?_ _) | (with_reducible refine Kd.C_drewN ?_ _) | (with_reducible refine Kd.C_drew ?_))); (case side2 => exact HC1.out); rintro e w' ⟨rfl, ⟨nd, rfl⟩⟩; (try first | exact ⟨rfl, _, World.drewN_drewN _ _ _⟩ | exact ⟨rfl, _, Eq.trans (World.drewN_drewN _ _ _) (congrArg (World.drewN _) (Nat.add_assoc _ _ _))⟩)) | ((with_reducible refine gate_builtin (b := .append) (xs := #[.tmp 78, .tmp 85]) rfl ?_); (try (refine gate_guard (by rfl) ?_; dsimp only)); at_builtin; refine Kd.R_append (Kd.int .i64) (w0 := w) w.heap.size rfl (.tmp 78) (.tmp 85) 26 2 (.int .i64 0) 8 rfl Try.underlying26 info2 rfl (by decide) (by omega) u13 x13_2 t374 [.int .i64 t374] (fun k_ => some k_ ≠ (v363 : Value).ownBlock) (fun _ => False) rfl rfl ?aP (fun _ hk => hk.elim) ?aF ?aO ?aB ?aS ?aL ?_; (case aP => exact rfl); (case aB => exact (by repeat (first | (with_reducible first | exact HB.out | apply below_alloc | apply pw_below_drewN | apply below_drew1 | refine below_set ?_ GE358.out) | exact HB.out))); (case aF => exact (fun k_ hk => Kd.fresh' (Kd.R_lt (by (with_reducible repeat (first | apply Kd.R_alloc | apply Kd.R_drewN | apply Kd.R_drew)); exact HO_9.out)) k_ hk)); (case aO => exact (by (with_reducible repeat (first | apply Kd.R_alloc | apply Kd.R_drewN | apply Kd.R_drew)); exact HO_13.out)); (case aS => exact (below_size (by repeat (first | (with_reducible first | exact HB.out | apply below_alloc | apply pw_below_drewN | apply below_drew1 | refine below_set ?_ GE358.out) | exact HB.out)))); (case aL => have := LMc35.out; omega); intro v376 w37 ho hb hg hat; rw [← Ny375.out] at ho; have n0_ := Aside0.mk (Kd.R_after (ok := (fun _ => True)) (by (with_reducible repeat (first | apply Kd.R_alloc | apply Kd.R_drewN | apply Kd.R_drew)); exact Kd.R_mono HO_9.out (fun _ hk => ⟨trivial, hk⟩)) hg hat); have n1_ := Aside0.mk (Kd.S_after (ok := (fun k_ => some k_ ≠ (v363 : Value).ownBlock)) (by (with_reducible repeat (first | apply Kd.S_alloc | apply Kd.S_drewN | apply Kd.S_drew)); exact HO_359000.out) hg hat); have n2_ := Aside0.mk (blk_grown (g := gb358) (o := .cells #[.slice Ao14 t355.length co14] 29 (0, 0)) (by (with_reducible repeat (first | refine blk_drewN ?_ _ | refine blk_drew ?_ | refine blk_alloc ?_ _)); exact BK358.out) hg (Kd.R_ne HO_13.out BK358.out (by decide))); have n3_ := Aside0.mk (hb); have n4_ := Aside0.mk (ho); clear HO_9; clear HO_359000; clear BK358; clear HB; clear HO_13; have HO_9 := n0_; have HO_359000 := n1_; have BK358 := n2_; have HB := n3_; have HO377 := n4_; clear n0_ n1_ n2_ n3_ n4_; clear ho hb hg hat))
                  repeat (go_quiet (first | (go_at_call 18; (with_reducible refine (laws_r8At.calls _ _ l1 (wrap64 (x14_2 + 3)) (wrap64 ((wrap64 (1 + t361)) + 1)) t374 _ ?side1 ?side2 A34.out).mono ?_); (case side1 => repeat (first | exact (Kd.C_below HR1.out HB.out) | (with_reducible refine Kd.C_alloc ?_ _) | (with_reducible refine Kd.C_drewN ?_ _) | (with_reducible refine Kd.C_drew ?_))); (case side2 => exact HC1.out); rintro e w' ⟨rfl, ⟨nd, rfl⟩⟩; (try first | exact ⟨rfl, _, World.drewN_drewN _ _ _⟩ | exact ⟨rfl, _, Eq.trans (World.drewN_drewN _ _ _) (congrArg (World.drewN _) (Nat.add_assoc _ _ _))⟩)) | ((with_reducible refine gate_builtin (b := .append) (xs := #[.tmp 78, .tmp 85]) rfl ?_); (try (refine gate_guard (by rfl) ?_; dsimp only)); at_builtin; refine Kd.R_append (Kd.int .i64) (w0 := w) w.heap.size rfl (.tmp 78) (.tmp 85) 26 2 (.int .i64 0) 8 rfl Try.underlying26 info2 rfl (by decide) (by omega) u13 x13_2 t374 [.int .i64 t374] (fun k_ => some k_ ≠ (v363 : Value).ownBlock) (fun _ => False) rfl rfl ?aP (fun _ hk => hk.elim) ?aF ?aO ?aB ?aS ?aL ?_; (case aP => exact rfl); (case aB => exact (by repeat (first | (with_reducible first | exact HB.out | apply below_alloc | apply pw_below_drewN | apply below_drew1 | refine below_set ?_ GE358.out) | exact HB.out))); (case aF => exact (fun k_ hk => Kd.fresh' (Kd.R_lt (by (with_reducible repeat (first | apply Kd.R_alloc | apply Kd.R_drewN | apply Kd.R_drew)); exact HO_9.out)) k_ hk)); (case aO => exact (by (with_reducible repeat (first | apply Kd.R_alloc | apply Kd.R_drewN | apply Kd.R_drew)); exact HO_13.out)); (case aS => exact (below_size (by repeat (first | (with_reducible first | exact HB.out | apply below_alloc | apply pw_below_drewN | apply below_drew1 | refine below_set ?_ GE358.out) | exact HB.out)))); (case aL => have := LMc35.out; omega); intro v376 w37 ho hb hg hat; rw [← Ny375.out] at ho; have n0_ := Aside0.mk (Kd.R_after (ok := (fun _ => True)) (by (with_reducible repeat (first | apply Kd.R_alloc | apply Kd.R_drewN | apply Kd.R_drew)); exact Kd.R_mono HO_9.out (fun _ hk => ⟨trivial, hk⟩)) hg hat); have n1_ := Aside0.mk (Kd.S_after (ok := (fun k_ => some k_ ≠ (v363 : Value).ownBlock)) (by (with_reducible repeat (first | apply Kd.S_alloc | apply Kd.S_drewN | apply Kd.S_drew)); exact HO_359000.out) hg hat); have n2_ := Aside0.mk (blk_grown (g := gb358) (o := .cells #[.slice Ao14 t355.length co14] 29 (0, 0)) (by (with_reducible repeat (first | refine blk_drewN ?_ _ | refine blk_drew ?_ | refine blk_alloc ?_ _)); exact BK358.out) hg (Kd.R_ne HO_13.out BK358.out (by decide))); have n3_ := Aside0.mk (hb); have n4_ := Aside0.mk (ho); clear HO_9; clear HO_359000; clear BK358; clear HB; clear HO_13; have HO_9 := n0_; have HO_359000 := n1_; have BK358 := n2_; have HB := n3_; have HO377 := n4_; clear n0_ n1_ n2_ n3_ n4_; clear ho hb hg hat)); try go_wp2_with (first | (go_at_call 18; (with_reducible refine (laws_r8At.calls _ _ l1 (wrap64 (x14_2 + 3)) (wrap64 ((wrap64 (1 + t361)) + 1)) t374 _ ?side1 ?side2 A34.out).mono ?_); (case side1 => repeat (first | exact (Kd.C_below HR1.out HB.out) | (with_reducible refine Kd.C_alloc ?_ _) | (with_reducible refine Kd.C_drewN ?_ _) | (with_reducible refine Kd.C_drew ?_))); (case side2 => exact HC1.out); rintro e w' ⟨rfl, ⟨nd, rfl⟩⟩; (try first | exact ⟨rfl, _, World.drewN_drewN _ _ _⟩ | exact ⟨rfl, _, Eq.trans (World.drewN_drewN _ _ _) (congrArg (World.drewN _) (Nat.add_assoc _ _ _))⟩)) | ((with_reducible refine gate_builtin (b := .append) (xs := #[.tmp 78, .tmp 85]) rfl ?_); (try (refine gate_guard (by rfl) ?_; dsimp only)); at_builtin; refine Kd.R_append (Kd.int .i64) (w0 := w) w.heap.size rfl (.tmp 78) (.tmp 85) 26 2 (.int .i64 0) 8 rfl Try.underlying26 info2 rfl (by decide) (by omega) u13 x13_2 t374 [.int .i64 t374] (fun k_ => some k_ ≠ (v363 : Value).ownBlock) (fun _ => False) rfl rfl ?aP (fun _ hk => hk.elim) ?aF ?aO ?aB ?aS ?aL ?_; (case aP => exact rfl); (case aB => exact (by repeat (first | (with_reducible first | exact HB.out | apply below_alloc | apply pw_below_drewN | apply below_drew1 | refine below_set ?_ GE358.out) | exact HB.out))); (case aF => exact (fun k_ hk => Kd.fresh' (Kd.R_lt (by (with_reducible repeat (first | apply Kd.R_alloc | apply Kd.R_drewN | apply Kd.R_drew)); exact HO_9.out)) k_ hk)); (case aO => exact (by (with_reducible repeat (first | apply Kd.R_alloc | apply Kd.R_drewN | apply Kd.R_drew)); exact HO_13.out)); (case aS => exact (below_size (by repeat (first | (with_reducible first | exact HB.out | apply below_alloc | apply pw_below_drewN | apply below_drew1 | refine below_set ?_ GE358.out) | exact HB.out)))); (case aL => have := LMc35.out; omega); intro v376 w37 ho hb hg hat; rw [← Ny375.out] at ho; have n0_ := Aside0.mk (Kd.R_after (ok := (fun _ => True)) (by (with_reducible repeat (first | apply Kd.R_alloc | apply Kd.R_drewN | apply Kd.R_drew)); exact Kd.R_mono HO_9.out (fun _ hk => ⟨trivial, hk⟩)) hg hat); have n1_ := Aside0.mk (Kd.S_after (ok := (fun k_ => some k_ ≠ (v363 : Value).ownBlock)) (by (with_reducible repeat (first | apply Kd.S_alloc | apply Kd.S_drewN | apply Kd.S_drew)); exact HO_359000.out) hg hat); have n2_ := Aside0.mk (blk_grown (g := gb358) (o := .cells #[.slice Ao14 t355.length co14] 29 (0, 0)) (by (with_reducible repeat (first | refine blk_drewN ?_ _ | refine blk_drew ?_ | refine blk_alloc ?_ _)); exact BK358.out) hg (Kd.R_ne HO_13.out BK358.out (by decide))); have n3_ := Aside0.mk (hb); have n4_ := Aside0.mk (ho); clear HO_9; clear HO_359000; clear BK358; clear HB; clear HO_13; have HO_9 := n0_; have HO_359000 := n1_; have BK358 := n2_; have HB := n3_; have HO377 := n4_; clear n0_ n1_ n2_ n3_ n4_; clear ho hb hg hat)))
                  go_roundg k2
                  case measure => have := HJ10.out; have := HK2.out; omega
                  case rel => exact ⟨(y375), (wrap64 (x14_2 + 1)), (by first | rfl | (simp; done) | (simp [*]; done)), H', ⟨by have := HJ10.out; have := HK2.out; omega⟩, ⟨by (with_reducible repeat (first | apply Kd.R_alloc | apply Kd.R_drewN | apply Kd.R_drew)); exact Kd.R_mono HO_9.out (fun _ hk => hk.2)⟩, ⟨by (with_reducible repeat (first | apply Kd.R_alloc | apply Kd.R_drewN | apply Kd.R_drew)); exact HO377.out⟩, ⟨by (with_reducible repeat (first | apply Kd.S_alloc | apply Kd.S_drewN | apply Kd.S_drew)); exact HO_359000.out⟩, ⟨by (with_reducible repeat (first | refine blk_drewN ?_ _ | refine blk_drew ?_ | refine blk_alloc ?_ _)); exact BK358.out⟩, ⟨by repeat (first | (with_reducible first | exact HB.out | apply below_alloc | apply pw_below_drewN | apply below_drew1 | refine below_set ?_ GE358.out) | exact HB.out)⟩⟩
                · rw [if_neg c35] at H
                  exact absurd H (by simp)
              · rw [if_neg c33] at H
                have c33b0 : decide (x14_2 < (t355.length : Int)) = false := decide_eq_false c33
                clear c33
                replace H := Option.bind_eq_some_iff.mp H
                obtain ⟨t378, A380, H⟩ := H
                replace H : (if t378 = true then (laws_FnCodeVectors.j2 k2 (wrap64 (1 + t361)) t362 t365 x13_2 t378 (!t365) t355) else (laws_FnCodeVectors.j2 k2 (wrap64 (1 + t361)) t362 t365 x13_2 t378 false t355)) = some r := H
                have A38 := Aside0.mk A380
                clear A380
                have HC39 := Aside0.mk H
                clear H
                have hcz40_0 : wr.cell? ⟨gb358, 0, none⟩ = some (.slice Ao14 t355.length co14) := (blk_cell BK358.out 0).trans rfl
                have hfz40_0 := blk_frozen BK358.out 0
                obtain ⟨Ao41, co41, eo41⟩ := Kd.R_slice HO_13.out
                subst eo41
                go_upto_region 17 with (first | (go_at_call 22; (with_reducible refine (impl_IsCodeVector.calls k2 _ _ t355 (wrap64 (1 + t359)) (wrap64 ((wrap64 (1 + t359)) + t360)) _ _ x13_2 t378 _ ?side1 ?side2 ?side3 ?side4 A38.out).mono ?_); (case side1 => repeat (first | exact (Kd.S_reads' HO_359000.out).2.2 | (with_reducible refine Kd.C_alloc ?_ _) | (with_reducible refine Kd.C_drewN ?_ _) | (with_reducible refine Kd.C_drew ?_))); (case side2 => exact (Kd.S_reads' HO_359000.out).2.1); (case side3 => repeat (first | exact (Kd.R_reads' HO_13.out).2.2 | (with_reducible refine Kd.C_alloc ?_ _) | (with_reducible refine Kd.C_drewN ?_ _) | (with_reducible refine Kd.C_drew ?_))); (case side4 => exact (Kd.R_reads' HO_13.out).2.1); rintro e w42 ⟨rfl, hb⟩; have n0_ := Aside0.mk (Kd.R_below (by (with_reducible repeat (first | apply Kd.R_alloc | apply Kd.R_drewN | apply Kd.R_drew)); exact HO_9.out) hb); have n1_ := Aside0.mk (Kd.R_below (by (with_reducible repeat (first | apply Kd.R_alloc | apply Kd.R_drewN | apply Kd.R_drew)); exact HO_13.out) hb); have n2_ := Aside0.mk (Kd.S_below (by (with_reducible repeat (first | apply Kd.S_alloc | apply Kd.S_drewN | apply Kd.S_drew)); exact HO_359000.out) hb); have n3_ := Aside0.mk (blk_below (g := gb358) (o := .cells #[.slice Ao14 t355.length co14] 29 (0, 0)) (by (with_reducible repeat (first | refine blk_drewN ?_ _ | refine blk_drew ?_ | refine blk_alloc ?_ _)); exact BK358.out) hb); have n4_ := Aside0.mk (below_step (by repeat (first | (with_reducible first | exact HB.out | apply below_alloc | apply pw_below_drewN | apply below_drew1 | refine below_set ?_ GE358.out) | exact HB.out)) hb); clear HO_9; clear HO_13; clear HO_359000; clear BK358; clear HB; have HO_9 := n0_; have HO_13 := n1_; have HO_359000 := n2_; have BK358 := n3_; have HB := n4_; clear n0_ n1_ n2_ n3_ n4_; (try clear hb); (try clear hb2); (try clear hk); (try clear hi)))
                repeat (go_quiet (first | (go_at_call 22; (with_reducible refine (impl_IsCodeVector.calls k2 _ _ t355 (wrap64 (1 + t359)) (wrap64 ((wrap64 (1 + t359)) + t360)) _ _ x13_2 t378 _ ?side1 ?side2 ?side3 ?side4 A38.out).mono ?_); (case side1 => repeat (first | exact (Kd.S_reads' HO_359000.out).2.2 | (with_reducible refine Kd.C_alloc ?_ _) | (with_reducible refine Kd.C_drewN ?_ _) | (with_reducible refine Kd.C_drew ?_))); (case side2 => exact (Kd.S_reads' HO_359000.out).2.1); (case side3 => repeat (first | exact (Kd.R_reads' HO_13.out).2.2 | (with_reducible refine Kd.C_alloc ?_ _) | (with_reducible refine Kd.C_drewN ?_ _) | (with_reducible refine Kd.C_drew ?_))); (case side4 => exact (Kd.R_reads' HO_13.out).2.1); rintro e w42 ⟨rfl, hb⟩; have n0_ := Aside0.mk (Kd.R_below (by (with_reducible repeat (first | apply Kd.R_alloc | apply Kd.R_drewN | apply Kd.R_drew)); exact HO_9.out) hb); have n1_ := Aside0.mk (Kd.R_below (by (with_reducible repeat (first | apply Kd.R_alloc | apply Kd.R_drewN | apply Kd.R_drew)); exact HO_13.out) hb); have n2_ := Aside0.mk (Kd.S_below (by (with_reducible repeat (first | apply Kd.S_alloc | apply Kd.S_drewN | apply Kd.S_drew)); exact HO_359000.out) hb); have n3_ := Aside0.mk (blk_below (g := gb358) (o := .cells #[.slice Ao14 t355.length co14] 29 (0, 0)) (by (with_reducible repeat (first | refine blk_drewN ?_ _ | refine blk_drew ?_ | refine blk_alloc ?_ _)); exact BK358.out) hb); have n4_ := Aside0.mk (below_step (by repeat (first | (with_reducible first | exact HB.out | apply below_alloc | apply pw_below_drewN | apply below_drew1 | refine below_set ?_ GE358.out) | exact HB.out)) hb); clear HO_9; clear HO_13; clear HO_359000; clear BK358; clear HB; have HO_9 := n0_; have HO_13 := n1_; have HO_359000 := n2_; have BK358 := n3_; have HB := n4_; clear n0_ n1_ n2_ n3_ n4_; (try clear hb); (try clear hb2); (try clear hk); (try clear hi))); go_upto_region 17 with (first | (go_at_call 22; (with_reducible refine (impl_IsCodeVector.calls k2 _ _ t355 (wrap64 (1 + t359)) (wrap64 ((wrap64 (1 + t359)) + t360)) _ _ x13_2 t378 _ ?side1 ?side2 ?side3 ?side4 A38.out).mono ?_); (case side1 => repeat (first | exact (Kd.S_reads' HO_359000.out).2.2 | (with_reducible refine Kd.C_alloc ?_ _) | (with_reducible refine Kd.C_drewN ?_ _) | (with_reducible refine Kd.C_drew ?_))); (case side2 => exact (Kd.S_reads' HO_359000.out).2.1); (case side3 => repeat (first | exact (Kd.R_reads' HO_13.out).2.2 | (with_reducible refine Kd.C_alloc ?_ _) | (with_reducible refine Kd.C_drewN ?_ _) | (with_reducible refine Kd.C_drew ?_))); (case side4 => exact (Kd.R_reads' HO_13.out).2.1); rintro e w42 ⟨rfl, hb⟩; have n0_ := Aside0.mk (Kd.R_below (by (with_reducible repeat (first | apply Kd.R_alloc | apply Kd.R_drewN | apply Kd.R_drew)); exact HO_9.out) hb); have n1_ := Aside0.mk (Kd.R_below (by (with_reducible repeat (first | apply Kd.R_alloc | apply Kd.R_drewN | apply Kd.R_drew)); exact HO_13.out) hb); have n2_ := Aside0.mk (Kd.S_below (by (with_reducible repeat (first | apply Kd.S_alloc | apply Kd.S_drewN | apply Kd.S_drew)); exact HO_359000.out) hb); have n3_ := Aside0.mk (blk_below (g := gb358) (o := .cells #[.slice Ao14 t355.length co14] 29 (0, 0)) (by (with_reducible repeat (first | refine blk_drewN ?_ _ | refine blk_drew ?_ | refine blk_alloc ?_ _)); exact BK358.out) hb); have n4_ := Aside0.mk (below_step (by repeat (first | (with_reducible first | exact HB.out | apply below_alloc | apply pw_below_drewN | apply below_drew1 | refine below_set ?_ GE358.out) | exact HB.out)) hb); clear HO_9; clear HO_13; clear HO_359000; clear BK358; clear HB; have HO_9 := n0_; have HO_13 := n1_; have HO_359000 := n2_; have BK358 := n3_; have HB := n4_; clear n0_ n1_ n2_ n3_ n4_; (try clear hb); (try clear hb2); (try clear hk); (try clear hi))))
                (try simp only [Act.put, List.setIfInBounds_toArray, List.set_cons_zero, List.set_cons_succ])
                go_cut [96] (fun v96 wc => ∃ (kq : Nat) (x96_38 : Bool), v96 = .bool x96_38 ∧ Aside0 (laws_FnCodeVectors.j2 kq (wrap64 (1 + t361)) t362 t365 x13_2 t378 x96_38 t355 = some r) ∧ Aside0 (kq ≤ k2) ∧ Aside0 (Kd.R (Kd.int .i64) 2 wc w.heap.size (fun k_ => some k_ ≠ ((.slice Ao41 x13_2.length co41) : Value).ownBlock) v363 t362) ∧ Aside0 (Kd.R (Kd.int .i64) 2 wc w.heap.size (fun k_ => some k_ ≠ (v363 : Value).ownBlock) (.slice Ao41 x13_2.length co41) x13_2) ∧ Aside0 (Kd.S (Kd.slice 2 (Kd.int .i64)) 26 wc w.heap.size (fun k_ => some k_ ≠ (v363 : Value).ownBlock ∧ some k_ ≠ ((.slice Ao41 x13_2.length co41) : Value).ownBlock) (.slice Ao14 t355.length co14) t355) ∧ Aside0 (wc.heap[gb358]? = some (.cells #[(.slice Ao14 t355.length co14)] 29 (0, 0))) ∧ Aside0 (Below w.heap.size w wc))
                case first =>
                  have H := HC39.out
                  clear HC39
                  by_cases c43 : t378 = true
                  · subst c43
                    have H1 : (laws_FnCodeVectors.j2 k2 (wrap64 (1 + t361)) t362 t365 x13_2 true (!t365) t355) = some r := by rw [if_pos rfl] at H; exact H
                    clear H
                    have H := H1
                    clear H1
                    have H' := Aside0.mk H
                    clear H
                    go_wp2
                    repeat (go_quiet (fail); try go_wp2)
                    go_meet
                    case rel => exact ⟨_, (!t365), (by first | rfl | (simp; done) | (simp [*]; done)), H', ⟨by have := HJ10.out; have := HK2.out; first | omega | exact Nat.le_refl _⟩, ⟨by (with_reducible repeat (first | apply Kd.R_alloc | apply Kd.R_drewN | apply Kd.R_drew)); exact HO_9.out⟩, ⟨by (with_reducible repeat (first | apply Kd.R_alloc | apply Kd.R_drewN | apply Kd.R_drew)); exact HO_13.out⟩, ⟨by (with_reducible repeat (first | apply Kd.S_alloc | apply Kd.S_drewN | apply Kd.S_drew)); exact HO_359000.out⟩, ⟨by (with_reducible repeat (first | refine blk_drewN ?_ _ | refine blk_drew ?_ | refine blk_alloc ?_ _)); exact BK358.out⟩, ⟨by repeat (first | (with_reducible first | exact HB.out | apply below_alloc | apply pw_below_drewN | apply below_drew1 | refine below_set ?_ GE358.out) | exact HB.out)⟩⟩
                  · replace c43 := Bool.eq_false_iff.mpr c43
                    subst c43
                    have H1 : (laws_FnCodeVectors.j2 k2 (wrap64 (1 + t361)) t362 t365 x13_2 false false t355) = some r := by rw [if_neg (show ¬ (false = true) by decide)] at H; exact H
                    clear H
                    have H := H1
                    clear H1
                    have H' := Aside0.mk H
                    clear H
                    go_wp2
                    repeat (go_quiet (fail); try go_wp2)
                    go_meet
                    case rel => exact ⟨_, (false), (by first | rfl | (simp; done) | (simp [*]; done)), H', ⟨by have := HJ10.out; have := HK2.out; first | omega | exact Nat.le_refl _⟩, ⟨by (with_reducible repeat (first | apply Kd.R_alloc | apply Kd.R_drewN | apply Kd.R_drew)); exact HO_9.out⟩, ⟨by (with_reducible repeat (first | apply Kd.R_alloc | apply Kd.R_drewN | apply Kd.R_drew)); exact HO_13.out⟩, ⟨by (with_reducible repeat (first | apply Kd.S_alloc | apply Kd.S_drewN | apply Kd.S_drew)); exact HO_359000.out⟩, ⟨by (with_reducible repeat (first | refine blk_drewN ?_ _ | refine blk_drew ?_ | refine blk_alloc ?_ _)); exact BK358.out⟩, ⟨by repeat (first | (with_reducible first | exact HB.out | apply below_alloc | apply pw_below_drewN | apply below_drew1 | refine below_set ?_ GE358.out) | exact HB.out)⟩⟩
                case rest =>
                  clear HC39
                  try clear c1
                  try clear c2
                  try clear p2
                  try clear c3
                  try clear c4
                  try clear c5
                  try clear p6
                  try clear c19
                  try clear c19b0
                  try clear c19b1
                  try clear c19b2
                  try clear c20
                  try clear c22
                  try clear c30
                  try clear c33
                  try clear c33b0
                  try clear c35
                  try clear c43
                  try clear hcz15_0
                  try clear hcz17_0
                  try clear hcz23_0
                  try clear hcz26_0
                  try clear hcz27_0
                  try clear hcz36_0
                  try clear hcz40_0
                  try clear hfz15_0
                  try clear hfz17_0
                  try clear hfz23_0
                  try clear hfz26_0
                  try clear hfz27_0
                  try clear hfz36_0
                  try clear hfz40_0
                  try clear p2
                  try clear p6
                  obtain ⟨kq, x96_38, rfl, HA, HJ38, HO_9, HO_13, HO_359000, BK358, HB⟩ := hcut
                  cases kq with
                  | zero => exact absurd HA.out (by simp [laws_FnCodeVectors.j2])
                  | succ kj38 =>
                    have H := HA.out
                    clear HA
                    simp only [laws_FnCodeVectors.j2] at H
                    by_cases c44 : x96_38 = true
                    · subst c44
                      have H1 : (some false) = some r := by rw [if_pos rfl] at H; exact H
                      clear H
                      have H := H1
                      clear H1
                      obtain rfl := Option.some.inj H
                      go_wp2
                      repeat (go_quiet (fail); try go_wp2)
                      go_ret
                      exact ⟨by first | rfl | (simp [errW_none, errW_some] <;> rfl) | (simp [*, errW_none, errW_some] <;> rfl), by repeat (first | (with_reducible first | exact HB.out | apply below_alloc | apply pw_below_drewN | apply below_drew1 | refine below_set ?_ GE358.out) | exact HB.out)⟩
                    · replace c44 := Bool.eq_false_iff.mpr c44
                      subst c44
                      have H1 : (laws_FnCodeVectors.l1 kj38 (wrap64 (1 + t361)) t362 t365 x13_2 t378 0 t355) = some r := by rw [if_neg (show ¬ (false = true) by decide)] at H; exact H
                      clear H
                      have H := H1
                      clear H1
                      have H' := Aside0.mk H
                      clear H
                      go_wp2
                      repeat (go_quiet (fail); try go_wp2)
                      go_loopg [16] kj38 (fun kq v16 w' => ∃ (x16_4 : Int), v16 = .int .i64 x16_4 ∧ Aside0 (laws_FnCodeVectors.l1 kq (wrap64 (1 + t361)) t362 t365 x13_2 t378 x16_4 t355 = some r) ∧ Aside0 (kq ≤ kj38) ∧ Aside0 (Kd.R (Kd.int .i64) 2 w' w.heap.size (fun k_ => some k_ ≠ ((.slice Ao41 x13_2.length co41) : Value).ownBlock) v363 t362) ∧ Aside0 (Kd.R (Kd.int .i64) 2 w' w.heap.size (fun k_ => some k_ ≠ (v363 : Value).ownBlock) (.slice Ao41 x13_2.length co41) x13_2) ∧ Aside0 (Kd.S (Kd.slice 2 (Kd.int .i64)) 26 w' w.heap.size (fun k_ => some k_ ≠ (v363 : Value).ownBlock ∧ some k_ ≠ ((.slice Ao41 x13_2.length co41) : Value).ownBlock) (.slice Ao14 t355.length co14) t355) ∧ Aside0 (w'.heap[gb358]? = some (.cells #[(.slice Ao14 t355.length co14)] 29 (0, 0))) ∧ Aside0 (Below w.heap.size w w'))
                      case atStart => exact ⟨(0), (by first | rfl | (simp; done) | (simp [*]; done)), H', ⟨Nat.le_refl _⟩, ⟨by (with_reducible repeat (first | apply Kd.R_alloc | apply Kd.R_drewN | apply Kd.R_drew)); exact HO_9.out⟩, ⟨by (with_reducible repeat (first | apply Kd.R_alloc | apply Kd.R_drewN | apply Kd.R_drew)); exact HO_13.out⟩, ⟨by (with_reducible repeat (first | apply Kd.S_alloc | apply Kd.S_drewN | apply Kd.S_drew)); exact HO_359000.out⟩, ⟨by (with_reducible repeat (first | refine blk_drewN ?_ _ | refine blk_drew ?_ | refine blk_alloc ?_ _)); exact BK358.out⟩, ⟨by repeat (first | (with_reducible first | exact HB.out | apply below_alloc | apply pw_below_drewN | apply below_drew1 | refine below_set ?_ GE358.out) | exact HB.out)⟩⟩
                      case round =>
                        clear H'
                        try clear c1
                        try clear c2
                        try clear p2
                        try clear c3
                        try clear c4
                        try clear c5
                        try clear p6
                        try clear c19
                        try clear c19b0
                        try clear c19b1
                        try clear c19b2
                        try clear c20
                        try clear c22
                        try clear c30
                        try clear c33
                        try clear c33b0
                        try clear c35
                        try clear c43
                        try clear c44
                        try clear hcz15_0
                        try clear hcz17_0
                        try clear hcz23_0
                        try clear hcz26_0
                        try clear hcz27_0
                        try clear hcz36_0
                        try clear hcz40_0
                        try clear hfz15_0
                        try clear hfz17_0
                        try clear hfz23_0
                        try clear hfz26_0
                        try clear hfz27_0
                        try clear hfz36_0
                        try clear hfz40_0
                        try clear p2
                        try clear p6
                        obtain ⟨x16_4, rfl, HA, HK4, HO_9, HO_13, HO_359000, BK358, HB⟩ := hrel
                        cases gk with
                        | zero => exact absurd HA.out (by simp [laws_FnCodeVectors.l1])
                        | succ k4 =>
                          have H := HA.out
                          clear HA
                          simp only [laws_FnCodeVectors.l1] at H
                          by_cases c45 : x16_4 < (x13_2.length : Int)
                          · rw [if_pos c45] at H
                            have c45b0 : decide (x16_4 < (x13_2.length : Int)) = true := decide_eq_true c45
                            clear c45
                            by_cases c46 : t378 = true
                            · subst c46
                              have H1 : (if 0 ≤ x16_4 then (if x16_4 < (t362.length : Int) then (if (rd x13_2 x16_4) > (rd t362 x16_4) then (some false) else (if t365 = true then (if (rd t362 x16_4) > (wrap64 (1 + t361)) then (some false) else (laws_FnCodeVectors.l1 k4 (wrap64 (1 + t361)) t362 t365 x13_2 true (wrap64 (x16_4 + 1)) t355)) else (laws_FnCodeVectors.l1 k4 (wrap64 (1 + t361)) t362 t365 x13_2 true (wrap64 (x16_4 + 1)) t355))) else (none)) else (none)) = some r := by rw [if_pos rfl] at H; exact H
                              clear H
                              have H := H1
                              clear H1
                              by_cases c47 : 0 ≤ x16_4
                              · rw [if_pos c47] at H
                                have c47b0 : decide (0 ≤ x16_4) = true := decide_eq_true c47
                                clear c47
                                by_cases c48 : x16_4 < (t362.length : Int)
                                · rw [if_pos c48] at H
                                  have c48b0 : decide (x16_4 < (t362.length : Int)) = true := decide_eq_true c48
                                  clear c48
                                  by_cases c49 : (rd x13_2 x16_4) > (rd t362 x16_4)
                                  · rw [if_pos c49] at H
                                    have c49b0 : decide ((rd t362 x16_4) < (rd x13_2 x16_4)) = true := decide_eq_true c49
                                    clear c49
                                    obtain rfl := Option.some.inj H
                                    have p379 : 0 ≤ (x16_4 : Int) := of_decide_eq_true (by first | (with_reducible assumption) | assumption)
                                    have q379 : x16_4 < (x13_2.length : Int) := of_decide_eq_true (by first | (with_reducible assumption) | assumption)
                                    obtain ⟨ad379, e379, hx379_0⟩ := Kd.at_int (Kd.R_reads' HO_13.out).2.2 x16_4 p379 q379
                                    cases e379
                                    replace p379 := eq_true p379
                                    replace q379 := eq_true q379
                                    obtain ⟨Ao50, co50, eo50⟩ := Kd.R_slice HO_9.out
                                    subst eo50
                                    have p380 : 0 ≤ (x16_4 : Int) := of_decide_eq_true (by first | (with_reducible assumption) | assumption)
                                    have q380 : x16_4 < (t362.length : Int) := of_decide_eq_true (by first | (with_reducible assumption) | assumption)
                                    obtain ⟨ad380, e380, hx380_0⟩ := Kd.at_int (Kd.R_reads' HO_9.out).2.2 x16_4 p380 q380
                                    cases e380
                                    replace p380 := eq_true p380
                                    replace q380 := eq_true q380
                                    go_wp2
                                    repeat (go_quiet (fail); try go_wp2)
                                    go_ret
                                    exact ⟨by first | rfl | (simp [errW_none, errW_some] <;> rfl) | (simp [*, errW_none, errW_some] <;> rfl), by repeat (first | (with_reducible first | exact HB.out | apply below_alloc | apply pw_below_drewN | apply below_drew1 | refine below_set ?_ GE358.out) | exact HB.out)⟩
                                  · rw [if_neg c49] at H
                                    have c49b0 : decide ((rd t362 x16_4) < (rd x13_2 x16_4)) = false := decide_eq_false c49
                                    clear c49
                                    by_cases c51 : t365 = true
                                    · subst c51
                                      have H1 : (if (rd t362 x16_4) > (wrap64 (1 + t361)) then (some false) else (laws_FnCodeVectors.l1 k4 (wrap64 (1 + t361)) t362 true x13_2 true (wrap64 (x16_4 + 1)) t355)) = some r := by rw [if_pos rfl] at H; exact H
                                      clear H
                                      have H := H1
                                      clear H1
                                      by_cases c52 : (rd t362 x16_4) > (wrap64 (1 + t361))
                                      · rw [if_pos c52] at H
                                        have c52b0 : decide ((wrap64 (1 + t361)) < (rd t362 x16_4)) = true := decide_eq_true c52
                                        clear c52
                                        obtain rfl := Option.some.inj H
                                        have p379 : 0 ≤ (x16_4 : Int) := of_decide_eq_true (by first | (with_reducible assumption) | assumption)
                                        have q379 : x16_4 < (x13_2.length : Int) := of_decide_eq_true (by first | (with_reducible assumption) | assumption)
                                        obtain ⟨ad379, e379, hx379_0⟩ := Kd.at_int (Kd.R_reads' HO_13.out).2.2 x16_4 p379 q379
                                        cases e379
                                        replace p379 := eq_true p379
                                        replace q379 := eq_true q379
                                        obtain ⟨Ao53, co53, eo53⟩ := Kd.R_slice HO_9.out
                                        subst eo53
                                        have p380 : 0 ≤ (x16_4 : Int) := of_decide_eq_true (by first | (with_reducible assumption) | assumption)
                                        have q380 : x16_4 < (t362.length : Int) := of_decide_eq_true (by first | (with_reducible assumption) | assumption)
                                        obtain ⟨ad380, e380, hx380_0⟩ := Kd.at_int (Kd.R_reads' HO_9.out).2.2 x16_4 p380 q380
                                        cases e380
                                        replace p380 := eq_true p380
                                        replace q380 := eq_true q380
                                        have p381 : 0 ≤ (x16_4 : Int) := of_decide_eq_true (by first | (with_reducible assumption) | assumption)
                                        have q381 : x16_4 < (t362.length : Int) := of_decide_eq_true (by first | (with_reducible assumption) | assumption)
                                        obtain ⟨ad381, e381, hx381_0⟩ := Kd.at_int (Kd.R_reads' HO_9.out).2.2 x16_4 p381 q381
                                        obtain rfl : ad380 = ad381 := (by injection e381)
                                        replace p381 := eq_true p381
                                        replace q381 := eq_true q381
                                        go_wp2
                                        repeat (go_quiet (fail); try go_wp2)
                                        go_ret
                                        exact ⟨by first | rfl | (simp [errW_none, errW_some] <;> rfl) | (simp [*, errW_none, errW_some] <;> rfl), by repeat (first | (with_reducible first | exact HB.out | apply below_alloc | apply pw_below_drewN | apply below_drew1 | refine below_set ?_ GE358.out) | exact HB.out)⟩
                                      · rw [if_neg c52] at H
                                        have c52b0 : decide ((wrap64 (1 + t361)) < (rd t362 x16_4)) = false := decide_eq_false c52
                                        clear c52
                                        have H' := Aside0.mk H
                                        clear H
                                        have p379 : 0 ≤ (x16_4 : Int) := of_decide_eq_true (by first | (with_reducible assumption) | assumption)
                                        have q379 : x16_4 < (x13_2.length : Int) := of_decide_eq_true (by first | (with_reducible assumption) | assumption)
                                        obtain ⟨ad379, e379, hx379_0⟩ := Kd.at_int (Kd.R_reads' HO_13.out).2.2 x16_4 p379 q379
                                        cases e379
                                        replace p379 := eq_true p379
                                        replace q379 := eq_true q379
                                        obtain ⟨Ao54, co54, eo54⟩ := Kd.R_slice HO_9.out
                                        subst eo54
                                        have p380 : 0 ≤ (x16_4 : Int) := of_decide_eq_true (by first | (with_reducible assumption) | assumption)
                                        have q380 : x16_4 < (t362.length : Int) := of_decide_eq_true (by first | (with_reducible assumption) | assumption)
                                        obtain ⟨ad380, e380, hx380_0⟩ := Kd.at_int (Kd.R_reads' HO_9.out).2.2 x16_4 p380 q380
                                        cases e380
                                        replace p380 := eq_true p380
                                        replace q380 := eq_true q380
                                        have p381 : 0 ≤ (x16_4 : Int) := of_decide_eq_true (by first | (with_reducible assumption) | assumption)
                                        have q381 : x16_4 < (t362.length : Int) := of_decide_eq_true (by first | (with_reducible assumption) | assumption)
                                        obtain ⟨ad381, e381, hx381_0⟩ := Kd.at_int (Kd.R_reads' HO_9.out).2.2 x16_4 p381 q381
                                        obtain rfl : ad380 = ad381 := (by injection e381)
                                        replace p381 := eq_true p381
                                        replace q381 := eq_true q381
                                        go_wp2
                                        repeat (go_quiet (fail); try go_wp2)
                                        go_roundg k4
                                        case measure => have := HJ10.out; have := HK2.out; have := HJ38.out; have := HK4.out; omega
                                        case rel => exact ⟨(wrap64 (x16_4 + 1)), (by first | rfl | (simp; done) | (simp [*]; done)), H', ⟨by have := HJ10.out; have := HK2.out; have := HJ38.out; have := HK4.out; omega⟩, ⟨by (with_reducible repeat (first | apply Kd.R_alloc | apply Kd.R_drewN | apply Kd.R_drew)); exact HO_9.out⟩, ⟨by (with_reducible repeat (first | apply Kd.R_alloc | apply Kd.R_drewN | apply Kd.R_drew)); exact HO_13.out⟩, ⟨by (with_reducible repeat (first | apply Kd.S_alloc | apply Kd.S_drewN | apply Kd.S_drew)); exact HO_359000.out⟩, ⟨by (with_reducible repeat (first | refine blk_drewN ?_ _ | refine blk_drew ?_ | refine blk_alloc ?_ _)); exact BK358.out⟩, ⟨by repeat (first | (with_reducible first | exact HB.out | apply below_alloc | apply pw_below_drewN | apply below_drew1 | refine below_set ?_ GE358.out) | exact HB.out)⟩⟩
                                    · replace c51 := Bool.eq_false_iff.mpr c51
                                      subst c51
                                      have H1 : (laws_FnCodeVectors.l1 k4 (wrap64 (1 + t361)) t362 false x13_2 true (wrap64 (x16_4 + 1)) t355) = some r := by rw [if_neg (show ¬ (false = true) by decide)] at H; exact H
                                      clear H
                                      have H := H1
                                      clear H1
                                      have H' := Aside0.mk H
                                      clear H
                                      have p379 : 0 ≤ (x16_4 : Int) := of_decide_eq_true (by first | (with_reducible assumption) | assumption)
                                      have q379 : x16_4 < (x13_2.length : Int) := of_decide_eq_true (by first | (with_reducible assumption) | assumption)
                                      obtain ⟨ad379, e379, hx379_0⟩ := Kd.at_int (Kd.R_reads' HO_13.out).2.2 x16_4 p379 q379
                                      cases e379
                                      replace p379 := eq_true p379
                                      replace q379 := eq_true q379
                                      obtain ⟨Ao55, co55, eo55⟩ := Kd.R_slice HO_9.out
                                      subst eo55
                                      have p380 : 0 ≤ (x16_4 : Int) := of_decide_eq_true (by first | (with_reducible assumption) | assumption)
                                      have q380 : x16_4 < (t362.length : Int) := of_decide_eq_true (by first | (with_reducible assumption) | assumption)
                                      obtain ⟨ad380, e380, hx380_0⟩ := Kd.at_int (Kd.R_reads' HO_9.out).2.2 x16_4 p380 q380
                                      cases e380
                                      replace p380 := eq_true p380
                                      replace q380 := eq_true q380
                                      go_wp2
                                      repeat (go_quiet (fail); try go_wp2)
                                      go_roundg k4
                                      case measure => have := HJ10.out; have := HK2.out; have := HJ38.out; have := HK4.out; omega
                                      case rel => exact ⟨(wrap64 (x16_4 + 1)), (by first | rfl | (simp; done) | (simp [*]; done)), H', ⟨by have := HJ10.out; have := HK2.out; have := HJ38.out; have := HK4.out; omega⟩, ⟨by (with_reducible repeat (first | apply Kd.R_alloc | apply Kd.R_drewN | apply Kd.R_drew)); exact HO_9.out⟩, ⟨by (with_reducible repeat (first | apply Kd.R_alloc | apply Kd.R_drewN | apply Kd.R_drew)); exact HO_13.out⟩, ⟨by (with_reducible repeat (first | apply Kd.S_alloc | apply Kd.S_drewN | apply Kd.S_drew)); exact HO_359000.out⟩, ⟨by (with_reducible repeat (first | refine blk_drewN ?_ _ | refine blk_drew ?_ | refine blk_alloc ?_ _)); exact BK358.out⟩, ⟨by repeat (first | (with_reducible first | exact HB.out | apply below_alloc | apply pw_below_drewN | apply below_drew1 | refine below_set ?_ GE358.out) | exact HB.out)⟩⟩
                                · rw [if_neg c48] at H
                                  exact absurd H (by simp)
                              · rw [if_neg c47] at H
                                exact absurd H (by simp)
                            · replace c46 := Bool.eq_false_iff.mpr c46
                              subst c46
                              have H1 : (if t365 = true then (if 0 ≤ x16_4 then (if x16_4 < (t362.length : Int) then (if (rd t362 x16_4) > (wrap64 (1 + t361)) then (some false) else (laws_FnCodeVectors.l1 k4 (wrap64 (1 + t361)) t362 t365 x13_2 false (wrap64 (x16_4 + 1)) t355)) else (none)) else (none)) else (laws_FnCodeVectors.l1 k4 (wrap64 (1 + t361)) t362 t365 x13_2 false (wrap64 (x16_4 + 1)) t355)) = some r := by rw [if_neg (show ¬ (false = true) by decide)] at H; exact H
                              clear H
                              have H := H1
                              clear H1
                              by_cases c56 : t365 = true
                              · subst c56
                                have H1 : (if 0 ≤ x16_4 then (if x16_4 < (t362.length : Int) then (if (rd t362 x16_4) > (wrap64 (1 + t361)) then (some false) else (laws_FnCodeVectors.l1 k4 (wrap64 (1 + t361)) t362 true x13_2 false (wrap64 (x16_4 + 1)) t355)) else (none)) else (none)) = some r := by rw [if_pos rfl] at H; exact H
                                clear H
                                have H := H1
                                clear H1
                                by_cases c57 : 0 ≤ x16_4
                                · rw [if_pos c57] at H
                                  have c57b0 : decide (0 ≤ x16_4) = true := decide_eq_true c57
                                  clear c57
                                  by_cases c58 : x16_4 < (t362.length : Int)
                                  · rw [if_pos c58] at H
                                    have c58b0 : decide (x16_4 < (t362.length : Int)) = true := decide_eq_true c58
                                    clear c58
                                    by_cases c59 : (rd t362 x16_4) > (wrap64 (1 + t361))
                                    · rw [if_pos c59] at H
                                      have c59b0 : decide ((wrap64 (1 + t361)) < (rd t362 x16_4)) = true := decide_eq_true c59
                                      clear c59
                                      obtain rfl := Option.some.inj H
                                      obtain ⟨Ao60, co60, eo60⟩ := Kd.R_slice HO_9.out
                                      subst eo60
                                      have p382 : 0 ≤ (x16_4 : Int) := of_decide_eq_true (by first | (with_reducible assumption) | assumption)
                                      have q382 : x16_4 < (t362.length : Int) := of_decide_eq_true (by first | (with_reducible assumption) | assumption)
                                      obtain ⟨ad382, e382, hx382_0⟩ := Kd.at_int (Kd.R_reads' HO_9.out).2.2 x16_4 p382 q382
                                      cases e382
                                      replace p382 := eq_true p382
                                      replace q382 := eq_true q382
                                      go_wp2
                                      repeat (go_quiet (fail); try go_wp2)
                                      go_ret
                                      exact ⟨by first | rfl | (simp [errW_none, errW_some] <;> rfl) | (simp [*, errW_none, errW_some] <;> rfl), by repeat (first | (with_reducible first | exact HB.out | apply below_alloc | apply pw_below_drewN | apply below_drew1 | refine below_set ?_ GE358.out) | exact HB.out)⟩
                                    · rw [if_neg c59] at H
                                      have c59b0 : decide ((wrap64 (1 + t361)) < (rd t362 x16_4)) = false := decide_eq_false c59
                                      clear c59
                                      have H' := Aside0.mk H
                                      clear H
                                      obtain ⟨Ao61, co61, eo61⟩ := Kd.R_slice HO_9.out
                                      subst eo61
                                      have p382 : 0 ≤ (x16_4 : Int) := of_decide_eq_true (by first | (with_reducible assumption) | assumption)
                                      have q382 : x16_4 < (t362.length : Int) := of_decide_eq_true (by first | (with_reducible assumption) | assumption)
                                      obtain ⟨ad382, e382, hx382_0⟩ := Kd.at_int (Kd.R_reads' HO_9.out).2.2 x16_4 p382 q382
                                      cases e382
                                      replace p382 := eq_true p382
                                      replace q382 := eq_true q382
                                      go_wp2
                                      repeat (go_quiet (fail); try go_wp2)
                                      go_roundg k4
                                      case measure => have := HJ10.out; have := HK2.out; have := HJ38.out; have := HK4.out; omega
                                      case rel => exact ⟨(wrap64 (x16_4 + 1)), (by first | rfl | (simp; done) | (simp [*]; done)), H', ⟨by have := HJ10.out; have := HK2.out; have := HJ38.out; have := HK4.out; omega⟩, ⟨by (with_reducible repeat (first | apply Kd.R_alloc | apply Kd.R_drewN | apply Kd.R_drew)); exact HO_9.out⟩, ⟨by (with_reducible repeat (first | apply Kd.R_alloc | apply Kd.R_drewN | apply Kd.R_drew)); exact HO_13.out⟩, ⟨by (with_reducible repeat (first | apply Kd.S_alloc | apply Kd.S_drewN | apply Kd.S_drew)); exact HO_359000.out⟩, ⟨by (with_reducible repeat (first | refine blk_drewN ?_ _ | refine blk_drew ?_ | refine blk_alloc ?_ _)); exact BK358.out⟩, ⟨by repeat (first | (with_reducible first | exact HB.out | apply below_alloc | apply pw_below_drewN | apply below_drew1 | refine below_set ?_ GE358.out) | exact HB.out)⟩⟩
                                  · rw [if_neg c58] at H
                                    exact absurd H (by simp)
                                · rw [if_neg c57] at H
                                  exact absurd H (by simp)
                              · replace c56 := Bool.eq_false_iff.mpr c56
                                subst c56
                                have H1 : (laws_FnCodeVectors.l1 k4 (wrap64 (1 + t361)) t362 false x13_2 false (wrap64 (x16_4 + 1)) t355) = some r := by rw [if_neg (show ¬ (false = true) by decide)] at H; exact H
                                clear H
                                have H := H1
                                clear H1
                                have H' := Aside0.mk H
                                clear H
                                go_wp2
                                repeat (go_quiet (fail); try go_wp2)
                                go_roundg k4
                                case measure => have := HJ10.out; have := HK2.out; have := HJ38.out; have := HK4.out; omega
                                case rel => exact ⟨(wrap64 (x16_4 + 1)), (by first | rfl | (simp; done) | (simp [*]; done)), H', ⟨by have := HJ10.out; have := HK2.out; have := HJ38.out; have := HK4.out; omega⟩, ⟨by (with_reducible repeat (first | apply Kd.R_alloc | apply Kd.R_drewN | apply Kd.R_drew)); exact HO_9.out⟩, ⟨by (with_reducible repeat (first | apply Kd.R_alloc | apply Kd.R_drewN | apply Kd.R_drew)); exact HO_13.out⟩, ⟨by (with_reducible repeat (first | apply Kd.S_alloc | apply Kd.S_drewN | apply Kd.S_drew)); exact HO_359000.out⟩, ⟨by (with_reducible repeat (first | refine blk_drewN ?_ _ | refine blk_drew ?_ | refine blk_alloc ?_ _)); exact BK358.out⟩, ⟨by repeat (first | (with_reducible first | exact HB.out | apply below_alloc | apply pw_below_drewN | apply below_drew1 | refine below_set ?_ GE358.out) | exact HB.out)⟩⟩
                          · rw [if_neg c45] at H
                            have c45b0 : decide (x16_4 < (x13_2.length : Int)) = false := decide_eq_false c45
                            clear c45
                            replace H := Option.bind_eq_some_iff.mp H
                            obtain ⟨t383, A620, H⟩ := H
                            replace H : (some t383) = some r := H
                            have A62 := Aside0.mk A620
                            clear A620
                            obtain rfl := Option.some.inj H
                            have hcz63_0 : wr.cell? ⟨gb358, 0, none⟩ = some (.slice Ao14 t355.length co14) := (blk_cell BK358.out 0).trans rfl
                            have hfz63_0 := blk_frozen BK358.out 0
                            go_wp2_with (first | (go_at_call 19; (with_reducible refine (impl_ValidGraph.calls k4 _ _ t355 t383 _ ?side1 ?side2 A62.out).mono ?_); (case side1 => repeat (first | exact (Kd.S_reads' HO_359000.out).2.2 | (with_reducible refine Kd.C_alloc ?_ _) | (with_reducible refine Kd.C_drewN ?_ _) | (with_reducible refine Kd.C_drew ?_))); (case side2 => exact (Kd.S_reads' HO_359000.out).2.1); rintro e w64 ⟨rfl, hb⟩; have n0_ := Aside0.mk (Kd.R_below (by (with_reducible repeat (first | apply Kd.R_alloc | apply Kd.R_drewN | apply Kd.R_drew)); exact HO_9.out) hb); have n1_ := Aside0.mk (Kd.R_below (by (with_reducible repeat (first | apply Kd.R_alloc | apply Kd.R_drewN | apply Kd.R_drew)); exact HO_13.out) hb); have n2_ := Aside0.mk (Kd.S_below (by (with_reducible repeat (first | apply Kd.S_alloc | apply Kd.S_drewN | apply Kd.S_drew)); exact HO_359000.out) hb); have n3_ := Aside0.mk (blk_below (g := gb358) (o := .cells #[.slice Ao14 t355.length co14] 29 (0, 0)) (by (with_reducible repeat (first | refine blk_drewN ?_ _ | refine blk_drew ?_ | refine blk_alloc ?_ _)); exact BK358.out) hb); have n4_ := Aside0.mk (below_step (by repeat (first | (with_reducible first | exact HB.out | apply below_alloc | apply pw_below_drewN | apply below_drew1 | refine below_set ?_ GE358.out) | exact HB.out)) hb); clear HO_9; clear HO_13; clear HO_359000; clear BK358; clear HB; have HO_9 := n0_; have HO_13 := n1_; have HO_359000 := n2_; have BK358 := n3_; have HB := n4_; clear n0_ n1_ n2_ n3_ n4_; (try clear hb); (try clear hb2); (try clear hk); (try clear hi)))
                            repeat (go_quiet (first | (go_at_call 19; (with_reducible refine (impl_ValidGraph.calls k4 _ _ t355 t383 _ ?side1 ?side2 A62.out).mono ?_); (case side1 => repeat (first | exact (Kd.S_reads' HO_359000.out).2.2 | (with_reducible refine Kd.C_alloc ?_ _) | (with_reducible refine Kd.C_drewN ?_ _) | (with_reducible refine Kd.C_drew ?_))); (case side2 => exact (Kd.S_reads' HO_359000.out).2.1); rintro e w64 ⟨rfl, hb⟩; have n0_ := Aside0.mk (Kd.R_below (by (with_reducible repeat (first | apply Kd.R_alloc | apply Kd.R_drewN | apply Kd.R_drew)); exact HO_9.out) hb); have n1_ := Aside0.mk (Kd.R_below (by (with_reducible repeat (first | apply Kd.R_alloc | apply Kd.R_drewN | apply Kd.R_drew)); exact HO_13.out) hb); have n2_ := Aside0.mk (Kd.S_below (by (with_reducible repeat (first | apply Kd.S_alloc | apply Kd.S_drewN | apply Kd.S_drew)); exact HO_359000.out) hb); have n3_ := Aside0.mk (blk_below (g := gb358) (o := .cells #[.slice Ao14 t355.length co14] 29 (0, 0)) (by (with_reducible repeat (first | refine blk_drewN ?_ _ | refine blk_drew ?_ | refine blk_alloc ?_ _)); exact BK358.out) hb); have n4_ := Aside0.mk (below_step (by repeat (first | (with_reducible first | exact HB.out | apply below_alloc | apply pw_below_drewN | apply below_drew1 | refine below_set ?_ GE358.out) | exact HB.out)) hb); clear HO_9; clear HO_13; clear HO_359000; clear BK358; clear HB; have HO_9 := n0_; have HO_13 := n1_; have HO_359000 := n2_; have BK358 := n3_; have HB := n4_; clear n0_ n1_ n2_ n3_ n4_; (try clear hb); (try clear hb2); (try clear hk); (try clear hi))); try go_wp2_with (first | (go_at_call 19; (with_reducible refine (impl_ValidGraph.calls k4 _ _ t355 t383 _ ?side1 ?side2 A62.out).mono ?_); (case side1 => repeat (first | exact (Kd.S_reads' HO_359000.out).2.2 | (with_reducible refine Kd.C_alloc ?_ _) | (with_reducible refine Kd.C_drewN ?_ _) | (with_reducible refine Kd.C_drew ?_))); (case side2 => exact (Kd.S_reads' HO_359000.out).2.1); rintro e w64 ⟨rfl, hb⟩; have n0_ := Aside0.mk (Kd.R_below (by (with_reducible repeat (first | apply Kd.R_alloc | apply Kd.R_drewN | apply Kd.R_drew)); exact HO_9.out) hb); have n1_ := Aside0.mk (Kd.R_below (by (with_reducible repeat (first | apply Kd.R_alloc | apply Kd.R_drewN | apply Kd.R_drew)); exact HO_13.out) hb); have n2_ := Aside0.mk (Kd.S_below (by (with_reducible repeat (first | apply Kd.S_alloc | apply Kd.S_drewN | apply Kd.S_drew)); exact HO_359000.out) hb); have n3_ := Aside0.mk (blk_below (g := gb358) (o := .cells #[.slice Ao14 t355.length co14] 29 (0, 0)) (by (with_reducible repeat (first | refine blk_drewN ?_ _ | refine blk_drew ?_ | refine blk_alloc ?_ _)); exact BK358.out) hb); have n4_ := Aside0.mk (below_step (by repeat (first | (with_reducible first | exact HB.out | apply below_alloc | apply pw_below_drewN | apply below_drew1 | refine below_set ?_ GE358.out) | exact HB.out)) hb); clear HO_9; clear HO_13; clear HO_359000; clear BK358; clear HB; have HO_9 := n0_; have HO_13 := n1_; have HO_359000 := n2_; have BK358 := n3_; have HB := n4_; clear n0_ n1_ n2_ n3_ n4_; (try clear hb); (try clear hb2); (try clear hk); (try clear hi))))
                            go_ret
                            exact ⟨by first | rfl | (simp [errW_none, errW_some] <;> rfl) | (simp [*, errW_none, errW_some] <;> rfl), by repeat (first | (with_reducible first | exact HB.out | apply below_alloc | apply pw_below_drewN | apply below_drew1 | refine below_set ?_ GE358.out) | exact HB.out)⟩

/-- THE ONE PURE STATEMENT of laws_FnCodeVectors. -/
def laws_FnCodeVectors.Pure : Prop := ∀ (l0 : List Int) (l1 : List Int), l0.length ≤ 9223372036854775807 → (∀ x ∈ l0, (Lit.int .u8 x).wf = true) → l1.length ≤ 9223372036854775807 → (∀ x ∈ l1, (Lit.int .u8 x).wf = true) → ∃ k, laws_FnCodeVectors.f k l0 l1 = some true

end Go.Proofs.Ytanndepgepgfoab.QFnCodeVectors
