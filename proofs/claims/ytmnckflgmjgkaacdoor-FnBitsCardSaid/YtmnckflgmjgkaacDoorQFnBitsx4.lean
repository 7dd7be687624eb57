/-
Each Go function that this text names answers as the Lean function beside it says, wherever that one answers; conditions: the arguments lie in memory as each theorem states it.
-/
import Derived.Test.YtmnckflgmjgkaacDoorQFnBitsx0
import Derived.Test.YtmnckflgmjgkaacDoorQFnBitsx1
import Derived.Test.YtmnckflgmjgkaacDoorQFnBitsx2
import Derived.Test.YtmnckflgmjgkaacDoorQFnBitsx3
namespace Go.Proofs.YtmnckflgmjgkaacDoor.QFnBits
open Go.RowKit Go.Proofs.YtmnckflgmjgkaacDoorW.PrintWords Go.Proofs.YtmnckflgmjgkaacDoorW.PrintLast Go.Proofs.YtmnckflgmjgkaacDoorW.PrintMore
attribute [local go_sem] max2_int min2_int max_two min_two max_three min_three max_four min_four   -- for this text's walks alone
set_option linter.unusedVariables false
set_option linter.unusedSimpArgs false

/-! ### laws_FnBits: function 7 -/
mutual
def laws_FnBits.l0 : Nat → List Int → ByteArray → Int → Bool → ByteArray → Bool → List Int → Bool → Int → Bool → ByteArray → Bool → ByteArray → Bool → List Int → Int → Option (Bool)
  | 0, _, _, _, _, _, _, _, _, _, _, _, _, _, _, _, _ => none
  | k + 1, x1, x5, x6, x7, x8, x9, x10, x11, x12, x13, x14, x15, x16, x17, x18, x19 => if x19 < (x5.size : Int) then ((laws_b10At.f x1 x19 2).bind fun t200 => (if x18.length < 140737488355328 then (laws_FnBits.l0 k x1 x5 x6 x7 x8 x9 x10 x11 x12 x13 x14 x15 x16 x17 (x18 ++ [(wrap64 (48 + t200)) % 256]) (wrap64 (x19 + 1))) else (none))) else ((impl_XorBits.f k x5 (strOfNums x18)).bind fun bt204 => ((impl_NumberOfBits.f k (strOfNums x18)).bind fun bt206 => ((impl_ParityOf.f x6 bt206.1).bind fun bt208 => (if x7 = true then (if x9 = true then (if x11 = true then (if x13 = true then (if x15 = true then (if x17 = true then (if bt204.2 = true then (if bt206.2 = true then (if bt208.2 = true then (if x8.toList = x5.toList then (if x16.toList = x5.toList then ((laws_b10Sum.f k x10).bind fun t210 => (if t210 = (x5.size : Int) then (if (bt204.1.size : Int) = (x5.size : Int) then (laws_FnBits.j1 k x5 x10 x12 x14 x18 bt204.1 bt208.1 ((x14.size : Int) != (x5.size : Int))) else (laws_FnBits.j1 k x5 x10 x12 x14 x18 bt204.1 bt208.1 true)) else (laws_FnBits.j1 k x5 x10 x12 x14 x18 bt204.1 bt208.1 true))) else (laws_FnBits.j1 k x5 x10 x12 x14 x18 bt204.1 bt208.1 true)) else (laws_FnBits.j1 k x5 x10 x12 x14 x18 bt204.1 bt208.1 true)) else (laws_FnBits.j1 k x5 x10 x12 x14 x18 bt204.1 bt208.1 true)) else (laws_FnBits.j1 k x5 x10 x12 x14 x18 bt204.1 bt208.1 true)) else (laws_FnBits.j1 k x5 x10 x12 x14 x18 bt204.1 bt208.1 true)) else (laws_FnBits.j1 k x5 x10 x12 x14 x18 bt204.1 bt208.1 true)) else (laws_FnBits.j1 k x5 x10 x12 x14 x18 bt204.1 bt208.1 true)) else (laws_FnBits.j1 k x5 x10 x12 x14 x18 bt204.1 bt208.1 true)) else (laws_FnBits.j1 k x5 x10 x12 x14 x18 bt204.1 bt208.1 true)) else (laws_FnBits.j1 k x5 x10 x12 x14 x18 bt204.1 bt208.1 true)) else (laws_FnBits.j1 k x5 x10 x12 x14 x18 bt204.1 bt208.1 true)))))
def laws_FnBits.j1 : Nat → ByteArray → List Int → Int → ByteArray → List Int → ByteArray → Int → Bool → Option (Bool)
  | 0, _, _, _, _, _, _, _, _ => none
  | k + 1, x5, x10, x12, x14, x18, x20, x24, x165 => if x165 = true then (some false) else (laws_FnBits.l1 k x5 x10 x12 x14 x18 x20 x24 0 0 0 0)
def laws_FnBits.l1 : Nat → ByteArray → List Int → Int → ByteArray → List Int → ByteArray → Int → Int → Int → Int → Int → Option (Bool)
  | 0, _, _, _, _, _, _, _, _, _, _, _ => none
  | k + 1, x5, x10, x12, x14, x18, x20, x24, x26, x27, x28, x29 => if x29 < (x5.size : Int) then (if 0 ≤ x29 then (if x29 < (x18.length : Int) then (if x29 < (x20.size : Int) then (if (((bt x5 x29) != (rd x18 x29)) != ((bt x20 x29) == 49)) = true then (laws_FnBits.j3 k x5 x10 x12 x14 x18 x20 x24 x26 x27 x28 x29 true) else (if 0 ≤ (wrap64 ((wrap64 ((x5.size : Int) - 1)) - x29)) then (if (wrap64 ((wrap64 ((x5.size : Int) - 1)) - x29)) < (x14.size : Int) then (laws_FnBits.j3 k x5 x10 x12 x14 x18 x20 x24 x26 x27 x28 x29 ((bt x14 (wrap64 ((wrap64 ((x5.size : Int) - 1)) - x29))) != (bt x5 x29))) else (none)) else (none))) else (none)) else (none)) else (none)) else (if x26 = x12 then (if x28 = (x10.length : Int) then (some (x24 == (Int.tmod x27 2))) else (some false)) else (some false))
def laws_FnBits.j3 : Nat → ByteArray → List Int → Int → ByteArray → List Int → ByteArray → Int → Int → Int → Int → Int → Bool → Option (Bool)
  | 0, _, _, _, _, _, _, _, _, _, _, _, _ => none
  | k + 1, x5, x10, x12, x14, x18, x20, x24, x26, x27, x28, x29, x197 => if x197 = true then (some false) else (if 0 ≤ x29 then (if x29 < (x5.size : Int) then (if (bt x5 x29) = 49 then (if x29 < (x18.length : Int) then (if (rd x18 x29) = 49 then (if x29 = 0 then (laws_FnBits.l1 k x5 x10 x12 x14 x18 x20 x24 (wrap64 (x26 + 1)) (wrap64 (x27 + 1)) (wrap64 (x28 + 1)) (wrap64 (x29 + 1))) else (if 0 ≤ (wrap64 (x29 - 1)) then (if (wrap64 (x29 - 1)) < (x5.size : Int) then (if (bt x5 x29) = (bt x5 (wrap64 (x29 - 1))) then (laws_FnBits.l1 k x5 x10 x12 x14 x18 x20 x24 (wrap64 (x26 + 1)) (wrap64 (x27 + 1)) x28 (wrap64 (x29 + 1))) else (laws_FnBits.l1 k x5 x10 x12 x14 x18 x20 x24 (wrap64 (x26 + 1)) (wrap64 (x27 + 1)) (wrap64 (x28 + 1)) (wrap64 (x29 + 1)))) else (none)) else (none))) else (if x29 = 0 then (laws_FnBits.l1 k x5 x10 x12 x14 x18 x20 x24 (wrap64 (x26 + 1)) x27 (wrap64 (x28 + 1)) (wrap64 (x29 + 1))) else (if 0 ≤ (wrap64 (x29 - 1)) then (if (wrap64 (x29 - 1)) < (x5.size : Int) then (if (bt x5 x29) = (bt x5 (wrap64 (x29 - 1))) then (laws_FnBits.l1 k x5 x10 x12 x14 x18 x20 x24 (wrap64 (x26 + 1)) x27 x28 (wrap64 (x29 + 1))) else (laws_FnBits.l1 k x5 x10 x12 x14 x18 x20 x24 (wrap64 (x26 + 1)) x27 (wrap64 (x28 + 1)) (wrap64 (x29 + 1)))) else (none)) else (none)))) else (none)) else (if x29 = 0 then (laws_FnBits.l1 k x5 x10 x12 x14 x18 x20 x24 x26 x27 (wrap64 (x28 + 1)) (wrap64 (x29 + 1))) else (if 0 ≤ (wrap64 (x29 - 1)) then (if (wrap64 (x29 - 1)) < (x5.size : Int) then (if (bt x5 x29) = (bt x5 (wrap64 (x29 - 1))) then (laws_FnBits.l1 k x5 x10 x12 x14 x18 x20 x24 x26 x27 x28 (wrap64 (x29 + 1))) else (laws_FnBits.l1 k x5 x10 x12 x14 x18 x20 x24 x26 x27 (wrap64 (x28 + 1)) (wrap64 (x29 + 1)))) else (none)) else (none)))) else (none)) else (none))
end
def laws_FnBits.f (k : Nat) (l0 : List Int) (l1 : List Int) : Option (Bool) := (laws_b10Long.f l0 l1).bind fun t181 => (if t181 = true then (some true) else ((spec_B10Bits.f k l0).bind fun t182 => ((impl_NumberOfBits.f k t182).bind fun bt183 => ((impl_BitsOf.f k bt183.1 (t182.size : Int)).bind fun bt185 => ((impl_RunLengths.f k t182).bind fun bt187 => ((impl_OnesOf.f t182).bind fun bt191 => ((impl_ReverseBits.f k t182).bind fun bt193 => ((impl_ReverseBits.f k bt193.1).bind fun bt195 => (laws_FnBits.l0 k l1 t182 bt183.1 bt183.2 bt185.1 bt185.2 bt187.1 bt187.2 bt191.1 bt191.2 bt193.1 bt193.2 bt195.1 bt195.2 (([] : List Int)) 0)))))))))
set_option maxHeartbeats 8000000 in
set_option maxRecDepth 100000 in
theorem laws_FnBits.calls (k : Nat) (A0 : Option Addr) (c0 : Nat) (l0 : List Int) (A1 : Option Addr) (c1 : Nat) (l1 : List Int) (r : Bool) (w : World) (hr0 : Kd.C (Kd.int .u8) w A0 l0.length l0) (hc0 : l0.length ≤ c0) (hr1 : Kd.C (Kd.int .u8) w A1 l1.length l1) (hc1 : l1.length ≤ c1) (h : laws_FnBits.f k l0 l1 = some r) :
    Calls Tryd.prog 7 #[.slice A0 l0.length c0, .slice A1 l1.length c1] w fun e w' => e = .returned (.bool r) ∧ Below w.heap.size w w' := by
  have HR0 := Aside0.mk hr0
  have HC0 := Aside0.mk hc0
  clear hr0 hc0
  have HR1 := Aside0.mk hr1
  have HC1 := Aside0.mk hc1
  clear hr1 hc1
  have HB := Aside0.mk (Below.refl w.heap.size w)
  have H : ((laws_b10Long.f l0 l1).bind fun t181 => (if t181 = true then (some true) else ((spec_B10Bits.f k l0).bind fun t182 => ((impl_NumberOfBits.f k t182).bind fun bt183 => ((impl_BitsOf.f k bt183.1 (t182.size : Int)).bind fun bt185 => ((impl_RunLengths.f k t182).bind fun bt187 => ((impl_OnesOf.f t182).bind fun bt191 => ((impl_ReverseBits.f k t182).bind fun bt193 => ((impl_ReverseBits.f k bt193.1).bind fun bt195 => (laws_FnBits.l0 k l1 t182 bt183.1 bt183.2 bt185.1 bt185.2 bt187.1 bt187.2 bt191.1 bt191.2 bt193.1 bt193.2 bt195.1 bt195.2 (([] : List Int)) 0)))))))))) = some r := h
  clear h
  replace H := Option.bind_eq_some_iff.mp H
  obtain ⟨t181, A30, H⟩ := H
  replace H : (if t181 = true then (some true) else ((spec_B10Bits.f k l0).bind fun t182 => ((impl_NumberOfBits.f k t182).bind fun bt183 => ((impl_BitsOf.f k bt183.1 (t182.size : Int)).bind fun bt185 => ((impl_RunLengths.f k t182).bind fun bt187 => ((impl_OnesOf.f t182).bind fun bt191 => ((impl_ReverseBits.f k t182).bind fun bt193 => ((impl_ReverseBits.f k bt193.1).bind fun bt195 => (laws_FnBits.l0 k l1 t182 bt183.1 bt183.2 bt185.1 bt185.2 bt187.1 bt187.2 bt191.1 bt191.2 bt193.1 bt193.2 bt195.1 bt195.2 (([] : List Int)) 0))))))))) = some r := H
  have A3 := Aside0.mk A30
  clear A30
  by_cases c4 : t181 = true
  · subst c4
    have H1 : (some true) = some r := by rw [if_pos rfl] at H; exact H
    clear H
    have H := H1
    clear H1
    as_aux_lemma =>
      obtain rfl := Option.some.inj H
      go_enter Tryd.func7, Tryd.ntmps7
      go_wp2_with (first | (go_at_call 17; (with_reducible refine (laws_b10Long.calls _ _ l0 _ _ l1 true _ ?side1 ?side2 ?side3 ?side4 A3.out).mono ?_); (case side1 => repeat (first | exact HR0.out | (with_reducible refine Kd.C_alloc ?_ _) | (with_reducible refine Kd.C_drewN ?_ _) | (with_reducible refine Kd.C_drew ?_))); (case side2 => exact HC0.out); (case side3 => repeat (first | exact HR1.out | (with_reducible refine Kd.C_alloc ?_ _) | (with_reducible refine Kd.C_drewN ?_ _) | (with_reducible refine Kd.C_drew ?_))); (case side4 => exact HC1.out); rintro e w' ⟨rfl, ⟨nd, rfl⟩⟩; (try first | exact ⟨rfl, _, World.drewN_drewN _ _ _⟩ | exact ⟨rfl, _, Eq.trans (World.drewN_drewN _ _ _) (congrArg (World.drewN _) (Nat.add_assoc _ _ _))⟩)))
      repeat (go_quiet (first | (go_at_call 17; (with_reducible refine (laws_b10Long.calls _ _ l0 _ _ l1 true _ ?side1 ?side2 ?side3 ?side4 A3.out).mono ?_); (case side1 => repeat (first | exact HR0.out | (with_reducible refine Kd.C_alloc ?_ _) | (with_reducible refine Kd.C_drewN ?_ _) | (with_reducible refine Kd.C_drew ?_))); (case side2 => exact HC0.out); (case side3 => repeat (first | exact HR1.out | (with_reducible refine Kd.C_alloc ?_ _) | (with_reducible refine Kd.C_drewN ?_ _) | (with_reducible refine Kd.C_drew ?_))); (case side4 => exact HC1.out); rintro e w' ⟨rfl, ⟨nd, rfl⟩⟩; (try first | exact ⟨rfl, _, World.drewN_drewN _ _ _⟩ | exact ⟨rfl, _, Eq.trans (World.drewN_drewN _ _ _) (congrArg (World.drewN _) (Nat.add_assoc _ _ _))⟩))); try go_wp2_with (first | (go_at_call 17; (with_reducible refine (laws_b10Long.calls _ _ l0 _ _ l1 true _ ?side1 ?side2 ?side3 ?side4 A3.out).mono ?_); (case side1 => repeat (first | exact HR0.out | (with_reducible refine Kd.C_alloc ?_ _) | (with_reducible refine Kd.C_drewN ?_ _) | (with_reducible refine Kd.C_drew ?_))); (case side2 => exact HC0.out); (case side3 => repeat (first | exact HR1.out | (with_reducible refine Kd.C_alloc ?_ _) | (with_reducible refine Kd.C_drewN ?_ _) | (with_reducible refine Kd.C_drew ?_))); (case side4 => exact HC1.out); rintro e w' ⟨rfl, ⟨nd, rfl⟩⟩; (try first | exact ⟨rfl, _, World.drewN_drewN _ _ _⟩ | exact ⟨rfl, _, Eq.trans (World.drewN_drewN _ _ _) (congrArg (World.drewN _) (Nat.add_assoc _ _ _))⟩))))
      go_ret
      exact ⟨by first | rfl | (simp [errW_none, errW_some] <;> rfl) | (simp [*, errW_none, errW_some] <;> rfl), by repeat (first | (with_reducible first | exact HB.out | apply below_alloc | apply pw_below_drewN | apply below_drew1) | exact HB.out)⟩
  · replace c4 := Bool.eq_false_iff.mpr c4
    subst c4
    have H1 : ((spec_B10Bits.f k l0).bind fun t182 => ((impl_NumberOfBits.f k t182).bind fun bt183 => ((impl_BitsOf.f k bt183.1 (t182.size : Int)).bind fun bt185 => ((impl_RunLengths.f k t182).bind fun bt187 => ((impl_OnesOf.f t182).bind fun bt191 => ((impl_ReverseBits.f k t182).bind fun bt193 => ((impl_ReverseBits.f k bt193.1).bind fun bt195 => (laws_FnBits.l0 k l1 t182 bt183.1 bt183.2 bt185.1 bt185.2 bt187.1 bt187.2 bt191.1 bt191.2 bt193.1 bt193.2 bt195.1 bt195.2 (([] : List Int)) 0)))))))) = some r := by rw [if_neg (show ¬ (false = true) by decide)] at H; exact H
    clear H
    have H := H1
    clear H1
    replace H := Option.bind_eq_some_iff.mp H
    obtain ⟨t182, A50, H⟩ := H
    replace H : ((impl_NumberOfBits.f k t182).bind fun bt183 => ((impl_BitsOf.f k bt183.1 (t182.size : Int)).bind fun bt185 => ((impl_RunLengths.f k t182).bind fun bt187 => ((impl_OnesOf.f t182).bind fun bt191 => ((impl_ReverseBits.f k t182).bind fun bt193 => ((impl_ReverseBits.f k bt193.1).bind fun bt195 => (laws_FnBits.l0 k l1 t182 bt183.1 bt183.2 bt185.1 bt185.2 bt187.1 bt187.2 bt191.1 bt191.2 bt193.1 bt193.2 bt195.1 bt195.2 (([] : List Int)) 0))))))) = some r := H
    have A5 := Aside0.mk A50
    clear A50
    replace H := Option.bind_eq_some_iff.mp H
    obtain ⟨⟨t183, t184⟩, A60, H⟩ := H
    replace H : ((impl_BitsOf.f k t183 (t182.size : Int)).bind fun bt185 => ((impl_RunLengths.f k t182).bind fun bt187 => ((impl_OnesOf.f t182).bind fun bt191 => ((impl_ReverseBits.f k t182).bind fun bt193 => ((impl_ReverseBits.f k bt193.1).bind fun bt195 => (laws_FnBits.l0 k l1 t182 t183 t184 bt185.1 bt185.2 bt187.1 bt187.2 bt191.1 bt191.2 bt193.1 bt193.2 bt195.1 bt195.2 (([] : List Int)) 0)))))) = some r := H
    have A6 := Aside0.mk A60
    clear A60
    replace H := Option.bind_eq_some_iff.mp H
    obtain ⟨⟨t185, t186⟩, A70, H⟩ := H
    replace H : ((impl_RunLengths.f k t182).bind fun bt187 => ((impl_OnesOf.f t182).bind fun bt191 => ((impl_ReverseBits.f k t182).bind fun bt193 => ((impl_ReverseBits.f k bt193.1).bind fun bt195 => (laws_FnBits.l0 k l1 t182 t183 t184 t185 t186 bt187.1 bt187.2 bt191.1 bt191.2 bt193.1 bt193.2 bt195.1 bt195.2 (([] : List Int)) 0))))) = some r := H
    have A7 := Aside0.mk A70
    clear A70
    replace H := Option.bind_eq_some_iff.mp H
    obtain ⟨⟨t187, t188⟩, A80, H⟩ := H
    replace H : ((impl_OnesOf.f t182).bind fun bt191 => ((impl_ReverseBits.f k t182).bind fun bt193 => ((impl_ReverseBits.f k bt193.1).bind fun bt195 => (laws_FnBits.l0 k l1 t182 t183 t184 t185 t186 t187 t188 bt191.1 bt191.2 bt193.1 bt193.2 bt195.1 bt195.2 (([] : List Int)) 0)))) = some r := H
    have A8 := Aside0.mk A80
    clear A80
    replace H := Option.bind_eq_some_iff.mp H
    obtain ⟨⟨t191, t192⟩, A90, H⟩ := H
    replace H : ((impl_ReverseBits.f k t182).bind fun bt193 => ((impl_ReverseBits.f k bt193.1).bind fun bt195 => (laws_FnBits.l0 k l1 t182 t183 t184 t185 t186 t187 t188 t191 t192 bt193.1 bt193.2 bt195.1 bt195.2 (([] : List Int)) 0))) = some r := H
    have A9 := Aside0.mk A90
    clear A90
    replace H := Option.bind_eq_some_iff.mp H
    obtain ⟨⟨t193, t194⟩, A100, H⟩ := H
    replace H : ((impl_ReverseBits.f k t193).bind fun bt195 => (laws_FnBits.l0 k l1 t182 t183 t184 t185 t186 t187 t188 t191 t192 t193 t194 bt195.1 bt195.2 (([] : List Int)) 0)) = some r := H
    have A10 := Aside0.mk A100
    clear A100
    replace H := Option.bind_eq_some_iff.mp H
    obtain ⟨⟨t195, t196⟩, A110, H⟩ := H
    replace H : (laws_FnBits.l0 k l1 t182 t183 t184 t185 t186 t187 t188 t191 t192 t193 t194 t195 t196 (([] : List Int)) 0) = some r := H
    have A11 := Aside0.mk A110
    clear A110
    obtain ⟨y197, hy197⟩ : ∃ y_ : List Int, y_ = (([] : List Int)) := ⟨_, rfl⟩
    replace H : (laws_FnBits.l0 k l1 t182 t183 t184 t185 t186 t187 t188 t191 t192 t193 t194 t195 t196 y197 0) = some r := by first | (rw [hy197]; with_reducible exact H) | (have H2_ := (Option.bind_some _ _).symm.trans H; rw [hy197]; with_reducible exact H2_) | (have H2_ := (Option.bind_some _ _).symm.trans H; with_reducible exact H2_) | with_reducible exact H | (rw [hy197]; exact H) | exact H
    have Ny197 := Aside0.mk hy197
    clear hy197
    have H' := Aside0.mk H
    clear H
    go_enter Tryd.func7, Tryd.ntmps7
    go_wp2_with (first | (go_at_call 17; (with_reducible refine (laws_b10Long.calls _ _ l0 _ _ l1 false _ ?side1 ?side2 ?side3 ?side4 A3.out).mono ?_); (case side1 => repeat (first | exact HR0.out | (with_reducible refine Kd.C_alloc ?_ _) | (with_reducible refine Kd.C_drewN ?_ _) | (with_reducible refine Kd.C_drew ?_))); (case side2 => exact HC0.out); (case side3 => repeat (first | exact HR1.out | (with_reducible refine Kd.C_alloc ?_ _) | (with_reducible refine Kd.C_drewN ?_ _) | (with_reducible refine Kd.C_drew ?_))); (case side4 => exact HC1.out); rintro e w' ⟨rfl, ⟨nd, rfl⟩⟩; (try first | exact ⟨rfl, _, World.drewN_drewN _ _ _⟩ | exact ⟨rfl, _, Eq.trans (World.drewN_drewN _ _ _) (congrArg (World.drewN _) (Nat.add_assoc _ _ _))⟩)) | (go_at_call 18; (with_reducible refine (spec_B10Bits.calls k _ _ l0 t182 _ ?side1 ?side2 A5.out).mono ?_); (case side1 => repeat (first | exact HR0.out | (with_reducible refine Kd.C_alloc ?_ _) | (with_reducible refine Kd.C_drewN ?_ _) | (with_reducible refine Kd.C_drew ?_))); (case side2 => exact HC0.out); rintro e w12 ⟨rfl, hb⟩; have n0_ := Aside0.mk (below_step (by repeat (first | (with_reducible first | exact HB.out | apply below_alloc | apply pw_below_drewN | apply below_drew1) | exact HB.out)) hb); clear HB; have HB := n0_; clear n0_; (try clear hb); (try clear hb2); (try clear hk); (try clear hi)) | (go_at_call 26; (with_reducible refine (impl_NumberOfBits.calls k t182 t183 t184 _ A6.out).mono ?_); rintro e w13 ⟨rfl, hb⟩; have n0_ := Aside0.mk (below_step (by repeat (first | (with_reducible first | exact HB.out | apply below_alloc | apply pw_below_drewN | apply below_drew1) | exact HB.out)) hb); clear HB; have HB := n0_; clear n0_; (try clear hb); (try clear hb2); (try clear hk); (try clear hi)) | (go_at_call 27; (with_reducible refine (impl_BitsOf.calls k t183 (t182.size : Int) t185 t186 _ A7.out).mono ?_); rintro e w14 ⟨rfl, hb⟩; have n0_ := Aside0.mk (below_step (by repeat (first | (with_reducible first | exact HB.out | apply below_alloc | apply pw_below_drewN | apply below_drew1) | exact HB.out)) hb); clear HB; have HB := n0_; clear n0_; (try clear hb); (try clear hb2); (try clear hk); (try clear hi)) | (go_at_call 28; (with_reducible refine (impl_RunLengths.calls k t182 t187 t188 _ A8.out).mono ?_); rintro e w15 ⟨v189, rfl, ho0, hb⟩; have n0_ := Aside0.mk (Kd.R_lower ho0 (below_size (by repeat (first | (with_reducible first | exact HB.out | apply below_alloc | apply pw_below_drewN | apply below_drew1) | exact HB.out)))); have n1_ := Aside0.mk (below_step (by repeat (first | (with_reducible first | exact HB.out | apply below_alloc | apply pw_below_drewN | apply below_drew1) | exact HB.out)) hb); clear HB; have HO190 := n0_; have HB := n1_; clear n0_ n1_; (try clear hb); (try clear hb2); (try clear hk); (try clear hi); (try clear ho0)) | (go_at_call 9; (with_reducible refine (impl_OnesOf.calls t182 t191 t192 _ A9.out).mono ?_); rintro e w16 ⟨rfl, hb⟩; have n0_ := Aside0.mk (Kd.R_below (by (with_reducible repeat (first | apply Kd.R_alloc | apply Kd.R_drewN | apply Kd.R_drew)); exact HO190.out) hb); have n1_ := Aside0.mk (below_step (by repeat (first | (with_reducible first | exact HB.out | apply below_alloc | apply pw_below_drewN | apply below_drew1) | exact HB.out)) hb); clear HO190; clear HB; have HO190 := n0_; have HB := n1_; clear n0_ n1_; (try clear hb); (try clear hb2); (try clear hk); (try clear hi)) | (go_at_call 29; (with_reducible refine (impl_ReverseBits.calls k t182 t193 t194 _ A10.out).mono ?_); rintro e w17 ⟨rfl, hb⟩; have n0_ := Aside0.mk (Kd.R_below (by (with_reducible repeat (first | apply Kd.R_alloc | apply Kd.R_drewN | apply Kd.R_drew)); exact HO190.out) hb); have n1_ := Aside0.mk (below_step (by repeat (first | (with_reducible first | exact HB.out | apply below_alloc | apply pw_below_drewN | apply below_drew1) | exact HB.out)) hb); clear HO190; clear HB; have HO190 := n0_; have HB := n1_; clear n0_ n1_; (try clear hb); (try clear hb2); (try clear hk); (try clear hi)) | (go_at_call 29; (with_reducible refine (impl_ReverseBits.calls k t193 t195 t196 _ A11.out).mono ?_); rintro e w18 ⟨rfl, hb⟩; have n0_ := Aside0.mk (Kd.R_below (by (with_reducible repeat (first | apply Kd.R_alloc | apply Kd.R_drewN | apply Kd.R_drew)); exact HO190.out) hb); have n1_ := Aside0.mk (below_step (by repeat (first | (with_reducible first | exact HB.out | apply below_alloc | apply pw_below_drewN | apply below_drew1) | exact HB.out)) hb); clear HO190; clear HB; have HO190 := n0_; have HB := n1_; clear n0_ n1_; (try clear hb); (try clear hb2); (try clear hk); (try clear hi)) | ((with_reducible refine gate_dst (N := 67) rfl ?_); (try (refine gate_guard (by rfl) ?_; dsimp only)); refine Kd.R_lit (Kd.int .u8) _ 5 ?hg (N := 67) ?hd (xs := ([] : List Int)) (inner := []) (ok := fun _ => True) (okp := fun _ => True) ?hr ?hp (fun _ hk => hk) trivial (Below.refl _ _) (Nat.le_refl _) (by simp) ?_; (case hd => rfl); (case hg => rfl); (case hr => first | (go_simp; done) | (go_simp; rfl)); (case hp => exact (Reps.none _ _)); intro v198 w19 ho20 hb hg_ hnew_; clear hg_ hnew_; (first | rw [← Ny197.out] at ho20 | (simp only [Int.reduceToNat] at ho20; rw [← Ny197.out] at ho20)); have n0_ := Aside0.mk (Kd.R_below (by (with_reducible repeat (first | apply Kd.R_alloc | apply Kd.R_drewN | apply Kd.R_drew)); exact HO190.out) hb); have n1_ := Aside0.mk (Kd.R_lower ho20 (below_size (by repeat (first | (with_reducible first | exact HB.out | apply below_alloc | apply pw_below_drewN | apply below_drew1) | exact HB.out)))); have n2_ := Aside0.mk (below_step (by repeat (first | (with_reducible first | exact HB.out | apply below_alloc | apply pw_below_drewN | apply below_drew1) | exact HB.out)) hb); clear HO190; clear HB; have HO190 := n0_; have HO199 := n1_; have HB := n2_; clear n0_ n1_ n2_; clear hb ho20))
    repeat (go_quiet (first | (go_at_call 17; (with_reducible refine (laws_b10Long.calls _ _ l0 _ _ l1 false _ ?side1 ?side2 ?side3 ?side4 A3.out).mono ?_); (case side1 => repeat (first | exact HR0.out | (with_reducible refine Kd.C_alloc ?_ _) | (with_reducible refine Kd.C_drewN ?_ _) | (with_reducible refine Kd.C_drew ?_))); (case side2 => exact HC0.out); (case side3 => repeat (first | exact HR1.out | (with_reducible refine Kd.C_alloc ?_ _) | (with_reducible refine Kd.C_drewN ?_ _) | (with_reducible refine Kd.C_drew ?_))); (case side4 => exact HC1.out); rintro e w' ⟨rfl, ⟨nd, rfl⟩⟩; (try first | exact ⟨rfl, _, World.drewN_drewN _ _ _⟩ | exact ⟨rfl, _, Eq.trans (World.drewN_drewN _ _ _) (congrArg (World.drewN _) (Nat.add_assoc _ _ _))⟩)) | (go_at_call 18; (with_reducible refine (spec_B10Bits.calls k _ _ l0 t182 _ ?side1 ?side2 A5.out).mono ?_); (case side1 => repeat (first | exact HR0.out | (with_reducible refine Kd.C_alloc ?_ _) | (with_reducible refine Kd.C_drewN ?_ _) | (with_reducible refine Kd.C_drew ?_))); (case side2 => exact HC0.out); rintro e w12 ⟨rfl, hb⟩; have n0_ := Aside0.mk (below_step (by repeat (first | (with_reducible first | exact HB.out | apply below_alloc | apply pw_below_drewN | apply below_drew1) | exact HB.out)) hb); clear HB; have HB := n0_; clear n0_; (try clear hb); (try clear hb2); (try clear hk); (try clear hi)) | (go_at_call 26; (with_reducible refine (impl_NumberOfBits.calls k t182 t183 t184 _ A6.out).mono ?_); rintro e w13 ⟨rfl, hb⟩; have n0_ := Aside0.mk (below_step (by repeat (first | (with_reducible first | exact HB.out | apply below_alloc | apply pw_below_drewN | apply below_drew1) | exact HB.out)) hb); clear HB; have HB := n0_; clear n0_; (try clear hb); (try clear hb2); (try clear hk); (try clear hi)) | (go_at_call 27; (with_reducible refine (impl_BitsOf.calls k t183 (t182.size : Int) t185 t186 _ A7.out).mono ?_); rintro e w14 ⟨rfl, hb⟩; have n0_ := Aside0.mk (below_step (by repeat (first | (with_reducible first | exact HB.out | apply below_alloc | apply pw_below_drewN | apply below_drew1) | exact HB.out)) hb); clear HB; have HB := n0_; clear n0_; (try clear hb); (try clear hb2); (try clear hk); (try clear hi)) | (go_at_call 28; (with_reducible refine (impl_RunLengths.calls k t182 t187 t188 _ A8.out).mono ?_); rintro e w15 ⟨v189, rfl, ho0, hb⟩; have n0_ := Aside0.mk (Kd.R_lower ho0 (below_size (by repeat (first | (with_reducible first | exact HB.out | apply below_alloc | apply pw_below_drewN | apply below_drew1) | exact HB.out)))); have n1_ := Aside0.mk (below_step (by repeat (first | (with_reducible first | exact HB.out | apply below_alloc | apply pw_below_drewN | apply below_drew1) | exact HB.out)) hb); clear HB; have HO190 := n0_; have HB := n1_; clear n0_ n1_; (try clear hb); (try clear hb2); (try clear hk); (try clear hi); (try clear ho0)) | (go_at_call 9; (with_reducible refine (impl_OnesOf.calls t182 t191 t192 _ A9.out).mono ?_); rintro e w16 ⟨rfl, hb⟩; have n0_ := Aside0.mk (Kd.R_below (by (with_reducible repeat (first | apply Kd.R_alloc | apply Kd.R_drewN | apply Kd.R_drew)); exact HO190.out) hb); have n1_ := Aside0.mk (below_step (by repeat (first | (with_reducible first | exact HB.out | apply below_alloc | apply pw_below_drewN | apply below_drew1) | exact HB.out)) hb); clear HO190; clear HB; have HO190 := n0_; have HB := n1_; clear n0_ n1_; (try clear hb); (try clear hb2); (try clear hk); (try clear hi)) | (go_at_call 29; (with_reducible refine (impl_ReverseBits.calls k t182 t193 t194 _ A10.out).mono ?_); rintro e w17 ⟨rfl, hb⟩; have n0_ := Aside0.mk (Kd.R_below (by (with_reducible repeat (first | apply Kd.R_alloc | apply Kd.R_drewN | apply Kd.R_drew)); exact HO190.out) hb); have n1_ := Aside0.mk (below_step (by repeat (first | (with_reducible first | exact HB.out | apply below_alloc | apply pw_below_drewN | apply below_drew1) | exact HB.out)) hb); clear HO190; clear HB; have HO190 := n0_; have HB := n1_; clear n0_ n1_; (try clear hb); (try clear hb2); (try clear hk); (try clear hi)) | (go_at_call 29; (with_reducible refine (impl_ReverseBits.calls k t193 t195 t196 _ A11.out).mono ?_); rintro e w18 ⟨rfl, hb⟩; have n0_ := Aside0.mk (Kd.R_below (by (with_reducible repeat (first | apply Kd.R_alloc | apply Kd.R_drewN | apply Kd.R_drew)); exact HO190.out) hb); have n1_ := Aside0.mk (below_step (by repeat (first | (with_reducible first | exact HB.out | apply below_alloc | apply pw_below_drewN | apply below_drew1) | exact HB.out)) hb); clear HO190; clear HB; have HO190 := n0_; have HB := n1_; clear n0_ n1_; (try clear hb); (try clear hb2); (try clear hk); (try clear hi)) | ((with_reducible refine gate_dst (N := 67) rfl ?_); (try (refine gate_guard (by rfl) ?_; dsimp only)); refine Kd.R_lit (Kd.int .u8) _ 5 ?hg (N := 67) ?hd (xs := ([] : List Int)) (inner := []) (ok := fun _ => True) (okp := fun _ => True) ?hr ?hp (fun _ hk => hk) trivial (Below.refl _ _) (Nat.le_refl _) (by simp) ?_; (case hd => rfl); (case hg => rfl); (case hr => first | (go_simp; done) | (go_simp; rfl)); (case hp => exact (Reps.none _ _)); intro v198 w19 ho20 hb hg_ hnew_; clear hg_ hnew_; (first | rw [← Ny197.out] at ho20 | (simp only [Int.reduceToNat] at ho20; rw [← Ny197.out] at ho20)); have n0_ := Aside0.mk (Kd.R_below (by (with_reducible repeat (first | apply Kd.R_alloc | apply Kd.R_drewN | apply Kd.R_drew)); exact HO190.out) hb); have n1_ := Aside0.mk (Kd.R_lower ho20 (below_size (by repeat (first | (with_reducible first | exact HB.out | apply below_alloc | apply pw_below_drewN | apply below_drew1) | exact HB.out)))); have n2_ := Aside0.mk (below_step (by repeat (first | (with_reducible first | exact HB.out | apply below_alloc | apply pw_below_drewN | apply below_drew1) | exact HB.out)) hb); clear HO190; clear HB; have HO190 := n0_; have HO199 := n1_; have HB := n2_; clear n0_ n1_ n2_; clear hb ho20)); try go_wp2_with (first | (go_at_call 17; (with_reducible refine (laws_b10Long.calls _ _ l0 _ _ l1 false _ ?side1 ?side2 ?side3 ?side4 A3.out).mono ?_); (case side1 => repeat (first | exact HR0.out | (with_reducible refine Kd.C_alloc ?_ _) | (with_reducible refine Kd.C_drewN ?_ _) | (with_reducible refine Kd.C_drew ?_))); (case side2 => exact HC0.out); (case side3 => repeat (first | exact HR1.out | (with_reducible refine Kd.C_alloc ?_ _) | (with_reducible refine Kd.C_drewN ?_ _) | (with_reducible refine Kd.C_drew ?_))); (case side4 => exact HC1.out); rintro e w' ⟨rfl, ⟨nd, rfl⟩⟩; (try first | exact ⟨rfl, _, World.drewN_drewN _ _ _⟩ | exact ⟨rfl, _, Eq.trans (World.drewN_drewN _ _ _) (congrArg (World.drewN _) (Nat.add_assoc _ _ _))⟩)) | (go_at_call 18; (with_reducible refine (spec_B10Bits.calls k _ _ l0 t182 _ ?side1 ?side2 A5.out).mono ?_); (case side1 => repeat (first | exact HR0.out | (with_reducible refine Kd.C_alloc ?_ _) | (with_reducible refine Kd.C_drewN ?_ _) | (with_reducible refine Kd.C_drew ?_))); (case side2 => exact HC0.out); rintro e w12 ⟨rfl, hb⟩; have n0_ := Aside0.mk (below_step (by repeat (first | (with_reducible first | exact HB.out | apply below_alloc | apply pw_below_drewN | apply below_drew1) | exact HB.out)) hb); clear HB; have HB := n0_; clear n0_; (try clear hb); (try clear hb2); (try clear hk); (try clear hi)) | (go_at_call 26; (with_reducible refine (impl_NumberOfBits.calls k t182 t183 t184 _ A6.out).mono ?_); rintro e w13 ⟨rfl, hb⟩; have n0_ := Aside0.mk (below_step (by repeat (first | (with_reducible first | exact HB.out | apply below_alloc | apply pw_below_drewN | apply below_drew1) | exact HB.out)) hb); clear HB; have HB := n0_; clear n0_; (try clear hb); (try clear hb2); (try clear hk); (try clear hi)) | (go_at_call 27; (with_reducible refine (impl_BitsOf.calls k t183 (t182.size : Int) t185 t186 _ A7.out).mono ?_); rintro e w14 ⟨rfl, hb⟩; have n0_ := Aside0.mk (below_step (by repeat (first | (with_reducible first | exact HB.out | apply below_alloc | apply pw_below_drewN | apply below_drew1) | exact HB.out)) hb); clear HB; have HB := n0_; clear n0_; (try clear hb); (try clear hb2); (try clear hk); (try clear hi)) | (go_at_call 28; (with_reducible refine (impl_RunLengths.calls k t182 t187 t188 _ A8.out).mono ?_); rintro e w15 ⟨v189, rfl, ho0, hb⟩; have n0_ := Aside0.mk (Kd.R_lower ho0 (below_size (by repeat (first | (with_reducible first | exact HB.out | apply below_alloc | apply pw_below_drewN | apply below_drew1) | exact HB.out)))); have n1_ := Aside0.mk (below_step (by repeat (first | (with_reducible first | exact HB.out | apply below_alloc | apply pw_below_drewN | apply below_drew1) | exact HB.out)) hb); clear HB; have HO190 := n0_; have HB := n1_; clear n0_ n1_; (try clear hb); (try clear hb2); (try clear hk); (try clear hi); (try clear ho0)) | (go_at_call 9; (with_reducible refine (impl_OnesOf.calls t182 t191 t192 _ A9.out).mono ?_); rintro e w16 ⟨rfl, hb⟩; have n0_ := Aside0.mk (Kd.R_below (by (with_reducible repeat (first | apply Kd.R_alloc | apply Kd.R_drewN | apply Kd.R_drew)); exact HO190.out) hb); have n1_ := Aside0.mk (below_step (by repeat (first | (with_reducible first | exact HB.out | apply below_alloc | apply pw_below_drewN | apply below_drew1) | exact HB.out)) hb); clear HO190; clear HB; have HO190 := n0_; have HB := n1_; clear n0_ n1_; (try clear hb); (try clear hb2); (try clear hk); (try clear hi)) | (go_at_call 29; (with_reducible refine (impl_ReverseBits.calls k t182 t193 t194 _ A10.out).mono ?_); rintro e w17 ⟨rfl, hb⟩; have n0_ := Aside0.mk (Kd.R_below (by (with_reducible repeat (first | apply Kd.R_alloc | apply Kd.R_drewN | apply Kd.R_drew)); exact HO190.out) hb); have n1_ := Aside0.mk (below_step (by repeat (first | (with_reducible first | exact HB.out | apply below_alloc | apply pw_below_drewN | apply below_drew1) | exact HB.out)) hb); clear HO190; clear HB; have HO190 := n0_; have HB := n1_; clear n0_ n1_; (try clear hb); (try clear hb2); (try clear hk); (try clear hi)) | (go_at_call 29; (with_reducible refine (impl_ReverseBits.calls k t193 t195 t196 _ A11.out).mono ?_); rintro e w18 ⟨rfl, hb⟩; have n0_ := Aside0.mk (Kd.R_below (by (with_reducible repeat (first | apply Kd.R_alloc | apply Kd.R_drewN | apply Kd.R_drew)); exact HO190.out) hb); have n1_ := Aside0.mk (below_step (by repeat (first | (with_reducible first | exact HB.out | apply below_alloc | apply pw_below_drewN | apply below_drew1) | exact HB.out)) hb); clear HO190; clear HB; have HO190 := n0_; have HB := n1_; clear n0_ n1_; (try clear hb); (try clear hb2); (try clear hk); (try clear hi)) | ((with_reducible refine gate_dst (N := 67) rfl ?_); (try (refine gate_guard (by rfl) ?_; dsimp only)); refine Kd.R_lit (Kd.int .u8) _ 5 ?hg (N := 67) ?hd (xs := ([] : List Int)) (inner := []) (ok := fun _ => True) (okp := fun _ => True) ?hr ?hp (fun _ hk => hk) trivial (Below.refl _ _) (Nat.le_refl _) (by simp) ?_; (case hd => rfl); (case hg => rfl); (case hr => first | (go_simp; done) | (go_simp; rfl)); (case hp => exact (Reps.none _ _)); intro v198 w19 ho20 hb hg_ hnew_; clear hg_ hnew_; (first | rw [← Ny197.out] at ho20 | (simp only [Int.reduceToNat] at ho20; rw [← Ny197.out] at ho20)); have n0_ := Aside0.mk (Kd.R_below (by (with_reducible repeat (first | apply Kd.R_alloc | apply Kd.R_drewN | apply Kd.R_drew)); exact HO190.out) hb); have n1_ := Aside0.mk (Kd.R_lower ho20 (below_size (by repeat (first | (with_reducible first | exact HB.out | apply below_alloc | apply pw_below_drewN | apply below_drew1) | exact HB.out)))); have n2_ := Aside0.mk (below_step (by repeat (first | (with_reducible first | exact HB.out | apply below_alloc | apply pw_below_drewN | apply below_drew1) | exact HB.out)) hb); clear HO190; clear HB; have HO190 := n0_; have HO199 := n1_; have HB := n2_; clear n0_ n1_ n2_; clear hb ho20)))
    go_loopg [18, 19] k (fun kq v18 v19 w' => ∃ (x18_1 : List Int) (x19_1 : Int), v19 = .int .i64 x19_1 ∧ Aside0 (laws_FnBits.l0 kq l1 t182 t183 t184 t185 t186 t187 t188 t191 t192 t193 t194 t195 t196 x18_1 x19_1 = some r) ∧ Aside0 (kq ≤ k) ∧ Aside0 (Kd.R (Kd.int .i64) 2 w' w.heap.size (fun _ => True) v189 t187) ∧ Aside0 (Kd.R (Kd.int .u8) 5 w' w.heap.size (fun _ => True) v18 x18_1) ∧ Aside0 (Below w.heap.size w w'))
    case atStart => exact ⟨(y197), (0), (by first | rfl | (simp; done) | (simp [*]; done)), H', ⟨Nat.le_refl _⟩, ⟨by (with_reducible repeat (first | apply Kd.R_alloc | apply Kd.R_drewN | apply Kd.R_drew)); exact HO190.out⟩, ⟨by (with_reducible repeat (first | apply Kd.R_alloc | apply Kd.R_drewN | apply Kd.R_drew)); exact HO199.out⟩, ⟨by repeat (first | (with_reducible first | exact HB.out | apply below_alloc | apply pw_below_drewN | apply below_drew1) | exact HB.out)⟩⟩
    case round =>
      clear H'
      try clear c1
      try clear p2
      try clear c4
      try clear c7
      obtain ⟨x18_1, x19_1, rfl, HA, HK1, HO_10, HO_18, HB⟩ := hrel
      cases gk with
      | zero => exact absurd HA.out (by simp [laws_FnBits.l0])
      | succ k1 =>
        have H := HA.out
        clear HA
        simp only [laws_FnBits.l0] at H
        by_cases c21 : x19_1 < (t182.size : Int)
        · rw [if_pos c21] at H
          have c21b0 : decide (x19_1 < (t182.size : Int)) = true := decide_eq_true c21
          clear c21
          replace H := Option.bind_eq_some_iff.mp H
          obtain ⟨t200, A220, H⟩ := H
          replace H : (if x18_1.length < 140737488355328 then (laws_FnBits.l0 k1 l1 t182 t183 t184 t185 t186 t187 t188 t191 t192 t193 t194 t195 t196 (x18_1 ++ [(wrap64 (48 + t200)) % 256]) (wrap64 (x19_1 + 1))) else (none)) = some r := H
          have A22 := Aside0.mk A220
          clear A220
          by_cases c23 : x18_1.length < 140737488355328
          · rw [if_pos c23] at H
            have LMc23 := Aside0.mk c23
            clear c23
            obtain ⟨y201, hy201⟩ : ∃ y_ : List Int, y_ = (x18_1 ++ [(wrap64 (48 + t200)) % 256]) := ⟨_, rfl⟩
            replace H : (laws_FnBits.l0 k1 l1 t182 t183 t184 t185 t186 t187 t188 t191 t192 t193 t194 t195 t196 y201 (wrap64 (x19_1 + 1))) = some r := by first | (rw [hy201]; with_reducible exact H) | (have H2_ := (Option.bind_some _ _).symm.trans H; rw [hy201]; with_reducible exact H2_) | (have H2_ := (Option.bind_some _ _).symm.trans H; with_reducible exact H2_) | with_reducible exact H | (rw [hy201]; exact H) | exact H
            have Ny201 := Aside0.mk hy201
            clear hy201
            as_aux_lemma =>
              have H' := Aside0.mk H
              clear H
              go_wp2_with (first | (go_at_call 22; (with_reducible refine (laws_b10At.calls _ _ l1 x19_1 2 t200 _ ?side1 ?side2 A22.out).mono ?_); (case side1 => repeat (first | exact (Kd.C_below HR1.out HB.out) | (with_reducible refine Kd.C_alloc ?_ _) | (with_reducible refine Kd.C_drewN ?_ _) | (with_reducible refine Kd.C_drew ?_))); (case side2 => exact HC1.out); rintro e w' ⟨rfl, ⟨nd, rfl⟩⟩; (try first | exact ⟨rfl, _, World.drewN_drewN _ _ _⟩ | exact ⟨rfl, _, Eq.trans (World.drewN_drewN _ _ _) (congrArg (World.drewN _) (Nat.add_assoc _ _ _))⟩)) | ((with_reducible refine gate_builtin (b := .append) (xs := #[.tmp 74, .tmp 80]) rfl ?_); (try (refine gate_guard (by rfl) ?_; dsimp only)); at_builtin; refine Kd.R_append (Kd.int .u8) (w0 := w) w.heap.size rfl (.tmp 74) (.tmp 80) 30 5 (.int .u8 0) 1 rfl Tryd.underlying30 info5 rfl (by decide) (by omega) u18 x18_1 ((wrap64 (48 + t200)) % 256) [.int .u8 ((wrap64 (48 + t200)) % 256)] (fun _ => True) (fun _ => False) rfl rfl ?aP (fun _ hk => hk.elim) ?aF ?aO ?aB ?aS ?aL ?_; (case aP => exact rfl); (case aB => exact (by repeat (first | (with_reducible first | exact HB.out | apply below_alloc | apply pw_below_drewN | apply below_drew1) | exact HB.out))); (case aF => exact (fun _ _ => trivial)); (case aO => exact (by (with_reducible repeat (first | apply Kd.R_alloc | apply Kd.R_drewN | apply Kd.R_drew)); exact HO_18.out)); (case aS => exact (below_size (by repeat (first | (with_reducible first | exact HB.out | apply below_alloc | apply pw_below_drewN | apply below_drew1) | exact HB.out)))); (case aL => have := LMc23.out; omega); intro v202 w24 ho hb hg hat; rw [← Ny201.out] at ho; have n0_ := Aside0.mk (Kd.R_over' (by (with_reducible repeat (first | apply Kd.R_alloc | apply Kd.R_drewN | apply Kd.R_drew)); exact HO_10.out) (Kd.R_typed (by (with_reducible repeat (first | apply Kd.R_alloc | apply Kd.R_drewN | apply Kd.R_drew)); exact HO_18.out)) (by decide) hg); have n1_ := Aside0.mk (hb); have n2_ := Aside0.mk (ho); clear HO_10; clear HB; clear HO_18; have HO_10 := n0_; have HB := n1_; have HO203 := n2_; clear n0_ n1_ n2_; clear ho hb hg hat))
              repeat (go_quiet (first | (go_at_call 22; (with_reducible refine (laws_b10At.calls _ _ l1 x19_1 2 t200 _ ?side1 ?side2 A22.out).mono ?_); (case side1 => repeat (first | exact (Kd.C_below HR1.out HB.out) | (with_reducible refine Kd.C_alloc ?_ _) | (with_reducible refine Kd.C_drewN ?_ _) | (with_reducible refine Kd.C_drew ?_))); (case side2 => exact HC1.out); rintro e w' ⟨rfl, ⟨nd, rfl⟩⟩; (try first | exact ⟨rfl, _, World.drewN_drewN _ _ _⟩ | exact ⟨rfl, _, Eq.trans (World.drewN_drewN _ _ _) (congrArg (World.drewN _) (Nat.add_assoc _ _ _))⟩)) | ((with_reducible refine gate_builtin (b := .append) (xs := #[.tmp 74, .tmp 80]) rfl ?_); (try (refine gate_guard (by rfl) ?_; dsimp only)); at_builtin; refine Kd.R_append (Kd.int .u8) (w0 := w) w.heap.size rfl (.tmp 74) (.tmp 80) 30 5 (.int .u8 0) 1 rfl Tryd.underlying30 info5 rfl (by decide) (by omega) u18 x18_1 ((wrap64 (48 + t200)) % 256) [.int .u8 ((wrap64 (48 + t200)) % 256)] (fun _ => True) (fun _ => False) rfl rfl ?aP (fun _ hk => hk.elim) ?aF ?aO ?aB ?aS ?aL ?_; (case aP => exact rfl); (case aB => exact (by repeat (first | (with_reducible first | exact HB.out | apply below_alloc | apply pw_below_drewN | apply below_drew1) | exact HB.out))); (case aF => exact (fun _ _ => trivial)); (case aO => exact (by (with_reducible repeat (first | apply Kd.R_alloc | apply Kd.R_drewN | apply Kd.R_drew)); exact HO_18.out)); (case aS => exact (below_size (by repeat (first | (with_reducible first | exact HB.out | apply below_alloc | apply pw_below_drewN | apply below_drew1) | exact HB.out)))); (case aL => have := LMc23.out; omega); intro v202 w24 ho hb hg hat; rw [← Ny201.out] at ho; have n0_ := Aside0.mk (Kd.R_over' (by (with_reducible repeat (first | apply Kd.R_alloc | apply Kd.R_drewN | apply Kd.R_drew)); exact HO_10.out) (Kd.R_typed (by (with_reducible repeat (first | apply Kd.R_alloc | apply Kd.R_drewN | apply Kd.R_drew)); exact HO_18.out)) (by decide) hg); have n1_ := Aside0.mk (hb); have n2_ := Aside0.mk (ho); clear HO_10; clear HB; clear HO_18; have HO_10 := n0_; have HB := n1_; have HO203 := n2_; clear n0_ n1_ n2_; clear ho hb hg hat)); try go_wp2_with (first | (go_at_call 22; (with_reducible refine (laws_b10At.calls _ _ l1 x19_1 2 t200 _ ?side1 ?side2 A22.out).mono ?_); (case side1 => repeat (first | exact (Kd.C_below HR1.out HB.out) | (with_reducible refine Kd.C_alloc ?_ _) | (with_reducible refine Kd.C_drewN ?_ _) | (with_reducible refine Kd.C_drew ?_))); (case side2 => exact HC1.out); rintro e w' ⟨rfl, ⟨nd, rfl⟩⟩; (try first | exact ⟨rfl, _, World.drewN_drewN _ _ _⟩ | exact ⟨rfl, _, Eq.trans (World.drewN_drewN _ _ _) (congrArg (World.drewN _) (Nat.add_assoc _ _ _))⟩)) | ((with_reducible refine gate_builtin (b := .append) (xs := #[.tmp 74, .tmp 80]) rfl ?_); (try (refine gate_guard (by rfl) ?_; dsimp only)); at_builtin; refine Kd.R_append (Kd.int .u8) (w0 := w) w.heap.size rfl (.tmp 74) (.tmp 80) 30 5 (.int .u8 0) 1 rfl Tryd.underlying30 info5 rfl (by decide) (by omega) u18 x18_1 ((wrap64 (48 + t200)) % 256) [.int .u8 ((wrap64 (48 + t200)) % 256)] (fun _ => True) (fun _ => False) rfl rfl ?aP (fun _ hk => hk.elim) ?aF ?aO ?aB ?aS ?aL ?_; (case aP => exact rfl); (case aB => exact (by repeat (first | (with_reducible first | exact HB.out | apply below_alloc | apply pw_below_drewN | apply below_drew1) | exact HB.out))); (case aF => exact (fun _ _ => trivial)); (case aO => exact (by (with_reducible repeat (first | apply Kd.R_alloc | apply Kd.R_drewN | apply Kd.R_drew)); exact HO_18.out)); (case aS => exact (below_size (by repeat (first | (with_reducible first | exact HB.out | apply below_alloc | apply pw_below_drewN | apply below_drew1) | exact HB.out)))); (case aL => have := LMc23.out; omega); intro v202 w24 ho hb hg hat; rw [← Ny201.out] at ho; have n0_ := Aside0.mk (Kd.R_over' (by (with_reducible repeat (first | apply Kd.R_alloc | apply Kd.R_drewN | apply Kd.R_drew)); exact HO_10.out) (Kd.R_typed (by (with_reducible repeat (first | apply Kd.R_alloc | apply Kd.R_drewN | apply Kd.R_drew)); exact HO_18.out)) (by decide) hg); have n1_ := Aside0.mk (hb); have n2_ := Aside0.mk (ho); clear HO_10; clear HB; clear HO_18; have HO_10 := n0_; have HB := n1_; have HO203 := n2_; clear n0_ n1_ n2_; clear ho hb hg hat)))
              go_roundg k1
              case measure => have := HK1.out; omega
              case rel => exact ⟨(y201), (wrap64 (x19_1 + 1)), (by first | rfl | (simp; done) | (simp [*]; done)), H', ⟨by have := HK1.out; omega⟩, ⟨by (with_reducible repeat (first | apply Kd.R_alloc | apply Kd.R_drewN | apply Kd.R_drew)); exact HO_10.out⟩, ⟨by (with_reducible repeat (first | apply Kd.R_alloc | apply Kd.R_drewN | apply Kd.R_drew)); exact HO203.out⟩, ⟨by repeat (first | (with_reducible first | exact HB.out | apply below_alloc | apply pw_below_drewN | apply below_drew1) | exact HB.out)⟩⟩
          · rw [if_neg c23] at H
            exact absurd H (by simp)
        · rw [if_neg c21] at H
          have c21b0 : decide (x19_1 < (t182.size : Int)) = false := decide_eq_false c21
          clear c21
          replace H := Option.bind_eq_some_iff.mp H
          obtain ⟨⟨t204, t205⟩, A250, H⟩ := H
          replace H : ((impl_NumberOfBits.f k1 (strOfNums x18_1)).bind fun bt206 => ((impl_ParityOf.f t183 bt206.1).bind fun bt208 => (if t184 = true then (if t186 = true then (if t188 = true then (if t192 = true then (if t194 = true then (if t196 = true then (if t205 = true then (if bt206.2 = true then (if bt208.2 = true then (if t185.toList = t182.toList then (if t195.toList = t182.toList then ((laws_b10Sum.f k1 t187).bind fun t210 => (if t210 = (t182.size : Int) then (if (t204.size : Int) = (t182.size : Int) then (laws_FnBits.j1 k1 t182 t187 t191 t193 x18_1 t204 bt208.1 ((t193.size : Int) != (t182.size : Int))) else (laws_FnBits.j1 k1 t182 t187 t191 t193 x18_1 t204 bt208.1 true)) else (laws_FnBits.j1 k1 t182 t187 t191 t193 x18_1 t204 bt208.1 true))) else (laws_FnBits.j1 k1 t182 t187 t191 t193 x18_1 t204 bt208.1 true)) else (laws_FnBits.j1 k1 t182 t187 t191 t193 x18_1 t204 bt208.1 true)) else (laws_FnBits.j1 k1 t182 t187 t191 t193 x18_1 t204 bt208.1 true)) else (laws_FnBits.j1 k1 t182 t187 t191 t193 x18_1 t204 bt208.1 true)) else (laws_FnBits.j1 k1 t182 t187 t191 t193 x18_1 t204 bt208.1 true)) else (laws_FnBits.j1 k1 t182 t187 t191 t193 x18_1 t204 bt208.1 true)) else (laws_FnBits.j1 k1 t182 t187 t191 t193 x18_1 t204 bt208.1 true)) else (laws_FnBits.j1 k1 t182 t187 t191 t193 x18_1 t204 bt208.1 true)) else (laws_FnBits.j1 k1 t182 t187 t191 t193 x18_1 t204 bt208.1 true)) else (laws_FnBits.j1 k1 t182 t187 t191 t193 x18_1 t204 bt208.1 true)) else (laws_FnBits.j1 k1 t182 t187 t191 t193 x18_1 t204 bt208.1 true)))) = some r := H
          have A25 := Aside0.mk A250
          clear A250
          replace H := Option.bind_eq_some_iff.mp H
          obtain ⟨⟨t206, t207⟩, A260, H⟩ := H
          replace H : ((impl_ParityOf.f t183 t206).bind fun bt208 => (if t184 = true then (if t186 = true then (if t188 = true then (if t192 = true then (if t194 = true then (if t196 = true then (if t205 = true then (if t207 = true then (if bt208.2 = true then (if t185.toList = t182.toList then (if t195.toList = t182.toList then ((laws_b10Sum.f k1 t187).bind fun t210 => (if t210 = (t182.size : Int) then (if (t204.size : Int) = (t182.size : Int) then (laws_FnBits.j1 k1 t182 t187 t191 t193 x18_1 t204 bt208.1 ((t193.size : Int) != (t182.size : Int))) else (laws_FnBits.j1 k1 t182 t187 t191 t193 x18_1 t204 bt208.1 true)) else (laws_FnBits.j1 k1 t182 t187 t191 t193 x18_1 t204 bt208.1 true))) else (laws_FnBits.j1 k1 t182 t187 t191 t193 x18_1 t204 bt208.1 true)) else (laws_FnBits.j1 k1 t182 t187 t191 t193 x18_1 t204 bt208.1 true)) else (laws_FnBits.j1 k1 t182 t187 t191 t193 x18_1 t204 bt208.1 true)) else (laws_FnBits.j1 k1 t182 t187 t191 t193 x18_1 t204 bt208.1 true)) else (laws_FnBits.j1 k1 t182 t187 t191 t193 x18_1 t204 bt208.1 true)) else (laws_FnBits.j1 k1 t182 t187 t191 t193 x18_1 t204 bt208.1 true)) else (laws_FnBits.j1 k1 t182 t187 t191 t193 x18_1 t204 bt208.1 true)) else (laws_FnBits.j1 k1 t182 t187 t191 t193 x18_1 t204 bt208.1 true)) else (laws_FnBits.j1 k1 t182 t187 t191 t193 x18_1 t204 bt208.1 true)) else (laws_FnBits.j1 k1 t182 t187 t191 t193 x18_1 t204 bt208.1 true)) else (laws_FnBits.j1 k1 t182 t187 t191 t193 x18_1 t204 bt208.1 true))) = some r := H
          have A26 := Aside0.mk A260
          clear A260
          replace H := Option.bind_eq_some_iff.mp H
          obtain ⟨⟨t208, t209⟩, A270, H⟩ := H
          replace H : (if t184 = true then (if t186 = true then (if t188 = true then (if t192 = true then (if t194 = true then (if t196 = true then (if t205 = true then (if t207 = true then (if t209 = true then (if t185.toList = t182.toList then (if t195.toList = t182.toList then ((laws_b10Sum.f k1 t187).bind fun t210 => (if t210 = (t182.size : Int) then (if (t204.size : Int) = (t182.size : Int) then (laws_FnBits.j1 k1 t182 t187 t191 t193 x18_1 t204 t208 ((t193.size : Int) != (t182.size : Int))) else (laws_FnBits.j1 k1 t182 t187 t191 t193 x18_1 t204 t208 true)) else (laws_FnBits.j1 k1 t182 t187 t191 t193 x18_1 t204 t208 true))) else (laws_FnBits.j1 k1 t182 t187 t191 t193 x18_1 t204 t208 true)) else (laws_FnBits.j1 k1 t182 t187 t191 t193 x18_1 t204 t208 true)) else (laws_FnBits.j1 k1 t182 t187 t191 t193 x18_1 t204 t208 true)) else (laws_FnBits.j1 k1 t182 t187 t191 t193 x18_1 t204 t208 true)) else (laws_FnBits.j1 k1 t182 t187 t191 t193 x18_1 t204 t208 true)) else (laws_FnBits.j1 k1 t182 t187 t191 t193 x18_1 t204 t208 true)) else (laws_FnBits.j1 k1 t182 t187 t191 t193 x18_1 t204 t208 true)) else (laws_FnBits.j1 k1 t182 t187 t191 t193 x18_1 t204 t208 true)) else (laws_FnBits.j1 k1 t182 t187 t191 t193 x18_1 t204 t208 true)) else (laws_FnBits.j1 k1 t182 t187 t191 t193 x18_1 t204 t208 true)) else (laws_FnBits.j1 k1 t182 t187 t191 t193 x18_1 t204 t208 true)) = some r := H
          have A27 := Aside0.mk A270
          clear A270
          have HC28 := Aside0.mk H
          clear H
          have hcv29 := own_string (P := Tryd.prog) Tryd.underlying30 Tryd.underlying5 Tryd.underlying9 (Kd.own_of_R HO_18.out)
          go_upto_region 18 with (first | (go_at_call 30; (with_reducible refine (impl_XorBits.calls k1 t182 (strOfNums x18_1) t204 t205 _ A25.out).mono ?_); rintro e w30 ⟨rfl, hb⟩; have n0_ := Aside0.mk (Kd.R_below (by (with_reducible repeat (first | apply Kd.R_alloc | apply Kd.R_drewN | apply Kd.R_drew)); exact HO_10.out) hb); have n1_ := Aside0.mk (Kd.R_below (by (with_reducible repeat (first | apply Kd.R_alloc | apply Kd.R_drewN | apply Kd.R_drew)); exact HO_18.out) hb); have n2_ := Aside0.mk (below_step (by repeat (first | (with_reducible first | exact HB.out | apply below_alloc | apply pw_below_drewN | apply below_drew1) | exact HB.out)) hb); clear HO_10; clear HO_18; clear HB; have HO_10 := n0_; have HO_18 := n1_; have HB := n2_; clear n0_ n1_ n2_; (try clear hb); (try clear hb2); (try clear hk); (try clear hi); have hcv31 := own_string (P := Tryd.prog) Tryd.underlying30 Tryd.underlying5 Tryd.underlying9 (Kd.own_of_R HO_18.out)) | (go_at_call 26; (with_reducible refine (impl_NumberOfBits.calls k1 (strOfNums x18_1) t206 t207 _ A26.out).mono ?_); rintro e w32 ⟨rfl, hb⟩; have n0_ := Aside0.mk (Kd.R_below (by (with_reducible repeat (first | apply Kd.R_alloc | apply Kd.R_drewN | apply Kd.R_drew)); exact HO_10.out) hb); have n1_ := Aside0.mk (Kd.R_below (by (with_reducible repeat (first | apply Kd.R_alloc | apply Kd.R_drewN | apply Kd.R_drew)); exact HO_18.out) hb); have n2_ := Aside0.mk (below_step (by repeat (first | (with_reducible first | exact HB.out | apply below_alloc | apply pw_below_drewN | apply below_drew1) | exact HB.out)) hb); clear HO_10; clear HO_18; clear HB; have HO_10 := n0_; have HO_18 := n1_; have HB := n2_; clear n0_ n1_ n2_; (try clear hb); (try clear hb2); (try clear hk); (try clear hi)) | (go_at_call 31; (with_reducible refine (impl_ParityOf.calls t183 t206 t208 t209 _ A27.out).mono ?_); rintro e w' ⟨rfl, ⟨nd, rfl⟩⟩; (try first | exact ⟨rfl, _, World.drewN_drewN _ _ _⟩ | exact ⟨rfl, _, Eq.trans (World.drewN_drewN _ _ _) (congrArg (World.drewN _) (Nat.add_assoc _ _ _))⟩)))
          repeat (go_quiet (first | (go_at_call 30; (with_reducible refine (impl_XorBits.calls k1 t182 (strOfNums x18_1) t204 t205 _ A25.out).mono ?_); rintro e w30 ⟨rfl, hb⟩; have n0_ := Aside0.mk (Kd.R_below (by (with_reducible repeat (first | apply Kd.R_alloc | apply Kd.R_drewN | apply Kd.R_drew)); exact HO_10.out) hb); have n1_ := Aside0.mk (Kd.R_below (by (with_reducible repeat (first | apply Kd.R_alloc | apply Kd.R_drewN | apply Kd.R_drew)); exact HO_18.out) hb); have n2_ := Aside0.mk (below_step (by repeat (first | (with_reducible first | exact HB.out | apply below_alloc | apply pw_below_drewN | apply below_drew1) | exact HB.out)) hb); clear HO_10; clear HO_18; clear HB; have HO_10 := n0_; have HO_18 := n1_; have HB := n2_; clear n0_ n1_ n2_; (try clear hb); (try clear hb2); (try clear hk); (try clear hi); have hcv31 := own_string (P := Tryd.prog) Tryd.underlying30 Tryd.underlying5 Tryd.underlying9 (Kd.own_of_R HO_18.out)) | (go_at_call 26; (with_reducible refine (impl_NumberOfBits.calls k1 (strOfNums x18_1) t206 t207 _ A26.out).mono ?_); rintro e w32 ⟨rfl, hb⟩; have n0_ := Aside0.mk (Kd.R_below (by (with_reducible repeat (first | apply Kd.R_alloc | apply Kd.R_drewN | apply Kd.R_drew)); exact HO_10.out) hb); have n1_ := Aside0.mk (Kd.R_below (by (with_reducible repeat (first | apply Kd.R_alloc | apply Kd.R_drewN | apply Kd.R_drew)); exact HO_18.out) hb); have n2_ := Aside0.mk (below_step (by repeat (first | (with_reducible first | exact HB.out | apply below_alloc | apply pw_below_drewN | apply below_drew1) | exact HB.out)) hb); clear HO_10; clear HO_18; clear HB; have HO_10 := n0_; have HO_18 := n1_; have HB := n2_; clear n0_ n1_ n2_; (try clear hb); (try clear hb2); (try clear hk); (try clear hi)) | (go_at_call 31; (with_reducible refine (impl_ParityOf.calls t183 t206 t208 t209 _ A27.out).mono ?_); rintro e w' ⟨rfl, ⟨nd, rfl⟩⟩; (try first | exact ⟨rfl, _, World.drewN_drewN _ _ _⟩ | exact ⟨rfl, _, Eq.trans (World.drewN_drewN _ _ _) (congrArg (World.drewN _) (Nat.add_assoc _ _ _))⟩))); go_upto_region 18 with (first | (go_at_call 30; (with_reducible refine (impl_XorBits.calls k1 t182 (strOfNums x18_1) t204 t205 _ A25.out).mono ?_); rintro e w30 ⟨rfl, hb⟩; have n0_ := Aside0.mk (Kd.R_below (by (with_reducible repeat (first | apply Kd.R_alloc | apply Kd.R_drewN | apply Kd.R_drew)); exact HO_10.out) hb); have n1_ := Aside0.mk (Kd.R_below (by (with_reducible repeat (first | apply Kd.R_alloc | apply Kd.R_drewN | apply Kd.R_drew)); exact HO_18.out) hb); have n2_ := Aside0.mk (below_step (by repeat (first | (with_reducible first | exact HB.out | apply below_alloc | apply pw_below_drewN | apply below_drew1) | exact HB.out)) hb); clear HO_10; clear HO_18; clear HB; have HO_10 := n0_; have HO_18 := n1_; have HB := n2_; clear n0_ n1_ n2_; (try clear hb); (try clear hb2); (try clear hk); (try clear hi); have hcv31 := own_string (P := Tryd.prog) Tryd.underlying30 Tryd.underlying5 Tryd.underlying9 (Kd.own_of_R HO_18.out)) | (go_at_call 26; (with_reducible refine (impl_NumberOfBits.calls k1 (strOfNums x18_1) t206 t207 _ A26.out).mono ?_); rintro e w32 ⟨rfl, hb⟩; have n0_ := Aside0.mk (Kd.R_below (by (with_reducible repeat (first | apply Kd.R_alloc | apply Kd.R_drewN | apply Kd.R_drew)); exact HO_10.out) hb); have n1_ := Aside0.mk (Kd.R_below (by (with_reducible repeat (first | apply Kd.R_alloc | apply Kd.R_drewN | apply Kd.R_drew)); exact HO_18.out) hb); have n2_ := Aside0.mk (below_step (by repeat (first | (with_reducible first | exact HB.out | apply below_alloc | apply pw_below_drewN | apply below_drew1) | exact HB.out)) hb); clear HO_10; clear HO_18; clear HB; have HO_10 := n0_; have HO_18 := n1_; have HB := n2_; clear n0_ n1_ n2_; (try clear hb); (try clear hb2); (try clear hk); (try clear hi)) | (go_at_call 31; (with_reducible refine (impl_ParityOf.calls t183 t206 t208 t209 _ A27.out).mono ?_); rintro e w' ⟨rfl, ⟨nd, rfl⟩⟩; (try first | exact ⟨rfl, _, World.drewN_drewN _ _ _⟩ | exact ⟨rfl, _, Eq.trans (World.drewN_drewN _ _ _) (congrArg (World.drewN _) (Nat.add_assoc _ _ _))⟩))))
          (try simp only [Act.put, List.setIfInBounds_toArray, List.set_cons_zero, List.set_cons_succ])
          go_cut [165] (fun v165 wc => ∃ (kq : Nat) (x165_27 : Bool), v165 = .bool x165_27 ∧ Aside0 (laws_FnBits.j1 kq t182 t187 t191 t193 x18_1 t204 t208 x165_27 = some r) ∧ Aside0 (kq ≤ k1) ∧ Aside0 (Kd.R (Kd.int .i64) 2 wc w.heap.size (fun _ => True) v189 t187) ∧ Aside0 (Kd.R (Kd.int .u8) 5 wc w.heap.size (fun _ => True) u18 x18_1) ∧ Aside0 (Below w.heap.size w wc))
          case first =>
            have H := HC28.out
            clear HC28
            by_cases c33 : t184 = true
            · subst c33
              have H1 : (if t186 = true then (if t188 = true then (if t192 = true then (if t194 = true then (if t196 = true then (if t205 = true then (if t207 = true then (if t209 = true then (if t185.toList = t182.toList then (if t195.toList = t182.toList then ((laws_b10Sum.f k1 t187).bind fun t210 => (if t210 = (t182.size : Int) then (if (t204.size : Int) = (t182.size : Int) then (laws_FnBits.j1 k1 t182 t187 t191 t193 x18_1 t204 t208 ((t193.size : Int) != (t182.size : Int))) else (laws_FnBits.j1 k1 t182 t187 t191 t193 x18_1 t204 t208 true)) else (laws_FnBits.j1 k1 t182 t187 t191 t193 x18_1 t204 t208 true))) else (laws_FnBits.j1 k1 t182 t187 t191 t193 x18_1 t204 t208 true)) else (laws_FnBits.j1 k1 t182 t187 t191 t193 x18_1 t204 t208 true)) else (laws_FnBits.j1 k1 t182 t187 t191 t193 x18_1 t204 t208 true)) else (laws_FnBits.j1 k1 t182 t187 t191 t193 x18_1 t204 t208 true)) else (laws_FnBits.j1 k1 t182 t187 t191 t193 x18_1 t204 t208 true)) else (laws_FnBits.j1 k1 t182 t187 t191 t193 x18_1 t204 t208 true)) else (laws_FnBits.j1 k1 t182 t187 t191 t193 x18_1 t204 t208 true)) else (laws_FnBits.j1 k1 t182 t187 t191 t193 x18_1 t204 t208 true)) else (laws_FnBits.j1 k1 t182 t187 t191 t193 x18_1 t204 t208 true)) else (laws_FnBits.j1 k1 t182 t187 t191 t193 x18_1 t204 t208 true)) = some r := by rw [if_pos rfl] at H; exact H
              clear H
              have H := H1
              clear H1
              by_cases c34 : t186 = true
              · subst c34
                have H1 : (if t188 = true then (if t192 = true then (if t194 = true then (if t196 = true then (if t205 = true then (if t207 = true then (if t209 = true then (if t185.toList = t182.toList then (if t195.toList = t182.toList then ((laws_b10Sum.f k1 t187).bind fun t210 => (if t210 = (t182.size : Int) then (if (t204.size : Int) = (t182.size : Int) then (laws_FnBits.j1 k1 t182 t187 t191 t193 x18_1 t204 t208 ((t193.size : Int) != (t182.size : Int))) else (laws_FnBits.j1 k1 t182 t187 t191 t193 x18_1 t204 t208 true)) else (laws_FnBits.j1 k1 t182 t187 t191 t193 x18_1 t204 t208 true))) else (laws_FnBits.j1 k1 t182 t187 t191 t193 x18_1 t204 t208 true)) else (laws_FnBits.j1 k1 t182 t187 t191 t193 x18_1 t204 t208 true)) else (laws_FnBits.j1 k1 t182 t187 t191 t193 x18_1 t204 t208 true)) else (laws_FnBits.j1 k1 t182 t187 t191 t193 x18_1 t204 t208 true)) else (laws_FnBits.j1 k1 t182 t187 t191 t193 x18_1 t204 t208 true)) else (laws_FnBits.j1 k1 t182 t187 t191 t193 x18_1 t204 t208 true)) else (laws_FnBits.j1 k1 t182 t187 t191 t193 x18_1 t204 t208 true)) else (laws_FnBits.j1 k1 t182 t187 t191 t193 x18_1 t204 t208 true)) else (laws_FnBits.j1 k1 t182 t187 t191 t193 x18_1 t204 t208 true)) = some r := by rw [if_pos rfl] at H; exact H
                clear H
                have H := H1
                clear H1
                by_cases c35 : t188 = true
                · subst c35
                  have H1 : (if t192 = true then (if t194 = true then (if t196 = true then (if t205 = true then (if t207 = true then (if t209 = true then (if t185.toList = t182.toList then (if t195.toList = t182.toList then ((laws_b10Sum.f k1 t187).bind fun t210 => (if t210 = (t182.size : Int) then (if (t204.size : Int) = (t182.size : Int) then (laws_FnBits.j1 k1 t182 t187 t191 t193 x18_1 t204 t208 ((t193.size : Int) != (t182.size : Int))) else (laws_FnBits.j1 k1 t182 t187 t191 t193 x18_1 t204 t208 true)) else (laws_FnBits.j1 k1 t182 t187 t191 t193 x18_1 t204 t208 true))) else (laws_FnBits.j1 k1 t182 t187 t191 t193 x18_1 t204 t208 true)) else (laws_FnBits.j1 k1 t182 t187 t191 t193 x18_1 t204 t208 true)) else (laws_FnBits.j1 k1 t182 t187 t191 t193 x18_1 t204 t208 true)) else (laws_FnBits.j1 k1 t182 t187 t191 t193 x18_1 t204 t208 true)) else (laws_FnBits.j1 k1 t182 t187 t191 t193 x18_1 t204 t208 true)) else (laws_FnBits.j1 k1 t182 t187 t191 t193 x18_1 t204 t208 true)) else (laws_FnBits.j1 k1 t182 t187 t191 t193 x18_1 t204 t208 true)) else (laws_FnBits.j1 k1 t182 t187 t191 t193 x18_1 t204 t208 true)) = some r := by rw [if_pos rfl] at H; exact H
                  clear H
                  have H := H1
                  clear H1
                  by_cases c36 : t192 = true
                  · subst c36
                    have H1 : (if t194 = true then (if t196 = true then (if t205 = true then (if t207 = true then (if t209 = true then (if t185.toList = t182.toList then (if t195.toList = t182.toList then ((laws_b10Sum.f k1 t187).bind fun t210 => (if t210 = (t182.size : Int) then (if (t204.size : Int) = (t182.size : Int) then (laws_FnBits.j1 k1 t182 t187 t191 t193 x18_1 t204 t208 ((t193.size : Int) != (t182.size : Int))) else (laws_FnBits.j1 k1 t182 t187 t191 t193 x18_1 t204 t208 true)) else (laws_FnBits.j1 k1 t182 t187 t191 t193 x18_1 t204 t208 true))) else (laws_FnBits.j1 k1 t182 t187 t191 t193 x18_1 t204 t208 true)) else (laws_FnBits.j1 k1 t182 t187 t191 t193 x18_1 t204 t208 true)) else (laws_FnBits.j1 k1 t182 t187 t191 t193 x18_1 t204 t208 true)) else (laws_FnBits.j1 k1 t182 t187 t191 t193 x18_1 t204 t208 true)) else (laws_FnBits.j1 k1 t182 t187 t191 t193 x18_1 t204 t208 true)) else (laws_FnBits.j1 k1 t182 t187 t191 t193 x18_1 t204 t208 true)) else (laws_FnBits.j1 k1 t182 t187 t191 t193 x18_1 t204 t208 true)) = some r := by rw [if_pos rfl] at H; exact H
                    clear H
                    have H := H1
                    clear H1
                    by_cases c37 : t194 = true
                    · subst c37
                      have H1 : (if t196 = true then (if t205 = true then (if t207 = true then (if t209 = true then (if t185.toList = t182.toList then (if t195.toList = t182.toList then ((laws_b10Sum.f k1 t187).bind fun t210 => (if t210 = (t182.size : Int) then (if (t204.size : Int) = (t182.size : Int) then (laws_FnBits.j1 k1 t182 t187 t191 t193 x18_1 t204 t208 ((t193.size : Int) != (t182.size : Int))) else (laws_FnBits.j1 k1 t182 t187 t191 t193 x18_1 t204 t208 true)) else (laws_FnBits.j1 k1 t182 t187 t191 t193 x18_1 t204 t208 true))) else (laws_FnBits.j1 k1 t182 t187 t191 t193 x18_1 t204 t208 true)) else (laws_FnBits.j1 k1 t182 t187 t191 t193 x18_1 t204 t208 true)) else (laws_FnBits.j1 k1 t182 t187 t191 t193 x18_1 t204 t208 true)) else (laws_FnBits.j1 k1 t182 t187 t191 t193 x18_1 t204 t208 true)) else (laws_FnBits.j1 k1 t182 t187 t191 t193 x18_1 t204 t208 true)) else (laws_FnBits.j1 k1 t182 t187 t191 t193 x18_1 t204 t208 true)) = some r := by rw [if_pos rfl] at H; exact H
                      clear H
                      have H := H1
                      clear H1
                      by_cases c38 : t196 = true
                      · subst c38
                        have H1 : (if t205 = true then (if t207 = true then (if t209 = true then (if t185.toList = t182.toList then (if t195.toList = t182.toList then ((laws_b10Sum.f k1 t187).bind fun t210 => (if t210 = (t182.size : Int) then (if (t204.size : Int) = (t182.size : Int) then (laws_FnBits.j1 k1 t182 t187 t191 t193 x18_1 t204 t208 ((t193.size : Int) != (t182.size : Int))) else (laws_FnBits.j1 k1 t182 t187 t191 t193 x18_1 t204 t208 true)) else (laws_FnBits.j1 k1 t182 t187 t191 t193 x18_1 t204 t208 true))) else (laws_FnBits.j1 k1 t182 t187 t191 t193 x18_1 t204 t208 true)) else (laws_FnBits.j1 k1 t182 t187 t191 t193 x18_1 t204 t208 true)) else (laws_FnBits.j1 k1 t182 t187 t191 t193 x18_1 t204 t208 true)) else (laws_FnBits.j1 k1 t182 t187 t191 t193 x18_1 t204 t208 true)) else (laws_FnBits.j1 k1 t182 t187 t191 t193 x18_1 t204 t208 true)) = some r := by rw [if_pos rfl] at H; exact H
                        clear H
                        have H := H1
                        clear H1
                        by_cases c39 : t205 = true
                        · subst c39
                          have H1 : (if t207 = true then (if t209 = true then (if t185.toList = t182.toList then (if t195.toList = t182.toList then ((laws_b10Sum.f k1 t187).bind fun t210 => (if t210 = (t182.size : Int) then (if (t204.size : Int) = (t182.size : Int) then (laws_FnBits.j1 k1 t182 t187 t191 t193 x18_1 t204 t208 ((t193.size : Int) != (t182.size : Int))) else (laws_FnBits.j1 k1 t182 t187 t191 t193 x18_1 t204 t208 true)) else (laws_FnBits.j1 k1 t182 t187 t191 t193 x18_1 t204 t208 true))) else (laws_FnBits.j1 k1 t182 t187 t191 t193 x18_1 t204 t208 true)) else (laws_FnBits.j1 k1 t182 t187 t191 t193 x18_1 t204 t208 true)) else (laws_FnBits.j1 k1 t182 t187 t191 t193 x18_1 t204 t208 true)) else (laws_FnBits.j1 k1 t182 t187 t191 t193 x18_1 t204 t208 true)) = some r := by rw [if_pos rfl] at H; exact H
                          clear H
                          have H := H1
                          clear H1
                          by_cases c40 : t207 = true
                          · subst c40
                            have H1 : (if t209 = true then (if t185.toList = t182.toList then (if t195.toList = t182.toList then ((laws_b10Sum.f k1 t187).bind fun t210 => (if t210 = (t182.size : Int) then (if (t204.size : Int) = (t182.size : Int) then (laws_FnBits.j1 k1 t182 t187 t191 t193 x18_1 t204 t208 ((t193.size : Int) != (t182.size : Int))) else (laws_FnBits.j1 k1 t182 t187 t191 t193 x18_1 t204 t208 true)) else (laws_FnBits.j1 k1 t182 t187 t191 t193 x18_1 t204 t208 true))) else (laws_FnBits.j1 k1 t182 t187 t191 t193 x18_1 t204 t208 true)) else (laws_FnBits.j1 k1 t182 t187 t191 t193 x18_1 t204 t208 true)) else (laws_FnBits.j1 k1 t182 t187 t191 t193 x18_1 t204 t208 true)) = some r := by rw [if_pos rfl] at H; exact H
                            clear H
                            have H := H1
                            clear H1
                            by_cases c41 : t209 = true
                            · subst c41
                              have H1 : (if t185.toList = t182.toList then (if t195.toList = t182.toList then ((laws_b10Sum.f k1 t187).bind fun t210 => (if t210 = (t182.size : Int) then (if (t204.size : Int) = (t182.size : Int) then (laws_FnBits.j1 k1 t182 t187 t191 t193 x18_1 t204 t208 ((t193.size : Int) != (t182.size : Int))) else (laws_FnBits.j1 k1 t182 t187 t191 t193 x18_1 t204 t208 true)) else (laws_FnBits.j1 k1 t182 t187 t191 t193 x18_1 t204 t208 true))) else (laws_FnBits.j1 k1 t182 t187 t191 t193 x18_1 t204 t208 true)) else (laws_FnBits.j1 k1 t182 t187 t191 t193 x18_1 t204 t208 true)) = some r := by rw [if_pos rfl] at H; exact H
                              clear H
                              have H := H1
                              clear H1
                              by_cases c42 : t185.toList = t182.toList
                              · rw [if_pos c42] at H
                                have c42b0 : (t185.toList == t182.toList) = true := beq_iff_eq.mpr c42
                                have c42b1 : (t185.toList != t182.toList) = false := bne_eq_false_iff_eq.mpr c42
                                clear c42
                                (first | rw [c42b0] | (simp only [i64_w, i32_w]; rw [c42b0]) | skip)
                                by_cases c43 : t195.toList = t182.toList
                                · rw [if_pos c43] at H
                                  have c43b0 : (t195.toList == t182.toList) = true := beq_iff_eq.mpr c43
                                  have c43b1 : (t195.toList != t182.toList) = false := bne_eq_false_iff_eq.mpr c43
                                  clear c43
                                  replace H := Option.bind_eq_some_iff.mp H
                                  obtain ⟨t210, A440, H⟩ := H
                                  replace H : (if t210 = (t182.size : Int) then (if (t204.size : Int) = (t182.size : Int) then (laws_FnBits.j1 k1 t182 t187 t191 t193 x18_1 t204 t208 ((t193.size : Int) != (t182.size : Int))) else (laws_FnBits.j1 k1 t182 t187 t191 t193 x18_1 t204 t208 true)) else (laws_FnBits.j1 k1 t182 t187 t191 t193 x18_1 t204 t208 true)) = some r := H
                                  have A44 := Aside0.mk A440
                                  clear A440
                                  by_cases c45 : t210 = (t182.size : Int)
                                  · rw [if_pos c45] at H
                                    have c45b0 : (t210 == (t182.size : Int)) = true := beq_iff_eq.mpr c45
                                    have c45b1 : (t210 != (t182.size : Int)) = false := bne_eq_false_iff_eq.mpr c45
                                    clear c45
                                    by_cases c46 : (t204.size : Int) = (t182.size : Int)
                                    · rw [if_pos c46] at H
                                      have c46b0 : ((t204.size : Int) == (t182.size : Int)) = true := beq_iff_eq.mpr c46
                                      have c46b1 : ((t204.size : Int) != (t182.size : Int)) = false := bne_eq_false_iff_eq.mpr c46
                                      have c46b2 : (t204.size == t182.size) = true := by first | simpa using c46 | (simp at c46 ⊢; omega)
                                      clear c46
                                      as_aux_lemma =>
                                        have H' := Aside0.mk H
                                        clear H
                                        obtain ⟨Ao47, co47, eo47⟩ := Kd.R_slice HO_10.out
                                        subst eo47
                                        go_wp2_with (first | (go_at_call 32; (with_reducible refine (laws_b10Sum.calls k1 _ _ t187 t210 _ ?side1 ?side2 A44.out).mono ?_); (case side1 => repeat (first | exact (Kd.R_reads' HO_10.out).2.2 | (with_reducible refine Kd.C_alloc ?_ _) | (with_reducible refine Kd.C_drewN ?_ _) | (with_reducible refine Kd.C_drew ?_))); (case side2 => exact (Kd.R_reads' HO_10.out).2.1); rintro e w' ⟨rfl, ⟨nd, rfl⟩⟩; (try first | exact ⟨rfl, _, World.drewN_drewN _ _ _⟩ | exact ⟨rfl, _, Eq.trans (World.drewN_drewN _ _ _) (congrArg (World.drewN _) (Nat.add_assoc _ _ _))⟩)))
                                        repeat (go_quiet (first | (go_at_call 32; (with_reducible refine (laws_b10Sum.calls k1 _ _ t187 t210 _ ?side1 ?side2 A44.out).mono ?_); (case side1 => repeat (first | exact (Kd.R_reads' HO_10.out).2.2 | (with_reducible refine Kd.C_alloc ?_ _) | (with_reducible refine Kd.C_drewN ?_ _) | (with_reducible refine Kd.C_drew ?_))); (case side2 => exact (Kd.R_reads' HO_10.out).2.1); rintro e w' ⟨rfl, ⟨nd, rfl⟩⟩; (try first | exact ⟨rfl, _, World.drewN_drewN _ _ _⟩ | exact ⟨rfl, _, Eq.trans (World.drewN_drewN _ _ _) (congrArg (World.drewN _) (Nat.add_assoc _ _ _))⟩))); try go_wp2_with (first | (go_at_call 32; (with_reducible refine (laws_b10Sum.calls k1 _ _ t187 t210 _ ?side1 ?side2 A44.out).mono ?_); (case side1 => repeat (first | exact (Kd.R_reads' HO_10.out).2.2 | (with_reducible refine Kd.C_alloc ?_ _) | (with_reducible refine Kd.C_drewN ?_ _) | (with_reducible refine Kd.C_drew ?_))); (case side2 => exact (Kd.R_reads' HO_10.out).2.1); rintro e w' ⟨rfl, ⟨nd, rfl⟩⟩; (try first | exact ⟨rfl, _, World.drewN_drewN _ _ _⟩ | exact ⟨rfl, _, Eq.trans (World.drewN_drewN _ _ _) (congrArg (World.drewN _) (Nat.add_assoc _ _ _))⟩))))
                                        go_meet
                                        case rel => exact ⟨_, (((t193.size : Int) != (t182.size : Int))), (by first | rfl | (simp; done) | (simp [*]; done)), H', ⟨by have := HK1.out; first | omega | exact Nat.le_refl _⟩, ⟨by (with_reducible repeat (first | apply Kd.R_alloc | apply Kd.R_drewN | apply Kd.R_drew)); exact HO_10.out⟩, ⟨by (with_reducible repeat (first | apply Kd.R_alloc | apply Kd.R_drewN | apply Kd.R_drew)); exact HO_18.out⟩, ⟨by repeat (first | (with_reducible first | exact HB.out | apply below_alloc | apply pw_below_drewN | apply below_drew1) | exact HB.out)⟩⟩
                                    · rw [if_neg c46] at H
                                      have c46b0 : ((t204.size : Int) == (t182.size : Int)) = false := beq_eq_false_iff_ne.mpr c46
                                      have c46b1 : ((t204.size : Int) != (t182.size : Int)) = true := bne_iff_ne.mpr c46
                                      have c46b2 : (t204.size == t182.size) = false := by first | simpa using c46 | (simp at c46 ⊢; omega)
                                      as_aux_lemma =>
                                        have H' := Aside0.mk H
                                        clear H
                                        obtain ⟨Ao48, co48, eo48⟩ := Kd.R_slice HO_10.out
                                        subst eo48
                                        go_wp2_with (first | (go_at_call 32; (with_reducible refine (laws_b10Sum.calls k1 _ _ t187 t210 _ ?side1 ?side2 A44.out).mono ?_); (case side1 => repeat (first | exact (Kd.R_reads' HO_10.out).2.2 | (with_reducible refine Kd.C_alloc ?_ _) | (with_reducible refine Kd.C_drewN ?_ _) | (with_reducible refine Kd.C_drew ?_))); (case side2 => exact (Kd.R_reads' HO_10.out).2.1); rintro e w' ⟨rfl, ⟨nd, rfl⟩⟩; (try first | exact ⟨rfl, _, World.drewN_drewN _ _ _⟩ | exact ⟨rfl, _, Eq.trans (World.drewN_drewN _ _ _) (congrArg (World.drewN _) (Nat.add_assoc _ _ _))⟩)))
                                        repeat (go_quiet (first | (go_at_call 32; (with_reducible refine (laws_b10Sum.calls k1 _ _ t187 t210 _ ?side1 ?side2 A44.out).mono ?_); (case side1 => repeat (first | exact (Kd.R_reads' HO_10.out).2.2 | (with_reducible refine Kd.C_alloc ?_ _) | (with_reducible refine Kd.C_drewN ?_ _) | (with_reducible refine Kd.C_drew ?_))); (case side2 => exact (Kd.R_reads' HO_10.out).2.1); rintro e w' ⟨rfl, ⟨nd, rfl⟩⟩; (try first | exact ⟨rfl, _, World.drewN_drewN _ _ _⟩ | exact ⟨rfl, _, Eq.trans (World.drewN_drewN _ _ _) (congrArg (World.drewN _) (Nat.add_assoc _ _ _))⟩))); try go_wp2_with (first | (go_at_call 32; (with_reducible refine (laws_b10Sum.calls k1 _ _ t187 t210 _ ?side1 ?side2 A44.out).mono ?_); (case side1 => repeat (first | exact (Kd.R_reads' HO_10.out).2.2 | (with_reducible refine Kd.C_alloc ?_ _) | (with_reducible refine Kd.C_drewN ?_ _) | (with_reducible refine Kd.C_drew ?_))); (case side2 => exact (Kd.R_reads' HO_10.out).2.1); rintro e w' ⟨rfl, ⟨nd, rfl⟩⟩; (try first | exact ⟨rfl, _, World.drewN_drewN _ _ _⟩ | exact ⟨rfl, _, Eq.trans (World.drewN_drewN _ _ _) (congrArg (World.drewN _) (Nat.add_assoc _ _ _))⟩))))
                                        go_meet
                                        case rel => exact ⟨_, (true), (by first | rfl | (simp; done) | (simp [*]; done)), H', ⟨by have := HK1.out; first | omega | exact Nat.le_refl _⟩, ⟨by (with_reducible repeat (first | apply Kd.R_alloc | apply Kd.R_drewN | apply Kd.R_drew)); exact HO_10.out⟩, ⟨by (with_reducible repeat (first | apply Kd.R_alloc | apply Kd.R_drewN | apply Kd.R_drew)); exact HO_18.out⟩, ⟨by repeat (first | (with_reducible first | exact HB.out | apply below_alloc | apply pw_below_drewN | apply below_drew1) | exact HB.out)⟩⟩
                                  · rw [if_neg c45] at H
                                    have c45b0 : (t210 == (t182.size : Int)) = false := beq_eq_false_iff_ne.mpr c45
                                    have c45b1 : (t210 != (t182.size : Int)) = true := bne_iff_ne.mpr c45
                                    as_aux_lemma =>
                                      have H' := Aside0.mk H
                                      clear H
                                      obtain ⟨Ao49, co49, eo49⟩ := Kd.R_slice HO_10.out
                                      subst eo49
                                      go_wp2_with (first | (go_at_call 32; (with_reducible refine (laws_b10Sum.calls k1 _ _ t187 t210 _ ?side1 ?side2 A44.out).mono ?_); (case side1 => repeat (first | exact (Kd.R_reads' HO_10.out).2.2 | (with_reducible refine Kd.C_alloc ?_ _) | (with_reducible refine Kd.C_drewN ?_ _) | (with_reducible refine Kd.C_drew ?_))); (case side2 => exact (Kd.R_reads' HO_10.out).2.1); rintro e w' ⟨rfl, ⟨nd, rfl⟩⟩; (try first | exact ⟨rfl, _, World.drewN_drewN _ _ _⟩ | exact ⟨rfl, _, Eq.trans (World.drewN_drewN _ _ _) (congrArg (World.drewN _) (Nat.add_assoc _ _ _))⟩)))
                                      repeat (go_quiet (first | (go_at_call 32; (with_reducible refine (laws_b10Sum.calls k1 _ _ t187 t210 _ ?side1 ?side2 A44.out).mono ?_); (case side1 => repeat (first | exact (Kd.R_reads' HO_10.out).2.2 | (with_reducible refine Kd.C_alloc ?_ _) | (with_reducible refine Kd.C_drewN ?_ _) | (with_reducible refine Kd.C_drew ?_))); (case side2 => exact (Kd.R_reads' HO_10.out).2.1); rintro e w' ⟨rfl, ⟨nd, rfl⟩⟩; (try first | exact ⟨rfl, _, World.drewN_drewN _ _ _⟩ | exact ⟨rfl, _, Eq.trans (World.drewN_drewN _ _ _) (congrArg (World.drewN _) (Nat.add_assoc _ _ _))⟩))); try go_wp2_with (first | (go_at_call 32; (with_reducible refine (laws_b10Sum.calls k1 _ _ t187 t210 _ ?side1 ?side2 A44.out).mono ?_); (case side1 => repeat (first | exact (Kd.R_reads' HO_10.out).2.2 | (with_reducible refine Kd.C_alloc ?_ _) | (with_reducible refine Kd.C_drewN ?_ _) | (with_reducible refine Kd.C_drew ?_))); (case side2 => exact (Kd.R_reads' HO_10.out).2.1); rintro e w' ⟨rfl, ⟨nd, rfl⟩⟩; (try first | exact ⟨rfl, _, World.drewN_drewN _ _ _⟩ | exact ⟨rfl, _, Eq.trans (World.drewN_drewN _ _ _) (congrArg (World.drewN _) (Nat.add_assoc _ _ _))⟩))))
                                      go_meet
                                      case rel => exact ⟨_, (true), (by first | rfl | (simp; done) | (simp [*]; done)), H', ⟨by have := HK1.out; first | omega | exact Nat.le_refl _⟩, ⟨by (with_reducible repeat (first | apply Kd.R_alloc | apply Kd.R_drewN | apply Kd.R_drew)); exact HO_10.out⟩, ⟨by (with_reducible repeat (first | apply Kd.R_alloc | apply Kd.R_drewN | apply Kd.R_drew)); exact HO_18.out⟩, ⟨by repeat (first | (with_reducible first | exact HB.out | apply below_alloc | apply pw_below_drewN | apply below_drew1) | exact HB.out)⟩⟩
                                · rw [if_neg c43] at H
                                  have c43b0 : (t195.toList == t182.toList) = false := beq_eq_false_iff_ne.mpr c43
                                  have c43b1 : (t195.toList != t182.toList) = true := bne_iff_ne.mpr c43
                                  as_aux_lemma =>
                                    have H' := Aside0.mk H
                                    clear H
                                    go_wp2
                                    repeat (go_quiet (fail); try go_wp2)
                                    go_meet
                                    case rel => exact ⟨_, (true), (by first | rfl | (simp; done) | (simp [*]; done)), H', ⟨by have := HK1.out; first | omega | exact Nat.le_refl _⟩, ⟨by (with_reducible repeat (first | apply Kd.R_alloc | apply Kd.R_drewN | apply Kd.R_drew)); exact HO_10.out⟩, ⟨by (with_reducible repeat (first | apply Kd.R_alloc | apply Kd.R_drewN | apply Kd.R_drew)); exact HO_18.out⟩, ⟨by repeat (first | (with_reducible first | exact HB.out | apply below_alloc | apply pw_below_drewN | apply below_drew1) | exact HB.out)⟩⟩
                              · rw [if_neg c42] at H
                                have c42b0 : (t185.toList == t182.toList) = false := beq_eq_false_iff_ne.mpr c42
                                have c42b1 : (t185.toList != t182.toList) = true := bne_iff_ne.mpr c42
                                (first | rw [c42b0] | (simp only [i64_w, i32_w]; rw [c42b0]) | skip)
                                as_aux_lemma =>
                                  have H' := Aside0.mk H
                                  clear H
                                  go_wp2
                                  repeat (go_quiet (fail); try go_wp2)
                                  go_meet
                                  case rel => exact ⟨_, (true), (by first | rfl | (simp; done) | (simp [*]; done)), H', ⟨by have := HK1.out; first | omega | exact Nat.le_refl _⟩, ⟨by (with_reducible repeat (first | apply Kd.R_alloc | apply Kd.R_drewN | apply Kd.R_drew)); exact HO_10.out⟩, ⟨by (with_reducible repeat (first | apply Kd.R_alloc | apply Kd.R_drewN | apply Kd.R_drew)); exact HO_18.out⟩, ⟨by repeat (first | (with_reducible first | exact HB.out | apply below_alloc | apply pw_below_drewN | apply below_drew1) | exact HB.out)⟩⟩
                            · replace c41 := Bool.eq_false_iff.mpr c41
                              subst c41
                              have H1 : (laws_FnBits.j1 k1 t182 t187 t191 t193 x18_1 t204 t208 true) = some r := by rw [if_neg (show ¬ (false = true) by decide)] at H; exact H
                              clear H
                              have H := H1
                              clear H1
                              as_aux_lemma =>
                                have H' := Aside0.mk H
                                clear H
                                go_wp2
                                repeat (go_quiet (fail); try go_wp2)
                                go_meet
                                case rel => exact ⟨_, (true), (by first | rfl | (simp; done) | (simp [*]; done)), H', ⟨by have := HK1.out; first | omega | exact Nat.le_refl _⟩, ⟨by (with_reducible repeat (first | apply Kd.R_alloc | apply Kd.R_drewN | apply Kd.R_drew)); exact HO_10.out⟩, ⟨by (with_reducible repeat (first | apply Kd.R_alloc | apply Kd.R_drewN | apply Kd.R_drew)); exact HO_18.out⟩, ⟨by repeat (first | (with_reducible first | exact HB.out | apply below_alloc | apply pw_below_drewN | apply below_drew1) | exact HB.out)⟩⟩
                          · replace c40 := Bool.eq_false_iff.mpr c40
                            subst c40
                            have H1 : (laws_FnBits.j1 k1 t182 t187 t191 t193 x18_1 t204 t208 true) = some r := by rw [if_neg (show ¬ (false = true) by decide)] at H; exact H
                            clear H
                            have H := H1
                            clear H1
                            as_aux_lemma =>
                              have H' := Aside0.mk H
                              clear H
                              go_wp2
                              repeat (go_quiet (fail); try go_wp2)
                              go_meet
                              case rel => exact ⟨_, (true), (by first | rfl | (simp; done) | (simp [*]; done)), H', ⟨by have := HK1.out; first | omega | exact Nat.le_refl _⟩, ⟨by (with_reducible repeat (first | apply Kd.R_alloc | apply Kd.R_drewN | apply Kd.R_drew)); exact HO_10.out⟩, ⟨by (with_reducible repeat (first | apply Kd.R_alloc | apply Kd.R_drewN | apply Kd.R_drew)); exact HO_18.out⟩, ⟨by repeat (first | (with_reducible first | exact HB.out | apply below_alloc | apply pw_below_drewN | apply below_drew1) | exact HB.out)⟩⟩
                        · replace c39 := Bool.eq_false_iff.mpr c39
                          subst c39
                          have H1 : (laws_FnBits.j1 k1 t182 t187 t191 t193 x18_1 t204 t208 true) = some r := by rw [if_neg (show ¬ (false = true) by decide)] at H; exact H
                          clear H
                          have H := H1
                          clear H1
                          as_aux_lemma =>
                            have H' := Aside0.mk H
                            clear H
                            go_wp2
                            repeat (go_quiet (fail); try go_wp2)
                            go_meet
                            case rel => exact ⟨_, (true), (by first | rfl | (simp; done) | (simp [*]; done)), H', ⟨by have := HK1.out; first | omega | exact Nat.le_refl _⟩, ⟨by (with_reducible repeat (first | apply Kd.R_alloc | apply Kd.R_drewN | apply Kd.R_drew)); exact HO_10.out⟩, ⟨by (with_reducible repeat (first | apply Kd.R_alloc | apply Kd.R_drewN | apply Kd.R_drew)); exact HO_18.out⟩, ⟨by repeat (first | (with_reducible first | exact HB.out | apply below_alloc | apply pw_below_drewN | apply below_drew1) | exact HB.out)⟩⟩
                      · replace c38 := Bool.eq_false_iff.mpr c38
                        subst c38
                        have H1 : (laws_FnBits.j1 k1 t182 t187 t191 t193 x18_1 t204 t208 true) = some r := by rw [if_neg (show ¬ (false = true) by decide)] at H; exact H
                        clear H
                        have H := H1
                        clear H1
                        as_aux_lemma =>
                          have H' := Aside0.mk H
                          clear H
                          go_wp2
                          repeat (go_quiet (fail); try go_wp2)
                          go_meet
                          case rel => exact ⟨_, (true), (by first | rfl | (simp; done) | (simp [*]; done)), H', ⟨by have := HK1.out; first | omega | exact Nat.le_refl _⟩, ⟨by (with_reducible repeat (first | apply Kd.R_alloc | apply Kd.R_drewN | apply Kd.R_drew)); exact HO_10.out⟩, ⟨by (with_reducible repeat (first | apply Kd.R_alloc | apply Kd.R_drewN | apply Kd.R_drew)); exact HO_18.out⟩, ⟨by repeat (first | (with_reducible first | exact HB.out | apply below_alloc | apply pw_below_drewN | apply below_drew1) | exact HB.out)⟩⟩
                    · replace c37 := Bool.eq_false_iff.mpr c37
                      subst c37
                      have H1 : (laws_FnBits.j1 k1 t182 t187 t191 t193 x18_1 t204 t208 true) = some r := by rw [if_neg (show ¬ (false = true) by decide)] at H; exact H
                      clear H
                      have H := H1
                      clear H1
                      as_aux_lemma =>
                        have H' := Aside0.mk H
                        clear H
                        go_wp2
                        repeat (go_quiet (fail); try go_wp2)
                        go_meet
                        case rel => exact ⟨_, (true), (by first | rfl | (simp; done) | (simp [*]; done)), H', ⟨by have := HK1.out; first | omega | exact Nat.le_refl _⟩, ⟨by (with_reducible repeat (first | apply Kd.R_alloc | apply Kd.R_drewN | apply Kd.R_drew)); exact HO_10.out⟩, ⟨by (with_reducible repeat (first | apply Kd.R_alloc | apply Kd.R_drewN | apply Kd.R_drew)); exact HO_18.out⟩, ⟨by repeat (first | (with_reducible first | exact HB.out | apply below_alloc | apply pw_below_drewN | apply below_drew1) | exact HB.out)⟩⟩
                  · replace c36 := Bool.eq_false_iff.mpr c36
                    subst c36
                    have H1 : (laws_FnBits.j1 k1 t182 t187 t191 t193 x18_1 t204 t208 true) = some r := by rw [if_neg (show ¬ (false = true) by decide)] at H; exact H
                    clear H
                    have H := H1
                    clear H1
                    as_aux_lemma =>
                      have H' := Aside0.mk H
                      clear H
                      go_wp2
                      repeat (go_quiet (fail); try go_wp2)
                      go_meet
                      case rel => exact ⟨_, (true), (by first | rfl | (simp; done) | (simp [*]; done)), H', ⟨by have := HK1.out; first | omega | exact Nat.le_refl _⟩, ⟨by (with_reducible repeat (first | apply Kd.R_alloc | apply Kd.R_drewN | apply Kd.R_drew)); exact HO_10.out⟩, ⟨by (with_reducible repeat (first | apply Kd.R_alloc | apply Kd.R_drewN | apply Kd.R_drew)); exact HO_18.out⟩, ⟨by repeat (first | (with_reducible first | exact HB.out | apply below_alloc | apply pw_below_drewN | apply below_drew1) | exact HB.out)⟩⟩
                · replace c35 := Bool.eq_false_iff.mpr c35
                  subst c35
                  have H1 : (laws_FnBits.j1 k1 t182 t187 t191 t193 x18_1 t204 t208 true) = some r := by rw [if_neg (show ¬ (false = true) by decide)] at H; exact H
                  clear H
                  have H := H1
                  clear H1
                  as_aux_lemma =>
                    have H' := Aside0.mk H
                    clear H
                    go_wp2
                    repeat (go_quiet (fail); try go_wp2)
                    go_meet
                    case rel => exact ⟨_, (true), (by first | rfl | (simp; done) | (simp [*]; done)), H', ⟨by have := HK1.out; first | omega | exact Nat.le_refl _⟩, ⟨by (with_reducible repeat (first | apply Kd.R_alloc | apply Kd.R_drewN | apply Kd.R_drew)); exact HO_10.out⟩, ⟨by (with_reducible repeat (first | apply Kd.R_alloc | apply Kd.R_drewN | apply Kd.R_drew)); exact HO_18.out⟩, ⟨by repeat (first | (with_reducible first | exact HB.out | apply below_alloc | apply pw_below_drewN | apply below_drew1) | exact HB.out)⟩⟩
              · replace c34 := Bool.eq_false_iff.mpr c34
                subst c34
                have H1 : (laws_FnBits.j1 k1 t182 t187 t191 t193 x18_1 t204 t208 true) = some r := by rw [if_neg (show ¬ (false = true) by decide)] at H; exact H
                clear H
                have H := H1
                clear H1
                as_aux_lemma =>
                  have H' := Aside0.mk H
                  clear H
                  go_wp2
                  repeat (go_quiet (fail); try go_wp2)
                  go_meet
                  case rel => exact ⟨_, (true), (by first | rfl | (simp; done) | (simp [*]; done)), H', ⟨by have := HK1.out; first | omega | exact Nat.le_refl _⟩, ⟨by (with_reducible repeat (first | apply Kd.R_alloc | apply Kd.R_drewN | apply Kd.R_drew)); exact HO_10.out⟩, ⟨by (with_reducible repeat (first | apply Kd.R_alloc | apply Kd.R_drewN | apply Kd.R_drew)); exact HO_18.out⟩, ⟨by repeat (first | (with_reducible first | exact HB.out | apply below_alloc | apply pw_below_drewN | apply below_drew1) | exact HB.out)⟩⟩
            · replace c33 := Bool.eq_false_iff.mpr c33
              subst c33
              have H1 : (laws_FnBits.j1 k1 t182 t187 t191 t193 x18_1 t204 t208 true) = some r := by rw [if_neg (show ¬ (false = true) by decide)] at H; exact H
              clear H
              have H := H1
              clear H1
              as_aux_lemma =>
                have H' := Aside0.mk H
                clear H
                go_wp2
                repeat (go_quiet (fail); try go_wp2)
                go_meet
                case rel => exact ⟨_, (true), (by first | rfl | (simp; done) | (simp [*]; done)), H', ⟨by have := HK1.out; first | omega | exact Nat.le_refl _⟩, ⟨by (with_reducible repeat (first | apply Kd.R_alloc | apply Kd.R_drewN | apply Kd.R_drew)); exact HO_10.out⟩, ⟨by (with_reducible repeat (first | apply Kd.R_alloc | apply Kd.R_drewN | apply Kd.R_drew)); exact HO_18.out⟩, ⟨by repeat (first | (with_reducible first | exact HB.out | apply below_alloc | apply pw_below_drewN | apply below_drew1) | exact HB.out)⟩⟩
          case rest =>
            clear HC28
            try clear c1
            try clear c2
            try clear p2
            try clear hcv2
            try clear c3
            try clear hcv3
            try clear c4
            try clear p6
            try clear c7
            try clear c21
            try clear c21b0
            try clear c23
            try clear hcv29
            try clear hcv31
            try clear c33
            try clear c34
            try clear c35
            try clear c36
            try clear c37
            try clear c38
            try clear c39
            try clear c40
            try clear c41
            try clear c42
            try clear c42b0
            try clear c42b1
            try clear c43
            try clear c43b0
            try clear c43b1
            try clear c45
            try clear c45b0
            try clear c45b1
            try clear c46
            try clear c46b0
            try clear c46b1
            try clear c46b2
            try clear p2
            obtain ⟨kq, x165_27, rfl, HA, HJ27, HO_10, HO_18, HB⟩ := hcut
            cases kq with
            | zero => exact absurd HA.out (by simp [laws_FnBits.j1])
            | succ kj27 =>
              have H := HA.out
              clear HA
              simp only [laws_FnBits.j1] at H
              by_cases c50 : x165_27 = true
              · subst c50
                have H1 : (some false) = some r := by rw [if_pos rfl] at H; exact H
                clear H
                have H := H1
                clear H1
                as_aux_lemma =>
                  obtain rfl := Option.some.inj H
                  go_wp2
                  repeat (go_quiet (fail); try go_wp2)
                  go_ret
                  exact ⟨by first | rfl | (simp [errW_none, errW_some] <;> rfl) | (simp [*, errW_none, errW_some] <;> rfl), by repeat (first | (with_reducible first | exact HB.out | apply below_alloc | apply pw_below_drewN | apply below_drew1) | exact HB.out)⟩
              · replace c50 := Bool.eq_false_iff.mpr c50
                subst c50
                have H1 : (laws_FnBits.l1 kj27 t182 t187 t191 t193 x18_1 t204 t208 0 0 0 0) = some r := by rw [if_neg (show ¬ (false = true) by decide)] at H; exact H
                clear H
                have H := H1
                clear H1
                have H' := Aside0.mk H
                clear H
                go_wp2
                repeat (go_quiet (fail); try go_wp2)
                go_loopg [26, 27, 28, 29] kj27 (fun kq v26 v27 v28 v29 w' => ∃ (x26_3 : Int) (x27_3 : Int) (x28_3 : Int) (x29_3 : Int), v26 = .int .i64 x26_3 ∧ v27 = .int .i64 x27_3 ∧ v28 = .int .i64 x28_3 ∧ v29 = .int .i64 x29_3 ∧ Aside0 (laws_FnBits.l1 kq t182 t187 t191 t193 x18_1 t204 t208 x26_3 x27_3 x28_3 x29_3 = some r) ∧ Aside0 (kq ≤ kj27) ∧ Aside0 (Kd.R (Kd.int .i64) 2 w' w.heap.size (fun _ => True) v189 t187) ∧ Aside0 (Kd.R (Kd.int .u8) 5 w' w.heap.size (fun _ => True) u18 x18_1) ∧ Aside0 (Below w.heap.size w w'))
                case atStart => exact ⟨(0), (0), (0), (0), (by first | rfl | (simp; done) | (simp [*]; done)), (by first | rfl | (simp; done) | (simp [*]; done)), (by first | rfl | (simp; done) | (simp [*]; done)), (by first | rfl | (simp; done) | (simp [*]; done)), H', ⟨Nat.le_refl _⟩, ⟨by (with_reducible repeat (first | apply Kd.R_alloc | apply Kd.R_drewN | apply Kd.R_drew)); exact HO_10.out⟩, ⟨by (with_reducible repeat (first | apply Kd.R_alloc | apply Kd.R_drewN | apply Kd.R_drew)); exact HO_18.out⟩, ⟨by repeat (first | (with_reducible first | exact HB.out | apply below_alloc | apply pw_below_drewN | apply below_drew1) | exact HB.out)⟩⟩
                case round =>
                  clear H'
                  try clear c1
                  try clear c2
                  try clear p2
                  try clear hcv2
                  try clear c3
                  try clear hcv3
                  try clear c4
                  try clear c5
                  try clear p6
                  try clear c7
                  try clear c21
                  try clear c21b0
                  try clear c23
                  try clear hcv29
                  try clear hcv31
                  try clear c33
                  try clear c34
                  try clear c35
                  try clear c36
                  try clear c37
                  try clear c38
                  try clear c39
                  try clear c40
                  try clear c41
                  try clear c42
                  try clear c42b0
                  try clear c42b1
                  try clear c43
                  try clear c43b0
                  try clear c43b1
                  try clear c45
                  try clear c45b0
                  try clear c45b1
                  try clear c46
                  try clear c46b0
                  try clear c46b1
                  try clear c46b2
                  try clear c50
                  try clear p2
                  try clear p6
                  obtain ⟨x26_3, x27_3, x28_3, x29_3, rfl, rfl, rfl, rfl, HA, HK3, HO_10, HO_18, HB⟩ := hrel
                  cases gk with
                  | zero => exact absurd HA.out (by simp [laws_FnBits.l1])
                  | succ k3 =>
                    have H := HA.out
                    clear HA
                    simp only [laws_FnBits.l1] at H
                    by_cases c51 : x29_3 < (t182.size : Int)
                    · rw [if_pos c51] at H
                      have c51b0 : decide (x29_3 < (t182.size : Int)) = true := decide_eq_true c51
                      clear c51
                      have HC52 := Aside0.mk H
                      clear H
                      go_upto_region 26 with (fail)
                      repeat (go_quiet (fail); go_upto_region 26 with (fail))
                      go_cut [197] (fun v197 wc => ∃ (kq : Nat) (x197_51 : Bool), v197 = .bool x197_51 ∧ Aside0 (laws_FnBits.j3 kq t182 t187 t191 t193 x18_1 t204 t208 x26_3 x27_3 x28_3 x29_3 x197_51 = some r) ∧ Aside0 (kq ≤ k3) ∧ Aside0 (Kd.R (Kd.int .i64) 2 wc w.heap.size (fun _ => True) v189 t187) ∧ Aside0 (Kd.R (Kd.int .u8) 5 wc w.heap.size (fun _ => True) u18 x18_1) ∧ Aside0 (Below w.heap.size w wc))
                      case first =>
                        have H := HC52.out
                        clear HC52
                        by_cases c53 : 0 ≤ x29_3
                        · rw [if_pos c53] at H
                          have c53b0 : decide (0 ≤ x29_3) = true := decide_eq_true c53
                          clear c53
                          (first | rw [c53b0] | (simp only [i64_w, i32_w]; rw [c53b0]) | skip)
                          by_cases c55 : x29_3 < (x18_1.length : Int)
                          · rw [if_pos c55] at H
                            have c55b0 : decide (x29_3 < (x18_1.length : Int)) = true := decide_eq_true c55
                            clear c55
                            by_cases c56 : x29_3 < (t204.size : Int)
                            · rw [if_pos c56] at H
                              have c56b0 : decide (x29_3 < (t204.size : Int)) = true := decide_eq_true c56
                              clear c56
                              by_cases c58 : (((bt t182 x29_3) != (rd x18_1 x29_3)) != ((bt t204 x29_3) == 49)) = true
                              · rw [if_pos c58] at H
                                have c58b0 : (((bt t182 x29_3) != (rd x18_1 x29_3)) != ((bt t204 x29_3) == 49)) = true := c58
                                (try (have c58b1 : decide (((bt t182 x29_3) != (rd x18_1 x29_3)) = ((bt t204 x29_3) == 49)) = false := by simpa using c58))
                                (try (have c58b2 : (((bt t182 x29_3) != (rd x18_1 x29_3)) == ((bt t204 x29_3) == 49)) = false := by simpa using c58))
                                (try (have c58b3 : ¬ (((bt t182 x29_3) != (rd x18_1 x29_3)) = ((bt t204 x29_3) == 49)) := by simpa using c58))
                                clear c58
                                as_aux_lemma =>
                                  have H' := Aside0.mk H
                                  clear H
                                  have p54 : 0 ≤ (x29_3 : Int) := of_decide_eq_true (by first | (with_reducible assumption) | assumption)
                                  have q54 : x29_3 < (t182.size : Int) := of_decide_eq_true (by first | (with_reducible assumption) | assumption)
                                  have hx54 := bt_at t182 x29_3
                                  replace p54 := eq_true p54
                                  replace q54 := eq_true q54
                                  obtain ⟨Ao59, co59, eo59⟩ := Kd.R_slice HO_18.out
                                  subst eo59
                                  have p211 : 0 ≤ (x29_3 : Int) := of_decide_eq_true (by first | (with_reducible assumption) | assumption)
                                  have q211 : x29_3 < (x18_1.length : Int) := of_decide_eq_true (by first | (with_reducible assumption) | assumption)
                                  obtain ⟨ad211, e211, hx211_0⟩ := Kd.at_int (Kd.R_reads' HO_18.out).2.2 x29_3 p211 q211
                                  cases e211
                                  replace p211 := eq_true p211
                                  replace q211 := eq_true q211
                                  have p57 : 0 ≤ (x29_3 : Int) := of_decide_eq_true (by first | (with_reducible assumption) | assumption)
                                  have q57 : x29_3 < (t204.size : Int) := of_decide_eq_true (by first | (with_reducible assumption) | assumption)
                                  have hx57 := bt_at t204 x29_3
                                  replace p57 := eq_true p57
                                  replace q57 := eq_true q57
                                  go_wp2
                                  repeat (go_quiet (fail); try go_wp2)
                                  go_meet
                                  case rel => exact ⟨_, (true), (by first | rfl | (simp; done) | (simp [*]; done)), H', ⟨by have := HK1.out; have := HJ27.out; have := HK3.out; first | omega | exact Nat.le_refl _⟩, ⟨by (with_reducible repeat (first | apply Kd.R_alloc | apply Kd.R_drewN | apply Kd.R_drew)); exact HO_10.out⟩, ⟨by (with_reducible repeat (first | apply Kd.R_alloc | apply Kd.R_drewN | apply Kd.R_drew)); exact HO_18.out⟩, ⟨by repeat (first | (with_reducible first | exact HB.out | apply below_alloc | apply pw_below_drewN | apply below_drew1) | exact HB.out)⟩⟩
                              · rw [if_neg c58] at H
                                have c58b0 : (((bt t182 x29_3) != (rd x18_1 x29_3)) != ((bt t204 x29_3) == 49)) = false := by simpa using c58
                                (try (have c58b1 : decide (((bt t182 x29_3) != (rd x18_1 x29_3)) = ((bt t204 x29_3) == 49)) = true := by simpa using c58))
                                (try (have c58b2 : (((bt t182 x29_3) != (rd x18_1 x29_3)) == ((bt t204 x29_3) == 49)) = true := by simpa using c58))
                                clear c58
                                obtain ⟨ji60, hji60⟩ : ∃ j_ : Int, (wrap64 ((wrap64 ((t182.size : Int) - 1)) - x29_3)) = j_ := ⟨_, rfl⟩
                                replace H : (if 0 ≤ (ji60) then (if (ji60) < (t193.size : Int) then (laws_FnBits.j3 k3 t182 t187 t191 t193 x18_1 t204 t208 x26_3 x27_3 x28_3 x29_3 ((bt t193 (ji60)) != (bt t182 x29_3))) else (none)) else (none)) = some r := by first | (rw [hji60] at H; exact H) | (simp only [hji60] at H ⊢; exact H)
                                have hji60w : (IntKind.i64.wrap ((wrap64 ((t182.size : Int) - 1)) - x29_3)) = ji60 := (i64_w _).trans hji60
                                by_cases c61 : 0 ≤ (ji60)
                                · rw [if_pos c61] at H
                                  have c61b0 : decide (0 ≤ (ji60)) = true := decide_eq_true c61
                                  clear c61
                                  by_cases c62 : (ji60) < (t193.size : Int)
                                  · rw [if_pos c62] at H
                                    have c62b0 : decide ((ji60) < (t193.size : Int)) = true := decide_eq_true c62
                                    clear c62
                                    as_aux_lemma =>
                                      have H' := Aside0.mk H
                                      clear H
                                      have p54 : 0 ≤ (x29_3 : Int) := of_decide_eq_true (by first | (with_reducible assumption) | assumption)
                                      have q54 : x29_3 < (t182.size : Int) := of_decide_eq_true (by first | (with_reducible assumption) | assumption)
                                      have hx54 := bt_at t182 x29_3
                                      replace p54 := eq_true p54
                                      replace q54 := eq_true q54
                                      obtain ⟨Ao65, co65, eo65⟩ := Kd.R_slice HO_18.out
                                      subst eo65
                                      have p211 : 0 ≤ (x29_3 : Int) := of_decide_eq_true (by first | (with_reducible assumption) | assumption)
                                      have q211 : x29_3 < (x18_1.length : Int) := of_decide_eq_true (by first | (with_reducible assumption) | assumption)
                                      obtain ⟨ad211, e211, hx211_0⟩ := Kd.at_int (Kd.R_reads' HO_18.out).2.2 x29_3 p211 q211
                                      cases e211
                                      replace p211 := eq_true p211
                                      replace q211 := eq_true q211
                                      have p57 : 0 ≤ (x29_3 : Int) := of_decide_eq_true (by first | (with_reducible assumption) | assumption)
                                      have q57 : x29_3 < (t204.size : Int) := of_decide_eq_true (by first | (with_reducible assumption) | assumption)
                                      have hx57 := bt_at t204 x29_3
                                      replace p57 := eq_true p57
                                      replace q57 := eq_true q57
                                      have p63 : 0 ≤ ((ji60) : Int) := of_decide_eq_true (by first | (with_reducible assumption) | assumption)
                                      have q63 : (ji60) < (t193.size : Int) := of_decide_eq_true (by first | (with_reducible assumption) | assumption)
                                      have hx63 := bt_at t193 (ji60)
                                      replace p63 := eq_true p63
                                      replace q63 := eq_true q63
                                      have p64 : 0 ≤ (x29_3 : Int) := of_decide_eq_true (by first | (with_reducible assumption) | assumption)
                                      have q64 : x29_3 < (t182.size : Int) := of_decide_eq_true (by first | (with_reducible assumption) | assumption)
                                      have hx64 := bt_at t182 x29_3
                                      replace p64 := eq_true p64
                                      replace q64 := eq_true q64
                                      go_wp2
                                      repeat (go_quiet (fail); try go_wp2)
                                      go_meet
                                      case rel => exact ⟨_, (((bt t193 (ji60)) != (bt t182 x29_3))), (by first | rfl | (simp; done) | (simp only [← hji60] <;> (first | rfl | simp)) | (simp [*]; done)), H', ⟨by have := HK1.out; have := HJ27.out; have := HK3.out; first | omega | exact Nat.le_refl _⟩, ⟨by (with_reducible repeat (first | apply Kd.R_alloc | apply Kd.R_drewN | apply Kd.R_drew)); exact HO_10.out⟩, ⟨by (with_reducible repeat (first | apply Kd.R_alloc | apply Kd.R_drewN | apply Kd.R_drew)); exact HO_18.out⟩, ⟨by repeat (first | (with_reducible first | exact HB.out | apply below_alloc | apply pw_below_drewN | apply below_drew1) | exact HB.out)⟩⟩
                                  · rw [if_neg c62] at H
                                    exact absurd H (by simp)
                                · rw [if_neg c61] at H
                                  exact absurd H (by simp)
                            · rw [if_neg c56] at H
                              exact absurd H (by simp)
                          · rw [if_neg c55] at H
                            exact absurd H (by simp)
                        · rw [if_neg c53] at H
                          exact absurd H (by simp)
                      case rest =>
                        clear HC52
                        try clear c1
                        try clear c2
                        try clear p2
                        try clear q2
                        try clear hx2
                        try clear hcv2
                        try clear c3
                        try clear hcv3
                        try clear c4
                        try clear c5
                        try clear p5
                        try clear q5
                        try clear hx5
                        try clear c6
                        try clear p6
                        try clear q6
                        try clear hx6
                        try clear c7
                        try clear c21
                        try clear c21b0
                        try clear p21
                        try clear q21
                        try clear hx21
                        try clear c23
                        try clear hcv29
                        try clear hcv31
                        try clear c33
                        try clear c34
                        try clear c35
                        try clear c36
                        try clear c37
                        try clear c38
                        try clear c39
                        try clear c40
                        try clear c41
                        try clear c42
                        try clear c42b0
                        try clear c42b1
                        try clear c43
                        try clear c43b0
                        try clear c43b1
                        try clear c45
                        try clear c45b0
                        try clear c45b1
                        try clear c46
                        try clear c46b0
                        try clear c46b1
                        try clear c46b2
                        try clear c50
                        try clear c51
                        try clear c51b0
                        try clear c53
                        try clear c53b0
                        try clear p54
                        try clear q54
                        try clear hx54
                        try clear c55
                        try clear c55b0
                        try clear c56
                        try clear c56b0
                        try clear p57
                        try clear q57
                        try clear hx57
                        try clear c58
                        try clear c58b0
                        try clear c58b1
                        try clear c58b2
                        try clear c61
                        try clear c61b0
                        try clear c62
                        try clear c62b0
                        try clear p63
                        try clear q63
                        try clear hx63
                        try clear p64
                        try clear q64
                        try clear hx64
                        try clear hx211_0
                        try clear p2
                        try clear p211
                        try clear p54
                        try clear p57
                        try clear p6
                        try clear p63
                        try clear p64
                        try clear q211
                        try clear q54
                        try clear q57
                        try clear q63
                        try clear q64
                        obtain ⟨kq, x197_51, rfl, HA, HJ51, HO_10, HO_18, HB⟩ := hcut
                        cases kq with
                        | zero => exact absurd HA.out (by simp [laws_FnBits.j3])
                        | succ kj51 =>
                          have H := HA.out
                          clear HA
                          simp only [laws_FnBits.j3] at H
                          by_cases c66 : x197_51 = true
                          · subst c66
                            have H1 : (some false) = some r := by rw [if_pos rfl] at H; exact H
                            clear H
                            have H := H1
                            clear H1
                            as_aux_lemma =>
                              obtain rfl := Option.some.inj H
                              go_wp2
                              repeat (go_quiet (fail); try go_wp2)
                              go_ret
                              exact ⟨by first | rfl | (simp [errW_none, errW_some] <;> rfl) | (simp [*, errW_none, errW_some] <;> rfl), by repeat (first | (with_reducible first | exact HB.out | apply below_alloc | apply pw_below_drewN | apply below_drew1) | exact HB.out)⟩
                          · replace c66 := Bool.eq_false_iff.mpr c66
                            subst c66
                            have H1 : (if 0 ≤ x29_3 then (if x29_3 < (t182.size : Int) then (if (bt t182 x29_3) = 49 then (if x29_3 < (x18_1.length : Int) then (if (rd x18_1 x29_3) = 49 then (if x29_3 = 0 then (laws_FnBits.l1 kj51 t182 t187 t191 t193 x18_1 t204 t208 (wrap64 (x26_3 + 1)) (wrap64 (x27_3 + 1)) (wrap64 (x28_3 + 1)) (wrap64 (x29_3 + 1))) else (if 0 ≤ (wrap64 (x29_3 - 1)) then (if (wrap64 (x29_3 - 1)) < (t182.size : Int) then (if (bt t182 x29_3) = (bt t182 (wrap64 (x29_3 - 1))) then (laws_FnBits.l1 kj51 t182 t187 t191 t193 x18_1 t204 t208 (wrap64 (x26_3 + 1)) (wrap64 (x27_3 + 1)) x28_3 (wrap64 (x29_3 + 1))) else (laws_FnBits.l1 kj51 t182 t187 t191 t193 x18_1 t204 t208 (wrap64 (x26_3 + 1)) (wrap64 (x27_3 + 1)) (wrap64 (x28_3 + 1)) (wrap64 (x29_3 + 1)))) else (none)) else (none))) else (if x29_3 = 0 then (laws_FnBits.l1 kj51 t182 t187 t191 t193 x18_1 t204 t208 (wrap64 (x26_3 + 1)) x27_3 (wrap64 (x28_3 + 1)) (wrap64 (x29_3 + 1))) else (if 0 ≤ (wrap64 (x29_3 - 1)) then (if (wrap64 (x29_3 - 1)) < (t182.size : Int) then (if (bt t182 x29_3) = (bt t182 (wrap64 (x29_3 - 1))) then (laws_FnBits.l1 kj51 t182 t187 t191 t193 x18_1 t204 t208 (wrap64 (x26_3 + 1)) x27_3 x28_3 (wrap64 (x29_3 + 1))) else (laws_FnBits.l1 kj51 t182 t187 t191 t193 x18_1 t204 t208 (wrap64 (x26_3 + 1)) x27_3 (wrap64 (x28_3 + 1)) (wrap64 (x29_3 + 1)))) else (none)) else (none)))) else (none)) else (if x29_3 = 0 then (laws_FnBits.l1 kj51 t182 t187 t191 t193 x18_1 t204 t208 x26_3 x27_3 (wrap64 (x28_3 + 1)) (wrap64 (x29_3 + 1))) else (if 0 ≤ (wrap64 (x29_3 - 1)) then (if (wrap64 (x29_3 - 1)) < (t182.size : Int) then (if (bt t182 x29_3) = (bt t182 (wrap64 (x29_3 - 1))) then (laws_FnBits.l1 kj51 t182 t187 t191 t193 x18_1 t204 t208 x26_3 x27_3 x28_3 (wrap64 (x29_3 + 1))) else (laws_FnBits.l1 kj51 t182 t187 t191 t193 x18_1 t204 t208 x26_3 x27_3 (wrap64 (x28_3 + 1)) (wrap64 (x29_3 + 1)))) else (none)) else (none)))) else (none)) else (none)) = some r := by rw [if_neg (show ¬ (false = true) by decide)] at H; exact H
                            clear H
                            have H := H1
                            clear H1
                            by_cases c67 : 0 ≤ x29_3
                            · rw [if_pos c67] at H
                              have c67b0 : decide (0 ≤ x29_3) = true := decide_eq_true c67
                              clear c67
                              by_cases c68 : x29_3 < (t182.size : Int)
                              · rw [if_pos c68] at H
                                have c68b0 : decide (x29_3 < (t182.size : Int)) = true := decide_eq_true c68
                                clear c68
                                by_cases c70 : (bt t182 x29_3) = 49
                                · rw [if_pos c70] at H
                                  have c70b0 : ((bt t182 x29_3) == 49) = true := beq_iff_eq.mpr c70
                                  have c70b1 : ((bt t182 x29_3) != 49) = false := bne_eq_false_iff_eq.mpr c70
                                  clear c70
                                  by_cases c71 : x29_3 < (x18_1.length : Int)
                                  · rw [if_pos c71] at H
                                    have c71b0 : decide (x29_3 < (x18_1.length : Int)) = true := decide_eq_true c71
                                    clear c71
                                    by_cases c72 : (rd x18_1 x29_3) = 49
                                    · rw [if_pos c72] at H
                                      have c72b0 : ((rd x18_1 x29_3) == 49) = true := beq_iff_eq.mpr c72
                                      have c72b1 : ((rd x18_1 x29_3) != 49) = false := bne_eq_false_iff_eq.mpr c72
                                      clear c72
                                      by_cases c73 : x29_3 = 0
                                      · rw [if_pos c73] at H
                                        have c73b0 : (x29_3 == 0) = true := beq_iff_eq.mpr c73
                                        have c73b1 : (x29_3 != 0) = false := bne_eq_false_iff_eq.mpr c73
                                        clear c73
                                        as_aux_lemma =>
                                          have H' := Aside0.mk H
                                          clear H
                                          have p69 : 0 ≤ (x29_3 : Int) := of_decide_eq_true (by first | (with_reducible assumption) | assumption)
                                          have q69 : x29_3 < (t182.size : Int) := of_decide_eq_true (by first | (with_reducible assumption) | assumption)
                                          have hx69 := bt_at t182 x29_3
                                          replace p69 := eq_true p69
                                          replace q69 := eq_true q69
                                          obtain ⟨Ao74, co74, eo74⟩ := Kd.R_slice HO_18.out
                                          subst eo74
                                          have p212 : 0 ≤ (x29_3 : Int) := of_decide_eq_true (by first | (with_reducible assumption) | assumption)
                                          have q212 : x29_3 < (x18_1.length : Int) := of_decide_eq_true (by first | (with_reducible assumption) | assumption)
                                          obtain ⟨ad212, e212, hx212_0⟩ := Kd.at_int (Kd.R_reads' HO_18.out).2.2 x29_3 p212 q212
                                          cases e212
                                          replace p212 := eq_true p212
                                          replace q212 := eq_true q212
                                          go_wp2
                                          repeat (go_quiet (fail); try go_wp2)
                                          go_roundg kj51
                                          case measure => have := HK1.out; have := HJ27.out; have := HK3.out; have := HJ51.out; omega
                                          case rel => exact ⟨(wrap64 (x26_3 + 1)), (wrap64 (x27_3 + 1)), (wrap64 (x28_3 + 1)), (wrap64 (x29_3 + 1)), (by first | rfl | (simp; done) | (simp [*]; done)), (by first | rfl | (simp; done) | (simp [*]; done)), (by first | rfl | (simp; done) | (simp [*]; done)), (by first | rfl | (simp; done) | (simp [*]; done)), H', ⟨by have := HK1.out; have := HJ27.out; have := HK3.out; have := HJ51.out; omega⟩, ⟨by (with_reducible repeat (first | apply Kd.R_alloc | apply Kd.R_drewN | apply Kd.R_drew)); exact HO_10.out⟩, ⟨by (with_reducible repeat (first | apply Kd.R_alloc | apply Kd.R_drewN | apply Kd.R_drew)); exact HO_18.out⟩, ⟨by repeat (first | (with_reducible first | exact HB.out | apply below_alloc | apply pw_below_drewN | apply below_drew1) | exact HB.out)⟩⟩
                                      · rw [if_neg c73] at H
                                        have c73b0 : (x29_3 == 0) = false := beq_eq_false_iff_ne.mpr c73
                                        have c73b1 : (x29_3 != 0) = true := bne_iff_ne.mpr c73
                                        obtain ⟨ji76, hji76⟩ : ∃ j_ : Int, (wrap64 (x29_3 - 1)) = j_ := ⟨_, rfl⟩
                                        replace H : (if 0 ≤ (ji76) then (if (ji76) < (t182.size : Int) then (if (bt t182 x29_3) = (bt t182 (ji76)) then (laws_FnBits.l1 kj51 t182 t187 t191 t193 x18_1 t204 t208 (wrap64 (x26_3 + 1)) (wrap64 (x27_3 + 1)) x28_3 (wrap64 (x29_3 + 1))) else (laws_FnBits.l1 kj51 t182 t187 t191 t193 x18_1 t204 t208 (wrap64 (x26_3 + 1)) (wrap64 (x27_3 + 1)) (wrap64 (x28_3 + 1)) (wrap64 (x29_3 + 1)))) else (none)) else (none)) = some r := by first | (rw [hji76] at H; exact H) | (simp only [hji76] at H ⊢; exact H)
                                        have hji76w : (IntKind.i64.wrap (x29_3 - 1)) = ji76 := (i64_w _).trans hji76
                                        by_cases c77 : 0 ≤ (ji76)
                                        · rw [if_pos c77] at H
                                          have c77b0 : decide (0 ≤ (ji76)) = true := decide_eq_true c77
                                          clear c77
                                          by_cases c78 : (ji76) < (t182.size : Int)
                                          · rw [if_pos c78] at H
                                            have c78b0 : decide ((ji76) < (t182.size : Int)) = true := decide_eq_true c78
                                            clear c78
                                            by_cases c80 : (bt t182 x29_3) = (bt t182 (ji76))
                                            · rw [if_pos c80] at H
                                              have c80b0 : ((bt t182 x29_3) == (bt t182 (ji76))) = true := beq_iff_eq.mpr c80
                                              have c80b1 : ((bt t182 x29_3) != (bt t182 (ji76))) = false := bne_eq_false_iff_eq.mpr c80
                                              clear c80
                                              as_aux_lemma =>
                                                have H' := Aside0.mk H
                                                clear H
                                                have p69 : 0 ≤ (x29_3 : Int) := of_decide_eq_true (by first | (with_reducible assumption) | assumption)
                                                have q69 : x29_3 < (t182.size : Int) := of_decide_eq_true (by first | (with_reducible assumption) | assumption)
                                                have hx69 := bt_at t182 x29_3
                                                replace p69 := eq_true p69
                                                replace q69 := eq_true q69
                                                obtain ⟨Ao81, co81, eo81⟩ := Kd.R_slice HO_18.out
                                                subst eo81
                                                have p212 : 0 ≤ (x29_3 : Int) := of_decide_eq_true (by first | (with_reducible assumption) | assumption)
                                                have q212 : x29_3 < (x18_1.length : Int) := of_decide_eq_true (by first | (with_reducible assumption) | assumption)
                                                obtain ⟨ad212, e212, hx212_0⟩ := Kd.at_int (Kd.R_reads' HO_18.out).2.2 x29_3 p212 q212
                                                cases e212
                                                replace p212 := eq_true p212
                                                replace q212 := eq_true q212
                                                have p75 : 0 ≤ (x29_3 : Int) := of_decide_eq_true (by first | (with_reducible assumption) | assumption)
                                                have q75 : x29_3 < (t182.size : Int) := of_decide_eq_true (by first | (with_reducible assumption) | assumption)
                                                have hx75 := bt_at t182 x29_3
                                                replace p75 := eq_true p75
                                                replace q75 := eq_true q75
                                                have p79 : 0 ≤ ((ji76) : Int) := of_decide_eq_true (by first | (with_reducible assumption) | assumption)
                                                have q79 : (ji76) < (t182.size : Int) := of_decide_eq_true (by first | (with_reducible assumption) | assumption)
                                                have hx79 := bt_at t182 (ji76)
                                                replace p79 := eq_true p79
                                                replace q79 := eq_true q79
                                                go_wp2
                                                repeat (go_quiet (fail); try go_wp2)
                                                go_roundg kj51
                                                case measure => have := HK1.out; have := HJ27.out; have := HK3.out; have := HJ51.out; omega
                                                case rel => exact ⟨(wrap64 (x26_3 + 1)), (wrap64 (x27_3 + 1)), (x28_3), (wrap64 (x29_3 + 1)), (by first | rfl | (simp; done) | (simp [*]; done)), (by first | rfl | (simp; done) | (simp [*]; done)), (by first | rfl | (simp; done) | (simp [*]; done)), (by first | rfl | (simp; done) | (simp [*]; done)), H', ⟨by have := HK1.out; have := HJ27.out; have := HK3.out; have := HJ51.out; omega⟩, ⟨by (with_reducible repeat (first | apply Kd.R_alloc | apply Kd.R_drewN | apply Kd.R_drew)); exact HO_10.out⟩, ⟨by (with_reducible repeat (first | apply Kd.R_alloc | apply Kd.R_drewN | apply Kd.R_drew)); exact HO_18.out⟩, ⟨by repeat (first | (with_reducible first | exact HB.out | apply below_alloc | apply pw_below_drewN | apply below_drew1) | exact HB.out)⟩⟩
                                            · rw [if_neg c80] at H
                                              have c80b0 : ((bt t182 x29_3) == (bt t182 (ji76))) = false := beq_eq_false_iff_ne.mpr c80
                                              have c80b1 : ((bt t182 x29_3) != (bt t182 (ji76))) = true := bne_iff_ne.mpr c80
                                              as_aux_lemma =>
                                                have H' := Aside0.mk H
                                                clear H
                                                have p69 : 0 ≤ (x29_3 : Int) := of_decide_eq_true (by first | (with_reducible assumption) | assumption)
                                                have q69 : x29_3 < (t182.size : Int) := of_decide_eq_true (by first | (with_reducible assumption) | assumption)
                                                have hx69 := bt_at t182 x29_3
                                                replace p69 := eq_true p69
                                                replace q69 := eq_true q69
                                                obtain ⟨Ao82, co82, eo82⟩ := Kd.R_slice HO_18.out
                                                subst eo82
                                                have p212 : 0 ≤ (x29_3 : Int) := of_decide_eq_true (by first | (with_reducible assumption) | assumption)
                                                have q212 : x29_3 < (x18_1.length : Int) := of_decide_eq_true (by first | (with_reducible assumption) | assumption)
                                                obtain ⟨ad212, e212, hx212_0⟩ := Kd.at_int (Kd.R_reads' HO_18.out).2.2 x29_3 p212 q212
                                                cases e212
                                                replace p212 := eq_true p212
                                                replace q212 := eq_true q212
                                                have p75 : 0 ≤ (x29_3 : Int) := of_decide_eq_true (by first | (with_reducible assumption) | assumption)
                                                have q75 : x29_3 < (t182.size : Int) := of_decide_eq_true (by first | (with_reducible assumption) | assumption)
                                                have hx75 := bt_at t182 x29_3
                                                replace p75 := eq_true p75
                                                replace q75 := eq_true q75
                                                have p79 : 0 ≤ ((ji76) : Int) := of_decide_eq_true (by first | (with_reducible assumption) | assumption)
                                                have q79 : (ji76) < (t182.size : Int) := of_decide_eq_true (by first | (with_reducible assumption) | assumption)
                                                have hx79 := bt_at t182 (ji76)
                                                replace p79 := eq_true p79
                                                replace q79 := eq_true q79
                                                go_wp2
                                                repeat (go_quiet (fail); try go_wp2)
                                                go_roundg kj51
                                                case measure => have := HK1.out; have := HJ27.out; have := HK3.out; have := HJ51.out; omega
                                                case rel => exact ⟨(wrap64 (x26_3 + 1)), (wrap64 (x27_3 + 1)), (wrap64 (x28_3 + 1)), (wrap64 (x29_3 + 1)), (by first | rfl | (simp; done) | (simp [*]; done)), (by first | rfl | (simp; done) | (simp [*]; done)), (by first | rfl | (simp; done) | (simp [*]; done)), (by first | rfl | (simp; done) | (simp [*]; done)), H', ⟨by have := HK1.out; have := HJ27.out; have := HK3.out; have := HJ51.out; omega⟩, ⟨by (with_reducible repeat (first | apply Kd.R_alloc | apply Kd.R_drewN | apply Kd.R_drew)); exact HO_10.out⟩, ⟨by (with_reducible repeat (first | apply Kd.R_alloc | apply Kd.R_drewN | apply Kd.R_drew)); exact HO_18.out⟩, ⟨by repeat (first | (with_reducible first | exact HB.out | apply below_alloc | apply pw_below_drewN | apply below_drew1) | exact HB.out)⟩⟩
                                          · rw [if_neg c78] at H
                                            exact absurd H (by simp)
                                        · rw [if_neg c77] at H
                                          exact absurd H (by simp)
                                    · rw [if_neg c72] at H
                                      have c72b0 : ((rd x18_1 x29_3) == 49) = false := beq_eq_false_iff_ne.mpr c72
                                      have c72b1 : ((rd x18_1 x29_3) != 49) = true := bne_iff_ne.mpr c72
                                      by_cases c83 : x29_3 = 0
                                      · rw [if_pos c83] at H
                                        have c83b0 : (x29_3 == 0) = true := beq_iff_eq.mpr c83
                                        have c83b1 : (x29_3 != 0) = false := bne_eq_false_iff_eq.mpr c83
                                        clear c83
                                        as_aux_lemma =>
                                          have H' := Aside0.mk H
                                          clear H
                                          have p69 : 0 ≤ (x29_3 : Int) := of_decide_eq_true (by first | (with_reducible assumption) | assumption)
                                          have q69 : x29_3 < (t182.size : Int) := of_decide_eq_true (by first | (with_reducible assumption) | assumption)
                                          have hx69 := bt_at t182 x29_3
                                          replace p69 := eq_true p69
                                          replace q69 := eq_true q69
                                          obtain ⟨Ao84, co84, eo84⟩ := Kd.R_slice HO_18.out
                                          subst eo84
                                          have p212 : 0 ≤ (x29_3 : Int) := of_decide_eq_true (by first | (with_reducible assumption) | assumption)
                                          have q212 : x29_3 < (x18_1.length : Int) := of_decide_eq_true (by first | (with_reducible assumption) | assumption)
                                          obtain ⟨ad212, e212, hx212_0⟩ := Kd.at_int (Kd.R_reads' HO_18.out).2.2 x29_3 p212 q212
                                          cases e212
                                          replace p212 := eq_true p212
                                          replace q212 := eq_true q212
                                          go_wp2
                                          repeat (go_quiet (fail); try go_wp2)
                                          go_roundg kj51
                                          case measure => have := HK1.out; have := HJ27.out; have := HK3.out; have := HJ51.out; omega
                                          case rel => exact ⟨(wrap64 (x26_3 + 1)), (x27_3), (wrap64 (x28_3 + 1)), (wrap64 (x29_3 + 1)), (by first | rfl | (simp; done) | (simp [*]; done)), (by first | rfl | (simp; done) | (simp [*]; done)), (by first | rfl | (simp; done) | (simp [*]; done)), (by first | rfl | (simp; done) | (simp [*]; done)), H', ⟨by have := HK1.out; have := HJ27.out; have := HK3.out; have := HJ51.out; omega⟩, ⟨by (with_reducible repeat (first | apply Kd.R_alloc | apply Kd.R_drewN | apply Kd.R_drew)); exact HO_10.out⟩, ⟨by (with_reducible repeat (first | apply Kd.R_alloc | apply Kd.R_drewN | apply Kd.R_drew)); exact HO_18.out⟩, ⟨by repeat (first | (with_reducible first | exact HB.out | apply below_alloc | apply pw_below_drewN | apply below_drew1) | exact HB.out)⟩⟩
                                      · rw [if_neg c83] at H
                                        have c83b0 : (x29_3 == 0) = false := beq_eq_false_iff_ne.mpr c83
                                        have c83b1 : (x29_3 != 0) = true := bne_iff_ne.mpr c83
                                        obtain ⟨ji86, hji86⟩ : ∃ j_ : Int, (wrap64 (x29_3 - 1)) = j_ := ⟨_, rfl⟩
                                        replace H : (if 0 ≤ (ji86) then (if (ji86) < (t182.size : Int) then (if (bt t182 x29_3) = (bt t182 (ji86)) then (laws_FnBits.l1 kj51 t182 t187 t191 t193 x18_1 t204 t208 (wrap64 (x26_3 + 1)) x27_3 x28_3 (wrap64 (x29_3 + 1))) else (laws_FnBits.l1 kj51 t182 t187 t191 t193 x18_1 t204 t208 (wrap64 (x26_3 + 1)) x27_3 (wrap64 (x28_3 + 1)) (wrap64 (x29_3 + 1)))) else (none)) else (none)) = some r := by first | (rw [hji86] at H; exact H) | (simp only [hji86] at H ⊢; exact H)
                                        have hji86w : (IntKind.i64.wrap (x29_3 - 1)) = ji86 := (i64_w _).trans hji86
                                        by_cases c87 : 0 ≤ (ji86)
                                        · rw [if_pos c87] at H
                                          have c87b0 : decide (0 ≤ (ji86)) = true := decide_eq_true c87
                                          clear c87
                                          by_cases c88 : (ji86) < (t182.size : Int)
                                          · rw [if_pos c88] at H
                                            have c88b0 : decide ((ji86) < (t182.size : Int)) = true := decide_eq_true c88
                                            clear c88
                                            by_cases c90 : (bt t182 x29_3) = (bt t182 (ji86))
                                            · rw [if_pos c90] at H
                                              have c90b0 : ((bt t182 x29_3) == (bt t182 (ji86))) = true := beq_iff_eq.mpr c90
                                              have c90b1 : ((bt t182 x29_3) != (bt t182 (ji86))) = false := bne_eq_false_iff_eq.mpr c90
                                              clear c90
                                              as_aux_lemma =>
                                                have H' := Aside0.mk H
                                                clear H
                                                have p69 : 0 ≤ (x29_3 : Int) := of_decide_eq_true (by first | (with_reducible assumption) | assumption)
                                                have q69 : x29_3 < (t182.size : Int) := of_decide_eq_true (by first | (with_reducible assumption) | assumption)
                                                have hx69 := bt_at t182 x29_3
                                                replace p69 := eq_true p69
                                                replace q69 := eq_true q69
                                                obtain ⟨Ao91, co91, eo91⟩ := Kd.R_slice HO_18.out
                                                subst eo91
                                                have p212 : 0 ≤ (x29_3 : Int) := of_decide_eq_true (by first | (with_reducible assumption) | assumption)
                                                have q212 : x29_3 < (x18_1.length : Int) := of_decide_eq_true (by first | (with_reducible assumption) | assumption)
                                                obtain ⟨ad212, e212, hx212_0⟩ := Kd.at_int (Kd.R_reads' HO_18.out).2.2 x29_3 p212 q212
                                                cases e212
                                                replace p212 := eq_true p212
                                                replace q212 := eq_true q212
                                                have p85 : 0 ≤ (x29_3 : Int) := of_decide_eq_true (by first | (with_reducible assumption) | assumption)
                                                have q85 : x29_3 < (t182.size : Int) := of_decide_eq_true (by first | (with_reducible assumption) | assumption)
                                                have hx85 := bt_at t182 x29_3
                                                replace p85 := eq_true p85
                                                replace q85 := eq_true q85
                                                have p89 : 0 ≤ ((ji86) : Int) := of_decide_eq_true (by first | (with_reducible assumption) | assumption)
                                                have q89 : (ji86) < (t182.size : Int) := of_decide_eq_true (by first | (with_reducible assumption) | assumption)
                                                have hx89 := bt_at t182 (ji86)
                                                replace p89 := eq_true p89
                                                replace q89 := eq_true q89
                                                go_wp2
                                                repeat (go_quiet (fail); try go_wp2)
                                                go_roundg kj51
                                                case measure => have := HK1.out; have := HJ27.out; have := HK3.out; have := HJ51.out; omega
                                                case rel => exact ⟨(wrap64 (x26_3 + 1)), (x27_3), (x28_3), (wrap64 (x29_3 + 1)), (by first | rfl | (simp; done) | (simp [*]; done)), (by first | rfl | (simp; done) | (simp [*]; done)), (by first | rfl | (simp; done) | (simp [*]; done)), (by first | rfl | (simp; done) | (simp [*]; done)), H', ⟨by have := HK1.out; have := HJ27.out; have := HK3.out; have := HJ51.out; omega⟩, ⟨by (with_reducible repeat (first | apply Kd.R_alloc | apply Kd.R_drewN | apply Kd.R_drew)); exact HO_10.out⟩, ⟨by (with_reducible repeat (first | apply Kd.R_alloc | apply Kd.R_drewN | apply Kd.R_drew)); exact HO_18.out⟩, ⟨by repeat (first | (with_reducible first | exact HB.out | apply below_alloc | apply pw_below_drewN | apply below_drew1) | exact HB.out)⟩⟩
                                            · rw [if_neg c90] at H
                                              have c90b0 : ((bt t182 x29_3) == (bt t182 (ji86))) = false := beq_eq_false_iff_ne.mpr c90
                                              have c90b1 : ((bt t182 x29_3) != (bt t182 (ji86))) = true := bne_iff_ne.mpr c90
                                              as_aux_lemma =>
                                                have H' := Aside0.mk H
                                                clear H
                                                have p69 : 0 ≤ (x29_3 : Int) := of_decide_eq_true (by first | (with_reducible assumption) | assumption)
                                                have q69 : x29_3 < (t182.size : Int) := of_decide_eq_true (by first | (with_reducible assumption) | assumption)
                                                have hx69 := bt_at t182 x29_3
                                                replace p69 := eq_true p69
                                                replace q69 := eq_true q69
                                                obtain ⟨Ao92, co92, eo92⟩ := Kd.R_slice HO_18.out
                                                subst eo92
                                                have p212 : 0 ≤ (x29_3 : Int) := of_decide_eq_true (by first | (with_reducible assumption) | assumption)
                                                have q212 : x29_3 < (x18_1.length : Int) := of_decide_eq_true (by first | (with_reducible assumption) | assumption)
                                                obtain ⟨ad212, e212, hx212_0⟩ := Kd.at_int (Kd.R_reads' HO_18.out).2.2 x29_3 p212 q212
                                                cases e212
                                                replace p212 := eq_true p212
                                                replace q212 := eq_true q212
                                                have p85 : 0 ≤ (x29_3 : Int) := of_decide_eq_true (by first | (with_reducible assumption) | assumption)
                                                have q85 : x29_3 < (t182.size : Int) := of_decide_eq_true (by first | (with_reducible assumption) | assumption)
                                                have hx85 := bt_at t182 x29_3
                                                replace p85 := eq_true p85
                                                replace q85 := eq_true q85
                                                have p89 : 0 ≤ ((ji86) : Int) := of_decide_eq_true (by first | (with_reducible assumption) | assumption)
                                                have q89 : (ji86) < (t182.size : Int) := of_decide_eq_true (by first | (with_reducible assumption) | assumption)
                                                have hx89 := bt_at t182 (ji86)
                                                replace p89 := eq_true p89
                                                replace q89 := eq_true q89
                                                go_wp2
                                                repeat (go_quiet (fail); try go_wp2)
                                                go_roundg kj51
                                                case measure => have := HK1.out; have := HJ27.out; have := HK3.out; have := HJ51.out; omega
                                                case rel => exact ⟨(wrap64 (x26_3 + 1)), (x27_3), (wrap64 (x28_3 + 1)), (wrap64 (x29_3 + 1)), (by first | rfl | (simp; done) | (simp [*]; done)), (by first | rfl | (simp; done) | (simp [*]; done)), (by first | rfl | (simp; done) | (simp [*]; done)), (by first | rfl | (simp; done) | (simp [*]; done)), H', ⟨by have := HK1.out; have := HJ27.out; have := HK3.out; have := HJ51.out; omega⟩, ⟨by (with_reducible repeat (first | apply Kd.R_alloc | apply Kd.R_drewN | apply Kd.R_drew)); exact HO_10.out⟩, ⟨by (with_reducible repeat (first | apply Kd.R_alloc | apply Kd.R_drewN | apply Kd.R_drew)); exact HO_18.out⟩, ⟨by repeat (first | (with_reducible first | exact HB.out | apply below_alloc | apply pw_below_drewN | apply below_drew1) | exact HB.out)⟩⟩
                                          · rw [if_neg c88] at H
                                            exact absurd H (by simp)
                                        · rw [if_neg c87] at H
                                          exact absurd H (by simp)
                                  · rw [if_neg c71] at H
                                    exact absurd H (by simp)
                                · rw [if_neg c70] at H
                                  have c70b0 : ((bt t182 x29_3) == 49) = false := beq_eq_false_iff_ne.mpr c70
                                  have c70b1 : ((bt t182 x29_3) != 49) = true := bne_iff_ne.mpr c70
                                  by_cases c93 : x29_3 = 0
                                  · rw [if_pos c93] at H
                                    have c93b0 : (x29_3 == 0) = true := beq_iff_eq.mpr c93
                                    have c93b1 : (x29_3 != 0) = false := bne_eq_false_iff_eq.mpr c93
                                    clear c93
                                    as_aux_lemma =>
                                      have H' := Aside0.mk H
                                      clear H
                                      have p69 : 0 ≤ (x29_3 : Int) := of_decide_eq_true (by first | (with_reducible assumption) | assumption)
                                      have q69 : x29_3 < (t182.size : Int) := of_decide_eq_true (by first | (with_reducible assumption) | assumption)
                                      have hx69 := bt_at t182 x29_3
                                      replace p69 := eq_true p69
                                      replace q69 := eq_true q69
                                      go_wp2
                                      repeat (go_quiet (fail); try go_wp2)
                                      go_roundg kj51
                                      case measure => have := HK1.out; have := HJ27.out; have := HK3.out; have := HJ51.out; omega
                                      case rel => exact ⟨(x26_3), (x27_3), (wrap64 (x28_3 + 1)), (wrap64 (x29_3 + 1)), (by first | rfl | (simp; done) | (simp [*]; done)), (by first | rfl | (simp; done) | (simp [*]; done)), (by first | rfl | (simp; done) | (simp [*]; done)), (by first | rfl | (simp; done) | (simp [*]; done)), H', ⟨by have := HK1.out; have := HJ27.out; have := HK3.out; have := HJ51.out; omega⟩, ⟨by (with_reducible repeat (first | apply Kd.R_alloc | apply Kd.R_drewN | apply Kd.R_drew)); exact HO_10.out⟩, ⟨by (with_reducible repeat (first | apply Kd.R_alloc | apply Kd.R_drewN | apply Kd.R_drew)); exact HO_18.out⟩, ⟨by repeat (first | (with_reducible first | exact HB.out | apply below_alloc | apply pw_below_drewN | apply below_drew1) | exact HB.out)⟩⟩
                                  · rw [if_neg c93] at H
                                    have c93b0 : (x29_3 == 0) = false := beq_eq_false_iff_ne.mpr c93
                                    have c93b1 : (x29_3 != 0) = true := bne_iff_ne.mpr c93
                                    obtain ⟨ji95, hji95⟩ : ∃ j_ : Int, (wrap64 (x29_3 - 1)) = j_ := ⟨_, rfl⟩
                                    replace H : (if 0 ≤ (ji95) then (if (ji95) < (t182.size : Int) then (if (bt t182 x29_3) = (bt t182 (ji95)) then (laws_FnBits.l1 kj51 t182 t187 t191 t193 x18_1 t204 t208 x26_3 x27_3 x28_3 (wrap64 (x29_3 + 1))) else (laws_FnBits.l1 kj51 t182 t187 t191 t193 x18_1 t204 t208 x26_3 x27_3 (wrap64 (x28_3 + 1)) (wrap64 (x29_3 + 1)))) else (none)) else (none)) = some r := by first | (rw [hji95] at H; exact H) | (simp only [hji95] at H ⊢; exact H)
                                    have hji95w : (IntKind.i64.wrap (x29_3 - 1)) = ji95 := (i64_w _).trans hji95
                                    by_cases c96 : 0 ≤ (ji95)
                                    · rw [if_pos c96] at H
                                      have c96b0 : decide (0 ≤ (ji95)) = true := decide_eq_true c96
                                      clear c96
                                      by_cases c97 : (ji95) < (t182.size : Int)
                                      · rw [if_pos c97] at H
                                        have c97b0 : decide ((ji95) < (t182.size : Int)) = true := decide_eq_true c97
                                        clear c97
                                        by_cases c99 : (bt t182 x29_3) = (bt t182 (ji95))
                                        · rw [if_pos c99] at H
                                          have c99b0 : ((bt t182 x29_3) == (bt t182 (ji95))) = true := beq_iff_eq.mpr c99
                                          have c99b1 : ((bt t182 x29_3) != (bt t182 (ji95))) = false := bne_eq_false_iff_eq.mpr c99
                                          clear c99
                                          as_aux_lemma =>
                                            have H' := Aside0.mk H
                                            clear H
                                            have p69 : 0 ≤ (x29_3 : Int) := of_decide_eq_true (by first | (with_reducible assumption) | assumption)
                                            have q69 : x29_3 < (t182.size : Int) := of_decide_eq_true (by first | (with_reducible assumption) | assumption)
                                            have hx69 := bt_at t182 x29_3
                                            replace p69 := eq_true p69
                                            replace q69 := eq_true q69
                                            have p94 : 0 ≤ (x29_3 : Int) := of_decide_eq_true (by first | (with_reducible assumption) | assumption)
                                            have q94 : x29_3 < (t182.size : Int) := of_decide_eq_true (by first | (with_reducible assumption) | assumption)
                                            have hx94 := bt_at t182 x29_3
                                            replace p94 := eq_true p94
                                            replace q94 := eq_true q94
                                            have p98 : 0 ≤ ((ji95) : Int) := of_decide_eq_true (by first | (with_reducible assumption) | assumption)
                                            have q98 : (ji95) < (t182.size : Int) := of_decide_eq_true (by first | (with_reducible assumption) | assumption)
                                            have hx98 := bt_at t182 (ji95)
                                            replace p98 := eq_true p98
                                            replace q98 := eq_true q98
                                            go_wp2
                                            repeat (go_quiet (fail); try go_wp2)
                                            go_roundg kj51
                                            case measure => have := HK1.out; have := HJ27.out; have := HK3.out; have := HJ51.out; omega
                                            case rel => exact ⟨(x26_3), (x27_3), (x28_3), (wrap64 (x29_3 + 1)), (by first | rfl | (simp; done) | (simp [*]; done)), (by first | rfl | (simp; done) | (simp [*]; done)), (by first | rfl | (simp; done) | (simp [*]; done)), (by first | rfl | (simp; done) | (simp [*]; done)), H', ⟨by have := HK1.out; have := HJ27.out; have := HK3.out; have := HJ51.out; omega⟩, ⟨by (with_reducible repeat (first | apply Kd.R_alloc | apply Kd.R_drewN | apply Kd.R_drew)); exact HO_10.out⟩, ⟨by (with_reducible repeat (first | apply Kd.R_alloc | apply Kd.R_drewN | apply Kd.R_drew)); exact HO_18.out⟩, ⟨by repeat (first | (with_reducible first | exact HB.out | apply below_alloc | apply pw_below_drewN | apply below_drew1) | exact HB.out)⟩⟩
                                        · rw [if_neg c99] at H
                                          have c99b0 : ((bt t182 x29_3) == (bt t182 (ji95))) = false := beq_eq_false_iff_ne.mpr c99
                                          have c99b1 : ((bt t182 x29_3) != (bt t182 (ji95))) = true := bne_iff_ne.mpr c99
                                          as_aux_lemma =>
                                            have H' := Aside0.mk H
                                            clear H
                                            have p69 : 0 ≤ (x29_3 : Int) := of_decide_eq_true (by first | (with_reducible assumption) | assumption)
                                            have q69 : x29_3 < (t182.size : Int) := of_decide_eq_true (by first | (with_reducible assumption) | assumption)
                                            have hx69 := bt_at t182 x29_3
                                            replace p69 := eq_true p69
                                            replace q69 := eq_true q69
                                            have p94 : 0 ≤ (x29_3 : Int) := of_decide_eq_true (by first | (with_reducible assumption) | assumption)
                                            have q94 : x29_3 < (t182.size : Int) := of_decide_eq_true (by first | (with_reducible assumption) | assumption)
                                            have hx94 := bt_at t182 x29_3
                                            replace p94 := eq_true p94
                                            replace q94 := eq_true q94
                                            have p98 : 0 ≤ ((ji95) : Int) := of_decide_eq_true (by first | (with_reducible assumption) | assumption)
                                            have q98 : (ji95) < (t182.size : Int) := of_decide_eq_true (by first | (with_reducible assumption) | assumption)
                                            have hx98 := bt_at t182 (ji95)
                                            replace p98 := eq_true p98
                                            replace q98 := eq_true q98
                                            go_wp2
                                            repeat (go_quiet (fail); try go_wp2)
                                            go_roundg kj51
                                            case measure => have := HK1.out; have := HJ27.out; have := HK3.out; have := HJ51.out; omega
                                            case rel => exact ⟨(x26_3), (x27_3), (wrap64 (x28_3 + 1)), (wrap64 (x29_3 + 1)), (by first | rfl | (simp; done) | (simp [*]; done)), (by first | rfl | (simp; done) | (simp [*]; done)), (by first | rfl | (simp; done) | (simp [*]; done)), (by first | rfl | (simp; done) | (simp [*]; done)), H', ⟨by have := HK1.out; have := HJ27.out; have := HK3.out; have := HJ51.out; omega⟩, ⟨by (with_reducible repeat (first | apply Kd.R_alloc | apply Kd.R_drewN | apply Kd.R_drew)); exact HO_10.out⟩, ⟨by (with_reducible repeat (first | apply Kd.R_alloc | apply Kd.R_drewN | apply Kd.R_drew)); exact HO_18.out⟩, ⟨by repeat (first | (with_reducible first | exact HB.out | apply below_alloc | apply pw_below_drewN | apply below_drew1) | exact HB.out)⟩⟩
                                      · rw [if_neg c97] at H
                                        exact absurd H (by simp)
                                    · rw [if_neg c96] at H
                                      exact absurd H (by simp)
                              · rw [if_neg c68] at H
                                exact absurd H (by simp)
                            · rw [if_neg c67] at H
                              exact absurd H (by simp)
                    · rw [if_neg c51] at H
                      have c51b0 : decide (x29_3 < (t182.size : Int)) = false := decide_eq_false c51
                      clear c51
                      by_cases c100 : x26_3 = t191
                      · rw [if_pos c100] at H
                        have c100b0 : (x26_3 == t191) = true := beq_iff_eq.mpr c100
                        have c100b1 : (x26_3 != t191) = false := bne_eq_false_iff_eq.mpr c100
                        clear c100
                        by_cases c101 : x28_3 = (t187.length : Int)
                        · rw [if_pos c101] at H
                          have c101b0 : (x28_3 == (t187.length : Int)) = true := beq_iff_eq.mpr c101
                          have c101b1 : (x28_3 != (t187.length : Int)) = false := bne_eq_false_iff_eq.mpr c101
                          clear c101
                          as_aux_lemma =>
                            obtain rfl := Option.some.inj H
                            obtain ⟨Ao102, co102, eo102⟩ := Kd.R_slice HO_10.out
                            subst eo102
                            go_wp2
                            repeat (go_quiet (fail); try go_wp2)
                            go_ret
                            exact ⟨by first | rfl | (simp [errW_none, errW_some] <;> rfl) | (simp [*, errW_none, errW_some] <;> rfl), by repeat (first | (with_reducible first | exact HB.out | apply below_alloc | apply pw_below_drewN | apply below_drew1) | exact HB.out)⟩
                        · rw [if_neg c101] at H
                          have c101b0 : (x28_3 == (t187.length : Int)) = false := beq_eq_false_iff_ne.mpr c101
                          have c101b1 : (x28_3 != (t187.length : Int)) = true := bne_iff_ne.mpr c101
                          as_aux_lemma =>
                            obtain rfl := Option.some.inj H
                            obtain ⟨Ao103, co103, eo103⟩ := Kd.R_slice HO_10.out
                            subst eo103
                            go_wp2
                            repeat (go_quiet (fail); try go_wp2)
                            go_ret
                            exact ⟨by first | rfl | (simp [errW_none, errW_some] <;> rfl) | (simp [*, errW_none, errW_some] <;> rfl), by repeat (first | (with_reducible first | exact HB.out | apply below_alloc | apply pw_below_drewN | apply below_drew1) | exact HB.out)⟩
                      · rw [if_neg c100] at H
                        have c100b0 : (x26_3 == t191) = false := beq_eq_false_iff_ne.mpr c100
                        have c100b1 : (x26_3 != t191) = true := bne_iff_ne.mpr c100
                        as_aux_lemma =>
                          obtain rfl := Option.some.inj H
                          go_wp2
                          repeat (go_quiet (fail); try go_wp2)
                          go_ret
                          exact ⟨by first | rfl | (simp [errW_none, errW_some] <;> rfl) | (simp [*, errW_none, errW_some] <;> rfl), by repeat (first | (with_reducible first | exact HB.out | apply below_alloc | apply pw_below_drewN | apply below_drew1) | exact HB.out)⟩

/-- THE ONE PURE STATEMENT of laws_FnBits. -/
def laws_FnBits.Pure : Prop := ∀ (l0 : List Int) (l1 : List Int), l0.length ≤ 9223372036854775807 → (∀ x ∈ l0, (Lit.int .u8 x).wf = true) → l1.length ≤ 9223372036854775807 → (∀ x ∈ l1, (Lit.int .u8 x).wf = true) → ∃ k, laws_FnBits.f k l0 l1 = some true

end Go.Proofs.YtmnckflgmjgkaacDoor.QFnBits
