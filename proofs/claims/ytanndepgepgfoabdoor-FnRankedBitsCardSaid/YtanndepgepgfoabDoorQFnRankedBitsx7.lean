/-
Each Go function that this text names answers as the Lean function beside it says, wherever that one answers; conditions: the arguments lie in memory as each theorem states it.
-/
import Derived.Test.YtanndepgepgfoabDoorMStr
import Derived.Test.YtanndepgepgfoabDoorQFnRankedBitsx0
import Derived.Test.YtanndepgepgfoabDoorQFnRankedBitsx1
import Derived.Test.YtanndepgepgfoabDoorQFnRankedBitsx3
import Derived.Test.YtanndepgepgfoabDoorQFnRankedBitsx4
import Derived.Test.YtanndepgepgfoabDoorQFnRankedBitsx5
import Derived.Test.YtanndepgepgfoabDoorQFnRankedBitsx6
namespace Go.Proofs.YtanndepgepgfoabDoor.QFnRankedBits
open Go.RowKit Go.Proofs.YtanndepgepgfoabDoorW.PrintWords Go.Proofs.YtanndepgepgfoabDoorW.PrintLast Go.Proofs.YtanndepgepgfoabDoorW.PrintMore
attribute [local go_sem] max2_int min2_int max_two min_two max_three min_three max_four min_four   -- for this text's walks alone
attribute [local go_sem] Go.Proofs.YtanndepgepgfoabDoor.MStr.binOp_string_leq Go.Proofs.YtanndepgepgfoabDoor.MStr.u8_mod
set_option linter.unusedVariables false
set_option linter.unusedSimpArgs false

/-! ### laws_FnRankedBits: function 8 -/
mutual
def laws_FnRankedBits.j0 : Nat → List Int → Int → Int → Int → Bool → List (List Int) → Option (Bool)
  | 0, _, _, _, _, _, _ => none
  | k + 1, x1, x7, x8, x9, x55, x366000 => if x55 = true then (some false) else (laws_FnRankedBits.l0 k x1 x7 x8 x9 0 0 x366000)
def laws_FnRankedBits.l0 : Nat → List Int → Int → Int → Int → Int → Int → List (List Int) → Option (Bool)
  | 0, _, _, _, _, _, _, _ => none
  | k + 1, x1, x7, x8, x9, x11, x12, x366000 => if x12 < 2 then (if 0 ≤ x7 then (if x7 < (x366000.length : Int) then (if 0 ≤ x12 then (if x12 < ((rd_L1 x366000 x7).length : Int) then (if (rd (rd_L1 x366000 x7) x12) ≥ 0 then ((impl_CountAllowed.f k x366000 (rd (rd_L1 x366000 x7) x12) x8).bind fun bt375 => (if bt375.2 = true then (laws_FnRankedBits.l0 k x1 x7 x8 x9 (wrap64 (x11 + bt375.1)) (wrap64 (x12 + 1)) x366000) else (some false))) else (laws_FnRankedBits.l0 k x1 x7 x8 x9 x11 (wrap64 (x12 + 1)) x366000)) else (none)) else (none)) else (none)) else (none)) else (laws_FnRankedBits.l1 k x1 x7 x8 x9 x11 (⟨#[]⟩ : ByteArray) 0 x366000)
def laws_FnRankedBits.l1 : Nat → List Int → Int → Int → Int → Int → ByteArray → Int → List (List Int) → Option (Bool)
  | 0, _, _, _, _, _, _, _, _ => none
  | k + 1, x1, x7, x8, x9, x11, x15, x16, x366000 => if x16 < x9 then (laws_FnRankedBits.j3 k x1 x7 x8 x9 x11 x15 x16 (decide (x16 < 40)) x366000) else (laws_FnRankedBits.j3 k x1 x7 x8 x9 x11 x15 x16 false x366000)
def laws_FnRankedBits.j3 : Nat → List Int → Int → Int → Int → Int → ByteArray → Int → Bool → List (List Int) → Option (Bool)
  | 0, _, _, _, _, _, _, _, _, _ => none
  | k + 1, x1, x7, x8, x9, x11, x15, x16, x94, x366000 => if x94 = true then ((impl_BitsAt.f k x366000 x7 (wrap64 (x8 + 1)) x16).bind fun bt377 => ((impl_RankOfBits.f k x366000 x7 bt377.1).bind fun bt379 => (if bt377.2 = true then (if bt379.2 = true then (if bt379.1 = x16 then (if (bt377.1.size : Int) = (wrap64 (x8 + 1)) then (if x16 > 0 then (if ((Op.bytesLess x15.toList bt377.1.toList) = true) then ((impl_IsAllowed.f k x366000 x7 bt377.1).bind fun t381 => (if t381 = true then (laws_FnRankedBits.l1 k x1 x7 x8 x9 x11 bt377.1 (wrap64 (x16 + 1)) x366000) else (some false))) else (some false)) else ((impl_IsAllowed.f k x366000 x7 bt377.1).bind fun t382 => (if t382 = true then (laws_FnRankedBits.l1 k x1 x7 x8 x9 x11 bt377.1 (wrap64 (x16 + 1)) x366000) else (some false)))) else (some false)) else (some false)) else (some false)) else (some false)))) else ((impl_BitsAt.f k x366000 x7 (wrap64 (x8 + 1)) x9).bind fun bt383 => ((spec_R8Bits.f k x1 10).bind fun t385 => (laws_FnRankedBits.l2 k x7 x9 x11 bt383.2 t385 x7 0 x366000)))
def laws_FnRankedBits.l2 : Nat → Int → Int → Int → Bool → ByteArray → Int → Int → List (List Int) → Option (Bool)
  | 0, _, _, _, _, _, _, _, _ => none
  | k + 1, x7, x9, x11, x22, x23, x24, x25, x366000 => if x25 < (x23.size : Int) then (if x24 ≥ 0 then (if 0 ≤ x24 then (if x24 < (x366000.length : Int) then (if 0 ≤ x25 then (if 0 ≤ (((bt x23 x25) - 48) % 256) then (if (((bt x23 x25) - 48) % 256) < ((rd_L1 x366000 x24).length : Int) then (laws_FnRankedBits.l2 k x7 x9 x11 x22 x23 (rd (rd_L1 x366000 x24) (((bt x23 x25) - 48) % 256)) (wrap64 (x25 + 1)) x366000) else (none)) else (none)) else (none)) else (none)) else (none)) else ((impl_StateBehind.f k x366000 x7 x23).bind fun bt388 => (if x22 = true then (some false) else (if x11 = x9 then (if (bt388.2 == (decide (x24 ≥ 0))) = true then (if bt388.2 = true then (if bt388.1 = x24 then ((impl_IsAllowed.f k x366000 x7 x23).bind fun t390 => (some (t390 == bt388.2))) else (some false)) else ((impl_IsAllowed.f k x366000 x7 x23).bind fun t391 => (some (t391 == bt388.2)))) else (some false)) else (some false))))) else ((impl_StateBehind.f k x366000 x7 x23).bind fun bt392 => (if x22 = true then (some false) else (if x11 = x9 then (if (bt392.2 == (decide (x24 ≥ 0))) = true then (if bt392.2 = true then (if bt392.1 = x24 then ((impl_IsAllowed.f k x366000 x7 x23).bind fun t394 => (some (t394 == bt392.2))) else (some false)) else ((impl_IsAllowed.f k x366000 x7 x23).bind fun t395 => (some (t395 == bt392.2)))) else (some false)) else (some false))))
end
def laws_FnRankedBits.f (k : Nat) (l0 : List Int) (l1 : List Int) : Option (Bool) := (laws_r8Long.f l0 l1).bind fun t361 => (if t361 = true then (some true) else ((spec_R8Graph.f k l0).bind fun t362 => ((laws_r8At.f l1 0 (t362.length : Int)).bind fun t366 => ((laws_r8At.f l1 1 10).bind fun t367 => ((impl_CountAllowed.f k t362 t366 (wrap64 (t367 + 1))).bind fun bt368 => (if bt368.2 = true then ((impl_ValidGraph.f k t362).bind fun t370 => (laws_FnRankedBits.j0 k l1 t366 t367 bt368.1 (!t370) t362)) else (laws_FnRankedBits.j0 k l1 t366 t367 bt368.1 true t362)))))))
theorem laws_FnRankedBits.mono_l : ∀ k, (∀ y0 y1 y2 y3 y4 y5, LeO (laws_FnRankedBits.j0 k y0 y1 y2 y3 y4 y5) (laws_FnRankedBits.j0 (k + 1) y0 y1 y2 y3 y4 y5)) ∧ (∀ y0 y1 y2 y3 y4 y5 y6, LeO (laws_FnRankedBits.l0 k y0 y1 y2 y3 y4 y5 y6) (laws_FnRankedBits.l0 (k + 1) y0 y1 y2 y3 y4 y5 y6)) ∧ (∀ y0 y1 y2 y3 y4 y5 y6 y7, LeO (laws_FnRankedBits.l1 k y0 y1 y2 y3 y4 y5 y6 y7) (laws_FnRankedBits.l1 (k + 1) y0 y1 y2 y3 y4 y5 y6 y7)) ∧ (∀ y0 y1 y2 y3 y4 y5 y6 y7 y8, LeO (laws_FnRankedBits.j3 k y0 y1 y2 y3 y4 y5 y6 y7 y8) (laws_FnRankedBits.j3 (k + 1) y0 y1 y2 y3 y4 y5 y6 y7 y8)) ∧ (∀ y0 y1 y2 y3 y4 y5 y6 y7, LeO (laws_FnRankedBits.l2 k y0 y1 y2 y3 y4 y5 y6 y7) (laws_FnRankedBits.l2 (k + 1) y0 y1 y2 y3 y4 y5 y6 y7))
  | 0 => ⟨fun _ _ _ _ _ _ r h => by simp [laws_FnRankedBits.j0] at h, fun _ _ _ _ _ _ _ r h => by simp [laws_FnRankedBits.l0] at h, fun _ _ _ _ _ _ _ _ r h => by simp [laws_FnRankedBits.l1] at h, fun _ _ _ _ _ _ _ _ _ r h => by simp [laws_FnRankedBits.j3] at h, fun _ _ _ _ _ _ _ _ r h => by simp [laws_FnRankedBits.l2] at h⟩
  | k + 1 => by
    obtain ⟨ih0, ih1, ih2, ih3, ih4⟩ := laws_FnRankedBits.mono_l k
    refine ⟨?_, ?_, ?_, ?_, ?_⟩
    · intro y0 y1 y2 y3 y4 y5
      unfold laws_FnRankedBits.j0
      repeat' first
      | (with_reducible exact ih0 _ _ _ _ _ _)
      | (with_reducible exact ih1 _ _ _ _ _ _ _)
      | (with_reducible exact ih2 _ _ _ _ _ _ _ _)
      | (with_reducible exact ih3 _ _ _ _ _ _ _ _ _)
      | (with_reducible exact ih4 _ _ _ _ _ _ _ _)
      | (with_reducible exact impl_BitsAt.mono _ _ _ _ _)
      | (with_reducible exact impl_CountAllowed.mono _ _ _ _)
      | (with_reducible exact impl_IsAllowed.mono _ _ _ _)
      | (with_reducible exact impl_RankOfBits.mono _ _ _ _)
      | (with_reducible exact impl_StateBehind.mono _ _ _ _)
      | (with_reducible exact impl_ValidGraph.mono _ _)
      | (with_reducible exact spec_R8Bits.mono _ _ _)
      | (with_reducible exact spec_R8Graph.mono _ _)
      | (with_reducible exact LeO.refl _)
      | (with_reducible exact LeO.none _)
      | (with_reducible refine LeO.ite ?_ ?_)
      | (with_reducible refine LeO.bind ?_ (fun _ => ?_))
      | exact ih0 _ _ _ _ _ _
      | exact ih1 _ _ _ _ _ _ _
      | exact ih2 _ _ _ _ _ _ _ _
      | exact ih3 _ _ _ _ _ _ _ _ _
      | exact ih4 _ _ _ _ _ _ _ _
      | exact impl_BitsAt.mono _ _ _ _ _
      | exact impl_CountAllowed.mono _ _ _ _
      | exact impl_IsAllowed.mono _ _ _ _
      | exact impl_RankOfBits.mono _ _ _ _
      | exact impl_StateBehind.mono _ _ _ _
      | exact impl_ValidGraph.mono _ _
      | exact spec_R8Bits.mono _ _ _
      | exact spec_R8Graph.mono _ _
      | exact LeO.none _
      | refine LeO.ite ?_ ?_
      | refine LeO.bind ?_ (fun _ => ?_)
    · intro y0 y1 y2 y3 y4 y5 y6
      unfold laws_FnRankedBits.l0
      repeat' first
      | (with_reducible exact ih0 _ _ _ _ _ _)
      | (with_reducible exact ih1 _ _ _ _ _ _ _)
      | (with_reducible exact ih2 _ _ _ _ _ _ _ _)
      | (with_reducible exact ih3 _ _ _ _ _ _ _ _ _)
      | (with_reducible exact ih4 _ _ _ _ _ _ _ _)
      | (with_reducible exact impl_BitsAt.mono _ _ _ _ _)
      | (with_reducible exact impl_CountAllowed.mono _ _ _ _)
      | (with_reducible exact impl_IsAllowed.mono _ _ _ _)
      | (with_reducible exact impl_RankOfBits.mono _ _ _ _)
      | (with_reducible exact impl_StateBehind.mono _ _ _ _)
      | (with_reducible exact impl_ValidGraph.mono _ _)
      | (with_reducible exact spec_R8Bits.mono _ _ _)
      | (with_reducible exact spec_R8Graph.mono _ _)
      | (with_reducible exact LeO.refl _)
      | (with_reducible exact LeO.none _)
      | (with_reducible refine LeO.ite ?_ ?_)
      | (with_reducible refine LeO.bind ?_ (fun _ => ?_))
      | exact ih0 _ _ _ _ _ _
      | exact ih1 _ _ _ _ _ _ _
      | exact ih2 _ _ _ _ _ _ _ _
      | exact ih3 _ _ _ _ _ _ _ _ _
      | exact ih4 _ _ _ _ _ _ _ _
      | exact impl_BitsAt.mono _ _ _ _ _
      | exact impl_CountAllowed.mono _ _ _ _
      | exact impl_IsAllowed.mono _ _ _ _
      | exact impl_RankOfBits.mono _ _ _ _
      | exact impl_StateBehind.mono _ _ _ _
      | exact impl_ValidGraph.mono _ _
      | exact spec_R8Bits.mono _ _ _
      | exact spec_R8Graph.mono _ _
      | exact LeO.none _
      | refine LeO.ite ?_ ?_
      | refine LeO.bind ?_ (fun _ => ?_)
    · intro y0 y1 y2 y3 y4 y5 y6 y7
      unfold laws_FnRankedBits.l1
      repeat' first
      | (with_reducible exact ih0 _ _ _ _ _ _)
      | (with_reducible exact ih1 _ _ _ _ _ _ _)
      | (with_reducible exact ih2 _ _ _ _ _ _ _ _)
      | (with_reducible exact ih3 _ _ _ _ _ _ _ _ _)
      | (with_reducible exact ih4 _ _ _ _ _ _ _ _)
      | (with_reducible exact impl_BitsAt.mono _ _ _ _ _)
      | (with_reducible exact impl_CountAllowed.mono _ _ _ _)
      | (with_reducible exact impl_IsAllowed.mono _ _ _ _)
      | (with_reducible exact impl_RankOfBits.mono _ _ _ _)
      | (with_reducible exact impl_StateBehind.mono _ _ _ _)
      | (with_reducible exact impl_ValidGraph.mono _ _)
      | (with_reducible exact spec_R8Bits.mono _ _ _)
      | (with_reducible exact spec_R8Graph.mono _ _)
      | (with_reducible exact LeO.refl _)
      | (with_reducible exact LeO.none _)
      | (with_reducible refine LeO.ite ?_ ?_)
      | (with_reducible refine LeO.bind ?_ (fun _ => ?_))
      | exact ih0 _ _ _ _ _ _
      | exact ih1 _ _ _ _ _ _ _
      | exact ih2 _ _ _ _ _ _ _ _
      | exact ih3 _ _ _ _ _ _ _ _ _
      | exact ih4 _ _ _ _ _ _ _ _
      | exact impl_BitsAt.mono _ _ _ _ _
      | exact impl_CountAllowed.mono _ _ _ _
      | exact impl_IsAllowed.mono _ _ _ _
      | exact impl_RankOfBits.mono _ _ _ _
      | exact impl_StateBehind.mono _ _ _ _
      | exact impl_ValidGraph.mono _ _
      | exact spec_R8Bits.mono _ _ _
      | exact spec_R8Graph.mono _ _
      | exact LeO.none _
      | refine LeO.ite ?_ ?_
      | refine LeO.bind ?_ (fun _ => ?_)
    · intro y0 y1 y2 y3 y4 y5 y6 y7 y8
      unfold laws_FnRankedBits.j3
      repeat' first
      | (with_reducible exact ih0 _ _ _ _ _ _)
      | (with_reducible exact ih1 _ _ _ _ _ _ _)
      | (with_reducible exact ih2 _ _ _ _ _ _ _ _)
      | (with_reducible exact ih3 _ _ _ _ _ _ _ _ _)
      | (with_reducible exact ih4 _ _ _ _ _ _ _ _)
      | (with_reducible exact impl_BitsAt.mono _ _ _ _ _)
      | (with_reducible exact impl_CountAllowed.mono _ _ _ _)
      | (with_reducible exact impl_IsAllowed.mono _ _ _ _)
      | (with_reducible exact impl_RankOfBits.mono _ _ _ _)
      | (with_reducible exact impl_StateBehind.mono _ _ _ _)
      | (with_reducible exact impl_ValidGraph.mono _ _)
      | (with_reducible exact spec_R8Bits.mono _ _ _)
      | (with_reducible exact spec_R8Graph.mono _ _)
      | (with_reducible exact LeO.refl _)
      | (with_reducible exact LeO.none _)
      | (with_reducible refine LeO.ite ?_ ?_)
      | (with_reducible refine LeO.bind ?_ (fun _ => ?_))
      | exact ih0 _ _ _ _ _ _
      | exact ih1 _ _ _ _ _ _ _
      | exact ih2 _ _ _ _ _ _ _ _
      | exact ih3 _ _ _ _ _ _ _ _ _
      | exact ih4 _ _ _ _ _ _ _ _
      | exact impl_BitsAt.mono _ _ _ _ _
      | exact impl_CountAllowed.mono _ _ _ _
      | exact impl_IsAllowed.mono _ _ _ _
      | exact impl_RankOfBits.mono _ _ _ _
      | exact impl_StateBehind.mono _ _ _ _
      | exact impl_ValidGraph.mono _ _
      | exact spec_R8Bits.mono _ _ _
      | exact spec_R8Graph.mono _ _
      | exact LeO.none _
      | refine LeO.ite ?_ ?_
      | refine LeO.bind ?_ (fun _ => ?_)
    · intro y0 y1 y2 y3 y4 y5 y6 y7
      unfold laws_FnRankedBits.l2
      repeat' first
      | (with_reducible exact ih0 _ _ _ _ _ _)
      | (with_reducible exact ih1 _ _ _ _ _ _ _)
      | (with_reducible exact ih2 _ _ _ _ _ _ _ _)
      | (with_reducible exact ih3 _ _ _ _ _ _ _ _ _)
      | (with_reducible exact ih4 _ _ _ _ _ _ _ _)
      | (with_reducible exact impl_BitsAt.mono _ _ _ _ _)
      | (with_reducible exact impl_CountAllowed.mono _ _ _ _)
      | (with_reducible exact impl_IsAllowed.mono _ _ _ _)
      | (with_reducible exact impl_RankOfBits.mono _ _ _ _)
      | (with_reducible exact impl_StateBehind.mono _ _ _ _)
      | (with_reducible exact impl_ValidGraph.mono _ _)
      | (with_reducible exact spec_R8Bits.mono _ _ _)
      | (with_reducible exact spec_R8Graph.mono _ _)
      | (with_reducible exact LeO.refl _)
      | (with_reducible exact LeO.none _)
      | (with_reducible refine LeO.ite ?_ ?_)
      | (with_reducible refine LeO.bind ?_ (fun _ => ?_))
      | exact ih0 _ _ _ _ _ _
      | exact ih1 _ _ _ _ _ _ _
      | exact ih2 _ _ _ _ _ _ _ _
      | exact ih3 _ _ _ _ _ _ _ _ _
      | exact ih4 _ _ _ _ _ _ _ _
      | exact impl_BitsAt.mono _ _ _ _ _
      | exact impl_CountAllowed.mono _ _ _ _
      | exact impl_IsAllowed.mono _ _ _ _
      | exact impl_RankOfBits.mono _ _ _ _
      | exact impl_StateBehind.mono _ _ _ _
      | exact impl_ValidGraph.mono _ _
      | exact spec_R8Bits.mono _ _ _
      | exact spec_R8Graph.mono _ _
      | exact LeO.none _
      | refine LeO.ite ?_ ?_
      | refine LeO.bind ?_ (fun _ => ?_)
theorem laws_FnRankedBits.mono : ∀ a0 a1 k, LeO (laws_FnRankedBits.f k a0 a1) (laws_FnRankedBits.f (k + 1) a0 a1) := by
  intro a0 a1 k
  obtain ⟨ih0, ih1, ih2, ih3, ih4⟩ := laws_FnRankedBits.mono_l k
  unfold laws_FnRankedBits.f
  repeat' first
      | (with_reducible exact ih0 _ _ _ _ _ _)
      | (with_reducible exact ih1 _ _ _ _ _ _ _)
      | (with_reducible exact ih2 _ _ _ _ _ _ _ _)
      | (with_reducible exact ih3 _ _ _ _ _ _ _ _ _)
      | (with_reducible exact ih4 _ _ _ _ _ _ _ _)
      | (with_reducible exact impl_BitsAt.mono _ _ _ _ _)
      | (with_reducible exact impl_CountAllowed.mono _ _ _ _)
      | (with_reducible exact impl_IsAllowed.mono _ _ _ _)
      | (with_reducible exact impl_RankOfBits.mono _ _ _ _)
      | (with_reducible exact impl_StateBehind.mono _ _ _ _)
      | (with_reducible exact impl_ValidGraph.mono _ _)
      | (with_reducible exact spec_R8Bits.mono _ _ _)
      | (with_reducible exact spec_R8Graph.mono _ _)
      | (with_reducible exact LeO.refl _)
      | (with_reducible exact LeO.none _)
      | (with_reducible refine LeO.ite ?_ ?_)
      | (with_reducible refine LeO.bind ?_ (fun _ => ?_))
      | exact ih0 _ _ _ _ _ _
      | exact ih1 _ _ _ _ _ _ _
      | exact ih2 _ _ _ _ _ _ _ _
      | exact ih3 _ _ _ _ _ _ _ _ _
      | exact ih4 _ _ _ _ _ _ _ _
      | exact impl_BitsAt.mono _ _ _ _ _
      | exact impl_CountAllowed.mono _ _ _ _
      | exact impl_IsAllowed.mono _ _ _ _
      | exact impl_RankOfBits.mono _ _ _ _
      | exact impl_StateBehind.mono _ _ _ _
      | exact impl_ValidGraph.mono _ _
      | exact spec_R8Bits.mono _ _ _
      | exact spec_R8Graph.mono _ _
      | exact LeO.none _
      | refine LeO.ite ?_ ?_
      | refine LeO.bind ?_ (fun _ => ?_)
def laws_FnRankedBits.T15 : Bool × List (List Nat × List Nat) := (true, [([], []), ([], []), ([1], [1]), ([], []), ([2, 3], [2, 3]), ([4], [4]), ([], []), ([5, 6], [5, 6]), ([7], [7]), ([], []), ([0, 8, 9], [0, 8, 9]), ([10], [10]), ([11], [11]), ([11], [11]), ([12, 10, 0, 1, 2, 3, 4, 5, 6, 7, 8, 9, 10, 11, 12], [12]), ([13, 14, 0, 1, 2, 3, 4, 5, 6, 7, 8, 9, 10, 11, 12, 13, 14], [13])])
def laws_FnRankedBits.B15 : List Nat := [0, 0, 2, 0, 14, 30, 0, 126, 254, 0, 1023, 2047, 4095, 4095, 8191, 32767]
theorem laws_FnRankedBits.tab15 : rtab .any (opsOf Tryd.f8 15) = laws_FnRankedBits.T15 := by kernel_rfl
theorem laws_FnRankedBits.bits15 : waitsOk laws_FnRankedBits.T15.2 laws_FnRankedBits.B15 = true := by kernel_rfl
def laws_FnRankedBits.T34 : Bool × List (List Nat × List Nat) := (true, [([], []), ([0], [0]), ([], []), ([1, 2], [1, 2]), ([3], [3]), ([], []), ([], []), ([5, 6], [5, 6]), ([7], [7]), ([4, 8], [4, 8]), ([9], [9]), ([10, 0, 1, 2, 3, 4, 5, 6, 7, 8, 9, 10], [2, 10])])
def laws_FnRankedBits.B34 : List Nat := [0, 1, 0, 7, 15, 0, 0, 96, 224, 511, 1023, 2047]
theorem laws_FnRankedBits.tab34 : rtab .any (opsOf Tryd.f8 34) = laws_FnRankedBits.T34 := by kernel_rfl
theorem laws_FnRankedBits.bits34 : waitsOk laws_FnRankedBits.T34.2 laws_FnRankedBits.B34 = true := by kernel_rfl
set_option maxHeartbeats 8000000 in
set_option maxRecDepth 100000 in
theorem laws_FnRankedBits.calls (k : Nat) (A0 : Option Addr) (c0 : Nat) (l0 : List Int) (A1 : Option Addr) (c1 : Nat) (l1 : List Int) (r : Bool) (w : World) (hr0 : Kd.C (Kd.int .u8) w A0 l0.length l0) (hc0 : l0.length ≤ c0) (hr1 : Kd.C (Kd.int .u8) w A1 l1.length l1) (hc1 : l1.length ≤ c1) (h : laws_FnRankedBits.f k l0 l1 = some r) :
    Calls Tryd.prog 8 #[.slice A0 l0.length c0, .slice A1 l1.length c1] w fun e w' => e = .returned (.bool r) ∧ Below w.heap.size w w' := by
  have hu27 := Tryd.underlying27
  have HR0 := Aside0.mk hr0
  have HC0 := Aside0.mk hc0
  clear hr0 hc0
  have HR1 := Aside0.mk hr1
  have HC1 := Aside0.mk hc1
  clear hr1 hc1
  have HB := Aside0.mk (Below.refl w.heap.size w)
  have H : ((laws_r8Long.f l0 l1).bind fun t361 => (if t361 = true then (some true) else ((spec_R8Graph.f k l0).bind fun t362 => ((laws_r8At.f l1 0 (t362.length : Int)).bind fun t366 => ((laws_r8At.f l1 1 10).bind fun t367 => ((impl_CountAllowed.f k t362 t366 (wrap64 (t367 + 1))).bind fun bt368 => (if bt368.2 = true then ((impl_ValidGraph.f k t362).bind fun t370 => (laws_FnRankedBits.j0 k l1 t366 t367 bt368.1 (!t370) t362)) else (laws_FnRankedBits.j0 k l1 t366 t367 bt368.1 true t362)))))))) = some r := h
  clear h
  replace H := Option.bind_eq_some_iff.mp H
  obtain ⟨t361, A30, H⟩ := H
  replace H : (if t361 = true then (some true) else ((spec_R8Graph.f k l0).bind fun t362 => ((laws_r8At.f l1 0 (t362.length : Int)).bind fun t366 => ((laws_r8At.f l1 1 10).bind fun t367 => ((impl_CountAllowed.f k t362 t366 (wrap64 (t367 + 1))).bind fun bt368 => (if bt368.2 = true then ((impl_ValidGraph.f k t362).bind fun t370 => (laws_FnRankedBits.j0 k l1 t366 t367 bt368.1 (!t370) t362)) else (laws_FnRankedBits.j0 k l1 t366 t367 bt368.1 true t362))))))) = some r := H
  have A3 := Aside0.mk A30
  clear A30
  by_cases c4 : t361 = true
  · subst c4
    have H1 : (some true) = some r := by rw [if_pos rfl] at H; exact H
    clear H
    have H := H1
    clear H1
    obtain rfl := Option.some.inj H
    go_enter Tryd.func8, Tryd.ntmps8
    go_wp2_with (first | ((with_reducible refine gate_callee (f := 18) rfl ?_); refine goesL_ (some 30) rfl rfl Tryd.func18 (by kernel_rfl) rfl #[.slice A0 l0.length c0, .slice A1 l1.length c1] rfl (by (try simp only [List.map_toArray, List.map_cons, List.map_nil]); first | done | rfl | (simp only [List.length_drop, List.length_take]; rfl)) ?_; (with_reducible refine (laws_r8Long.calls _ _ l0 _ _ l1 true _ ?side1 ?side2 ?side3 ?side4 A3.out).mono ?_); (case side1 => repeat (first | exact HR0.out | (with_reducible refine Kd.C_alloc ?_ _) | (with_reducible refine Kd.C_drewN ?_ _) | (with_reducible refine Kd.C_drew ?_))); (case side2 => exact HC0.out); (case side3 => repeat (first | exact HR1.out | (with_reducible refine Kd.C_alloc ?_ _) | (with_reducible refine Kd.C_drewN ?_ _) | (with_reducible refine Kd.C_drew ?_))); (case side4 => exact HC1.out); rintro e w' ⟨rfl, ⟨nd, rfl⟩⟩; refine ⟨_, rfl, ?_⟩))
    go_ret
    exact ⟨by first | rfl | (simp [errW_none, errW_some] <;> rfl) | (simp [*, errW_none, errW_some] <;> rfl), by repeat (first | (with_reducible first | exact HB.out | apply below_alloc | apply pw_below_drewN | apply below_drew1) | exact HB.out)⟩
  · replace c4 := Bool.eq_false_iff.mpr c4
    subst c4
    have H1 : ((spec_R8Graph.f k l0).bind fun t362 => ((laws_r8At.f l1 0 (t362.length : Int)).bind fun t366 => ((laws_r8At.f l1 1 10).bind fun t367 => ((impl_CountAllowed.f k t362 t366 (wrap64 (t367 + 1))).bind fun bt368 => (if bt368.2 = true then ((impl_ValidGraph.f k t362).bind fun t370 => (laws_FnRankedBits.j0 k l1 t366 t367 bt368.1 (!t370) t362)) else (laws_FnRankedBits.j0 k l1 t366 t367 bt368.1 true t362)))))) = some r := by rw [if_neg (show ¬ (false = true) by decide)] at H; exact H
    clear H
    have H := H1
    clear H1
    replace H := Option.bind_eq_some_iff.mp H
    obtain ⟨t362, A50, H⟩ := H
    replace H : ((laws_r8At.f l1 0 (t362.length : Int)).bind fun t366 => ((laws_r8At.f l1 1 10).bind fun t367 => ((impl_CountAllowed.f k t362 t366 (wrap64 (t367 + 1))).bind fun bt368 => (if bt368.2 = true then ((impl_ValidGraph.f k t362).bind fun t370 => (laws_FnRankedBits.j0 k l1 t366 t367 bt368.1 (!t370) t362)) else (laws_FnRankedBits.j0 k l1 t366 t367 bt368.1 true t362))))) = some r := H
    have A5 := Aside0.mk A50
    clear A50
    replace H := Option.bind_eq_some_iff.mp H
    obtain ⟨t366, A60, H⟩ := H
    replace H : ((laws_r8At.f l1 1 10).bind fun t367 => ((impl_CountAllowed.f k t362 t366 (wrap64 (t367 + 1))).bind fun bt368 => (if bt368.2 = true then ((impl_ValidGraph.f k t362).bind fun t370 => (laws_FnRankedBits.j0 k l1 t366 t367 bt368.1 (!t370) t362)) else (laws_FnRankedBits.j0 k l1 t366 t367 bt368.1 true t362)))) = some r := H
    have A6 := Aside0.mk A60
    clear A60
    replace H := Option.bind_eq_some_iff.mp H
    obtain ⟨t367, A70, H⟩ := H
    replace H : ((impl_CountAllowed.f k t362 t366 (wrap64 (t367 + 1))).bind fun bt368 => (if bt368.2 = true then ((impl_ValidGraph.f k t362).bind fun t370 => (laws_FnRankedBits.j0 k l1 t366 t367 bt368.1 (!t370) t362)) else (laws_FnRankedBits.j0 k l1 t366 t367 bt368.1 true t362))) = some r := H
    have A7 := Aside0.mk A70
    clear A70
    replace H := Option.bind_eq_some_iff.mp H
    obtain ⟨⟨t368, t369⟩, A80, H⟩ := H
    replace H : (if t369 = true then ((impl_ValidGraph.f k t362).bind fun t370 => (laws_FnRankedBits.j0 k l1 t366 t367 t368 (!t370) t362)) else (laws_FnRankedBits.j0 k l1 t366 t367 t368 true t362)) = some r := H
    have A8 := Aside0.mk A80
    clear A80
    have HC9 := Aside0.mk H
    clear H
    go_enter Tryd.func8, Tryd.ntmps8
    go_upto_region 8 with (first | ((with_reducible refine gate_callee (f := 18) rfl ?_); refine goesL_ (some 30) rfl rfl Tryd.func18 (by kernel_rfl) rfl #[.slice A0 l0.length c0, .slice A1 l1.length c1] rfl (by (try simp only [List.map_toArray, List.map_cons, List.map_nil]); first | done | rfl | (simp only [List.length_drop, List.length_take]; rfl)) ?_; (with_reducible refine (laws_r8Long.calls _ _ l0 _ _ l1 false _ ?side1 ?side2 ?side3 ?side4 A3.out).mono ?_); (case side1 => repeat (first | exact HR0.out | (with_reducible refine Kd.C_alloc ?_ _) | (with_reducible refine Kd.C_drewN ?_ _) | (with_reducible refine Kd.C_drew ?_))); (case side2 => exact HC0.out); (case side3 => repeat (first | exact HR1.out | (with_reducible refine Kd.C_alloc ?_ _) | (with_reducible refine Kd.C_drewN ?_ _) | (with_reducible refine Kd.C_drew ?_))); (case side4 => exact HC1.out); rintro e w' ⟨rfl, ⟨nd, rfl⟩⟩; refine ⟨_, rfl, ?_⟩) | ((with_reducible refine gate_callee (f := 24) rfl ?_); refine goesL_ (some 32) rfl rfl Tryd.func24 (by kernel_rfl) rfl #[.slice A0 l0.length c0] rfl (by (try simp only [List.map_toArray, List.map_cons, List.map_nil]); first | done | rfl | (simp only [List.length_drop, List.length_take]; rfl)) ?_; (with_reducible refine (spec_R8Graph.calls k _ _ l0 t362 _ ?side1 ?side2 A5.out).mono ?_); (case side1 => repeat (first | exact HR0.out | (with_reducible refine Kd.C_alloc ?_ _) | (with_reducible refine Kd.C_drewN ?_ _) | (with_reducible refine Kd.C_drew ?_))); (case side2 => exact HC0.out); rintro e w10 ⟨v363, rfl, ho0, hb⟩; refine ⟨_, rfl, ?_⟩; have n0_ := Aside0.mk (Kd.S_lower ho0 (below_size (by repeat (first | (with_reducible first | exact HB.out | apply below_alloc | apply pw_below_drewN | apply below_drew1) | exact HB.out)))); have n1_ := Aside0.mk (below_step (by repeat (first | (with_reducible first | exact HB.out | apply below_alloc | apply pw_below_drewN | apply below_drew1) | exact HB.out)) hb); clear HB; have HO364 := n0_; have HB := n1_; clear n0_ n1_; (try clear hb); (try clear hb2); (try clear hk); (try clear hi); (try clear ho0)) | ((with_reducible refine gate_dst (N := 5) rfl ?_); (try (refine gate_guard (by rfl) ?_; dsimp only)); refine box_event ?hg (N := 5) ?hd (cs := #[.slice none 0 0]) (t := 27) ?hr ?_; (case hd => rfl); (case hg => rfl); (case hr => first | (go_simp; done) | (go_simp; rfl)); intro gb365 hg w11 hbox hb; have n0_ := Aside0.mk (Kd.S_below (by (with_reducible repeat (first | apply Kd.S_alloc | apply Kd.S_drewN | apply Kd.S_drew)); exact HO364.out) hb); have n1_ := Aside0.mk (below_step (by repeat (first | (with_reducible first | exact HB.out | apply below_alloc | apply pw_below_drewN | apply below_drew1) | exact HB.out)) hb); have n2_ := Aside0.mk (hbox); have n3_ := Aside0.mk ((by rw [hg]; exact (below_size (by repeat (first | (with_reducible first | exact HB.out | apply below_alloc | apply pw_below_drewN | apply below_drew1) | exact HB.out))) : w.heap.size ≤ gb365)); have n4_ := Aside0.mk ((by rw [hg]; exact (below_size (by repeat (first | (with_reducible first | exact HB.out | apply below_alloc | apply pw_below_drewN | apply below_drew1) | exact HB.out))) : w.heap.size ≤ gb365)); clear HO364; clear HB; have HO364 := n0_; have HB := n1_; have BK365 := n2_; have GW365 := n3_; have GE365 := n4_; clear n0_ n1_ n2_ n3_ n4_; clear hb hbox hg; obtain ⟨Ao12, co12, eo12⟩ := Kd.S_slice HO364.out; subst eo12; have hcz13_0 : w11.cell? ⟨gb365, 0, none⟩ = some (.slice none 0 0) := (blk_cell BK365.out 0).trans rfl; have hfz13_0 := blk_frozen BK365.out 0) | ((with_reducible refine gate_callee (f := 19) rfl ?_); refine goesL_ (some 38) rfl rfl Tryd.func19 (by kernel_rfl) rfl #[.slice A1 l1.length c1, .int .i64 0, .int .i64 (t362.length : Int)] rfl (by (try simp only [List.map_toArray, List.map_cons, List.map_nil]); first | done | rfl | (simp only [List.length_drop, List.length_take]; rfl)) ?_; (with_reducible refine (laws_r8At.calls _ _ l1 0 (t362.length : Int) t366 _ ?side1 ?side2 A6.out).mono ?_); (case side1 => exact Kd.C_below HR1.out (by repeat (first | (with_reducible first | exact HB.out | apply below_alloc | apply pw_below_drewN | apply below_drew1 | refine below_set ?_ GE365.out) | exact HB.out))); (case side2 => exact HC1.out); rintro e w' ⟨rfl, ⟨nd, rfl⟩⟩; refine ⟨_, rfl, ?_⟩) | ((with_reducible refine gate_callee (f := 19) rfl ?_); refine goesL_ (some 40) rfl rfl Tryd.func19 (by kernel_rfl) rfl #[.slice A1 l1.length c1, .int .i64 1, .int .i64 10] rfl (by (try simp only [List.map_toArray, List.map_cons, List.map_nil]); first | done | rfl | (simp only [List.length_drop, List.length_take]; rfl)) ?_; (with_reducible refine (laws_r8At.calls _ _ l1 1 10 t367 _ ?side1 ?side2 A7.out).mono ?_); (case side1 => exact Kd.C_below HR1.out (by repeat (first | (with_reducible first | exact HB.out | apply below_alloc | apply pw_below_drewN | apply below_drew1 | refine below_set ?_ GE365.out) | exact HB.out))); (case side2 => exact HC1.out); rintro e w' ⟨rfl, ⟨nd, rfl⟩⟩; refine ⟨_, rfl, ?_⟩) | ((with_reducible refine gate_callee (f := 27) rfl ?_); refine goesL_ (some 46) rfl rfl Tryd.func27 (by kernel_rfl) rfl #[.agg #[.slice Ao12 t362.length co12], .int .i64 t366, .int .i64 (wrap64 (t367 + 1))] rfl (by (try simp only [List.map_toArray, List.map_cons, List.map_nil]); first | done | rfl | (simp only [List.length_drop, List.length_take]; rfl)) ?_; (with_reducible refine (impl_CountAllowed.calls k _ _ t362 t366 (wrap64 (t367 + 1)) t368 t369 _ ?side1 ?side2 A8.out).mono ?_); (case side1 => refine (Kd.S_reads' (e := 46) (base := w.heap.size) (ok := fun k_ => True) (n := t362.length) (c := co12) ?_).2.2; exact (by (with_reducible repeat (first | apply Kd.S_alloc | apply Kd.S_drewN | apply Kd.S_drew)); exact (Kd.S_mono (Kd.S_far (p := ⟨gb365, 0, none⟩) (Kd.S_types HO364.out BK365.out (by decide)) (fun _ hk => hk.2) (.slice Ao12 t362.length co12)) (fun _ h_ => h_.1)))); (case side2 => exact (Kd.S_reads' HO364.out).2.1); rintro e w14 ⟨rfl, hb⟩; refine ⟨_, rfl, ?_⟩; have n0_ := Aside0.mk (Kd.S_below (by (with_reducible repeat (first | apply Kd.S_alloc | apply Kd.S_drewN | apply Kd.S_drew)); exact (Kd.S_mono (Kd.S_far (p := ⟨gb365, 0, none⟩) (Kd.S_types HO364.out BK365.out (by decide)) (fun _ hk => hk.2) (.slice Ao12 t362.length co12)) (fun _ h_ => h_.1))) hb); have n1_ := Aside0.mk (blk_below (g := gb365) (o := .cells #[.slice Ao12 t362.length co12] 27 (0, 0)) (by (with_reducible repeat (first | refine blk_drewN ?_ _ | refine blk_drew ?_ | refine blk_alloc ?_ _)); refine blk_put (cs := #[.slice none 0 0]) ?_ 0 _ rfl; (with_reducible repeat (first | refine blk_drewN ?_ _ | refine blk_drew ?_ | refine blk_alloc ?_ _)); exact BK365.out) hb); have n2_ := Aside0.mk (below_step (by repeat (first | (with_reducible first | exact HB.out | apply below_alloc | apply pw_below_drewN | apply below_drew1 | refine below_set ?_ GE365.out) | exact HB.out)) hb); clear HO364; clear BK365; clear HB; have HO364 := n0_; have BK365 := n1_; have HB := n2_; clear n0_ n1_ n2_; (try clear hb); (try clear hb2); (try clear hk); (try clear hi)))
    (try simp only [Act.put, List.setIfInBounds_toArray, List.set_cons_zero, List.set_cons_succ])
    go_cut [55] (fun v55 wc => ∃ (kq : Nat) (x55_8 : Bool), v55 = .bool x55_8 ∧ Aside0 (laws_FnRankedBits.j0 kq l1 t366 t367 t368 x55_8 t362 = some r) ∧ Aside0 (kq ≤ k) ∧ Aside0 (Kd.S (Kd.slice 2 (Kd.int .i64)) 46 wc w.heap.size (fun _ => True) (.slice Ao12 t362.length co12) t362) ∧ Aside0 (wc.heap[gb365]? = some (.cells #[(.slice Ao12 t362.length co12)] 27 (0, 0))) ∧ Aside0 (Below w.heap.size w wc))
    case first =>
      have H := HC9.out
      clear HC9
      by_cases c15 : t369 = true
      · subst c15
        have H1 : ((impl_ValidGraph.f k t362).bind fun t370 => (laws_FnRankedBits.j0 k l1 t366 t367 t368 (!t370) t362)) = some r := by rw [if_pos rfl] at H; exact H
        clear H
        have H := H1
        clear H1
        replace H := Option.bind_eq_some_iff.mp H
        obtain ⟨t370, A160, H⟩ := H
        replace H : (laws_FnRankedBits.j0 k l1 t366 t367 t368 (!t370) t362) = some r := H
        have A16 := Aside0.mk A160
        clear A160
        have H' := Aside0.mk H
        clear H
        have hcz17_0 : w14.cell? ⟨gb365, 0, none⟩ = some (.slice Ao12 t362.length co12) := (blk_cell BK365.out 0).trans rfl
        have hfz17_0 := blk_frozen BK365.out 0
        go_wp2_with (first | (go_at_call 23; (with_reducible refine (impl_ValidGraph.calls k _ _ t362 t370 _ ?side1 ?side2 A16.out).mono ?_); (case side1 => repeat (first | exact (Kd.S_reads' HO364.out).2.2 | (with_reducible refine Kd.C_alloc ?_ _) | (with_reducible refine Kd.C_drewN ?_ _) | (with_reducible refine Kd.C_drew ?_))); (case side2 => exact (Kd.S_reads' HO364.out).2.1); rintro e w18 ⟨rfl, hb⟩; have n0_ := Aside0.mk (Kd.S_below (by (with_reducible repeat (first | apply Kd.S_alloc | apply Kd.S_drewN | apply Kd.S_drew)); exact HO364.out) hb); have n1_ := Aside0.mk (blk_below (g := gb365) (o := .cells #[.slice Ao12 t362.length co12] 27 (0, 0)) (by (with_reducible repeat (first | refine blk_drewN ?_ _ | refine blk_drew ?_ | refine blk_alloc ?_ _)); exact BK365.out) hb); have n2_ := Aside0.mk (below_step (by repeat (first | (with_reducible first | exact HB.out | apply below_alloc | apply pw_below_drewN | apply below_drew1 | refine below_set ?_ GE365.out) | exact HB.out)) hb); clear HO364; clear BK365; clear HB; have HO364 := n0_; have BK365 := n1_; have HB := n2_; clear n0_ n1_ n2_; (try clear hb); (try clear hb2); (try clear hk); (try clear hi)))
        go_meet
        case rel => exact ⟨_, (!t370), (by first | rfl | (simp; done) | (simp [*]; done)), H', ⟨by first | omega | exact Nat.le_refl _⟩, ⟨by (with_reducible repeat (first | apply Kd.S_alloc | apply Kd.S_drewN | apply Kd.S_drew)); exact HO364.out⟩, ⟨by (with_reducible repeat (first | refine blk_drewN ?_ _ | refine blk_drew ?_ | refine blk_alloc ?_ _)); exact BK365.out⟩, ⟨by repeat (first | (with_reducible first | exact HB.out | apply below_alloc | apply pw_below_drewN | apply below_drew1 | refine below_set ?_ GE365.out) | exact HB.out)⟩⟩
      · replace c15 := Bool.eq_false_iff.mpr c15
        subst c15
        have H1 : (laws_FnRankedBits.j0 k l1 t366 t367 t368 true t362) = some r := by rw [if_neg (show ¬ (false = true) by decide)] at H; exact H
        clear H
        have H := H1
        clear H1
        have H' := Aside0.mk H
        clear H
        go_wp2
        go_meet
        case rel => exact ⟨_, (true), (by first | rfl | (simp; done) | (simp [*]; done)), H', ⟨by first | omega | exact Nat.le_refl _⟩, ⟨by (with_reducible repeat (first | apply Kd.S_alloc | apply Kd.S_drewN | apply Kd.S_drew)); exact HO364.out⟩, ⟨by (with_reducible repeat (first | refine blk_drewN ?_ _ | refine blk_drew ?_ | refine blk_alloc ?_ _)); exact BK365.out⟩, ⟨by repeat (first | (with_reducible first | exact HB.out | apply below_alloc | apply pw_below_drewN | apply below_drew1 | refine below_set ?_ GE365.out) | exact HB.out)⟩⟩
    case rest =>
      clear HC9
      try clear c1
      try clear c2
      try clear p2
      try clear c4
      try clear p6
      try clear c8
      try clear c15
      try clear c18
      try clear hcz13_0
      try clear hcz17_0
      try clear hfz13_0
      try clear hfz17_0
      obtain ⟨kq, x55_8, rfl, HA, HJ8, HO_366000, BK365, HB⟩ := hcut
      cases kq with
      | zero => exact absurd HA.out (by simp [laws_FnRankedBits.j0])
      | succ kj8 =>
        have H := HA.out
        clear HA
        simp only [laws_FnRankedBits.j0] at H
        by_cases c19 : x55_8 = true
        · subst c19
          have H1 : (some false) = some r := by rw [if_pos rfl] at H; exact H
          clear H
          have H := H1
          clear H1
          obtain rfl := Option.some.inj H
          go_wp2
          go_ret
          exact ⟨by first | rfl | (simp [errW_none, errW_some] <;> rfl) | (simp [*, errW_none, errW_some] <;> rfl), by repeat (first | (with_reducible first | exact HB.out | apply below_alloc | apply pw_below_drewN | apply below_drew1 | refine below_set ?_ GE365.out) | exact HB.out)⟩
        · replace c19 := Bool.eq_false_iff.mpr c19
          subst c19
          have H1 : (laws_FnRankedBits.l0 kj8 l1 t366 t367 t368 0 0 t362) = some r := by rw [if_neg (show ¬ (false = true) by decide)] at H; exact H
          clear H
          have H := H1
          clear H1
          have H' := Aside0.mk H
          clear H
          go_wp2
          go_loopg [11, 12] kj8 (fun kq v11 v12 w' => ∃ (x11_2 : Int) (x12_2 : Int), v11 = .int .i64 x11_2 ∧ v12 = .int .i64 x12_2 ∧ Aside0 (laws_FnRankedBits.l0 kq l1 t366 t367 t368 x11_2 x12_2 t362 = some r) ∧ Aside0 (kq ≤ kj8) ∧ Aside0 (Kd.S (Kd.slice 2 (Kd.int .i64)) 46 w' w.heap.size (fun _ => True) (.slice Ao12 t362.length co12) t362) ∧ Aside0 (w'.heap[gb365]? = some (.cells #[(.slice Ao12 t362.length co12)] 27 (0, 0))) ∧ Aside0 (Below w.heap.size w w'))
          case atStart => exact ⟨(0), (0), (by first | rfl | (simp; done) | (simp [*]; done)), (by first | rfl | (simp; done) | (simp [*]; done)), H', ⟨Nat.le_refl _⟩, ⟨by (with_reducible repeat (first | apply Kd.S_alloc | apply Kd.S_drewN | apply Kd.S_drew)); exact HO_366000.out⟩, ⟨by (with_reducible repeat (first | refine blk_drewN ?_ _ | refine blk_drew ?_ | refine blk_alloc ?_ _)); exact BK365.out⟩, ⟨by repeat (first | (with_reducible first | exact HB.out | apply below_alloc | apply pw_below_drewN | apply below_drew1 | refine below_set ?_ GE365.out) | exact HB.out)⟩⟩
          case round =>
            clear H'
            try clear c1
            try clear c2
            try clear p2
            try clear c4
            try clear p6
            try clear c8
            try clear c15
            try clear c18
            try clear c19
            try clear hcz13_0
            try clear hcz17_0
            try clear hfz13_0
            try clear hfz17_0
            try clear p2
            try clear p6
            obtain ⟨x11_2, x12_2, rfl, rfl, HA, HK2, HO_366000, BK365, HB⟩ := hrel
            cases gk with
            | zero => exact absurd HA.out (by simp [laws_FnRankedBits.l0])
            | succ k2 =>
              have H := HA.out
              clear HA
              simp only [laws_FnRankedBits.l0] at H
              by_cases c20 : x12_2 < 2
              · rw [if_pos c20] at H
                have c20b0 : decide (x12_2 < 2) = true := decide_eq_true c20
                clear c20
                by_cases c21 : 0 ≤ t366
                · rw [if_pos c21] at H
                  have c21b0 : decide (0 ≤ t366) = true := decide_eq_true c21
                  clear c21
                  by_cases c22 : t366 < (t362.length : Int)
                  · rw [if_pos c22] at H
                    have c22b0 : decide (t366 < (t362.length : Int)) = true := decide_eq_true c22
                    clear c22
                    by_cases c23 : 0 ≤ x12_2
                    · rw [if_pos c23] at H
                      have c23b0 : decide (0 ≤ x12_2) = true := decide_eq_true c23
                      clear c23
                      by_cases c24 : x12_2 < ((rd_L1 t362 t366).length : Int)
                      · rw [if_pos c24] at H
                        have c24b0 : decide (x12_2 < ((rd_L1 t362 t366).length : Int)) = true := decide_eq_true c24
                        clear c24
                        by_cases c25 : (rd (rd_L1 t362 t366) x12_2) ≥ 0
                        · rw [if_pos c25] at H
                          have c25b0 : decide (0 ≤ (rd (rd_L1 t362 t366) x12_2)) = true := decide_eq_true c25
                          clear c25
                          replace H := Option.bind_eq_some_iff.mp H
                          obtain ⟨⟨t375, t376⟩, A260, H⟩ := H
                          replace H : (if t376 = true then (laws_FnRankedBits.l0 k2 l1 t366 t367 t368 (wrap64 (x11_2 + t375)) (wrap64 (x12_2 + 1)) t362) else (some false)) = some r := H
                          have A26 := Aside0.mk A260
                          clear A260
                          by_cases c27 : t376 = true
                          · subst c27
                            have H1 : (laws_FnRankedBits.l0 k2 l1 t366 t367 t368 (wrap64 (x11_2 + t375)) (wrap64 (x12_2 + 1)) t362) = some r := by rw [if_pos rfl] at H; exact H
                            clear H
                            have H := H1
                            clear H1
                            have H' := Aside0.mk H
                            clear H
                            have hcz28_0 : wr.cell? ⟨gb365, 0, none⟩ = some (.slice Ao12 t362.length co12) := (blk_cell BK365.out 0).trans rfl
                            have hfz28_0 := blk_frozen BK365.out 0
                            have p371 : 0 ≤ (t366 : Int) := of_decide_eq_true (by first | (with_reducible assumption) | assumption)
                            have q371 : t366 < (t362.length : Int) := of_decide_eq_true (by first | (with_reducible assumption) | assumption)
                            obtain ⟨ad371, A371_0, c371_0, e371, hx371_0, hl371_0, hi371_0⟩ := at_L1 (Kd.S_reads' HO_366000.out).2.2 t366 p371 q371
                            cases e371
                            obtain ⟨ce371, hce371, hMe371, hcc371⟩ := Kd.S_get HO_366000.out [] t366 p371 (by first | exact q371 | exact of_decide_eq_true (by first | (with_reducible assumption) | assumption) | (have e_ := (Kd.S_reads' HO_366000.out).1; omega))
                            obtain ⟨ve371_0, rfl, ge371_0⟩ := hMe371
                            have hv371_0 := hcc371 0 _ rfl
                            rw [Nat.add_zero, show ((Kd.slice 2 (Kd.int .i64))).sz = 1 from rfl, Nat.mul_one] at hv371_0
                            replace hv371_0 := Option.some.inj (hv371_0.symm.trans hx371_0)
                            rw [hv371_0] at ge371_0
                            have HL371_0 := Aside0.mk (show Kd.R (Kd.int .i64) 2 _ _ _ _ (rd_L1 t362 t366) from ge371_0)
                            clear hv371_0 ge371_0
                            clear hcc371 hce371
                            have HR371_0 := Aside0.mk hi371_0
                            have HC371_0 := Aside0.mk hl371_0
                            clear hi371_0 hl371_0
                            replace p371 := eq_true p371
                            replace q371 := eq_true q371
                            have p372 : 0 ≤ (x12_2 : Int) := of_decide_eq_true (by first | (with_reducible assumption) | assumption)
                            have q372 : x12_2 < ((rd_L1 t362 t366).length : Int) := of_decide_eq_true (by first | (with_reducible assumption) | assumption)
                            obtain ⟨ad372, e372, hx372_0⟩ := Kd.at_int (by repeat (first | (with_reducible exact HR371_0.out) | (with_reducible refine Kd.C_alloc ?_ _) | (with_reducible refine Kd.C_drewN ?_ _) | (with_reducible refine Kd.C_drew ?_) | exact HR371_0.out)) x12_2 p372 q372
                            cases e372
                            replace p372 := eq_true p372
                            replace q372 := eq_true q372
                            try go_wp2
                            have n0_ := Aside0.mk (Kd.S_drew HO_366000.out)
                            have n1_ := Aside0.mk (Kd.R_drew HL371_0.out)
                            have n2_ := Aside0.mk (blk_drew BK365.out)
                            have n3_ := Aside0.mk (Kd.C_drew HR371_0.out)
                            have n4_ := Aside0.mk (below_drew1 HB.out)
                            clear HO_366000
                            clear HL371_0
                            clear BK365
                            clear HR371_0
                            clear HB
                            have HO_366000 := n0_
                            have HL371_0 := n1_
                            have BK365 := n2_
                            have HR371_0 := n3_
                            have HB := n4_
                            clear n0_ n1_ n2_ n3_ n4_
                            have p373 : 0 ≤ (t366 : Int) := of_decide_eq_true (by first | (with_reducible assumption) | assumption)
                            have q373 : t366 < (t362.length : Int) := of_decide_eq_true (by first | (with_reducible assumption) | assumption)
                            obtain ⟨ad373, A373_0, c373_0, e373, hx373_0, hl373_0, hi373_0⟩ := at_L1 (Kd.S_reads' HO_366000.out).2.2 t366 p373 q373
                            obtain rfl : ad371 = ad373 := (by injection e373)
                            obtain ⟨ce373, hce373, hMe373, hcc373⟩ := Kd.S_get HO_366000.out [] t366 p373 (by first | exact q373 | exact of_decide_eq_true (by first | (with_reducible assumption) | assumption) | (have e_ := (Kd.S_reads' HO_366000.out).1; omega))
                            obtain ⟨ve373_0, rfl, ge373_0⟩ := hMe373
                            have hv373_0 := hcc373 0 _ rfl
                            rw [Nat.add_zero, show ((Kd.slice 2 (Kd.int .i64))).sz = 1 from rfl, Nat.mul_one] at hv373_0
                            replace hv373_0 := Option.some.inj (hv373_0.symm.trans hx373_0)
                            rw [hv373_0] at ge373_0
                            have HL373_0 := Aside0.mk (show Kd.R (Kd.int .i64) 2 _ _ _ _ (rd_L1 t362 t366) from ge373_0)
                            clear hv373_0 ge373_0
                            clear hcc373 hce373
                            have HR373_0 := Aside0.mk hi373_0
                            have HC373_0 := Aside0.mk hl373_0
                            clear hi373_0 hl373_0
                            replace p373 := eq_true p373
                            replace q373 := eq_true q373
                            have p374 : 0 ≤ (x12_2 : Int) := of_decide_eq_true (by first | (with_reducible assumption) | assumption)
                            have q374 : x12_2 < ((rd_L1 t362 t366).length : Int) := of_decide_eq_true (by first | (with_reducible assumption) | assumption)
                            obtain ⟨ad374, e374, hx374_0⟩ := Kd.at_int (by repeat (first | (with_reducible exact HR373_0.out) | (with_reducible refine Kd.C_alloc ?_ _) | (with_reducible refine Kd.C_drewN ?_ _) | (with_reducible refine Kd.C_drew ?_) | exact HR373_0.out)) x12_2 p374 q374
                            cases e374
                            replace p374 := eq_true p374
                            replace q374 := eq_true q374
                            refine start_ (n := 16) (S := fun w' => w'.cell? ⟨gb365, 0, none⟩ = some (.slice (some ad371) t362.length co12) ∧ w'.cell? (ad371.add (t366).toNat) = some (.slice (some ad374) (rd_L1 t362 t366).length c373_0) ∧ w'.cell? (ad374.add (x12_2).toNat) = some (.int .i64 (rd (rd_L1 t362 t366) x12_2))) (ds := []) #[false, false, false, false, false, false, false, false, false, false, false, false, false, false, false, false] (by kernel_rfl) rfl rfl ⟨(blk_cell BK365.out 0).trans rfl, hx373_0, hx374_0⟩ (fun hHeld => ?_); refine with_tabW laws_FnRankedBits.tab15 laws_FnRankedBits.bits15 (fun HT_ HW_ => ?_)
                            generalize wr.drew = w29 at HO_366000 HL371_0 BK365 HR371_0 HB HL373_0 HR373_0 hx373_0 hx374_0 hHeld ⊢
                            refine pure_ (i := 1) (N := some 71) (v := ?_) (a' := ?_) #[false, true, false, false, false, false, false, false, false, false, false, false, false, false, false, false] rfl rfl (any_of HT_.out (by kernel_rfl)) (fun _ _ _ h => h) (Or.inl ⟨by rfl, ?_⟩) ?_ ?_
                            rotate_left
                            · intro w'
                              go_simp
                              with_reducible rfl
                            rotate_left
                            · simp only [Act.put, List.setIfInBounds_toArray, List.set_cons_zero, List.set_cons_succ, i64_w, i32_w]
                              rfl
                            refine pure_ (i := 3) (N := some 73) (v := ?_) (a' := ?_) #[false, true, false, true, false, false, false, false, false, false, false, false, false, false, false, false] rfl rfl (any_of HT_.out (by kernel_rfl)) (fun _ _ _ h => h) (Or.inl ⟨by rfl, ?_⟩) ?_ ?_
                            rotate_left
                            · intro w'
                              go_simp
                              with_reducible rfl
                            rotate_left
                            · simp only [Act.put, List.setIfInBounds_toArray, List.set_cons_zero, List.set_cons_succ, i64_w, i32_w]
                              rfl
                            refine pure_ (i := 6) (N := some 76) (v := ?_) (a' := ?_) #[false, true, false, true, false, false, true, false, false, false, false, false, false, false, false, false] rfl rfl (any_of HT_.out (by kernel_rfl)) (fun _ _ _ h => h) (Or.inl ⟨by rfl, ?_⟩) ?_ ?_
                            rotate_left
                            · intro w'
                              go_simp
                              with_reducible rfl
                            rotate_left
                            · simp only [Act.put, List.setIfInBounds_toArray, List.set_cons_zero, List.set_cons_succ, i64_w, i32_w]
                              rfl
                            refine pure_ (i := 9) (N := some 79) (v := ?_) (a' := ?_) #[false, true, false, true, false, false, true, false, false, true, false, false, false, false, false, false] rfl rfl (any_of HT_.out (by kernel_rfl)) (fun _ _ _ h => h) (Or.inl ⟨by rfl, ?_⟩) ?_ ?_
                            rotate_left
                            · intro w'
                              go_simp
                              with_reducible rfl
                            rotate_left
                            · simp only [Act.put, List.setIfInBounds_toArray, List.set_cons_zero, List.set_cons_succ, i64_w, i32_w]
                              rfl
                            refine take_ (i := 0) (N := some 70) (v := ?_) (a' := ?_) #[true, true, false, true, false, false, true, false, false, true, false, false, false, false, false, false] rfl rfl (take_ofW HT_.out HW_.out (by kernel_rfl)) (fun _ _ _ h => h) (Or.inl ⟨by rfl, ?_⟩) hHeld ?_ ?_
                            rotate_left
                            · rintro w' ⟨s0, s1, s2⟩
                              go_simp
                              with_reducible rfl
                            rotate_left
                            · simp only [Act.put, List.setIfInBounds_toArray, List.set_cons_zero, List.set_cons_succ, i64_w, i32_w]
                              rfl
                            refine take_ (i := 2) (N := some 72) (v := ?_) (a' := ?_) #[true, true, true, true, false, false, true, false, false, true, false, false, false, false, false, false] rfl rfl (take_ofW HT_.out HW_.out (by kernel_rfl)) (fun _ _ _ h => h) (Or.inl ⟨by rfl, ?_⟩) hHeld ?_ ?_
                            rotate_left
                            · rintro w' ⟨s0, s1, s2⟩
                              go_simp
                              with_reducible rfl
                            rotate_left
                            · simp only [Act.put, List.setIfInBounds_toArray, List.set_cons_zero, List.set_cons_succ, i64_w, i32_w]
                              rfl
                            refine pure_ (i := 4) (N := some 74) (v := ?_) (a' := ?_) #[true, true, true, true, true, false, true, false, false, true, false, false, false, false, false, false] rfl rfl (any_of HT_.out (by kernel_rfl)) (fun _ _ _ h => h) (Or.inl ⟨by rfl, ?_⟩) ?_ ?_
                            rotate_left
                            · intro w'
                              go_simp
                              with_reducible rfl
                            rotate_left
                            · simp only [Act.put, List.setIfInBounds_toArray, List.set_cons_zero, List.set_cons_succ, i64_w, i32_w]
                              rfl
                            refine take_ (i := 5) (N := some 75) (v := ?_) (a' := ?_) #[true, true, true, true, true, true, true, false, false, true, false, false, false, false, false, false] rfl rfl (take_ofW HT_.out HW_.out (by kernel_rfl)) (fun _ _ _ h => h) (Or.inl ⟨by rfl, ?_⟩) hHeld ?_ ?_
                            rotate_left
                            · rintro w' ⟨s0, s1, s2⟩
                              go_simp
                              with_reducible rfl
                            rotate_left
                            · simp only [Act.put, List.setIfInBounds_toArray, List.set_cons_zero, List.set_cons_succ, i64_w, i32_w]
                              rfl
                            refine pure_ (i := 7) (N := some 77) (v := ?_) (a' := ?_) #[true, true, true, true, true, true, true, true, false, true, false, false, false, false, false, false] rfl rfl (any_of HT_.out (by kernel_rfl)) (fun _ _ _ h => h) (Or.inl ⟨by rfl, ?_⟩) ?_ ?_
                            rotate_left
                            · intro w'
                              go_simp
                              with_reducible rfl
                            rotate_left
                            · simp only [Act.put, List.setIfInBounds_toArray, List.set_cons_zero, List.set_cons_succ, i64_w, i32_w]
                              rfl
                            refine take_ (i := 8) (N := some 78) (v := ?_) (a' := ?_) #[true, true, true, true, true, true, true, true, true, true, false, false, false, false, false, false] rfl rfl (take_ofW HT_.out HW_.out (by kernel_rfl)) (fun _ _ _ h => h) (Or.inl ⟨by rfl, ?_⟩) hHeld ?_ ?_
                            rotate_left
                            · rintro w' ⟨s0, s1, s2⟩
                              go_simp
                              with_reducible rfl
                            rotate_left
                            · simp only [Act.put, List.setIfInBounds_toArray, List.set_cons_zero, List.set_cons_succ, i64_w, i32_w]
                              rfl
                            refine one_ (i := 10) (N := some 80) #[true, true, true, true, true, true, true, true, true, true, true, false, false, false, false, false] rfl rfl (one_of HT_.out (by kernel_rfl)) (by decide) (fun K hK => ?_)
                            refine goes_ Tryd.func27 (by kernel_rfl) rfl #[.agg #[.slice (some ad371) t362.length co12], .int .i64 (rd (rd_L1 t362 t366) x12_2), .int .i64 t367] (by rfl) rfl rfl (by (try simp only [List.map_toArray, List.map_cons, List.map_nil]); first | done | rfl | (simp only [List.length_drop, List.length_take]; rfl)) ?_
                            with_reducible refine (impl_CountAllowed.calls k2 _ _ t362 (rd (rd_L1 t362 t366) x12_2) t367 t375 true _ ?side1 ?side2 A26.out).mono ?_
                            (case side1 => repeat (first | exact (Kd.S_reads' HO_366000.out).2.2 | (with_reducible refine Kd.C_alloc ?_ _) | (with_reducible refine Kd.C_drewN ?_ _) | (with_reducible refine Kd.C_drew ?_)))
                            (case side2 => exact (Kd.S_reads' HO_366000.out).2.1)
                            rintro e w30 ⟨rfl, hb⟩
                            have HS1_ := (hb.cell (World.block_lt_of_cell? _ _ (hHeld.2.1))).trans (hHeld.2.1)
                            have HS2_ := (hb.cell (World.block_lt_of_cell? _ _ (hHeld.2.2))).trans (hHeld.2.2)
                            refine ⟨_, rfl, ?_⟩
                            have n0_ := Aside0.mk (Kd.S_below (by (with_reducible repeat (first | apply Kd.S_alloc | apply Kd.S_drewN | apply Kd.S_drew)); exact HO_366000.out) hb)
                            have n1_ := Aside0.mk (Kd.R_below (by (with_reducible repeat (first | apply Kd.R_alloc | apply Kd.R_drewN | apply Kd.R_drew)); exact HL371_0.out) hb)
                            have n2_ := Aside0.mk (Kd.R_below (by (with_reducible repeat (first | apply Kd.R_alloc | apply Kd.R_drewN | apply Kd.R_drew)); exact HL373_0.out) hb)
                            have n3_ := Aside0.mk (blk_below (g := gb365) (o := .cells #[.slice (some ad371) t362.length co12] 27 (0, 0)) (by (with_reducible repeat (first | refine blk_drewN ?_ _ | refine blk_drew ?_ | refine blk_alloc ?_ _)); exact BK365.out) hb)
                            have n4_ := Aside0.mk (Kd.C_below (by repeat (first | (with_reducible exact HR371_0.out) | (with_reducible refine Kd.C_alloc ?_ _) | (with_reducible refine Kd.C_drewN ?_ _) | (with_reducible refine Kd.C_drew ?_) | exact HR371_0.out)) hb)
                            have n5_ := Aside0.mk (Kd.C_below (by repeat (first | (with_reducible exact HR373_0.out) | (with_reducible refine Kd.C_alloc ?_ _) | (with_reducible refine Kd.C_drewN ?_ _) | (with_reducible refine Kd.C_drew ?_) | exact HR373_0.out)) hb)
                            have n6_ := Aside0.mk (below_step (by repeat (first | (with_reducible first | exact HB.out | apply below_alloc | apply pw_below_drewN | apply below_drew1 | refine below_set ?_ GE365.out) | exact HB.out)) hb)
                            clear HO_366000
                            clear HL371_0
                            clear HL373_0
                            clear BK365
                            clear HR371_0
                            clear HR373_0
                            clear HB
                            have HO_366000 := n0_
                            have HL371_0 := n1_
                            have HL373_0 := n2_
                            have BK365 := n3_
                            have HR371_0 := n4_
                            have HR373_0 := n5_
                            have HB := n6_
                            clear n0_ n1_ n2_ n3_ n4_ n5_ n6_
                            (try clear hb)
                            (try clear hb2)
                            (try clear hk)
                            (try clear hi)
                            refine hK.out _ _ ⟨(blk_cell BK365.out 0).trans rfl, HS1_, HS2_⟩ (fun hHeld => ?_)
                            clear hK K
                            refine norm_ (a' := ?_) ?_ ?_
                            rotate_left
                            · show Act.put _ (some 80) _ = _
                              simp only [Act.put, List.setIfInBounds_toArray, List.set_cons_zero, List.set_cons_succ, i64_w, i32_w]
                              rfl
                            refine pure_ (i := 11) (N := some 69) (v := ?_) (a' := ?_) #[true, true, true, true, true, true, true, true, true, true, true, true, false, false, false, false] rfl rfl (any_of HT_.out (by kernel_rfl)) (fun _ _ _ h => h) (Or.inl ⟨by rfl, ?_⟩) ?_ ?_
                            rotate_left
                            · intro w'
                              go_simp
                              with_reducible rfl
                            rotate_left
                            · simp only [Act.put, List.setIfInBounds_toArray, List.set_cons_zero, List.set_cons_succ, i64_w, i32_w]
                              rfl
                            refine pure_ (i := 12) (N := some 81) (v := ?_) (a' := ?_) #[true, true, true, true, true, true, true, true, true, true, true, true, true, false, false, false] rfl rfl (any_of HT_.out (by kernel_rfl)) (fun _ _ _ h => h) (Or.inl ⟨by rfl, ?_⟩) ?_ ?_
                            rotate_left
                            · intro w'
                              go_simp
                              with_reducible rfl
                            rotate_left
                            · simp only [Act.put, List.setIfInBounds_toArray, List.set_cons_zero, List.set_cons_succ, i64_w, i32_w]
                              rfl
                            refine pure_ (i := 13) (N := some 82) (v := ?_) (a' := ?_) #[true, true, true, true, true, true, true, true, true, true, true, true, true, true, false, false] rfl rfl (any_of HT_.out (by kernel_rfl)) (fun _ _ _ h => h) (Or.inl ⟨by rfl, ?_⟩) ?_ ?_
                            rotate_left
                            · intro w'
                              go_simp
                              with_reducible rfl
                            rotate_left
                            · simp only [Act.put, List.setIfInBounds_toArray, List.set_cons_zero, List.set_cons_succ, i64_w, i32_w]
                              rfl
                            refine pure_ (i := 14) (N := some 13) (v := ?_) (a' := ?_) #[true, true, true, true, true, true, true, true, true, true, true, true, true, true, true, false] rfl rfl (any_of HT_.out (by kernel_rfl)) (fun _ _ _ h => h) (Or.inl ⟨by rfl, ?_⟩) ?_ ?_
                            rotate_left
                            · intro w'
                              go_simp
                              with_reducible rfl
                            rotate_left
                            · simp only [Act.put, List.setIfInBounds_toArray, List.set_cons_zero, List.set_cons_succ, i64_w, i32_w]
                              rfl
                            refine pure_ (i := 15) (N := some 14) (v := ?_) (a' := ?_) #[true, true, true, true, true, true, true, true, true, true, true, true, true, true, true, true] rfl rfl (any_of HT_.out (by kernel_rfl)) (fun _ _ _ h => h) (Or.inl ⟨by rfl, ?_⟩) ?_ ?_
                            rotate_left
                            · intro w'
                              go_simp
                              with_reducible rfl
                            rotate_left
                            · simp only [Act.put, List.setIfInBounds_toArray, List.set_cons_zero, List.set_cons_succ, i64_w, i32_w]
                              rfl
                            refine done_ (done_of HT_.out (by kernel_rfl)) ?_
                            try go_wp2
                            go_roundg k2
                            case measure => have := HJ8.out; have := HK2.out; omega
                            case rel => exact ⟨(wrap64 (x11_2 + t375)), (wrap64 (x12_2 + 1)), (by first | rfl | (simp; done) | (simp [*]; done)), (by first | rfl | (simp; done) | (simp [*]; done)), H', ⟨by have := HJ8.out; have := HK2.out; omega⟩, ⟨by (with_reducible repeat (first | apply Kd.S_alloc | apply Kd.S_drewN | apply Kd.S_drew)); exact HO_366000.out⟩, ⟨by (with_reducible repeat (first | refine blk_drewN ?_ _ | refine blk_drew ?_ | refine blk_alloc ?_ _)); exact BK365.out⟩, ⟨by repeat (first | (with_reducible first | exact HB.out | apply below_alloc | apply pw_below_drewN | apply below_drew1 | refine below_set ?_ GE365.out) | exact HB.out)⟩⟩
                          · replace c27 := Bool.eq_false_iff.mpr c27
                            subst c27
                            have H1 : (some false) = some r := by rw [if_neg (show ¬ (false = true) by decide)] at H; exact H
                            clear H
                            have H := H1
                            clear H1
                            obtain rfl := Option.some.inj H
                            have hcz31_0 : wr.cell? ⟨gb365, 0, none⟩ = some (.slice Ao12 t362.length co12) := (blk_cell BK365.out 0).trans rfl
                            have hfz31_0 := blk_frozen BK365.out 0
                            have p371 : 0 ≤ (t366 : Int) := of_decide_eq_true (by first | (with_reducible assumption) | assumption)
                            have q371 : t366 < (t362.length : Int) := of_decide_eq_true (by first | (with_reducible assumption) | assumption)
                            obtain ⟨ad371, A371_0, c371_0, e371, hx371_0, hl371_0, hi371_0⟩ := at_L1 (Kd.S_reads' HO_366000.out).2.2 t366 p371 q371
                            cases e371
                            obtain ⟨ce371, hce371, hMe371, hcc371⟩ := Kd.S_get HO_366000.out [] t366 p371 (by first | exact q371 | exact of_decide_eq_true (by first | (with_reducible assumption) | assumption) | (have e_ := (Kd.S_reads' HO_366000.out).1; omega))
                            obtain ⟨ve371_0, rfl, ge371_0⟩ := hMe371
                            have hv371_0 := hcc371 0 _ rfl
                            rw [Nat.add_zero, show ((Kd.slice 2 (Kd.int .i64))).sz = 1 from rfl, Nat.mul_one] at hv371_0
                            replace hv371_0 := Option.some.inj (hv371_0.symm.trans hx371_0)
                            rw [hv371_0] at ge371_0
                            have HL371_0 := Aside0.mk (show Kd.R (Kd.int .i64) 2 _ _ _ _ (rd_L1 t362 t366) from ge371_0)
                            clear hv371_0 ge371_0
                            clear hcc371 hce371
                            have HR371_0 := Aside0.mk hi371_0
                            have HC371_0 := Aside0.mk hl371_0
                            clear hi371_0 hl371_0
                            replace p371 := eq_true p371
                            replace q371 := eq_true q371
                            have p372 : 0 ≤ (x12_2 : Int) := of_decide_eq_true (by first | (with_reducible assumption) | assumption)
                            have q372 : x12_2 < ((rd_L1 t362 t366).length : Int) := of_decide_eq_true (by first | (with_reducible assumption) | assumption)
                            obtain ⟨ad372, e372, hx372_0⟩ := Kd.at_int (by repeat (first | (with_reducible exact HR371_0.out) | (with_reducible refine Kd.C_alloc ?_ _) | (with_reducible refine Kd.C_drewN ?_ _) | (with_reducible refine Kd.C_drew ?_) | exact HR371_0.out)) x12_2 p372 q372
                            cases e372
                            replace p372 := eq_true p372
                            replace q372 := eq_true q372
                            try go_wp2
                            have n0_ := Aside0.mk (Kd.S_drew HO_366000.out)
                            have n1_ := Aside0.mk (Kd.R_drew HL371_0.out)
                            have n2_ := Aside0.mk (blk_drew BK365.out)
                            have n3_ := Aside0.mk (Kd.C_drew HR371_0.out)
                            have n4_ := Aside0.mk (below_drew1 HB.out)
                            clear HO_366000
                            clear HL371_0
                            clear BK365
                            clear HR371_0
                            clear HB
                            have HO_366000 := n0_
                            have HL371_0 := n1_
                            have BK365 := n2_
                            have HR371_0 := n3_
                            have HB := n4_
                            clear n0_ n1_ n2_ n3_ n4_
                            have p373 : 0 ≤ (t366 : Int) := of_decide_eq_true (by first | (with_reducible assumption) | assumption)
                            have q373 : t366 < (t362.length : Int) := of_decide_eq_true (by first | (with_reducible assumption) | assumption)
                            obtain ⟨ad373, A373_0, c373_0, e373, hx373_0, hl373_0, hi373_0⟩ := at_L1 (Kd.S_reads' HO_366000.out).2.2 t366 p373 q373
                            obtain rfl : ad371 = ad373 := (by injection e373)
                            obtain ⟨ce373, hce373, hMe373, hcc373⟩ := Kd.S_get HO_366000.out [] t366 p373 (by first | exact q373 | exact of_decide_eq_true (by first | (with_reducible assumption) | assumption) | (have e_ := (Kd.S_reads' HO_366000.out).1; omega))
                            obtain ⟨ve373_0, rfl, ge373_0⟩ := hMe373
                            have hv373_0 := hcc373 0 _ rfl
                            rw [Nat.add_zero, show ((Kd.slice 2 (Kd.int .i64))).sz = 1 from rfl, Nat.mul_one] at hv373_0
                            replace hv373_0 := Option.some.inj (hv373_0.symm.trans hx373_0)
                            rw [hv373_0] at ge373_0
                            have HL373_0 := Aside0.mk (show Kd.R (Kd.int .i64) 2 _ _ _ _ (rd_L1 t362 t366) from ge373_0)
                            clear hv373_0 ge373_0
                            clear hcc373 hce373
                            have HR373_0 := Aside0.mk hi373_0
                            have HC373_0 := Aside0.mk hl373_0
                            clear hi373_0 hl373_0
                            replace p373 := eq_true p373
                            replace q373 := eq_true q373
                            have p374 : 0 ≤ (x12_2 : Int) := of_decide_eq_true (by first | (with_reducible assumption) | assumption)
                            have q374 : x12_2 < ((rd_L1 t362 t366).length : Int) := of_decide_eq_true (by first | (with_reducible assumption) | assumption)
                            obtain ⟨ad374, e374, hx374_0⟩ := Kd.at_int (by repeat (first | (with_reducible exact HR373_0.out) | (with_reducible refine Kd.C_alloc ?_ _) | (with_reducible refine Kd.C_drewN ?_ _) | (with_reducible refine Kd.C_drew ?_) | exact HR373_0.out)) x12_2 p374 q374
                            cases e374
                            replace p374 := eq_true p374
                            replace q374 := eq_true q374
                            refine start_ (n := 16) (S := fun w' => w'.cell? ⟨gb365, 0, none⟩ = some (.slice (some ad371) t362.length co12) ∧ w'.cell? (ad371.add (t366).toNat) = some (.slice (some ad374) (rd_L1 t362 t366).length c373_0) ∧ w'.cell? (ad374.add (x12_2).toNat) = some (.int .i64 (rd (rd_L1 t362 t366) x12_2))) (ds := []) #[false, false, false, false, false, false, false, false, false, false, false, false, false, false, false, false] (by kernel_rfl) rfl rfl ⟨(blk_cell BK365.out 0).trans rfl, hx373_0, hx374_0⟩ (fun hHeld => ?_); refine with_tabW laws_FnRankedBits.tab15 laws_FnRankedBits.bits15 (fun HT_ HW_ => ?_)
                            generalize wr.drew = w32 at HO_366000 HL371_0 BK365 HR371_0 HB HL373_0 HR373_0 hx373_0 hx374_0 hHeld ⊢
                            refine pure_ (i := 1) (N := some 71) (v := ?_) (a' := ?_) #[false, true, false, false, false, false, false, false, false, false, false, false, false, false, false, false] rfl rfl (any_of HT_.out (by kernel_rfl)) (fun _ _ _ h => h) (Or.inl ⟨by rfl, ?_⟩) ?_ ?_
                            rotate_left
                            · intro w'
                              go_simp
                              with_reducible rfl
                            rotate_left
                            · simp only [Act.put, List.setIfInBounds_toArray, List.set_cons_zero, List.set_cons_succ, i64_w, i32_w]
                              rfl
                            refine pure_ (i := 3) (N := some 73) (v := ?_) (a' := ?_) #[false, true, false, true, false, false, false, false, false, false, false, false, false, false, false, false] rfl rfl (any_of HT_.out (by kernel_rfl)) (fun _ _ _ h => h) (Or.inl ⟨by rfl, ?_⟩) ?_ ?_
                            rotate_left
                            · intro w'
                              go_simp
                              with_reducible rfl
                            rotate_left
                            · simp only [Act.put, List.setIfInBounds_toArray, List.set_cons_zero, List.set_cons_succ, i64_w, i32_w]
                              rfl
                            refine pure_ (i := 6) (N := some 76) (v := ?_) (a' := ?_) #[false, true, false, true, false, false, true, false, false, false, false, false, false, false, false, false] rfl rfl (any_of HT_.out (by kernel_rfl)) (fun _ _ _ h => h) (Or.inl ⟨by rfl, ?_⟩) ?_ ?_
                            rotate_left
                            · intro w'
                              go_simp
                              with_reducible rfl
                            rotate_left
                            · simp only [Act.put, List.setIfInBounds_toArray, List.set_cons_zero, List.set_cons_succ, i64_w, i32_w]
                              rfl
                            refine pure_ (i := 9) (N := some 79) (v := ?_) (a' := ?_) #[false, true, false, true, false, false, true, false, false, true, false, false, false, false, false, false] rfl rfl (any_of HT_.out (by kernel_rfl)) (fun _ _ _ h => h) (Or.inl ⟨by rfl, ?_⟩) ?_ ?_
                            rotate_left
                            · intro w'
                              go_simp
                              with_reducible rfl
                            rotate_left
                            · simp only [Act.put, List.setIfInBounds_toArray, List.set_cons_zero, List.set_cons_succ, i64_w, i32_w]
                              rfl
                            refine take_ (i := 0) (N := some 70) (v := ?_) (a' := ?_) #[true, true, false, true, false, false, true, false, false, true, false, false, false, false, false, false] rfl rfl (take_ofW HT_.out HW_.out (by kernel_rfl)) (fun _ _ _ h => h) (Or.inl ⟨by rfl, ?_⟩) hHeld ?_ ?_
                            rotate_left
                            · rintro w' ⟨s0, s1, s2⟩
                              go_simp
                              with_reducible rfl
                            rotate_left
                            · simp only [Act.put, List.setIfInBounds_toArray, List.set_cons_zero, List.set_cons_succ, i64_w, i32_w]
                              rfl
                            refine take_ (i := 2) (N := some 72) (v := ?_) (a' := ?_) #[true, true, true, true, false, false, true, false, false, true, false, false, false, false, false, false] rfl rfl (take_ofW HT_.out HW_.out (by kernel_rfl)) (fun _ _ _ h => h) (Or.inl ⟨by rfl, ?_⟩) hHeld ?_ ?_
                            rotate_left
                            · rintro w' ⟨s0, s1, s2⟩
                              go_simp
                              with_reducible rfl
                            rotate_left
                            · simp only [Act.put, List.setIfInBounds_toArray, List.set_cons_zero, List.set_cons_succ, i64_w, i32_w]
                              rfl
                            refine pure_ (i := 4) (N := some 74) (v := ?_) (a' := ?_) #[true, true, true, true, true, false, true, false, false, true, false, false, false, false, false, false] rfl rfl (any_of HT_.out (by kernel_rfl)) (fun _ _ _ h => h) (Or.inl ⟨by rfl, ?_⟩) ?_ ?_
                            rotate_left
                            · intro w'
                              go_simp
                              with_reducible rfl
                            rotate_left
                            · simp only [Act.put, List.setIfInBounds_toArray, List.set_cons_zero, List.set_cons_succ, i64_w, i32_w]
                              rfl
                            refine take_ (i := 5) (N := some 75) (v := ?_) (a' := ?_) #[true, true, true, true, true, true, true, false, false, true, false, false, false, false, false, false] rfl rfl (take_ofW HT_.out HW_.out (by kernel_rfl)) (fun _ _ _ h => h) (Or.inl ⟨by rfl, ?_⟩) hHeld ?_ ?_
                            rotate_left
                            · rintro w' ⟨s0, s1, s2⟩
                              go_simp
                              with_reducible rfl
                            rotate_left
                            · simp only [Act.put, List.setIfInBounds_toArray, List.set_cons_zero, List.set_cons_succ, i64_w, i32_w]
                              rfl
                            refine pure_ (i := 7) (N := some 77) (v := ?_) (a' := ?_) #[true, true, true, true, true, true, true, true, false, true, false, false, false, false, false, false] rfl rfl (any_of HT_.out (by kernel_rfl)) (fun _ _ _ h => h) (Or.inl ⟨by rfl, ?_⟩) ?_ ?_
                            rotate_left
                            · intro w'
                              go_simp
                              with_reducible rfl
                            rotate_left
                            · simp only [Act.put, List.setIfInBounds_toArray, List.set_cons_zero, List.set_cons_succ, i64_w, i32_w]
                              rfl
                            refine take_ (i := 8) (N := some 78) (v := ?_) (a' := ?_) #[true, true, true, true, true, true, true, true, true, true, false, false, false, false, false, false] rfl rfl (take_ofW HT_.out HW_.out (by kernel_rfl)) (fun _ _ _ h => h) (Or.inl ⟨by rfl, ?_⟩) hHeld ?_ ?_
                            rotate_left
                            · rintro w' ⟨s0, s1, s2⟩
                              go_simp
                              with_reducible rfl
                            rotate_left
                            · simp only [Act.put, List.setIfInBounds_toArray, List.set_cons_zero, List.set_cons_succ, i64_w, i32_w]
                              rfl
                            refine one_ (i := 10) (N := some 80) #[true, true, true, true, true, true, true, true, true, true, true, false, false, false, false, false] rfl rfl (one_of HT_.out (by kernel_rfl)) (by decide) (fun K hK => ?_)
                            refine goes_ Tryd.func27 (by kernel_rfl) rfl #[.agg #[.slice (some ad371) t362.length co12], .int .i64 (rd (rd_L1 t362 t366) x12_2), .int .i64 t367] (by rfl) rfl rfl (by (try simp only [List.map_toArray, List.map_cons, List.map_nil]); first | done | rfl | (simp only [List.length_drop, List.length_take]; rfl)) ?_
                            with_reducible refine (impl_CountAllowed.calls k2 _ _ t362 (rd (rd_L1 t362 t366) x12_2) t367 t375 false _ ?side1 ?side2 A26.out).mono ?_
                            (case side1 => repeat (first | exact (Kd.S_reads' HO_366000.out).2.2 | (with_reducible refine Kd.C_alloc ?_ _) | (with_reducible refine Kd.C_drewN ?_ _) | (with_reducible refine Kd.C_drew ?_)))
                            (case side2 => exact (Kd.S_reads' HO_366000.out).2.1)
                            rintro e w33 ⟨rfl, hb⟩
                            have HS1_ := (hb.cell (World.block_lt_of_cell? _ _ (hHeld.2.1))).trans (hHeld.2.1)
                            have HS2_ := (hb.cell (World.block_lt_of_cell? _ _ (hHeld.2.2))).trans (hHeld.2.2)
                            refine ⟨_, rfl, ?_⟩
                            have n0_ := Aside0.mk (Kd.S_below (by (with_reducible repeat (first | apply Kd.S_alloc | apply Kd.S_drewN | apply Kd.S_drew)); exact HO_366000.out) hb)
                            have n1_ := Aside0.mk (Kd.R_below (by (with_reducible repeat (first | apply Kd.R_alloc | apply Kd.R_drewN | apply Kd.R_drew)); exact HL371_0.out) hb)
                            have n2_ := Aside0.mk (Kd.R_below (by (with_reducible repeat (first | apply Kd.R_alloc | apply Kd.R_drewN | apply Kd.R_drew)); exact HL373_0.out) hb)
                            have n3_ := Aside0.mk (blk_below (g := gb365) (o := .cells #[.slice (some ad371) t362.length co12] 27 (0, 0)) (by (with_reducible repeat (first | refine blk_drewN ?_ _ | refine blk_drew ?_ | refine blk_alloc ?_ _)); exact BK365.out) hb)
                            have n4_ := Aside0.mk (Kd.C_below (by repeat (first | (with_reducible exact HR371_0.out) | (with_reducible refine Kd.C_alloc ?_ _) | (with_reducible refine Kd.C_drewN ?_ _) | (with_reducible refine Kd.C_drew ?_) | exact HR371_0.out)) hb)
                            have n5_ := Aside0.mk (Kd.C_below (by repeat (first | (with_reducible exact HR373_0.out) | (with_reducible refine Kd.C_alloc ?_ _) | (with_reducible refine Kd.C_drewN ?_ _) | (with_reducible refine Kd.C_drew ?_) | exact HR373_0.out)) hb)
                            have n6_ := Aside0.mk (below_step (by repeat (first | (with_reducible first | exact HB.out | apply below_alloc | apply pw_below_drewN | apply below_drew1 | refine below_set ?_ GE365.out) | exact HB.out)) hb)
                            clear HO_366000
                            clear HL371_0
                            clear HL373_0
                            clear BK365
                            clear HR371_0
                            clear HR373_0
                            clear HB
                            have HO_366000 := n0_
                            have HL371_0 := n1_
                            have HL373_0 := n2_
                            have BK365 := n3_
                            have HR371_0 := n4_
                            have HR373_0 := n5_
                            have HB := n6_
                            clear n0_ n1_ n2_ n3_ n4_ n5_ n6_
                            (try clear hb)
                            (try clear hb2)
                            (try clear hk)
                            (try clear hi)
                            refine hK.out _ _ ⟨(blk_cell BK365.out 0).trans rfl, HS1_, HS2_⟩ (fun hHeld => ?_)
                            clear hK K
                            refine norm_ (a' := ?_) ?_ ?_
                            rotate_left
                            · show Act.put _ (some 80) _ = _
                              simp only [Act.put, List.setIfInBounds_toArray, List.set_cons_zero, List.set_cons_succ, i64_w, i32_w]
                              rfl
                            refine pure_ (i := 11) (N := some 69) (v := ?_) (a' := ?_) #[true, true, true, true, true, true, true, true, true, true, true, true, false, false, false, false] rfl rfl (any_of HT_.out (by kernel_rfl)) (fun _ _ _ h => h) (Or.inl ⟨by rfl, ?_⟩) ?_ ?_
                            rotate_left
                            · intro w'
                              go_simp
                              with_reducible rfl
                            rotate_left
                            · simp only [Act.put, List.setIfInBounds_toArray, List.set_cons_zero, List.set_cons_succ, i64_w, i32_w]
                              rfl
                            refine pure_ (i := 12) (N := some 81) (v := ?_) (a' := ?_) #[true, true, true, true, true, true, true, true, true, true, true, true, true, false, false, false] rfl rfl (any_of HT_.out (by kernel_rfl)) (fun _ _ _ h => h) (Or.inl ⟨by rfl, ?_⟩) ?_ ?_
                            rotate_left
                            · intro w'
                              go_simp
                              with_reducible rfl
                            rotate_left
                            · simp only [Act.put, List.setIfInBounds_toArray, List.set_cons_zero, List.set_cons_succ, i64_w, i32_w]
                              rfl
                            refine pure_ (i := 13) (N := some 82) (v := ?_) (a' := ?_) #[true, true, true, true, true, true, true, true, true, true, true, true, true, true, false, false] rfl rfl (any_of HT_.out (by kernel_rfl)) (fun _ _ _ h => h) (Or.inl ⟨by rfl, ?_⟩) ?_ ?_
                            rotate_left
                            · intro w'
                              go_simp
                              with_reducible rfl
                            rotate_left
                            · simp only [Act.put, List.setIfInBounds_toArray, List.set_cons_zero, List.set_cons_succ, i64_w, i32_w]
                              rfl
                            refine pure_ (i := 14) (N := some 13) (v := ?_) (a' := ?_) #[true, true, true, true, true, true, true, true, true, true, true, true, true, true, true, false] rfl rfl (any_of HT_.out (by kernel_rfl)) (fun _ _ _ h => h) (Or.inl ⟨by rfl, ?_⟩) ?_ ?_
                            rotate_left
                            · intro w'
                              go_simp
                              with_reducible rfl
                            rotate_left
                            · simp only [Act.put, List.setIfInBounds_toArray, List.set_cons_zero, List.set_cons_succ, i64_w, i32_w]
                              rfl
                            refine pure_ (i := 15) (N := some 14) (v := ?_) (a' := ?_) #[true, true, true, true, true, true, true, true, true, true, true, true, true, true, true, true] rfl rfl (any_of HT_.out (by kernel_rfl)) (fun _ _ _ h => h) (Or.inl ⟨by rfl, ?_⟩) ?_ ?_
                            rotate_left
                            · intro w'
                              go_simp
                              with_reducible rfl
                            rotate_left
                            · simp only [Act.put, List.setIfInBounds_toArray, List.set_cons_zero, List.set_cons_succ, i64_w, i32_w]
                              rfl
                            refine done_ (done_of HT_.out (by kernel_rfl)) ?_
                            try go_wp2
                            go_ret
                            exact ⟨by first | rfl | (simp [errW_none, errW_some] <;> rfl) | (simp [*, errW_none, errW_some] <;> rfl), by repeat (first | (with_reducible first | exact HB.out | apply below_alloc | apply pw_below_drewN | apply below_drew1 | refine below_set ?_ GE365.out) | exact HB.out)⟩
                        · rw [if_neg c25] at H
                          have c25b0 : decide (0 ≤ (rd (rd_L1 t362 t366) x12_2)) = false := decide_eq_false c25
                          clear c25
                          have H' := Aside0.mk H
                          clear H
                          have hcz34_0 : wr.cell? ⟨gb365, 0, none⟩ = some (.slice Ao12 t362.length co12) := (blk_cell BK365.out 0).trans rfl
                          have hfz34_0 := blk_frozen BK365.out 0
                          have p371 : 0 ≤ (t366 : Int) := of_decide_eq_true (by first | (with_reducible assumption) | assumption)
                          have q371 : t366 < (t362.length : Int) := of_decide_eq_true (by first | (with_reducible assumption) | assumption)
                          obtain ⟨ad371, A371_0, c371_0, e371, hx371_0, hl371_0, hi371_0⟩ := at_L1 (Kd.S_reads' HO_366000.out).2.2 t366 p371 q371
                          cases e371
                          obtain ⟨ce371, hce371, hMe371, hcc371⟩ := Kd.S_get HO_366000.out [] t366 p371 (by first | exact q371 | exact of_decide_eq_true (by first | (with_reducible assumption) | assumption) | (have e_ := (Kd.S_reads' HO_366000.out).1; omega))
                          obtain ⟨ve371_0, rfl, ge371_0⟩ := hMe371
                          have hv371_0 := hcc371 0 _ rfl
                          rw [Nat.add_zero, show ((Kd.slice 2 (Kd.int .i64))).sz = 1 from rfl, Nat.mul_one] at hv371_0
                          replace hv371_0 := Option.some.inj (hv371_0.symm.trans hx371_0)
                          rw [hv371_0] at ge371_0
                          have HL371_0 := Aside0.mk (show Kd.R (Kd.int .i64) 2 _ _ _ _ (rd_L1 t362 t366) from ge371_0)
                          clear hv371_0 ge371_0
                          clear hcc371 hce371
                          have HR371_0 := Aside0.mk hi371_0
                          have HC371_0 := Aside0.mk hl371_0
                          clear hi371_0 hl371_0
                          replace p371 := eq_true p371
                          replace q371 := eq_true q371
                          have p372 : 0 ≤ (x12_2 : Int) := of_decide_eq_true (by first | (with_reducible assumption) | assumption)
                          have q372 : x12_2 < ((rd_L1 t362 t366).length : Int) := of_decide_eq_true (by first | (with_reducible assumption) | assumption)
                          obtain ⟨ad372, e372, hx372_0⟩ := Kd.at_int (by repeat (first | (with_reducible exact HR371_0.out) | (with_reducible refine Kd.C_alloc ?_ _) | (with_reducible refine Kd.C_drewN ?_ _) | (with_reducible refine Kd.C_drew ?_) | exact HR371_0.out)) x12_2 p372 q372
                          cases e372
                          replace p372 := eq_true p372
                          replace q372 := eq_true q372
                          go_wp2
                          go_roundg k2
                          case measure => have := HJ8.out; have := HK2.out; omega
                          case rel => exact ⟨(x11_2), (wrap64 (x12_2 + 1)), (by first | rfl | (simp; done) | (simp [*]; done)), (by first | rfl | (simp; done) | (simp [*]; done)), H', ⟨by have := HJ8.out; have := HK2.out; omega⟩, ⟨by (with_reducible repeat (first | apply Kd.S_alloc | apply Kd.S_drewN | apply Kd.S_drew)); exact HO_366000.out⟩, ⟨by (with_reducible repeat (first | refine blk_drewN ?_ _ | refine blk_drew ?_ | refine blk_alloc ?_ _)); exact BK365.out⟩, ⟨by repeat (first | (with_reducible first | exact HB.out | apply below_alloc | apply pw_below_drewN | apply below_drew1 | refine below_set ?_ GE365.out) | exact HB.out)⟩⟩
                      · rw [if_neg c24] at H
                        exact absurd H (by simp)
                    · rw [if_neg c23] at H
                      exact absurd H (by simp)
                  · rw [if_neg c22] at H
                    exact absurd H (by simp)
                · rw [if_neg c21] at H
                  exact absurd H (by simp)
              · rw [if_neg c20] at H
                have c20b0 : decide (x12_2 < 2) = false := decide_eq_false c20
                clear c20
                have H' := Aside0.mk H
                clear H
                go_wp2
                go_loopg [15, 16] k2 (fun kq v15 v16 w' => ∃ (x15_3 : ByteArray) (x16_3 : Int), v15 = .string x15_3 ∧ v16 = .int .i64 x16_3 ∧ Aside0 (laws_FnRankedBits.l1 kq l1 t366 t367 t368 x11_2 x15_3 x16_3 t362 = some r) ∧ Aside0 (kq ≤ k2) ∧ Aside0 (Kd.S (Kd.slice 2 (Kd.int .i64)) 46 w' w.heap.size (fun _ => True) (.slice Ao12 t362.length co12) t362) ∧ Aside0 (w'.heap[gb365]? = some (.cells #[(.slice Ao12 t362.length co12)] 27 (0, 0))) ∧ Aside0 (Below w.heap.size w w'))
                case atStart => exact ⟨((⟨#[]⟩ : ByteArray)), (0), (by first | rfl | (simp; done) | (simp [*]; done)), (by first | rfl | (simp; done) | (simp [*]; done)), H', ⟨Nat.le_refl _⟩, ⟨by (with_reducible repeat (first | apply Kd.S_alloc | apply Kd.S_drewN | apply Kd.S_drew)); exact HO_366000.out⟩, ⟨by (with_reducible repeat (first | refine blk_drewN ?_ _ | refine blk_drew ?_ | refine blk_alloc ?_ _)); exact BK365.out⟩, ⟨by repeat (first | (with_reducible first | exact HB.out | apply below_alloc | apply pw_below_drewN | apply below_drew1 | refine below_set ?_ GE365.out) | exact HB.out)⟩⟩
                case round =>
                  clear H'
                  try clear c1
                  try clear c2
                  try clear p2
                  try clear c3
                  try clear p3
                  try clear q3
                  try clear hx3
                  try clear c4
                  try clear p6
                  try clear c8
                  try clear c15
                  try clear c18
                  try clear c19
                  try clear c20
                  try clear c20b0
                  try clear c21
                  try clear c21b0
                  try clear c22
                  try clear c22b0
                  try clear c23
                  try clear c23b0
                  try clear c24
                  try clear c24b0
                  try clear c25
                  try clear c25b0
                  try clear c27
                  try clear hcz13_0
                  try clear hcz17_0
                  try clear hcz28_0
                  try clear hcz31_0
                  try clear hcz34_0
                  try clear hfz13_0
                  try clear hfz17_0
                  try clear hfz28_0
                  try clear hfz31_0
                  try clear hfz34_0
                  try clear hx371_0
                  try clear hx372_0
                  try clear hx373_0
                  try clear hx374_0
                  try clear p2
                  try clear p371
                  try clear p372
                  try clear p373
                  try clear p374
                  try clear p6
                  try clear q371
                  try clear q372
                  try clear q373
                  try clear q374
                  obtain ⟨x15_3, x16_3, rfl, rfl, HA, HK3, HO_366000, BK365, HB⟩ := hrel
                  cases gk with
                  | zero => exact absurd HA.out (by simp [laws_FnRankedBits.l1])
                  | succ k3 =>
                    have H := HA.out
                    clear HA
                    simp only [laws_FnRankedBits.l1] at H
                    have HC35 := Aside0.mk H
                    clear H
                    go_upto_region 21 with (fail)
                    go_cut [94] (fun v94 wc => ∃ (kq : Nat) (x94_34 : Bool), v94 = .bool x94_34 ∧ Aside0 (laws_FnRankedBits.j3 kq l1 t366 t367 t368 x11_2 x15_3 x16_3 x94_34 t362 = some r) ∧ Aside0 (kq ≤ k3) ∧ Aside0 (Kd.S (Kd.slice 2 (Kd.int .i64)) 46 wc w.heap.size (fun _ => True) (.slice Ao12 t362.length co12) t362) ∧ Aside0 (wc.heap[gb365]? = some (.cells #[(.slice Ao12 t362.length co12)] 27 (0, 0))) ∧ Aside0 (Below w.heap.size w wc))
                    case first =>
                      have H := HC35.out
                      clear HC35
                      by_cases c36 : x16_3 < t368
                      · rw [if_pos c36] at H
                        have c36b0 : decide (x16_3 < t368) = true := decide_eq_true c36
                        clear c36
                        (first | rw [c36b0] | (simp only [i64_w, i32_w]; rw [c36b0]) | skip)
                        have H' := Aside0.mk H
                        clear H
                        go_wp2
                        go_meet
                        case rel => exact ⟨_, (decide (x16_3 < 40)), (by first | rfl | (simp; done) | (simp [*]; done)), H', ⟨by have := HJ8.out; have := HK2.out; have := HK3.out; first | omega | exact Nat.le_refl _⟩, ⟨by (with_reducible repeat (first | apply Kd.S_alloc | apply Kd.S_drewN | apply Kd.S_drew)); exact HO_366000.out⟩, ⟨by (with_reducible repeat (first | refine blk_drewN ?_ _ | refine blk_drew ?_ | refine blk_alloc ?_ _)); exact BK365.out⟩, ⟨by repeat (first | (with_reducible first | exact HB.out | apply below_alloc | apply pw_below_drewN | apply below_drew1 | refine below_set ?_ GE365.out) | exact HB.out)⟩⟩
                      · rw [if_neg c36] at H
                        have c36b0 : decide (x16_3 < t368) = false := decide_eq_false c36
                        clear c36
                        (first | rw [c36b0] | (simp only [i64_w, i32_w]; rw [c36b0]) | skip)
                        have H' := Aside0.mk H
                        clear H
                        go_wp2
                        go_meet
                        case rel => exact ⟨_, (false), (by first | rfl | (simp; done) | (simp [*]; done)), H', ⟨by have := HJ8.out; have := HK2.out; have := HK3.out; first | omega | exact Nat.le_refl _⟩, ⟨by (with_reducible repeat (first | apply Kd.S_alloc | apply Kd.S_drewN | apply Kd.S_drew)); exact HO_366000.out⟩, ⟨by (with_reducible repeat (first | refine blk_drewN ?_ _ | refine blk_drew ?_ | refine blk_alloc ?_ _)); exact BK365.out⟩, ⟨by repeat (first | (with_reducible first | exact HB.out | apply below_alloc | apply pw_below_drewN | apply below_drew1 | refine below_set ?_ GE365.out) | exact HB.out)⟩⟩
                    case rest =>
                      clear HC35
                      try clear c1
                      try clear c2
                      try clear p2
                      try clear c3
                      try clear p3
                      try clear q3
                      try clear hx3
                      try clear c4
                      try clear p6
                      try clear c8
                      try clear c15
                      try clear c18
                      try clear c19
                      try clear c20
                      try clear c20b0
                      try clear c21
                      try clear c21b0
                      try clear c22
                      try clear c22b0
                      try clear c23
                      try clear c23b0
                      try clear c24
                      try clear c24b0
                      try clear c25
                      try clear c25b0
                      try clear c27
                      try clear c36
                      try clear c36b0
                      try clear hcz13_0
                      try clear hcz17_0
                      try clear hcz28_0
                      try clear hcz31_0
                      try clear hcz34_0
                      try clear hfz13_0
                      try clear hfz17_0
                      try clear hfz28_0
                      try clear hfz31_0
                      try clear hfz34_0
                      try clear hx371_0
                      try clear hx372_0
                      try clear hx373_0
                      try clear hx374_0
                      try clear p2
                      try clear p3
                      try clear p371
                      try clear p372
                      try clear p373
                      try clear p374
                      try clear p6
                      try clear q3
                      try clear q371
                      try clear q372
                      try clear q373
                      try clear q374
                      obtain ⟨kq, x94_34, rfl, HA, HJ34, HO_366000, BK365, HB⟩ := hcut
                      cases kq with
                      | zero => exact absurd HA.out (by simp [laws_FnRankedBits.j3])
                      | succ kj34 =>
                        have H := HA.out
                        clear HA
                        simp only [laws_FnRankedBits.j3] at H
                        by_cases c37 : x94_34 = true
                        · subst c37
                          have H1 : ((impl_BitsAt.f kj34 t362 t366 (wrap64 (t367 + 1)) x16_3).bind fun bt377 => ((impl_RankOfBits.f kj34 t362 t366 bt377.1).bind fun bt379 => (if bt377.2 = true then (if bt379.2 = true then (if bt379.1 = x16_3 then (if (bt377.1.size : Int) = (wrap64 (t367 + 1)) then (if x16_3 > 0 then (if ((Op.bytesLess x15_3.toList bt377.1.toList) = true) then ((impl_IsAllowed.f kj34 t362 t366 bt377.1).bind fun t381 => (if t381 = true then (laws_FnRankedBits.l1 kj34 l1 t366 t367 t368 x11_2 bt377.1 (wrap64 (x16_3 + 1)) t362) else (some false))) else (some false)) else ((impl_IsAllowed.f kj34 t362 t366 bt377.1).bind fun t382 => (if t382 = true then (laws_FnRankedBits.l1 kj34 l1 t366 t367 t368 x11_2 bt377.1 (wrap64 (x16_3 + 1)) t362) else (some false)))) else (some false)) else (some false)) else (some false)) else (some false)))) = some r := by rw [if_pos rfl] at H; exact H
                          clear H
                          have H := H1
                          clear H1
                          replace H := Option.bind_eq_some_iff.mp H
                          obtain ⟨⟨t377, t378⟩, A380, H⟩ := H
                          replace H : ((impl_RankOfBits.f kj34 t362 t366 t377).bind fun bt379 => (if t378 = true then (if bt379.2 = true then (if bt379.1 = x16_3 then (if (t377.size : Int) = (wrap64 (t367 + 1)) then (if x16_3 > 0 then (if ((Op.bytesLess x15_3.toList t377.toList) = true) then ((impl_IsAllowed.f kj34 t362 t366 t377).bind fun t381 => (if t381 = true then (laws_FnRankedBits.l1 kj34 l1 t366 t367 t368 x11_2 t377 (wrap64 (x16_3 + 1)) t362) else (some false))) else (some false)) else ((impl_IsAllowed.f kj34 t362 t366 t377).bind fun t382 => (if t382 = true then (laws_FnRankedBits.l1 kj34 l1 t366 t367 t368 x11_2 t377 (wrap64 (x16_3 + 1)) t362) else (some false)))) else (some false)) else (some false)) else (some false)) else (some false))) = some r := H
                          have A38 := Aside0.mk A380
                          clear A380
                          replace H := Option.bind_eq_some_iff.mp H
                          obtain ⟨⟨t379, t380⟩, A390, H⟩ := H
                          replace H : (if t378 = true then (if t380 = true then (if t379 = x16_3 then (if (t377.size : Int) = (wrap64 (t367 + 1)) then (if x16_3 > 0 then (if ((Op.bytesLess x15_3.toList t377.toList) = true) then ((impl_IsAllowed.f kj34 t362 t366 t377).bind fun t381 => (if t381 = true then (laws_FnRankedBits.l1 kj34 l1 t366 t367 t368 x11_2 t377 (wrap64 (x16_3 + 1)) t362) else (some false))) else (some false)) else ((impl_IsAllowed.f kj34 t362 t366 t377).bind fun t382 => (if t382 = true then (laws_FnRankedBits.l1 kj34 l1 t366 t367 t368 x11_2 t377 (wrap64 (x16_3 + 1)) t362) else (some false)))) else (some false)) else (some false)) else (some false)) else (some false)) = some r := H
                          have A39 := Aside0.mk A390
                          clear A390
                          by_cases c40 : t378 = true
                          · subst c40
                            have H1 : (if t380 = true then (if t379 = x16_3 then (if (t377.size : Int) = (wrap64 (t367 + 1)) then (if x16_3 > 0 then (if ((Op.bytesLess x15_3.toList t377.toList) = true) then ((impl_IsAllowed.f kj34 t362 t366 t377).bind fun t381 => (if t381 = true then (laws_FnRankedBits.l1 kj34 l1 t366 t367 t368 x11_2 t377 (wrap64 (x16_3 + 1)) t362) else (some false))) else (some false)) else ((impl_IsAllowed.f kj34 t362 t366 t377).bind fun t382 => (if t382 = true then (laws_FnRankedBits.l1 kj34 l1 t366 t367 t368 x11_2 t377 (wrap64 (x16_3 + 1)) t362) else (some false)))) else (some false)) else (some false)) else (some false)) = some r := by rw [if_pos rfl] at H; exact H
                            clear H
                            have H := H1
                            clear H1
                            by_cases c41 : t380 = true
                            · subst c41
                              have H1 : (if t379 = x16_3 then (if (t377.size : Int) = (wrap64 (t367 + 1)) then (if x16_3 > 0 then (if ((Op.bytesLess x15_3.toList t377.toList) = true) then ((impl_IsAllowed.f kj34 t362 t366 t377).bind fun t381 => (if t381 = true then (laws_FnRankedBits.l1 kj34 l1 t366 t367 t368 x11_2 t377 (wrap64 (x16_3 + 1)) t362) else (some false))) else (some false)) else ((impl_IsAllowed.f kj34 t362 t366 t377).bind fun t382 => (if t382 = true then (laws_FnRankedBits.l1 kj34 l1 t366 t367 t368 x11_2 t377 (wrap64 (x16_3 + 1)) t362) else (some false)))) else (some false)) else (some false)) = some r := by rw [if_pos rfl] at H; exact H
                              clear H
                              have H := H1
                              clear H1
                              by_cases c42 : t379 = x16_3
                              · rw [if_pos c42] at H
                                have c42b0 : (t379 == x16_3) = true := beq_iff_eq.mpr c42
                                have c42b1 : (t379 != x16_3) = false := bne_eq_false_iff_eq.mpr c42
                                clear c42
                                by_cases c43 : (t377.size : Int) = (wrap64 (t367 + 1))
                                · rw [if_pos c43] at H
                                  have c43b0 : ((t377.size : Int) == (wrap64 (t367 + 1))) = true := beq_iff_eq.mpr c43
                                  have c43b1 : ((t377.size : Int) != (wrap64 (t367 + 1))) = false := bne_eq_false_iff_eq.mpr c43
                                  clear c43
                                  by_cases c44 : x16_3 > 0
                                  · rw [if_pos c44] at H
                                    have c44b0 : decide (0 < x16_3) = true := decide_eq_true c44
                                    clear c44
                                    by_cases c45 : ((Op.bytesLess x15_3.toList t377.toList) = true)
                                    · rw [if_pos c45] at H
                                      have c45b0 : (Op.bytesLess x15_3.toList t377.toList) = true := c45
                                      clear c45
                                      replace H := Option.bind_eq_some_iff.mp H
                                      obtain ⟨t381, A460, H⟩ := H
                                      replace H : (if t381 = true then (laws_FnRankedBits.l1 kj34 l1 t366 t367 t368 x11_2 t377 (wrap64 (x16_3 + 1)) t362) else (some false)) = some r := H
                                      have A46 := Aside0.mk A460
                                      clear A460
                                      by_cases c47 : t381 = true
                                      · subst c47
                                        have H1 : (laws_FnRankedBits.l1 kj34 l1 t366 t367 t368 x11_2 t377 (wrap64 (x16_3 + 1)) t362) = some r := by rw [if_pos rfl] at H; exact H
                                        clear H
                                        have H := H1
                                        clear H1
                                        have H' := Aside0.mk H
                                        clear H
                                        have hcz48_0 : wc.cell? ⟨gb365, 0, none⟩ = some (.slice Ao12 t362.length co12) := (blk_cell BK365.out 0).trans rfl
                                        have hfz48_0 := blk_frozen BK365.out 0
                                        go_wp2_with (first | ((with_reducible refine gate_callee (f := 28) rfl ?_); refine goesL_ (some 103) rfl rfl Tryd.func28 (by kernel_rfl) rfl #[.agg #[.slice Ao12 t362.length co12], .int .i64 t366, .int .i64 (wrap64 (t367 + 1)), .int .i64 x16_3] rfl (by (try simp only [List.map_toArray, List.map_cons, List.map_nil]); first | done | rfl | (simp only [List.length_drop, List.length_take]; rfl)) ?_; (with_reducible refine (impl_BitsAt.calls kj34 _ _ t362 t366 (wrap64 (t367 + 1)) x16_3 t377 true _ ?side1 ?side2 A38.out).mono ?_); (case side1 => repeat (first | exact (Kd.S_reads' HO_366000.out).2.2 | (with_reducible refine Kd.C_alloc ?_ _) | (with_reducible refine Kd.C_drewN ?_ _) | (with_reducible refine Kd.C_drew ?_))); (case side2 => exact (Kd.S_reads' HO_366000.out).2.1); rintro e w49 ⟨rfl, hb⟩; refine ⟨_, rfl, ?_⟩; have n0_ := Aside0.mk (Kd.S_below (by (with_reducible repeat (first | apply Kd.S_alloc | apply Kd.S_drewN | apply Kd.S_drew)); exact HO_366000.out) hb); have n1_ := Aside0.mk (blk_below (g := gb365) (o := .cells #[.slice Ao12 t362.length co12] 27 (0, 0)) (by (with_reducible repeat (first | refine blk_drewN ?_ _ | refine blk_drew ?_ | refine blk_alloc ?_ _)); exact BK365.out) hb); have n2_ := Aside0.mk (below_step (by repeat (first | (with_reducible first | exact HB.out | apply below_alloc | apply pw_below_drewN | apply below_drew1 | refine below_set ?_ GE365.out) | exact HB.out)) hb); clear HO_366000; clear BK365; clear HB; have HO_366000 := n0_; have BK365 := n1_; have HB := n2_; clear n0_ n1_ n2_; (try clear hb); (try clear hb2); (try clear hk); (try clear hi); have hcz50_0 : w49.cell? ⟨gb365, 0, none⟩ = some (.slice Ao12 t362.length co12) := (blk_cell BK365.out 0).trans rfl; have hfz50_0 := blk_frozen BK365.out 0) | ((with_reducible refine gate_callee (f := 17) rfl ?_); refine goesL_ (some 110) rfl rfl Tryd.func17 (by kernel_rfl) rfl #[.agg #[.slice Ao12 t362.length co12], .int .i64 t366, .string t377] rfl (by (try simp only [List.map_toArray, List.map_cons, List.map_nil]); first | done | rfl | (simp only [List.length_drop, List.length_take]; rfl)) ?_; (with_reducible refine (impl_RankOfBits.calls kj34 _ _ t362 t366 t377 t379 true _ ?side1 ?side2 A39.out).mono ?_); (case side1 => repeat (first | exact (Kd.S_reads' HO_366000.out).2.2 | (with_reducible refine Kd.C_alloc ?_ _) | (with_reducible refine Kd.C_drewN ?_ _) | (with_reducible refine Kd.C_drew ?_))); (case side2 => exact (Kd.S_reads' HO_366000.out).2.1); rintro e w51 ⟨rfl, hb⟩; refine ⟨_, rfl, ?_⟩; have n0_ := Aside0.mk (Kd.S_below (by (with_reducible repeat (first | apply Kd.S_alloc | apply Kd.S_drewN | apply Kd.S_drew)); exact HO_366000.out) hb); have n1_ := Aside0.mk (blk_below (g := gb365) (o := .cells #[.slice Ao12 t362.length co12] 27 (0, 0)) (by (with_reducible repeat (first | refine blk_drewN ?_ _ | refine blk_drew ?_ | refine blk_alloc ?_ _)); exact BK365.out) hb); have n2_ := Aside0.mk (below_step (by repeat (first | (with_reducible first | exact HB.out | apply below_alloc | apply pw_below_drewN | apply below_drew1 | refine below_set ?_ GE365.out) | exact HB.out)) hb); clear HO_366000; clear BK365; clear HB; have HO_366000 := n0_; have BK365 := n1_; have HB := n2_; clear n0_ n1_ n2_; (try clear hb); (try clear hb2); (try clear hk); (try clear hi); have hcz52_0 : w51.cell? ⟨gb365, 0, none⟩ = some (.slice Ao12 t362.length co12) := (blk_cell BK365.out 0).trans rfl; have hfz52_0 := blk_frozen BK365.out 0) | (go_at_call 12; (with_reducible refine (impl_IsAllowed.calls kj34 _ _ t362 t366 t377 true _ ?side1 ?side2 A46.out).mono ?_); (case side1 => repeat (first | exact (Kd.S_reads' HO_366000.out).2.2 | (with_reducible refine Kd.C_alloc ?_ _) | (with_reducible refine Kd.C_drewN ?_ _) | (with_reducible refine Kd.C_drew ?_))); (case side2 => exact (Kd.S_reads' HO_366000.out).2.1); rintro e w53 ⟨rfl, hb⟩; have n0_ := Aside0.mk (Kd.S_below (by (with_reducible repeat (first | apply Kd.S_alloc | apply Kd.S_drewN | apply Kd.S_drew)); exact HO_366000.out) hb); have n1_ := Aside0.mk (blk_below (g := gb365) (o := .cells #[.slice Ao12 t362.length co12] 27 (0, 0)) (by (with_reducible repeat (first | refine blk_drewN ?_ _ | refine blk_drew ?_ | refine blk_alloc ?_ _)); exact BK365.out) hb); have n2_ := Aside0.mk (below_step (by repeat (first | (with_reducible first | exact HB.out | apply below_alloc | apply pw_below_drewN | apply below_drew1 | refine below_set ?_ GE365.out) | exact HB.out)) hb); clear HO_366000; clear BK365; clear HB; have HO_366000 := n0_; have BK365 := n1_; have HB := n2_; clear n0_ n1_ n2_; (try clear hb); (try clear hb2); (try clear hk); (try clear hi)))
                                        go_roundg kj34
                                        case measure => have := HJ8.out; have := HK2.out; have := HK3.out; have := HJ34.out; omega
                                        case rel => exact ⟨(t377), (wrap64 (x16_3 + 1)), (by first | rfl | (simp; done) | (simp [*]; done)), (by first | rfl | (simp; done) | (simp [*]; done)), H', ⟨by have := HJ8.out; have := HK2.out; have := HK3.out; have := HJ34.out; omega⟩, ⟨by (with_reducible repeat (first | apply Kd.S_alloc | apply Kd.S_drewN | apply Kd.S_drew)); exact HO_366000.out⟩, ⟨by (with_reducible repeat (first | refine blk_drewN ?_ _ | refine blk_drew ?_ | refine blk_alloc ?_ _)); exact BK365.out⟩, ⟨by repeat (first | (with_reducible first | exact HB.out | apply below_alloc | apply pw_below_drewN | apply below_drew1 | refine below_set ?_ GE365.out) | exact HB.out)⟩⟩
                                      · replace c47 := Bool.eq_false_iff.mpr c47
                                        subst c47
                                        have H1 : (some false) = some r := by rw [if_neg (show ¬ (false = true) by decide)] at H; exact H
                                        clear H
                                        have H := H1
                                        clear H1
                                        obtain rfl := Option.some.inj H
                                        have hcz54_0 : wc.cell? ⟨gb365, 0, none⟩ = some (.slice Ao12 t362.length co12) := (blk_cell BK365.out 0).trans rfl
                                        have hfz54_0 := blk_frozen BK365.out 0
                                        go_wp2_with (first | ((with_reducible refine gate_callee (f := 28) rfl ?_); refine goesL_ (some 103) rfl rfl Tryd.func28 (by kernel_rfl) rfl #[.agg #[.slice Ao12 t362.length co12], .int .i64 t366, .int .i64 (wrap64 (t367 + 1)), .int .i64 x16_3] rfl (by (try simp only [List.map_toArray, List.map_cons, List.map_nil]); first | done | rfl | (simp only [List.length_drop, List.length_take]; rfl)) ?_; (with_reducible refine (impl_BitsAt.calls kj34 _ _ t362 t366 (wrap64 (t367 + 1)) x16_3 t377 true _ ?side1 ?side2 A38.out).mono ?_); (case side1 => repeat (first | exact (Kd.S_reads' HO_366000.out).2.2 | (with_reducible refine Kd.C_alloc ?_ _) | (with_reducible refine Kd.C_drewN ?_ _) | (with_reducible refine Kd.C_drew ?_))); (case side2 => exact (Kd.S_reads' HO_366000.out).2.1); rintro e w55 ⟨rfl, hb⟩; refine ⟨_, rfl, ?_⟩; have n0_ := Aside0.mk (Kd.S_below (by (with_reducible repeat (first | apply Kd.S_alloc | apply Kd.S_drewN | apply Kd.S_drew)); exact HO_366000.out) hb); have n1_ := Aside0.mk (blk_below (g := gb365) (o := .cells #[.slice Ao12 t362.length co12] 27 (0, 0)) (by (with_reducible repeat (first | refine blk_drewN ?_ _ | refine blk_drew ?_ | refine blk_alloc ?_ _)); exact BK365.out) hb); have n2_ := Aside0.mk (below_step (by repeat (first | (with_reducible first | exact HB.out | apply below_alloc | apply pw_below_drewN | apply below_drew1 | refine below_set ?_ GE365.out) | exact HB.out)) hb); clear HO_366000; clear BK365; clear HB; have HO_366000 := n0_; have BK365 := n1_; have HB := n2_; clear n0_ n1_ n2_; (try clear hb); (try clear hb2); (try clear hk); (try clear hi); have hcz56_0 : w55.cell? ⟨gb365, 0, none⟩ = some (.slice Ao12 t362.length co12) := (blk_cell BK365.out 0).trans rfl; have hfz56_0 := blk_frozen BK365.out 0) | ((with_reducible refine gate_callee (f := 17) rfl ?_); refine goesL_ (some 110) rfl rfl Tryd.func17 (by kernel_rfl) rfl #[.agg #[.slice Ao12 t362.length co12], .int .i64 t366, .string t377] rfl (by (try simp only [List.map_toArray, List.map_cons, List.map_nil]); first | done | rfl | (simp only [List.length_drop, List.length_take]; rfl)) ?_; (with_reducible refine (impl_RankOfBits.calls kj34 _ _ t362 t366 t377 t379 true _ ?side1 ?side2 A39.out).mono ?_); (case side1 => repeat (first | exact (Kd.S_reads' HO_366000.out).2.2 | (with_reducible refine Kd.C_alloc ?_ _) | (with_reducible refine Kd.C_drewN ?_ _) | (with_reducible refine Kd.C_drew ?_))); (case side2 => exact (Kd.S_reads' HO_366000.out).2.1); rintro e w57 ⟨rfl, hb⟩; refine ⟨_, rfl, ?_⟩; have n0_ := Aside0.mk (Kd.S_below (by (with_reducible repeat (first | apply Kd.S_alloc | apply Kd.S_drewN | apply Kd.S_drew)); exact HO_366000.out) hb); have n1_ := Aside0.mk (blk_below (g := gb365) (o := .cells #[.slice Ao12 t362.length co12] 27 (0, 0)) (by (with_reducible repeat (first | refine blk_drewN ?_ _ | refine blk_drew ?_ | refine blk_alloc ?_ _)); exact BK365.out) hb); have n2_ := Aside0.mk (below_step (by repeat (first | (with_reducible first | exact HB.out | apply below_alloc | apply pw_below_drewN | apply below_drew1 | refine below_set ?_ GE365.out) | exact HB.out)) hb); clear HO_366000; clear BK365; clear HB; have HO_366000 := n0_; have BK365 := n1_; have HB := n2_; clear n0_ n1_ n2_; (try clear hb); (try clear hb2); (try clear hk); (try clear hi); have hcz58_0 : w57.cell? ⟨gb365, 0, none⟩ = some (.slice Ao12 t362.length co12) := (blk_cell BK365.out 0).trans rfl; have hfz58_0 := blk_frozen BK365.out 0) | (go_at_call 12; (with_reducible refine (impl_IsAllowed.calls kj34 _ _ t362 t366 t377 false _ ?side1 ?side2 A46.out).mono ?_); (case side1 => repeat (first | exact (Kd.S_reads' HO_366000.out).2.2 | (with_reducible refine Kd.C_alloc ?_ _) | (with_reducible refine Kd.C_drewN ?_ _) | (with_reducible refine Kd.C_drew ?_))); (case side2 => exact (Kd.S_reads' HO_366000.out).2.1); rintro e w59 ⟨rfl, hb⟩; have n0_ := Aside0.mk (Kd.S_below (by (with_reducible repeat (first | apply Kd.S_alloc | apply Kd.S_drewN | apply Kd.S_drew)); exact HO_366000.out) hb); have n1_ := Aside0.mk (blk_below (g := gb365) (o := .cells #[.slice Ao12 t362.length co12] 27 (0, 0)) (by (with_reducible repeat (first | refine blk_drewN ?_ _ | refine blk_drew ?_ | refine blk_alloc ?_ _)); exact BK365.out) hb); have n2_ := Aside0.mk (below_step (by repeat (first | (with_reducible first | exact HB.out | apply below_alloc | apply pw_below_drewN | apply below_drew1 | refine below_set ?_ GE365.out) | exact HB.out)) hb); clear HO_366000; clear BK365; clear HB; have HO_366000 := n0_; have BK365 := n1_; have HB := n2_; clear n0_ n1_ n2_; (try clear hb); (try clear hb2); (try clear hk); (try clear hi)))
                                        go_ret
                                        exact ⟨by first | rfl | (simp [errW_none, errW_some] <;> rfl) | (simp [*, errW_none, errW_some] <;> rfl), by repeat (first | (with_reducible first | exact HB.out | apply below_alloc | apply pw_below_drewN | apply below_drew1 | refine below_set ?_ GE365.out) | exact HB.out)⟩
                                    · rw [if_neg c45] at H
                                      have c45b0 : (Op.bytesLess x15_3.toList t377.toList) = false := by simpa using c45
                                      clear c45
                                      obtain rfl := Option.some.inj H
                                      have hcz60_0 : wc.cell? ⟨gb365, 0, none⟩ = some (.slice Ao12 t362.length co12) := (blk_cell BK365.out 0).trans rfl
                                      have hfz60_0 := blk_frozen BK365.out 0
                                      go_wp2_with (first | ((with_reducible refine gate_callee (f := 28) rfl ?_); refine goesL_ (some 103) rfl rfl Tryd.func28 (by kernel_rfl) rfl #[.agg #[.slice Ao12 t362.length co12], .int .i64 t366, .int .i64 (wrap64 (t367 + 1)), .int .i64 x16_3] rfl (by (try simp only [List.map_toArray, List.map_cons, List.map_nil]); first | done | rfl | (simp only [List.length_drop, List.length_take]; rfl)) ?_; (with_reducible refine (impl_BitsAt.calls kj34 _ _ t362 t366 (wrap64 (t367 + 1)) x16_3 t377 true _ ?side1 ?side2 A38.out).mono ?_); (case side1 => repeat (first | exact (Kd.S_reads' HO_366000.out).2.2 | (with_reducible refine Kd.C_alloc ?_ _) | (with_reducible refine Kd.C_drewN ?_ _) | (with_reducible refine Kd.C_drew ?_))); (case side2 => exact (Kd.S_reads' HO_366000.out).2.1); rintro e w61 ⟨rfl, hb⟩; refine ⟨_, rfl, ?_⟩; have n0_ := Aside0.mk (Kd.S_below (by (with_reducible repeat (first | apply Kd.S_alloc | apply Kd.S_drewN | apply Kd.S_drew)); exact HO_366000.out) hb); have n1_ := Aside0.mk (blk_below (g := gb365) (o := .cells #[.slice Ao12 t362.length co12] 27 (0, 0)) (by (with_reducible repeat (first | refine blk_drewN ?_ _ | refine blk_drew ?_ | refine blk_alloc ?_ _)); exact BK365.out) hb); have n2_ := Aside0.mk (below_step (by repeat (first | (with_reducible first | exact HB.out | apply below_alloc | apply pw_below_drewN | apply below_drew1 | refine below_set ?_ GE365.out) | exact HB.out)) hb); clear HO_366000; clear BK365; clear HB; have HO_366000 := n0_; have BK365 := n1_; have HB := n2_; clear n0_ n1_ n2_; (try clear hb); (try clear hb2); (try clear hk); (try clear hi); have hcz62_0 : w61.cell? ⟨gb365, 0, none⟩ = some (.slice Ao12 t362.length co12) := (blk_cell BK365.out 0).trans rfl; have hfz62_0 := blk_frozen BK365.out 0) | ((with_reducible refine gate_callee (f := 17) rfl ?_); refine goesL_ (some 110) rfl rfl Tryd.func17 (by kernel_rfl) rfl #[.agg #[.slice Ao12 t362.length co12], .int .i64 t366, .string t377] rfl (by (try simp only [List.map_toArray, List.map_cons, List.map_nil]); first | done | rfl | (simp only [List.length_drop, List.length_take]; rfl)) ?_; (with_reducible refine (impl_RankOfBits.calls kj34 _ _ t362 t366 t377 t379 true _ ?side1 ?side2 A39.out).mono ?_); (case side1 => repeat (first | exact (Kd.S_reads' HO_366000.out).2.2 | (with_reducible refine Kd.C_alloc ?_ _) | (with_reducible refine Kd.C_drewN ?_ _) | (with_reducible refine Kd.C_drew ?_))); (case side2 => exact (Kd.S_reads' HO_366000.out).2.1); rintro e w63 ⟨rfl, hb⟩; refine ⟨_, rfl, ?_⟩; have n0_ := Aside0.mk (Kd.S_below (by (with_reducible repeat (first | apply Kd.S_alloc | apply Kd.S_drewN | apply Kd.S_drew)); exact HO_366000.out) hb); have n1_ := Aside0.mk (blk_below (g := gb365) (o := .cells #[.slice Ao12 t362.length co12] 27 (0, 0)) (by (with_reducible repeat (first | refine blk_drewN ?_ _ | refine blk_drew ?_ | refine blk_alloc ?_ _)); exact BK365.out) hb); have n2_ := Aside0.mk (below_step (by repeat (first | (with_reducible first | exact HB.out | apply below_alloc | apply pw_below_drewN | apply below_drew1 | refine below_set ?_ GE365.out) | exact HB.out)) hb); clear HO_366000; clear BK365; clear HB; have HO_366000 := n0_; have BK365 := n1_; have HB := n2_; clear n0_ n1_ n2_; (try clear hb); (try clear hb2); (try clear hk); (try clear hi)))
                                      go_ret
                                      exact ⟨by first | rfl | (simp [errW_none, errW_some] <;> rfl) | (simp [*, errW_none, errW_some] <;> rfl), by repeat (first | (with_reducible first | exact HB.out | apply below_alloc | apply pw_below_drewN | apply below_drew1 | refine below_set ?_ GE365.out) | exact HB.out)⟩
                                  · rw [if_neg c44] at H
                                    have c44b0 : decide (0 < x16_3) = false := decide_eq_false c44
                                    clear c44
                                    replace H := Option.bind_eq_some_iff.mp H
                                    obtain ⟨t382, A640, H⟩ := H
                                    replace H : (if t382 = true then (laws_FnRankedBits.l1 kj34 l1 t366 t367 t368 x11_2 t377 (wrap64 (x16_3 + 1)) t362) else (some false)) = some r := H
                                    have A64 := Aside0.mk A640
                                    clear A640
                                    by_cases c65 : t382 = true
                                    · subst c65
                                      have H1 : (laws_FnRankedBits.l1 kj34 l1 t366 t367 t368 x11_2 t377 (wrap64 (x16_3 + 1)) t362) = some r := by rw [if_pos rfl] at H; exact H
                                      clear H
                                      have H := H1
                                      clear H1
                                      have H' := Aside0.mk H
                                      clear H
                                      have hcz66_0 : wc.cell? ⟨gb365, 0, none⟩ = some (.slice Ao12 t362.length co12) := (blk_cell BK365.out 0).trans rfl
                                      have hfz66_0 := blk_frozen BK365.out 0
                                      go_wp2_with (first | ((with_reducible refine gate_callee (f := 28) rfl ?_); refine goesL_ (some 103) rfl rfl Tryd.func28 (by kernel_rfl) rfl #[.agg #[.slice Ao12 t362.length co12], .int .i64 t366, .int .i64 (wrap64 (t367 + 1)), .int .i64 x16_3] rfl (by (try simp only [List.map_toArray, List.map_cons, List.map_nil]); first | done | rfl | (simp only [List.length_drop, List.length_take]; rfl)) ?_; (with_reducible refine (impl_BitsAt.calls kj34 _ _ t362 t366 (wrap64 (t367 + 1)) x16_3 t377 true _ ?side1 ?side2 A38.out).mono ?_); (case side1 => repeat (first | exact (Kd.S_reads' HO_366000.out).2.2 | (with_reducible refine Kd.C_alloc ?_ _) | (with_reducible refine Kd.C_drewN ?_ _) | (with_reducible refine Kd.C_drew ?_))); (case side2 => exact (Kd.S_reads' HO_366000.out).2.1); rintro e w67 ⟨rfl, hb⟩; refine ⟨_, rfl, ?_⟩; have n0_ := Aside0.mk (Kd.S_below (by (with_reducible repeat (first | apply Kd.S_alloc | apply Kd.S_drewN | apply Kd.S_drew)); exact HO_366000.out) hb); have n1_ := Aside0.mk (blk_below (g := gb365) (o := .cells #[.slice Ao12 t362.length co12] 27 (0, 0)) (by (with_reducible repeat (first | refine blk_drewN ?_ _ | refine blk_drew ?_ | refine blk_alloc ?_ _)); exact BK365.out) hb); have n2_ := Aside0.mk (below_step (by repeat (first | (with_reducible first | exact HB.out | apply below_alloc | apply pw_below_drewN | apply below_drew1 | refine below_set ?_ GE365.out) | exact HB.out)) hb); clear HO_366000; clear BK365; clear HB; have HO_366000 := n0_; have BK365 := n1_; have HB := n2_; clear n0_ n1_ n2_; (try clear hb); (try clear hb2); (try clear hk); (try clear hi); have hcz68_0 : w67.cell? ⟨gb365, 0, none⟩ = some (.slice Ao12 t362.length co12) := (blk_cell BK365.out 0).trans rfl; have hfz68_0 := blk_frozen BK365.out 0) | ((with_reducible refine gate_callee (f := 17) rfl ?_); refine goesL_ (some 110) rfl rfl Tryd.func17 (by kernel_rfl) rfl #[.agg #[.slice Ao12 t362.length co12], .int .i64 t366, .string t377] rfl (by (try simp only [List.map_toArray, List.map_cons, List.map_nil]); first | done | rfl | (simp only [List.length_drop, List.length_take]; rfl)) ?_; (with_reducible refine (impl_RankOfBits.calls kj34 _ _ t362 t366 t377 t379 true _ ?side1 ?side2 A39.out).mono ?_); (case side1 => repeat (first | exact (Kd.S_reads' HO_366000.out).2.2 | (with_reducible refine Kd.C_alloc ?_ _) | (with_reducible refine Kd.C_drewN ?_ _) | (with_reducible refine Kd.C_drew ?_))); (case side2 => exact (Kd.S_reads' HO_366000.out).2.1); rintro e w69 ⟨rfl, hb⟩; refine ⟨_, rfl, ?_⟩; have n0_ := Aside0.mk (Kd.S_below (by (with_reducible repeat (first | apply Kd.S_alloc | apply Kd.S_drewN | apply Kd.S_drew)); exact HO_366000.out) hb); have n1_ := Aside0.mk (blk_below (g := gb365) (o := .cells #[.slice Ao12 t362.length co12] 27 (0, 0)) (by (with_reducible repeat (first | refine blk_drewN ?_ _ | refine blk_drew ?_ | refine blk_alloc ?_ _)); exact BK365.out) hb); have n2_ := Aside0.mk (below_step (by repeat (first | (with_reducible first | exact HB.out | apply below_alloc | apply pw_below_drewN | apply below_drew1 | refine below_set ?_ GE365.out) | exact HB.out)) hb); clear HO_366000; clear BK365; clear HB; have HO_366000 := n0_; have BK365 := n1_; have HB := n2_; clear n0_ n1_ n2_; (try clear hb); (try clear hb2); (try clear hk); (try clear hi); have hcz70_0 : w69.cell? ⟨gb365, 0, none⟩ = some (.slice Ao12 t362.length co12) := (blk_cell BK365.out 0).trans rfl; have hfz70_0 := blk_frozen BK365.out 0) | (go_at_call 12; (with_reducible refine (impl_IsAllowed.calls kj34 _ _ t362 t366 t377 true _ ?side1 ?side2 A64.out).mono ?_); (case side1 => repeat (first | exact (Kd.S_reads' HO_366000.out).2.2 | (with_reducible refine Kd.C_alloc ?_ _) | (with_reducible refine Kd.C_drewN ?_ _) | (with_reducible refine Kd.C_drew ?_))); (case side2 => exact (Kd.S_reads' HO_366000.out).2.1); rintro e w71 ⟨rfl, hb⟩; have n0_ := Aside0.mk (Kd.S_below (by (with_reducible repeat (first | apply Kd.S_alloc | apply Kd.S_drewN | apply Kd.S_drew)); exact HO_366000.out) hb); have n1_ := Aside0.mk (blk_below (g := gb365) (o := .cells #[.slice Ao12 t362.length co12] 27 (0, 0)) (by (with_reducible repeat (first | refine blk_drewN ?_ _ | refine blk_drew ?_ | refine blk_alloc ?_ _)); exact BK365.out) hb); have n2_ := Aside0.mk (below_step (by repeat (first | (with_reducible first | exact HB.out | apply below_alloc | apply pw_below_drewN | apply below_drew1 | refine below_set ?_ GE365.out) | exact HB.out)) hb); clear HO_366000; clear BK365; clear HB; have HO_366000 := n0_; have BK365 := n1_; have HB := n2_; clear n0_ n1_ n2_; (try clear hb); (try clear hb2); (try clear hk); (try clear hi)))
                                      go_roundg kj34
                                      case measure => have := HJ8.out; have := HK2.out; have := HK3.out; have := HJ34.out; omega
                                      case rel => exact ⟨(t377), (wrap64 (x16_3 + 1)), (by first | rfl | (simp; done) | (simp [*]; done)), (by first | rfl | (simp; done) | (simp [*]; done)), H', ⟨by have := HJ8.out; have := HK2.out; have := HK3.out; have := HJ34.out; omega⟩, ⟨by (with_reducible repeat (first | apply Kd.S_alloc | apply Kd.S_drewN | apply Kd.S_drew)); exact HO_366000.out⟩, ⟨by (with_reducible repeat (first | refine blk_drewN ?_ _ | refine blk_drew ?_ | refine blk_alloc ?_ _)); exact BK365.out⟩, ⟨by repeat (first | (with_reducible first | exact HB.out | apply below_alloc | apply pw_below_drewN | apply below_drew1 | refine below_set ?_ GE365.out) | exact HB.out)⟩⟩
                                    · replace c65 := Bool.eq_false_iff.mpr c65
                                      subst c65
                                      have H1 : (some false) = some r := by rw [if_neg (show ¬ (false = true) by decide)] at H; exact H
                                      clear H
                                      have H := H1
                                      clear H1
                                      obtain rfl := Option.some.inj H
                                      have hcz72_0 : wc.cell? ⟨gb365, 0, none⟩ = some (.slice Ao12 t362.length co12) := (blk_cell BK365.out 0).trans rfl
                                      have hfz72_0 := blk_frozen BK365.out 0
                                      go_wp2_with (first | ((with_reducible refine gate_callee (f := 28) rfl ?_); refine goesL_ (some 103) rfl rfl Tryd.func28 (by kernel_rfl) rfl #[.agg #[.slice Ao12 t362.length co12], .int .i64 t366, .int .i64 (wrap64 (t367 + 1)), .int .i64 x16_3] rfl (by (try simp only [List.map_toArray, List.map_cons, List.map_nil]); first | done | rfl | (simp only [List.length_drop, List.length_take]; rfl)) ?_; (with_reducible refine (impl_BitsAt.calls kj34 _ _ t362 t366 (wrap64 (t367 + 1)) x16_3 t377 true _ ?side1 ?side2 A38.out).mono ?_); (case side1 => repeat (first | exact (Kd.S_reads' HO_366000.out).2.2 | (with_reducible refine Kd.C_alloc ?_ _) | (with_reducible refine Kd.C_drewN ?_ _) | (with_reducible refine Kd.C_drew ?_))); (case side2 => exact (Kd.S_reads' HO_366000.out).2.1); rintro e w73 ⟨rfl, hb⟩; refine ⟨_, rfl, ?_⟩; have n0_ := Aside0.mk (Kd.S_below (by (with_reducible repeat (first | apply Kd.S_alloc | apply Kd.S_drewN | apply Kd.S_drew)); exact HO_366000.out) hb); have n1_ := Aside0.mk (blk_below (g := gb365) (o := .cells #[.slice Ao12 t362.length co12] 27 (0, 0)) (by (with_reducible repeat (first | refine blk_drewN ?_ _ | refine blk_drew ?_ | refine blk_alloc ?_ _)); exact BK365.out) hb); have n2_ := Aside0.mk (below_step (by repeat (first | (with_reducible first | exact HB.out | apply below_alloc | apply pw_below_drewN | apply below_drew1 | refine below_set ?_ GE365.out) | exact HB.out)) hb); clear HO_366000; clear BK365; clear HB; have HO_366000 := n0_; have BK365 := n1_; have HB := n2_; clear n0_ n1_ n2_; (try clear hb); (try clear hb2); (try clear hk); (try clear hi); have hcz74_0 : w73.cell? ⟨gb365, 0, none⟩ = some (.slice Ao12 t362.length co12) := (blk_cell BK365.out 0).trans rfl; have hfz74_0 := blk_frozen BK365.out 0) | ((with_reducible refine gate_callee (f := 17) rfl ?_); refine goesL_ (some 110) rfl rfl Tryd.func17 (by kernel_rfl) rfl #[.agg #[.slice Ao12 t362.length co12], .int .i64 t366, .string t377] rfl (by (try simp only [List.map_toArray, List.map_cons, List.map_nil]); first | done | rfl | (simp only [List.length_drop, List.length_take]; rfl)) ?_; (with_reducible refine (impl_RankOfBits.calls kj34 _ _ t362 t366 t377 t379 true _ ?side1 ?side2 A39.out).mono ?_); (case side1 => repeat (first | exact (Kd.S_reads' HO_366000.out).2.2 | (with_reducible refine Kd.C_alloc ?_ _) | (with_reducible refine Kd.C_drewN ?_ _) | (with_reducible refine Kd.C_drew ?_))); (case side2 => exact (Kd.S_reads' HO_366000.out).2.1); rintro e w75 ⟨rfl, hb⟩; refine ⟨_, rfl, ?_⟩; have n0_ := Aside0.mk (Kd.S_below (by (with_reducible repeat (first | apply Kd.S_alloc | apply Kd.S_drewN | apply Kd.S_drew)); exact HO_366000.out) hb); have n1_ := Aside0.mk (blk_below (g := gb365) (o := .cells #[.slice Ao12 t362.length co12] 27 (0, 0)) (by (with_reducible repeat (first | refine blk_drewN ?_ _ | refine blk_drew ?_ | refine blk_alloc ?_ _)); exact BK365.out) hb); have n2_ := Aside0.mk (below_step (by repeat (first | (with_reducible first | exact HB.out | apply below_alloc | apply pw_below_drewN | apply below_drew1 | refine below_set ?_ GE365.out) | exact HB.out)) hb); clear HO_366000; clear BK365; clear HB; have HO_366000 := n0_; have BK365 := n1_; have HB := n2_; clear n0_ n1_ n2_; (try clear hb); (try clear hb2); (try clear hk); (try clear hi); have hcz76_0 : w75.cell? ⟨gb365, 0, none⟩ = some (.slice Ao12 t362.length co12) := (blk_cell BK365.out 0).trans rfl; have hfz76_0 := blk_frozen BK365.out 0) | (go_at_call 12; (with_reducible refine (impl_IsAllowed.calls kj34 _ _ t362 t366 t377 false _ ?side1 ?side2 A64.out).mono ?_); (case side1 => repeat (first | exact (Kd.S_reads' HO_366000.out).2.2 | (with_reducible refine Kd.C_alloc ?_ _) | (with_reducible refine Kd.C_drewN ?_ _) | (with_reducible refine Kd.C_drew ?_))); (case side2 => exact (Kd.S_reads' HO_366000.out).2.1); rintro e w77 ⟨rfl, hb⟩; have n0_ := Aside0.mk (Kd.S_below (by (with_reducible repeat (first | apply Kd.S_alloc | apply Kd.S_drewN | apply Kd.S_drew)); exact HO_366000.out) hb); have n1_ := Aside0.mk (blk_below (g := gb365) (o := .cells #[.slice Ao12 t362.length co12] 27 (0, 0)) (by (with_reducible repeat (first | refine blk_drewN ?_ _ | refine blk_drew ?_ | refine blk_alloc ?_ _)); exact BK365.out) hb); have n2_ := Aside0.mk (below_step (by repeat (first | (with_reducible first | exact HB.out | apply below_alloc | apply pw_below_drewN | apply below_drew1 | refine below_set ?_ GE365.out) | exact HB.out)) hb); clear HO_366000; clear BK365; clear HB; have HO_366000 := n0_; have BK365 := n1_; have HB := n2_; clear n0_ n1_ n2_; (try clear hb); (try clear hb2); (try clear hk); (try clear hi)))
                                      go_ret
                                      exact ⟨by first | rfl | (simp [errW_none, errW_some] <;> rfl) | (simp [*, errW_none, errW_some] <;> rfl), by repeat (first | (with_reducible first | exact HB.out | apply below_alloc | apply pw_below_drewN | apply below_drew1 | refine below_set ?_ GE365.out) | exact HB.out)⟩
                                · rw [if_neg c43] at H
                                  have c43b0 : ((t377.size : Int) == (wrap64 (t367 + 1))) = false := beq_eq_false_iff_ne.mpr c43
                                  have c43b1 : ((t377.size : Int) != (wrap64 (t367 + 1))) = true := bne_iff_ne.mpr c43
                                  obtain rfl := Option.some.inj H
                                  have hcz78_0 : wc.cell? ⟨gb365, 0, none⟩ = some (.slice Ao12 t362.length co12) := (blk_cell BK365.out 0).trans rfl
                                  have hfz78_0 := blk_frozen BK365.out 0
                                  go_wp2_with (first | ((with_reducible refine gate_callee (f := 28) rfl ?_); refine goesL_ (some 103) rfl rfl Tryd.func28 (by kernel_rfl) rfl #[.agg #[.slice Ao12 t362.length co12], .int .i64 t366, .int .i64 (wrap64 (t367 + 1)), .int .i64 x16_3] rfl (by (try simp only [List.map_toArray, List.map_cons, List.map_nil]); first | done | rfl | (simp only [List.length_drop, List.length_take]; rfl)) ?_; (with_reducible refine (impl_BitsAt.calls kj34 _ _ t362 t366 (wrap64 (t367 + 1)) x16_3 t377 true _ ?side1 ?side2 A38.out).mono ?_); (case side1 => repeat (first | exact (Kd.S_reads' HO_366000.out).2.2 | (with_reducible refine Kd.C_alloc ?_ _) | (with_reducible refine Kd.C_drewN ?_ _) | (with_reducible refine Kd.C_drew ?_))); (case side2 => exact (Kd.S_reads' HO_366000.out).2.1); rintro e w79 ⟨rfl, hb⟩; refine ⟨_, rfl, ?_⟩; have n0_ := Aside0.mk (Kd.S_below (by (with_reducible repeat (first | apply Kd.S_alloc | apply Kd.S_drewN | apply Kd.S_drew)); exact HO_366000.out) hb); have n1_ := Aside0.mk (blk_below (g := gb365) (o := .cells #[.slice Ao12 t362.length co12] 27 (0, 0)) (by (with_reducible repeat (first | refine blk_drewN ?_ _ | refine blk_drew ?_ | refine blk_alloc ?_ _)); exact BK365.out) hb); have n2_ := Aside0.mk (below_step (by repeat (first | (with_reducible first | exact HB.out | apply below_alloc | apply pw_below_drewN | apply below_drew1 | refine below_set ?_ GE365.out) | exact HB.out)) hb); clear HO_366000; clear BK365; clear HB; have HO_366000 := n0_; have BK365 := n1_; have HB := n2_; clear n0_ n1_ n2_; (try clear hb); (try clear hb2); (try clear hk); (try clear hi); have hcz80_0 : w79.cell? ⟨gb365, 0, none⟩ = some (.slice Ao12 t362.length co12) := (blk_cell BK365.out 0).trans rfl; have hfz80_0 := blk_frozen BK365.out 0) | ((with_reducible refine gate_callee (f := 17) rfl ?_); refine goesL_ (some 110) rfl rfl Tryd.func17 (by kernel_rfl) rfl #[.agg #[.slice Ao12 t362.length co12], .int .i64 t366, .string t377] rfl (by (try simp only [List.map_toArray, List.map_cons, List.map_nil]); first | done | rfl | (simp only [List.length_drop, List.length_take]; rfl)) ?_; (with_reducible refine (impl_RankOfBits.calls kj34 _ _ t362 t366 t377 t379 true _ ?side1 ?side2 A39.out).mono ?_); (case side1 => repeat (first | exact (Kd.S_reads' HO_366000.out).2.2 | (with_reducible refine Kd.C_alloc ?_ _) | (with_reducible refine Kd.C_drewN ?_ _) | (with_reducible refine Kd.C_drew ?_))); (case side2 => exact (Kd.S_reads' HO_366000.out).2.1); rintro e w81 ⟨rfl, hb⟩; refine ⟨_, rfl, ?_⟩; have n0_ := Aside0.mk (Kd.S_below (by (with_reducible repeat (first | apply Kd.S_alloc | apply Kd.S_drewN | apply Kd.S_drew)); exact HO_366000.out) hb); have n1_ := Aside0.mk (blk_below (g := gb365) (o := .cells #[.slice Ao12 t362.length co12] 27 (0, 0)) (by (with_reducible repeat (first | refine blk_drewN ?_ _ | refine blk_drew ?_ | refine blk_alloc ?_ _)); exact BK365.out) hb); have n2_ := Aside0.mk (below_step (by repeat (first | (with_reducible first | exact HB.out | apply below_alloc | apply pw_below_drewN | apply below_drew1 | refine below_set ?_ GE365.out) | exact HB.out)) hb); clear HO_366000; clear BK365; clear HB; have HO_366000 := n0_; have BK365 := n1_; have HB := n2_; clear n0_ n1_ n2_; (try clear hb); (try clear hb2); (try clear hk); (try clear hi)))
                                  go_ret
                                  exact ⟨by first | rfl | (simp [errW_none, errW_some] <;> rfl) | (simp [*, errW_none, errW_some] <;> rfl), by repeat (first | (with_reducible first | exact HB.out | apply below_alloc | apply pw_below_drewN | apply below_drew1 | refine below_set ?_ GE365.out) | exact HB.out)⟩
                              · rw [if_neg c42] at H
                                have c42b0 : (t379 == x16_3) = false := beq_eq_false_iff_ne.mpr c42
                                have c42b1 : (t379 != x16_3) = true := bne_iff_ne.mpr c42
                                obtain rfl := Option.some.inj H
                                have hcz82_0 : wc.cell? ⟨gb365, 0, none⟩ = some (.slice Ao12 t362.length co12) := (blk_cell BK365.out 0).trans rfl
                                have hfz82_0 := blk_frozen BK365.out 0
                                go_wp2_with (first | ((with_reducible refine gate_callee (f := 28) rfl ?_); refine goesL_ (some 103) rfl rfl Tryd.func28 (by kernel_rfl) rfl #[.agg #[.slice Ao12 t362.length co12], .int .i64 t366, .int .i64 (wrap64 (t367 + 1)), .int .i64 x16_3] rfl (by (try simp only [List.map_toArray, List.map_cons, List.map_nil]); first | done | rfl | (simp only [List.length_drop, List.length_take]; rfl)) ?_; (with_reducible refine (impl_BitsAt.calls kj34 _ _ t362 t366 (wrap64 (t367 + 1)) x16_3 t377 true _ ?side1 ?side2 A38.out).mono ?_); (case side1 => repeat (first | exact (Kd.S_reads' HO_366000.out).2.2 | (with_reducible refine Kd.C_alloc ?_ _) | (with_reducible refine Kd.C_drewN ?_ _) | (with_reducible refine Kd.C_drew ?_))); (case side2 => exact (Kd.S_reads' HO_366000.out).2.1); rintro e w83 ⟨rfl, hb⟩; refine ⟨_, rfl, ?_⟩; have n0_ := Aside0.mk (Kd.S_below (by (with_reducible repeat (first | apply Kd.S_alloc | apply Kd.S_drewN | apply Kd.S_drew)); exact HO_366000.out) hb); have n1_ := Aside0.mk (blk_below (g := gb365) (o := .cells #[.slice Ao12 t362.length co12] 27 (0, 0)) (by (with_reducible repeat (first | refine blk_drewN ?_ _ | refine blk_drew ?_ | refine blk_alloc ?_ _)); exact BK365.out) hb); have n2_ := Aside0.mk (below_step (by repeat (first | (with_reducible first | exact HB.out | apply below_alloc | apply pw_below_drewN | apply below_drew1 | refine below_set ?_ GE365.out) | exact HB.out)) hb); clear HO_366000; clear BK365; clear HB; have HO_366000 := n0_; have BK365 := n1_; have HB := n2_; clear n0_ n1_ n2_; (try clear hb); (try clear hb2); (try clear hk); (try clear hi); have hcz84_0 : w83.cell? ⟨gb365, 0, none⟩ = some (.slice Ao12 t362.length co12) := (blk_cell BK365.out 0).trans rfl; have hfz84_0 := blk_frozen BK365.out 0) | ((with_reducible refine gate_callee (f := 17) rfl ?_); refine goesL_ (some 110) rfl rfl Tryd.func17 (by kernel_rfl) rfl #[.agg #[.slice Ao12 t362.length co12], .int .i64 t366, .string t377] rfl (by (try simp only [List.map_toArray, List.map_cons, List.map_nil]); first | done | rfl | (simp only [List.length_drop, List.length_take]; rfl)) ?_; (with_reducible refine (impl_RankOfBits.calls kj34 _ _ t362 t366 t377 t379 true _ ?side1 ?side2 A39.out).mono ?_); (case side1 => repeat (first | exact (Kd.S_reads' HO_366000.out).2.2 | (with_reducible refine Kd.C_alloc ?_ _) | (with_reducible refine Kd.C_drewN ?_ _) | (with_reducible refine Kd.C_drew ?_))); (case side2 => exact (Kd.S_reads' HO_366000.out).2.1); rintro e w85 ⟨rfl, hb⟩; refine ⟨_, rfl, ?_⟩; have n0_ := Aside0.mk (Kd.S_below (by (with_reducible repeat (first | apply Kd.S_alloc | apply Kd.S_drewN | apply Kd.S_drew)); exact HO_366000.out) hb); have n1_ := Aside0.mk (blk_below (g := gb365) (o := .cells #[.slice Ao12 t362.length co12] 27 (0, 0)) (by (with_reducible repeat (first | refine blk_drewN ?_ _ | refine blk_drew ?_ | refine blk_alloc ?_ _)); exact BK365.out) hb); have n2_ := Aside0.mk (below_step (by repeat (first | (with_reducible first | exact HB.out | apply below_alloc | apply pw_below_drewN | apply below_drew1 | refine below_set ?_ GE365.out) | exact HB.out)) hb); clear HO_366000; clear BK365; clear HB; have HO_366000 := n0_; have BK365 := n1_; have HB := n2_; clear n0_ n1_ n2_; (try clear hb); (try clear hb2); (try clear hk); (try clear hi)))
                                go_ret
                                exact ⟨by first | rfl | (simp [errW_none, errW_some] <;> rfl) | (simp [*, errW_none, errW_some] <;> rfl), by repeat (first | (with_reducible first | exact HB.out | apply below_alloc | apply pw_below_drewN | apply below_drew1 | refine below_set ?_ GE365.out) | exact HB.out)⟩
                            · replace c41 := Bool.eq_false_iff.mpr c41
                              subst c41
                              have H1 : (some false) = some r := by rw [if_neg (show ¬ (false = true) by decide)] at H; exact H
                              clear H
                              have H := H1
                              clear H1
                              obtain rfl := Option.some.inj H
                              have hcz86_0 : wc.cell? ⟨gb365, 0, none⟩ = some (.slice Ao12 t362.length co12) := (blk_cell BK365.out 0).trans rfl
                              have hfz86_0 := blk_frozen BK365.out 0
                              go_wp2_with (first | ((with_reducible refine gate_callee (f := 28) rfl ?_); refine goesL_ (some 103) rfl rfl Tryd.func28 (by kernel_rfl) rfl #[.agg #[.slice Ao12 t362.length co12], .int .i64 t366, .int .i64 (wrap64 (t367 + 1)), .int .i64 x16_3] rfl (by (try simp only [List.map_toArray, List.map_cons, List.map_nil]); first | done | rfl | (simp only [List.length_drop, List.length_take]; rfl)) ?_; (with_reducible refine (impl_BitsAt.calls kj34 _ _ t362 t366 (wrap64 (t367 + 1)) x16_3 t377 true _ ?side1 ?side2 A38.out).mono ?_); (case side1 => repeat (first | exact (Kd.S_reads' HO_366000.out).2.2 | (with_reducible refine Kd.C_alloc ?_ _) | (with_reducible refine Kd.C_drewN ?_ _) | (with_reducible refine Kd.C_drew ?_))); (case side2 => exact (Kd.S_reads' HO_366000.out).2.1); rintro e w87 ⟨rfl, hb⟩; refine ⟨_, rfl, ?_⟩; have n0_ := Aside0.mk (Kd.S_below (by (with_reducible repeat (first | apply Kd.S_alloc | apply Kd.S_drewN | apply Kd.S_drew)); exact HO_366000.out) hb); have n1_ := Aside0.mk (blk_below (g := gb365) (o := .cells #[.slice Ao12 t362.length co12] 27 (0, 0)) (by (with_reducible repeat (first | refine blk_drewN ?_ _ | refine blk_drew ?_ | refine blk_alloc ?_ _)); exact BK365.out) hb); have n2_ := Aside0.mk (below_step (by repeat (first | (with_reducible first | exact HB.out | apply below_alloc | apply pw_below_drewN | apply below_drew1 | refine below_set ?_ GE365.out) | exact HB.out)) hb); clear HO_366000; clear BK365; clear HB; have HO_366000 := n0_; have BK365 := n1_; have HB := n2_; clear n0_ n1_ n2_; (try clear hb); (try clear hb2); (try clear hk); (try clear hi); have hcz88_0 : w87.cell? ⟨gb365, 0, none⟩ = some (.slice Ao12 t362.length co12) := (blk_cell BK365.out 0).trans rfl; have hfz88_0 := blk_frozen BK365.out 0) | ((with_reducible refine gate_callee (f := 17) rfl ?_); refine goesL_ (some 110) rfl rfl Tryd.func17 (by kernel_rfl) rfl #[.agg #[.slice Ao12 t362.length co12], .int .i64 t366, .string t377] rfl (by (try simp only [List.map_toArray, List.map_cons, List.map_nil]); first | done | rfl | (simp only [List.length_drop, List.length_take]; rfl)) ?_; (with_reducible refine (impl_RankOfBits.calls kj34 _ _ t362 t366 t377 t379 false _ ?side1 ?side2 A39.out).mono ?_); (case side1 => repeat (first | exact (Kd.S_reads' HO_366000.out).2.2 | (with_reducible refine Kd.C_alloc ?_ _) | (with_reducible refine Kd.C_drewN ?_ _) | (with_reducible refine Kd.C_drew ?_))); (case side2 => exact (Kd.S_reads' HO_366000.out).2.1); rintro e w89 ⟨rfl, hb⟩; refine ⟨_, rfl, ?_⟩; have n0_ := Aside0.mk (Kd.S_below (by (with_reducible repeat (first | apply Kd.S_alloc | apply Kd.S_drewN | apply Kd.S_drew)); exact HO_366000.out) hb); have n1_ := Aside0.mk (blk_below (g := gb365) (o := .cells #[.slice Ao12 t362.length co12] 27 (0, 0)) (by (with_reducible repeat (first | refine blk_drewN ?_ _ | refine blk_drew ?_ | refine blk_alloc ?_ _)); exact BK365.out) hb); have n2_ := Aside0.mk (below_step (by repeat (first | (with_reducible first | exact HB.out | apply below_alloc | apply pw_below_drewN | apply below_drew1 | refine below_set ?_ GE365.out) | exact HB.out)) hb); clear HO_366000; clear BK365; clear HB; have HO_366000 := n0_; have BK365 := n1_; have HB := n2_; clear n0_ n1_ n2_; (try clear hb); (try clear hb2); (try clear hk); (try clear hi)))
                              go_ret
                              exact ⟨by first | rfl | (simp [errW_none, errW_some] <;> rfl) | (simp [*, errW_none, errW_some] <;> rfl), by repeat (first | (with_reducible first | exact HB.out | apply below_alloc | apply pw_below_drewN | apply below_drew1 | refine below_set ?_ GE365.out) | exact HB.out)⟩
                          · replace c40 := Bool.eq_false_iff.mpr c40
                            subst c40
                            have H1 : (some false) = some r := by rw [if_neg (show ¬ (false = true) by decide)] at H; exact H
                            clear H
                            have H := H1
                            clear H1
                            obtain rfl := Option.some.inj H
                            have hcz90_0 : wc.cell? ⟨gb365, 0, none⟩ = some (.slice Ao12 t362.length co12) := (blk_cell BK365.out 0).trans rfl
                            have hfz90_0 := blk_frozen BK365.out 0
                            go_wp2_with (first | ((with_reducible refine gate_callee (f := 28) rfl ?_); refine goesL_ (some 103) rfl rfl Tryd.func28 (by kernel_rfl) rfl #[.agg #[.slice Ao12 t362.length co12], .int .i64 t366, .int .i64 (wrap64 (t367 + 1)), .int .i64 x16_3] rfl (by (try simp only [List.map_toArray, List.map_cons, List.map_nil]); first | done | rfl | (simp only [List.length_drop, List.length_take]; rfl)) ?_; (with_reducible refine (impl_BitsAt.calls kj34 _ _ t362 t366 (wrap64 (t367 + 1)) x16_3 t377 false _ ?side1 ?side2 A38.out).mono ?_); (case side1 => repeat (first | exact (Kd.S_reads' HO_366000.out).2.2 | (with_reducible refine Kd.C_alloc ?_ _) | (with_reducible refine Kd.C_drewN ?_ _) | (with_reducible refine Kd.C_drew ?_))); (case side2 => exact (Kd.S_reads' HO_366000.out).2.1); rintro e w91 ⟨rfl, hb⟩; refine ⟨_, rfl, ?_⟩; have n0_ := Aside0.mk (Kd.S_below (by (with_reducible repeat (first | apply Kd.S_alloc | apply Kd.S_drewN | apply Kd.S_drew)); exact HO_366000.out) hb); have n1_ := Aside0.mk (blk_below (g := gb365) (o := .cells #[.slice Ao12 t362.length co12] 27 (0, 0)) (by (with_reducible repeat (first | refine blk_drewN ?_ _ | refine blk_drew ?_ | refine blk_alloc ?_ _)); exact BK365.out) hb); have n2_ := Aside0.mk (below_step (by repeat (first | (with_reducible first | exact HB.out | apply below_alloc | apply pw_below_drewN | apply below_drew1 | refine below_set ?_ GE365.out) | exact HB.out)) hb); clear HO_366000; clear BK365; clear HB; have HO_366000 := n0_; have BK365 := n1_; have HB := n2_; clear n0_ n1_ n2_; (try clear hb); (try clear hb2); (try clear hk); (try clear hi); have hcz92_0 : w91.cell? ⟨gb365, 0, none⟩ = some (.slice Ao12 t362.length co12) := (blk_cell BK365.out 0).trans rfl; have hfz92_0 := blk_frozen BK365.out 0) | ((with_reducible refine gate_callee (f := 17) rfl ?_); refine goesL_ (some 110) rfl rfl Tryd.func17 (by kernel_rfl) rfl #[.agg #[.slice Ao12 t362.length co12], .int .i64 t366, .string t377] rfl (by (try simp only [List.map_toArray, List.map_cons, List.map_nil]); first | done | rfl | (simp only [List.length_drop, List.length_take]; rfl)) ?_; (with_reducible refine (impl_RankOfBits.calls kj34 _ _ t362 t366 t377 t379 t380 _ ?side1 ?side2 A39.out).mono ?_); (case side1 => repeat (first | exact (Kd.S_reads' HO_366000.out).2.2 | (with_reducible refine Kd.C_alloc ?_ _) | (with_reducible refine Kd.C_drewN ?_ _) | (with_reducible refine Kd.C_drew ?_))); (case side2 => exact (Kd.S_reads' HO_366000.out).2.1); rintro e w93 ⟨rfl, hb⟩; refine ⟨_, rfl, ?_⟩; have n0_ := Aside0.mk (Kd.S_below (by (with_reducible repeat (first | apply Kd.S_alloc | apply Kd.S_drewN | apply Kd.S_drew)); exact HO_366000.out) hb); have n1_ := Aside0.mk (blk_below (g := gb365) (o := .cells #[.slice Ao12 t362.length co12] 27 (0, 0)) (by (with_reducible repeat (first | refine blk_drewN ?_ _ | refine blk_drew ?_ | refine blk_alloc ?_ _)); exact BK365.out) hb); have n2_ := Aside0.mk (below_step (by repeat (first | (with_reducible first | exact HB.out | apply below_alloc | apply pw_below_drewN | apply below_drew1 | refine below_set ?_ GE365.out) | exact HB.out)) hb); clear HO_366000; clear BK365; clear HB; have HO_366000 := n0_; have BK365 := n1_; have HB := n2_; clear n0_ n1_ n2_; (try clear hb); (try clear hb2); (try clear hk); (try clear hi)))
                            go_ret
                            exact ⟨by first | rfl | (simp [errW_none, errW_some] <;> rfl) | (simp [*, errW_none, errW_some] <;> rfl), by repeat (first | (with_reducible first | exact HB.out | apply below_alloc | apply pw_below_drewN | apply below_drew1 | refine below_set ?_ GE365.out) | exact HB.out)⟩
                        · replace c37 := Bool.eq_false_iff.mpr c37
                          subst c37
                          have H1 : ((impl_BitsAt.f kj34 t362 t366 (wrap64 (t367 + 1)) t368).bind fun bt383 => ((spec_R8Bits.f kj34 l1 10).bind fun t385 => (laws_FnRankedBits.l2 kj34 t366 t368 x11_2 bt383.2 t385 t366 0 t362))) = some r := by rw [if_neg (show ¬ (false = true) by decide)] at H; exact H
                          clear H
                          have H := H1
                          clear H1
                          replace H := Option.bind_eq_some_iff.mp H
                          obtain ⟨⟨t383, t384⟩, A940, H⟩ := H
                          replace H : ((spec_R8Bits.f kj34 l1 10).bind fun t385 => (laws_FnRankedBits.l2 kj34 t366 t368 x11_2 t384 t385 t366 0 t362)) = some r := H
                          have A94 := Aside0.mk A940
                          clear A940
                          replace H := Option.bind_eq_some_iff.mp H
                          obtain ⟨t385, A950, H⟩ := H
                          replace H : (laws_FnRankedBits.l2 kj34 t366 t368 x11_2 t384 t385 t366 0 t362) = some r := H
                          have A95 := Aside0.mk A950
                          clear A950
                          have H' := Aside0.mk H
                          clear H
                          have hcz96_0 : wc.cell? ⟨gb365, 0, none⟩ = some (.slice Ao12 t362.length co12) := (blk_cell BK365.out 0).trans rfl
                          have hfz96_0 := blk_frozen BK365.out 0
                          go_wp2_with (first | ((with_reducible refine gate_callee (f := 28) rfl ?_); refine goesL_ (some 154) rfl rfl Tryd.func28 (by kernel_rfl) rfl #[.agg #[.slice Ao12 t362.length co12], .int .i64 t366, .int .i64 (wrap64 (t367 + 1)), .int .i64 t368] rfl (by (try simp only [List.map_toArray, List.map_cons, List.map_nil]); first | done | rfl | (simp only [List.length_drop, List.length_take]; rfl)) ?_; (with_reducible refine (impl_BitsAt.calls kj34 _ _ t362 t366 (wrap64 (t367 + 1)) t368 t383 t384 _ ?side1 ?side2 A94.out).mono ?_); (case side1 => repeat (first | exact (Kd.S_reads' HO_366000.out).2.2 | (with_reducible refine Kd.C_alloc ?_ _) | (with_reducible refine Kd.C_drewN ?_ _) | (with_reducible refine Kd.C_drew ?_))); (case side2 => exact (Kd.S_reads' HO_366000.out).2.1); rintro e w97 ⟨rfl, hb⟩; refine ⟨_, rfl, ?_⟩; have n0_ := Aside0.mk (Kd.S_below (by (with_reducible repeat (first | apply Kd.S_alloc | apply Kd.S_drewN | apply Kd.S_drew)); exact HO_366000.out) hb); have n1_ := Aside0.mk (blk_below (g := gb365) (o := .cells #[.slice Ao12 t362.length co12] 27 (0, 0)) (by (with_reducible repeat (first | refine blk_drewN ?_ _ | refine blk_drew ?_ | refine blk_alloc ?_ _)); exact BK365.out) hb); have n2_ := Aside0.mk (below_step (by repeat (first | (with_reducible first | exact HB.out | apply below_alloc | apply pw_below_drewN | apply below_drew1 | refine below_set ?_ GE365.out) | exact HB.out)) hb); clear HO_366000; clear BK365; clear HB; have HO_366000 := n0_; have BK365 := n1_; have HB := n2_; clear n0_ n1_ n2_; (try clear hb); (try clear hb2); (try clear hk); (try clear hi)) | ((with_reducible refine gate_callee (f := 21) rfl ?_); refine goesL_ (some 158) rfl rfl Tryd.func21 (by kernel_rfl) rfl #[.slice A1 l1.length c1, .int .i64 10] rfl (by (try simp only [List.map_toArray, List.map_cons, List.map_nil]); first | done | rfl | (simp only [List.length_drop, List.length_take]; rfl)) ?_; (with_reducible refine (spec_R8Bits.calls kj34 _ _ l1 10 t385 _ ?side1 ?side2 A95.out).mono ?_); (case side1 => repeat (first | exact (Kd.C_below HR1.out HB.out) | (with_reducible refine Kd.C_alloc ?_ _) | (with_reducible refine Kd.C_drewN ?_ _) | (with_reducible refine Kd.C_drew ?_))); (case side2 => exact HC1.out); rintro e w98 ⟨rfl, hb⟩; refine ⟨_, rfl, ?_⟩; have n0_ := Aside0.mk (Kd.S_below (by (with_reducible repeat (first | apply Kd.S_alloc | apply Kd.S_drewN | apply Kd.S_drew)); exact HO_366000.out) hb); have n1_ := Aside0.mk (blk_below (g := gb365) (o := .cells #[.slice Ao12 t362.length co12] 27 (0, 0)) (by (with_reducible repeat (first | refine blk_drewN ?_ _ | refine blk_drew ?_ | refine blk_alloc ?_ _)); exact BK365.out) hb); have n2_ := Aside0.mk (below_step (by repeat (first | (with_reducible first | exact HB.out | apply below_alloc | apply pw_below_drewN | apply below_drew1 | refine below_set ?_ GE365.out) | exact HB.out)) hb); clear HO_366000; clear BK365; clear HB; have HO_366000 := n0_; have BK365 := n1_; have HB := n2_; clear n0_ n1_ n2_; (try clear hb); (try clear hb2); (try clear hk); (try clear hi)))
                          go_loopg [24, 25] kj34 (fun kq v24 v25 w' => ∃ (x24_5 : Int) (x25_5 : Int), v24 = .int .i64 x24_5 ∧ v25 = .int .i64 x25_5 ∧ Aside0 (laws_FnRankedBits.l2 kq t366 t368 x11_2 t384 t385 x24_5 x25_5 t362 = some r) ∧ Aside0 (kq ≤ kj34) ∧ Aside0 (Kd.S (Kd.slice 2 (Kd.int .i64)) 46 w' w.heap.size (fun _ => True) (.slice Ao12 t362.length co12) t362) ∧ Aside0 (w'.heap[gb365]? = some (.cells #[(.slice Ao12 t362.length co12)] 27 (0, 0))) ∧ Aside0 (Below w.heap.size w w'))
                          case atStart => exact ⟨(t366), (0), (by first | rfl | (simp; done) | (simp [*]; done)), (by first | rfl | (simp; done) | (simp [*]; done)), H', ⟨Nat.le_refl _⟩, ⟨by (with_reducible repeat (first | apply Kd.S_alloc | apply Kd.S_drewN | apply Kd.S_drew)); exact HO_366000.out⟩, ⟨by (with_reducible repeat (first | refine blk_drewN ?_ _ | refine blk_drew ?_ | refine blk_alloc ?_ _)); exact BK365.out⟩, ⟨by repeat (first | (with_reducible first | exact HB.out | apply below_alloc | apply pw_below_drewN | apply below_drew1 | refine below_set ?_ GE365.out) | exact HB.out)⟩⟩
                          case round =>
                            clear H'
                            try clear c1
                            try clear c2
                            try clear p2
                            try clear c3
                            try clear p3
                            try clear q3
                            try clear hx3
                            try clear c4
                            try clear c6
                            try clear p6
                            try clear c8
                            try clear c15
                            try clear c17
                            try clear c18
                            try clear c19
                            try clear c20
                            try clear c20b0
                            try clear c21
                            try clear c21b0
                            try clear c22
                            try clear c22b0
                            try clear c23
                            try clear c23b0
                            try clear c24
                            try clear c24b0
                            try clear c25
                            try clear c25b0
                            try clear c27
                            try clear c28
                            try clear c36
                            try clear c36b0
                            try clear c37
                            try clear p37
                            try clear q37
                            try clear hx37
                            try clear c40
                            try clear c41
                            try clear c42
                            try clear c42b0
                            try clear c42b1
                            try clear c43
                            try clear c43b0
                            try clear c43b1
                            try clear c44
                            try clear c44b0
                            try clear c45
                            try clear c45b0
                            try clear c47
                            try clear p64
                            try clear c65
                            try clear hcz13_0
                            try clear hcz17_0
                            try clear hcz28_0
                            try clear hcz31_0
                            try clear hcz34_0
                            try clear hcz48_0
                            try clear hcz50_0
                            try clear hcz52_0
                            try clear hcz54_0
                            try clear hcz56_0
                            try clear hcz58_0
                            try clear hcz60_0
                            try clear hcz62_0
                            try clear hcz66_0
                            try clear hcz68_0
                            try clear hcz70_0
                            try clear hcz72_0
                            try clear hcz74_0
                            try clear hcz76_0
                            try clear hcz78_0
                            try clear hcz80_0
                            try clear hcz82_0
                            try clear hcz84_0
                            try clear hcz86_0
                            try clear hcz88_0
                            try clear hcz90_0
                            try clear hcz92_0
                            try clear hcz96_0
                            try clear hfz13_0
                            try clear hfz17_0
                            try clear hfz28_0
                            try clear hfz31_0
                            try clear hfz34_0
                            try clear hfz48_0
                            try clear hfz50_0
                            try clear hfz52_0
                            try clear hfz54_0
                            try clear hfz56_0
                            try clear hfz58_0
                            try clear hfz60_0
                            try clear hfz62_0
                            try clear hfz66_0
                            try clear hfz68_0
                            try clear hfz70_0
                            try clear hfz72_0
                            try clear hfz74_0
                            try clear hfz76_0
                            try clear hfz78_0
                            try clear hfz80_0
                            try clear hfz82_0
                            try clear hfz84_0
                            try clear hfz86_0
                            try clear hfz88_0
                            try clear hfz90_0
                            try clear hfz92_0
                            try clear hfz96_0
                            try clear hx371_0
                            try clear hx372_0
                            try clear hx373_0
                            try clear hx374_0
                            try clear p2
                            try clear p3
                            try clear p371
                            try clear p372
                            try clear p373
                            try clear p374
                            try clear p6
                            try clear q3
                            try clear q371
                            try clear q372
                            try clear q373
                            try clear q374
                            obtain ⟨x24_5, x25_5, rfl, rfl, HA, HK5, HO_366000, BK365, HB⟩ := hrel
                            cases gk with
                            | zero => exact absurd HA.out (by simp [laws_FnRankedBits.l2])
                            | succ k5 =>
                              have H := HA.out
                              clear HA
                              simp only [laws_FnRankedBits.l2] at H
                              by_cases c99 : x25_5 < (t385.size : Int)
                              · rw [if_pos c99] at H
                                have c99b0 : decide (x25_5 < (t385.size : Int)) = true := decide_eq_true c99
                                clear c99
                                by_cases c100 : x24_5 ≥ 0
                                · rw [if_pos c100] at H
                                  have c100b0 : decide (0 ≤ x24_5) = true := decide_eq_true c100
                                  clear c100
                                  by_cases c101 : 0 ≤ x24_5
                                  · rw [if_pos c101] at H
                                    have c101b0 : decide (0 ≤ x24_5) = true := decide_eq_true c101
                                    clear c101
                                    by_cases c102 : x24_5 < (t362.length : Int)
                                    · rw [if_pos c102] at H
                                      have c102b0 : decide (x24_5 < (t362.length : Int)) = true := decide_eq_true c102
                                      clear c102
                                      by_cases c103 : 0 ≤ x25_5
                                      · rw [if_pos c103] at H
                                        have c103b0 : decide (0 ≤ x25_5) = true := decide_eq_true c103
                                        clear c103
                                        obtain ⟨ji105, hji105⟩ : ∃ j_ : Int, (((bt t385 x25_5) - 48) % 256) = j_ := ⟨_, rfl⟩
                                        replace H : (if 0 ≤ (ji105) then (if (ji105) < ((rd_L1 t362 x24_5).length : Int) then (laws_FnRankedBits.l2 k5 t366 t368 x11_2 t384 t385 (rd (rd_L1 t362 x24_5) (ji105)) (wrap64 (x25_5 + 1)) t362) else (none)) else (none)) = some r := by first | (rw [hji105] at H; exact H) | (simp only [hji105] at H ⊢; exact H)
                                        by_cases c106 : 0 ≤ (ji105)
                                        · rw [if_pos c106] at H
                                          have c106b0 : decide (0 ≤ (ji105)) = true := decide_eq_true c106
                                          clear c106
                                          by_cases c107 : (ji105) < ((rd_L1 t362 x24_5).length : Int)
                                          · rw [if_pos c107] at H
                                            have c107b0 : decide ((ji105) < ((rd_L1 t362 x24_5).length : Int)) = true := decide_eq_true c107
                                            clear c107
                                            have H' := Aside0.mk H
                                            clear H
                                            try go_wp2
                                            have n0_ := Aside0.mk (Kd.S_drew HO_366000.out)
                                            have n1_ := Aside0.mk (blk_drew BK365.out)
                                            have n2_ := Aside0.mk (below_drew1 HB.out)
                                            clear HO_366000
                                            clear BK365
                                            clear HB
                                            have HO_366000 := n0_
                                            have BK365 := n1_
                                            have HB := n2_
                                            clear n0_ n1_ n2_
                                            have p386 : 0 ≤ (x24_5 : Int) := of_decide_eq_true (by first | (with_reducible assumption) | assumption)
                                            have q386 : x24_5 < (t362.length : Int) := of_decide_eq_true (by first | (with_reducible assumption) | assumption)
                                            obtain ⟨ad386, A386_0, c386_0, e386, hx386_0, hl386_0, hi386_0⟩ := at_L1 (Kd.S_reads' HO_366000.out).2.2 x24_5 p386 q386
                                            cases e386
                                            obtain ⟨ce386, hce386, hMe386, hcc386⟩ := Kd.S_get HO_366000.out [] x24_5 p386 (by first | exact q386 | exact of_decide_eq_true (by first | (with_reducible assumption) | assumption) | (have e_ := (Kd.S_reads' HO_366000.out).1; omega))
                                            obtain ⟨ve386_0, rfl, ge386_0⟩ := hMe386
                                            have hv386_0 := hcc386 0 _ rfl
                                            rw [Nat.add_zero, show ((Kd.slice 2 (Kd.int .i64))).sz = 1 from rfl, Nat.mul_one] at hv386_0
                                            replace hv386_0 := Option.some.inj (hv386_0.symm.trans hx386_0)
                                            rw [hv386_0] at ge386_0
                                            have HL386_0 := Aside0.mk (show Kd.R (Kd.int .i64) 2 _ _ _ _ (rd_L1 t362 x24_5) from ge386_0)
                                            clear hv386_0 ge386_0
                                            clear hcc386 hce386
                                            have HR386_0 := Aside0.mk hi386_0
                                            have HC386_0 := Aside0.mk hl386_0
                                            clear hi386_0 hl386_0
                                            replace p386 := eq_true p386
                                            replace q386 := eq_true q386
                                            have p104 : 0 ≤ (x25_5 : Int) := of_decide_eq_true (by first | (with_reducible assumption) | assumption)
                                            have q104 : x25_5 < (t385.size : Int) := of_decide_eq_true (by first | (with_reducible assumption) | assumption)
                                            have hx104 := bt_at t385 x25_5
                                            replace p104 := eq_true p104
                                            replace q104 := eq_true q104
                                            have p387 : 0 ≤ ((ji105) : Int) := of_decide_eq_true (by first | (with_reducible assumption) | assumption)
                                            have q387 : (ji105) < ((rd_L1 t362 x24_5).length : Int) := of_decide_eq_true (by first | (with_reducible assumption) | assumption)
                                            obtain ⟨ad387, e387, hx387_0⟩ := Kd.at_int (by repeat (first | (with_reducible exact HR386_0.out) | (with_reducible refine Kd.C_alloc ?_ _) | (with_reducible refine Kd.C_drewN ?_ _) | (with_reducible refine Kd.C_drew ?_) | exact HR386_0.out)) (ji105) p387 q387
                                            cases e387
                                            replace p387 := eq_true p387
                                            replace q387 := eq_true q387
                                            refine start_ (n := 12) (S := fun w' => w'.cell? ⟨gb365, 0, none⟩ = some (.slice (some ad386) t362.length co12) ∧ w'.cell? (ad386.add (x24_5).toNat) = some (.slice (some ad387) (rd_L1 t362 x24_5).length c386_0) ∧ w'.cell? (ad387.add ((ji105)).toNat) = some (.int .i64 (rd (rd_L1 t362 x24_5) (ji105)))) (ds := []) #[false, false, false, false, false, false, false, false, false, false, false, false] (by kernel_rfl) rfl rfl ⟨(blk_cell BK365.out 0).trans rfl, hx386_0, hx387_0⟩ (fun hHeld => ?_); refine with_tabW laws_FnRankedBits.tab34 laws_FnRankedBits.bits34 (fun HT_ HW_ => ?_)
                                            generalize wr.drew = w108 at HO_366000 BK365 HB HL386_0 HR386_0 hx386_0 hx387_0 hHeld ⊢
                                            refine pure_ (i := 0) (N := some 170) (v := ?_) (a' := ?_) #[true, false, false, false, false, false, false, false, false, false, false, false] rfl rfl (any_of HT_.out (by kernel_rfl)) (fun _ _ _ h => h) (Or.inl ⟨by rfl, ?_⟩) ?_ ?_
                                            rotate_left
                                            · intro w'
                                              go_simp
                                              with_reducible rfl
                                            rotate_left
                                            · simp only [Act.put, List.setIfInBounds_toArray, List.set_cons_zero, List.set_cons_succ, i64_w, i32_w]
                                              rfl
                                            refine pure_ (i := 2) (N := some 172) (v := ?_) (a' := ?_) #[true, false, true, false, false, false, false, false, false, false, false, false] rfl rfl (any_of HT_.out (by kernel_rfl)) (fun _ _ _ h => h) (Or.inl ⟨by rfl, ?_⟩) ?_ ?_
                                            rotate_left
                                            · intro w'
                                              go_simp
                                              with_reducible rfl
                                            rotate_left
                                            · simp only [Act.put, List.setIfInBounds_toArray, List.set_cons_zero, List.set_cons_succ, i64_w, i32_w]
                                              rfl
                                            refine pure_ (i := 5) (N := some 175) (v := ?_) (a' := ?_) #[true, false, true, false, false, true, false, false, false, false, false, false] rfl rfl (any_of HT_.out (by kernel_rfl)) (fun _ _ _ h => h) (Or.inl ⟨by rfl, ?_⟩) ?_ ?_
                                            rotate_left
                                            · intro w'
                                              go_simp
                                              with_reducible rfl
                                            rotate_left
                                            · simp only [Act.put, List.setIfInBounds_toArray, List.set_cons_zero, List.set_cons_succ, i64_w, i32_w]
                                              rfl
                                            refine pure_ (i := 6) (N := some 176) (v := ?_) (a' := ?_) #[true, false, true, false, false, true, true, false, false, false, false, false] rfl rfl (any_of HT_.out (by kernel_rfl)) (fun _ _ _ h => h) (Or.inl ⟨by rfl, ?_⟩) ?_ ?_
                                            rotate_left
                                            · intro w'
                                              go_simp
                                              with_reducible rfl
                                            rotate_left
                                            · simp only [Act.put, List.setIfInBounds_toArray, List.set_cons_zero, List.set_cons_succ, i64_w, i32_w]
                                              rfl
                                            refine take_ (i := 1) (N := some 171) (v := ?_) (a' := ?_) #[true, true, true, false, false, true, true, false, false, false, false, false] rfl rfl (take_ofW HT_.out HW_.out (by kernel_rfl)) (fun _ _ _ h => h) (Or.inl ⟨by rfl, ?_⟩) hHeld ?_ ?_
                                            rotate_left
                                            · rintro w' ⟨s0, s1, s2⟩
                                              go_simp
                                              with_reducible rfl
                                            rotate_left
                                            · simp only [Act.put, List.setIfInBounds_toArray, List.set_cons_zero, List.set_cons_succ, i64_w, i32_w]
                                              rfl
                                            refine pure_ (i := 3) (N := some 173) (v := ?_) (a' := ?_) #[true, true, true, true, false, true, true, false, false, false, false, false] rfl rfl (any_of HT_.out (by kernel_rfl)) (fun _ _ _ h => h) (Or.inl ⟨by rfl, ?_⟩) ?_ ?_
                                            rotate_left
                                            · intro w'
                                              go_simp
                                              with_reducible rfl
                                            rotate_left
                                            · simp only [Act.put, List.setIfInBounds_toArray, List.set_cons_zero, List.set_cons_succ, i64_w, i32_w]
                                              rfl
                                            refine take_ (i := 4) (N := some 174) (v := ?_) (a' := ?_) #[true, true, true, true, true, true, true, false, false, false, false, false] rfl rfl (take_ofW HT_.out HW_.out (by kernel_rfl)) (fun _ _ _ h => h) (Or.inl ⟨by rfl, ?_⟩) hHeld ?_ ?_
                                            rotate_left
                                            · rintro w' ⟨s0, s1, s2⟩
                                              go_simp
                                              with_reducible rfl
                                            rotate_left
                                            · simp only [Act.put, List.setIfInBounds_toArray, List.set_cons_zero, List.set_cons_succ, i64_w, i32_w]
                                              rfl
                                            refine take_ (i := 7) (N := some 177) (v := ?_) (a' := ?_) #[true, true, true, true, true, true, true, true, false, false, false, false] rfl rfl (take_ofW HT_.out HW_.out (by kernel_rfl)) (fun _ _ _ h => h) (Or.inl ⟨by rfl, ?_⟩) hHeld ?_ ?_
                                            rotate_left
                                            · rintro w' ⟨s0, s1, s2⟩
                                              go_simp
                                              with_reducible rfl
                                            rotate_left
                                            · simp only [Act.put, List.setIfInBounds_toArray, List.set_cons_zero, List.set_cons_succ, i64_w, i32_w]
                                              rfl
                                            refine pure_ (i := 8) (N := some 178) (v := ?_) (a' := ?_) #[true, true, true, true, true, true, true, true, true, false, false, false] rfl rfl (any_of HT_.out (by kernel_rfl)) (fun _ _ _ h => h) (Or.inl ⟨by rfl, ?_⟩) ?_ ?_
                                            rotate_left
                                            · intro w'
                                              go_simp
                                              with_reducible rfl
                                            rotate_left
                                            · simp only [Act.put, List.setIfInBounds_toArray, List.set_cons_zero, List.set_cons_succ, i64_w, i32_w]
                                              rfl
                                            refine pure_ (i := 9) (N := some 179) (v := ?_) (a' := ?_) #[true, true, true, true, true, true, true, true, true, true, false, false] rfl rfl (any_of HT_.out (by kernel_rfl)) (fun _ _ _ h => h) (Or.inl ⟨by rfl, ?_⟩) ?_ ?_
                                            rotate_left
                                            · intro w'
                                              go_simp
                                              with_reducible rfl
                                            rotate_left
                                            · simp only [Act.put, List.setIfInBounds_toArray, List.set_cons_zero, List.set_cons_succ, i64_w, i32_w]
                                              rfl
                                            refine take_ (i := 10) (N := some 180) (v := ?_) (a' := ?_) #[true, true, true, true, true, true, true, true, true, true, true, false] rfl rfl (take_ofW HT_.out HW_.out (by kernel_rfl)) (fun _ _ _ h => h) (Or.inl ⟨by rfl, ?_⟩) hHeld ?_ ?_
                                            rotate_left
                                            · rintro w' ⟨s0, s1, s2⟩
                                              go_simp
                                              with_reducible rfl
                                            rotate_left
                                            · simp only [Act.put, List.setIfInBounds_toArray, List.set_cons_zero, List.set_cons_succ, i64_w, i32_w]
                                              rfl
                                            refine pure_ (i := 11) (N := some 24) (v := ?_) (a' := ?_) #[true, true, true, true, true, true, true, true, true, true, true, true] rfl rfl (any_of HT_.out (by kernel_rfl)) (fun _ _ _ h => h) (Or.inl ⟨by rfl, ?_⟩) ?_ ?_
                                            rotate_left
                                            · intro w'
                                              go_simp
                                              with_reducible rfl
                                            rotate_left
                                            · simp only [Act.put, List.setIfInBounds_toArray, List.set_cons_zero, List.set_cons_succ, i64_w, i32_w]
                                              rfl
                                            refine done_ (done_of HT_.out (by kernel_rfl)) ?_
                                            try go_wp2
                                            go_roundg k5
                                            case measure => have := HJ8.out; have := HK2.out; have := HK3.out; have := HJ34.out; have := HK5.out; omega
                                            case rel => exact ⟨(rd (rd_L1 t362 x24_5) (ji105)), (wrap64 (x25_5 + 1)), (by first | rfl | (simp; done) | (simp only [← hji105] <;> (first | rfl | simp)) | (simp [*]; done)), (by first | rfl | (simp; done) | (simp [*]; done)), H', ⟨by have := HJ8.out; have := HK2.out; have := HK3.out; have := HJ34.out; have := HK5.out; omega⟩, ⟨by (with_reducible repeat (first | apply Kd.S_alloc | apply Kd.S_drewN | apply Kd.S_drew)); exact HO_366000.out⟩, ⟨by (with_reducible repeat (first | refine blk_drewN ?_ _ | refine blk_drew ?_ | refine blk_alloc ?_ _)); exact BK365.out⟩, ⟨by repeat (first | (with_reducible first | exact HB.out | apply below_alloc | apply pw_below_drewN | apply below_drew1 | refine below_set ?_ GE365.out) | exact HB.out)⟩⟩
                                          · rw [if_neg c107] at H
                                            exact absurd H (by simp)
                                        · rw [if_neg c106] at H
                                          exact absurd H (by simp)
                                      · rw [if_neg c103] at H
                                        exact absurd H (by simp)
                                    · rw [if_neg c102] at H
                                      exact absurd H (by simp)
                                  · rw [if_neg c101] at H
                                    exact absurd H (by simp)
                                · rw [if_neg c100] at H
                                  have c100b0 : decide (0 ≤ x24_5) = false := decide_eq_false c100
                                  clear c100
                                  replace H := Option.bind_eq_some_iff.mp H
                                  obtain ⟨⟨t388, t389⟩, A1090, H⟩ := H
                                  replace H : (if t384 = true then (some false) else (if x11_2 = t368 then (if (t389 == (decide (x24_5 ≥ 0))) = true then (if t389 = true then (if t388 = x24_5 then ((impl_IsAllowed.f k5 t362 t366 t385).bind fun t390 => (some (t390 == t389))) else (some false)) else ((impl_IsAllowed.f k5 t362 t366 t385).bind fun t391 => (some (t391 == t389)))) else (some false)) else (some false))) = some r := H
                                  have A109 := Aside0.mk A1090
                                  clear A1090
                                  by_cases c110 : t384 = true
                                  · subst c110
                                    have H1 : (some false) = some r := by rw [if_pos rfl] at H; exact H
                                    clear H
                                    have H := H1
                                    clear H1
                                    obtain rfl := Option.some.inj H
                                    have hcz111_0 : wr.cell? ⟨gb365, 0, none⟩ = some (.slice Ao12 t362.length co12) := (blk_cell BK365.out 0).trans rfl
                                    have hfz111_0 := blk_frozen BK365.out 0
                                    go_wp2_with (first | ((with_reducible refine gate_callee (f := 15) rfl ?_); refine goesL_ (some 185) rfl rfl Tryd.func15 (by kernel_rfl) rfl #[.agg #[.slice Ao12 t362.length co12], .int .i64 t366, .string t385] rfl (by (try simp only [List.map_toArray, List.map_cons, List.map_nil]); first | done | rfl | (simp only [List.length_drop, List.length_take]; rfl)) ?_; (with_reducible refine (impl_StateBehind.calls k5 _ _ t362 t366 t385 t388 t389 _ ?side1 ?side2 A109.out).mono ?_); (case side1 => repeat (first | exact (Kd.S_reads' HO_366000.out).2.2 | (with_reducible refine Kd.C_alloc ?_ _) | (with_reducible refine Kd.C_drewN ?_ _) | (with_reducible refine Kd.C_drew ?_))); (case side2 => exact (Kd.S_reads' HO_366000.out).2.1); rintro e w112 ⟨rfl, hb⟩; refine ⟨_, rfl, ?_⟩; have n0_ := Aside0.mk (Kd.S_below (by (with_reducible repeat (first | apply Kd.S_alloc | apply Kd.S_drewN | apply Kd.S_drew)); exact HO_366000.out) hb); have n1_ := Aside0.mk (blk_below (g := gb365) (o := .cells #[.slice Ao12 t362.length co12] 27 (0, 0)) (by (with_reducible repeat (first | refine blk_drewN ?_ _ | refine blk_drew ?_ | refine blk_alloc ?_ _)); exact BK365.out) hb); have n2_ := Aside0.mk (below_step (by repeat (first | (with_reducible first | exact HB.out | apply below_alloc | apply pw_below_drewN | apply below_drew1 | refine below_set ?_ GE365.out) | exact HB.out)) hb); clear HO_366000; clear BK365; clear HB; have HO_366000 := n0_; have BK365 := n1_; have HB := n2_; clear n0_ n1_ n2_; (try clear hb); (try clear hb2); (try clear hk); (try clear hi)))
                                    go_ret
                                    exact ⟨by first | rfl | (simp [errW_none, errW_some] <;> rfl) | (simp [*, errW_none, errW_some] <;> rfl), by repeat (first | (with_reducible first | exact HB.out | apply below_alloc | apply pw_below_drewN | apply below_drew1 | refine below_set ?_ GE365.out) | exact HB.out)⟩
                                  · replace c110 := Bool.eq_false_iff.mpr c110
                                    subst c110
                                    have H1 : (if x11_2 = t368 then (if (t389 == (decide (x24_5 ≥ 0))) = true then (if t389 = true then (if t388 = x24_5 then ((impl_IsAllowed.f k5 t362 t366 t385).bind fun t390 => (some (t390 == t389))) else (some false)) else ((impl_IsAllowed.f k5 t362 t366 t385).bind fun t391 => (some (t391 == t389)))) else (some false)) else (some false)) = some r := by rw [if_neg (show ¬ (false = true) by decide)] at H; exact H
                                    clear H
                                    have H := H1
                                    clear H1
                                    by_cases c113 : x11_2 = t368
                                    · rw [if_pos c113] at H
                                      have c113b0 : (x11_2 == t368) = true := beq_iff_eq.mpr c113
                                      have c113b1 : (x11_2 != t368) = false := bne_eq_false_iff_eq.mpr c113
                                      clear c113
                                      by_cases c114 : (t389 == (decide (x24_5 ≥ 0))) = true
                                      · rw [if_pos c114] at H
                                        have c114b0 : (t389 == (decide (x24_5 ≥ 0))) = true := c114
                                        (try (have c114b1 : decide (t389 = (decide (x24_5 ≥ 0))) = true := by simpa using c114))
                                        (try (have c114b2 : (t389 == (decide (x24_5 ≥ 0))) = true := by simpa using c114))
                                        clear c114
                                        by_cases c115 : t389 = true
                                        · subst c115
                                          exact absurd c114b0 (by have h_ := of_decide_eq_false c100b0; rw [decide_eq_false (by omega)]; decide)
                                        · replace c115 := Bool.eq_false_iff.mpr c115
                                          subst c115
                                          have H1 : ((impl_IsAllowed.f k5 t362 t366 t385).bind fun t391 => (some (t391 == false))) = some r := by rw [if_neg (show ¬ (false = true) by decide)] at H; exact H
                                          clear H
                                          have H := H1
                                          clear H1
                                          replace H := Option.bind_eq_some_iff.mp H
                                          obtain ⟨t391, A1240, H⟩ := H
                                          replace H : (some (t391 == false)) = some r := H
                                          have A124 := Aside0.mk A1240
                                          clear A1240
                                          obtain rfl := Option.some.inj H
                                          have hcz125_0 : wr.cell? ⟨gb365, 0, none⟩ = some (.slice Ao12 t362.length co12) := (blk_cell BK365.out 0).trans rfl
                                          have hfz125_0 := blk_frozen BK365.out 0
                                          go_wp2_with (first | ((with_reducible refine gate_callee (f := 15) rfl ?_); refine goesL_ (some 185) rfl rfl Tryd.func15 (by kernel_rfl) rfl #[.agg #[.slice Ao12 t362.length co12], .int .i64 t366, .string t385] rfl (by (try simp only [List.map_toArray, List.map_cons, List.map_nil]); first | done | rfl | (simp only [List.length_drop, List.length_take]; rfl)) ?_; (with_reducible refine (impl_StateBehind.calls k5 _ _ t362 t366 t385 t388 false _ ?side1 ?side2 A109.out).mono ?_); (case side1 => repeat (first | exact (Kd.S_reads' HO_366000.out).2.2 | (with_reducible refine Kd.C_alloc ?_ _) | (with_reducible refine Kd.C_drewN ?_ _) | (with_reducible refine Kd.C_drew ?_))); (case side2 => exact (Kd.S_reads' HO_366000.out).2.1); rintro e w126 ⟨rfl, hb⟩; refine ⟨_, rfl, ?_⟩; have n0_ := Aside0.mk (Kd.S_below (by (with_reducible repeat (first | apply Kd.S_alloc | apply Kd.S_drewN | apply Kd.S_drew)); exact HO_366000.out) hb); have n1_ := Aside0.mk (blk_below (g := gb365) (o := .cells #[.slice Ao12 t362.length co12] 27 (0, 0)) (by (with_reducible repeat (first | refine blk_drewN ?_ _ | refine blk_drew ?_ | refine blk_alloc ?_ _)); exact BK365.out) hb); have n2_ := Aside0.mk (below_step (by repeat (first | (with_reducible first | exact HB.out | apply below_alloc | apply pw_below_drewN | apply below_drew1 | refine below_set ?_ GE365.out) | exact HB.out)) hb); clear HO_366000; clear BK365; clear HB; have HO_366000 := n0_; have BK365 := n1_; have HB := n2_; clear n0_ n1_ n2_; (try clear hb); (try clear hb2); (try clear hk); (try clear hi); have hcz127_0 : w126.cell? ⟨gb365, 0, none⟩ = some (.slice Ao12 t362.length co12) := (blk_cell BK365.out 0).trans rfl; have hfz127_0 := blk_frozen BK365.out 0) | (go_at_call 12; (with_reducible refine (impl_IsAllowed.calls k5 _ _ t362 t366 t385 t391 _ ?side1 ?side2 A124.out).mono ?_); (case side1 => repeat (first | exact (Kd.S_reads' HO_366000.out).2.2 | (with_reducible refine Kd.C_alloc ?_ _) | (with_reducible refine Kd.C_drewN ?_ _) | (with_reducible refine Kd.C_drew ?_))); (case side2 => exact (Kd.S_reads' HO_366000.out).2.1); rintro e w128 ⟨rfl, hb⟩; have n0_ := Aside0.mk (Kd.S_below (by (with_reducible repeat (first | apply Kd.S_alloc | apply Kd.S_drewN | apply Kd.S_drew)); exact HO_366000.out) hb); have n1_ := Aside0.mk (blk_below (g := gb365) (o := .cells #[.slice Ao12 t362.length co12] 27 (0, 0)) (by (with_reducible repeat (first | refine blk_drewN ?_ _ | refine blk_drew ?_ | refine blk_alloc ?_ _)); exact BK365.out) hb); have n2_ := Aside0.mk (below_step (by repeat (first | (with_reducible first | exact HB.out | apply below_alloc | apply pw_below_drewN | apply below_drew1 | refine below_set ?_ GE365.out) | exact HB.out)) hb); clear HO_366000; clear BK365; clear HB; have HO_366000 := n0_; have BK365 := n1_; have HB := n2_; clear n0_ n1_ n2_; (try clear hb); (try clear hb2); (try clear hk); (try clear hi)))
                                          go_ret
                                          exact ⟨by first | rfl | (simp [errW_none, errW_some] <;> rfl) | (simp [*, errW_none, errW_some] <;> rfl), by repeat (first | (with_reducible first | exact HB.out | apply below_alloc | apply pw_below_drewN | apply below_drew1 | refine below_set ?_ GE365.out) | exact HB.out)⟩
                                      · rw [if_neg c114] at H
                                        obtain rfl : t389 = true := by
                                          have h_ := of_decide_eq_false c100b0
                                          cases t389 with
                                          | true => rfl
                                          | false => exact absurd (by rw [decide_eq_false (by omega)]; rfl) c114
                                        have c114b0 : (true == (decide (x24_5 ≥ 0))) = false := by simpa using c114
                                        (try (have c114b1 : decide (true = (decide (x24_5 ≥ 0))) = false := by simpa using c114))
                                        (try (have c114b2 : (true == (decide (x24_5 ≥ 0))) = false := by simpa using c114))
                                        (try (have c114b3 : ¬ (true = (decide (x24_5 ≥ 0))) := by simpa using c114))
                                        clear c114
                                        obtain rfl := Option.some.inj H
                                        have hcz129_0 : wr.cell? ⟨gb365, 0, none⟩ = some (.slice Ao12 t362.length co12) := (blk_cell BK365.out 0).trans rfl
                                        have hfz129_0 := blk_frozen BK365.out 0
                                        go_wp2_with (first | ((with_reducible refine gate_callee (f := 15) rfl ?_); refine goesL_ (some 185) rfl rfl Tryd.func15 (by kernel_rfl) rfl #[.agg #[.slice Ao12 t362.length co12], .int .i64 t366, .string t385] rfl (by (try simp only [List.map_toArray, List.map_cons, List.map_nil]); first | done | rfl | (simp only [List.length_drop, List.length_take]; rfl)) ?_; (with_reducible refine (impl_StateBehind.calls k5 _ _ t362 t366 t385 t388 true _ ?side1 ?side2 A109.out).mono ?_); (case side1 => repeat (first | exact (Kd.S_reads' HO_366000.out).2.2 | (with_reducible refine Kd.C_alloc ?_ _) | (with_reducible refine Kd.C_drewN ?_ _) | (with_reducible refine Kd.C_drew ?_))); (case side2 => exact (Kd.S_reads' HO_366000.out).2.1); rintro e w130 ⟨rfl, hb⟩; refine ⟨_, rfl, ?_⟩; have n0_ := Aside0.mk (Kd.S_below (by (with_reducible repeat (first | apply Kd.S_alloc | apply Kd.S_drewN | apply Kd.S_drew)); exact HO_366000.out) hb); have n1_ := Aside0.mk (blk_below (g := gb365) (o := .cells #[.slice Ao12 t362.length co12] 27 (0, 0)) (by (with_reducible repeat (first | refine blk_drewN ?_ _ | refine blk_drew ?_ | refine blk_alloc ?_ _)); exact BK365.out) hb); have n2_ := Aside0.mk (below_step (by repeat (first | (with_reducible first | exact HB.out | apply below_alloc | apply pw_below_drewN | apply below_drew1 | refine below_set ?_ GE365.out) | exact HB.out)) hb); clear HO_366000; clear BK365; clear HB; have HO_366000 := n0_; have BK365 := n1_; have HB := n2_; clear n0_ n1_ n2_; (try clear hb); (try clear hb2); (try clear hk); (try clear hi)))
                                        go_ret
                                        exact ⟨by first | rfl | (simp [errW_none, errW_some] <;> rfl) | (simp [*, errW_none, errW_some] <;> rfl), by repeat (first | (with_reducible first | exact HB.out | apply below_alloc | apply pw_below_drewN | apply below_drew1 | refine below_set ?_ GE365.out) | exact HB.out)⟩
                                    · rw [if_neg c113] at H
                                      have c113b0 : (x11_2 == t368) = false := beq_eq_false_iff_ne.mpr c113
                                      have c113b1 : (x11_2 != t368) = true := bne_iff_ne.mpr c113
                                      obtain rfl := Option.some.inj H
                                      have hcz131_0 : wr.cell? ⟨gb365, 0, none⟩ = some (.slice Ao12 t362.length co12) := (blk_cell BK365.out 0).trans rfl
                                      have hfz131_0 := blk_frozen BK365.out 0
                                      go_wp2_with (first | ((with_reducible refine gate_callee (f := 15) rfl ?_); refine goesL_ (some 185) rfl rfl Tryd.func15 (by kernel_rfl) rfl #[.agg #[.slice Ao12 t362.length co12], .int .i64 t366, .string t385] rfl (by (try simp only [List.map_toArray, List.map_cons, List.map_nil]); first | done | rfl | (simp only [List.length_drop, List.length_take]; rfl)) ?_; (with_reducible refine (impl_StateBehind.calls k5 _ _ t362 t366 t385 t388 t389 _ ?side1 ?side2 A109.out).mono ?_); (case side1 => repeat (first | exact (Kd.S_reads' HO_366000.out).2.2 | (with_reducible refine Kd.C_alloc ?_ _) | (with_reducible refine Kd.C_drewN ?_ _) | (with_reducible refine Kd.C_drew ?_))); (case side2 => exact (Kd.S_reads' HO_366000.out).2.1); rintro e w132 ⟨rfl, hb⟩; refine ⟨_, rfl, ?_⟩; have n0_ := Aside0.mk (Kd.S_below (by (with_reducible repeat (first | apply Kd.S_alloc | apply Kd.S_drewN | apply Kd.S_drew)); exact HO_366000.out) hb); have n1_ := Aside0.mk (blk_below (g := gb365) (o := .cells #[.slice Ao12 t362.length co12] 27 (0, 0)) (by (with_reducible repeat (first | refine blk_drewN ?_ _ | refine blk_drew ?_ | refine blk_alloc ?_ _)); exact BK365.out) hb); have n2_ := Aside0.mk (below_step (by repeat (first | (with_reducible first | exact HB.out | apply below_alloc | apply pw_below_drewN | apply below_drew1 | refine below_set ?_ GE365.out) | exact HB.out)) hb); clear HO_366000; clear BK365; clear HB; have HO_366000 := n0_; have BK365 := n1_; have HB := n2_; clear n0_ n1_ n2_; (try clear hb); (try clear hb2); (try clear hk); (try clear hi)))
                                      go_ret
                                      exact ⟨by first | rfl | (simp [errW_none, errW_some] <;> rfl) | (simp [*, errW_none, errW_some] <;> rfl), by repeat (first | (with_reducible first | exact HB.out | apply below_alloc | apply pw_below_drewN | apply below_drew1 | refine below_set ?_ GE365.out) | exact HB.out)⟩
                              · rw [if_neg c99] at H
                                have c99b0 : decide (x25_5 < (t385.size : Int)) = false := decide_eq_false c99
                                clear c99
                                replace H := Option.bind_eq_some_iff.mp H
                                obtain ⟨⟨t392, t393⟩, A1330, H⟩ := H
                                replace H : (if t384 = true then (some false) else (if x11_2 = t368 then (if (t393 == (decide (x24_5 ≥ 0))) = true then (if t393 = true then (if t392 = x24_5 then ((impl_IsAllowed.f k5 t362 t366 t385).bind fun t394 => (some (t394 == t393))) else (some false)) else ((impl_IsAllowed.f k5 t362 t366 t385).bind fun t395 => (some (t395 == t393)))) else (some false)) else (some false))) = some r := H
                                have A133 := Aside0.mk A1330
                                clear A1330
                                by_cases c134 : t384 = true
                                · subst c134
                                  have H1 : (some false) = some r := by rw [if_pos rfl] at H; exact H
                                  clear H
                                  have H := H1
                                  clear H1
                                  obtain rfl := Option.some.inj H
                                  have hcz135_0 : wr.cell? ⟨gb365, 0, none⟩ = some (.slice Ao12 t362.length co12) := (blk_cell BK365.out 0).trans rfl
                                  have hfz135_0 := blk_frozen BK365.out 0
                                  go_wp2_with (first | ((with_reducible refine gate_callee (f := 15) rfl ?_); refine goesL_ (some 185) rfl rfl Tryd.func15 (by kernel_rfl) rfl #[.agg #[.slice Ao12 t362.length co12], .int .i64 t366, .string t385] rfl (by (try simp only [List.map_toArray, List.map_cons, List.map_nil]); first | done | rfl | (simp only [List.length_drop, List.length_take]; rfl)) ?_; (with_reducible refine (impl_StateBehind.calls k5 _ _ t362 t366 t385 t392 t393 _ ?side1 ?side2 A133.out).mono ?_); (case side1 => repeat (first | exact (Kd.S_reads' HO_366000.out).2.2 | (with_reducible refine Kd.C_alloc ?_ _) | (with_reducible refine Kd.C_drewN ?_ _) | (with_reducible refine Kd.C_drew ?_))); (case side2 => exact (Kd.S_reads' HO_366000.out).2.1); rintro e w136 ⟨rfl, hb⟩; refine ⟨_, rfl, ?_⟩; have n0_ := Aside0.mk (Kd.S_below (by (with_reducible repeat (first | apply Kd.S_alloc | apply Kd.S_drewN | apply Kd.S_drew)); exact HO_366000.out) hb); have n1_ := Aside0.mk (blk_below (g := gb365) (o := .cells #[.slice Ao12 t362.length co12] 27 (0, 0)) (by (with_reducible repeat (first | refine blk_drewN ?_ _ | refine blk_drew ?_ | refine blk_alloc ?_ _)); exact BK365.out) hb); have n2_ := Aside0.mk (below_step (by repeat (first | (with_reducible first | exact HB.out | apply below_alloc | apply pw_below_drewN | apply below_drew1 | refine below_set ?_ GE365.out) | exact HB.out)) hb); clear HO_366000; clear BK365; clear HB; have HO_366000 := n0_; have BK365 := n1_; have HB := n2_; clear n0_ n1_ n2_; (try clear hb); (try clear hb2); (try clear hk); (try clear hi)))
                                  go_ret
                                  exact ⟨by first | rfl | (simp [errW_none, errW_some] <;> rfl) | (simp [*, errW_none, errW_some] <;> rfl), by repeat (first | (with_reducible first | exact HB.out | apply below_alloc | apply pw_below_drewN | apply below_drew1 | refine below_set ?_ GE365.out) | exact HB.out)⟩
                                · replace c134 := Bool.eq_false_iff.mpr c134
                                  subst c134
                                  have H1 : (if x11_2 = t368 then (if (t393 == (decide (x24_5 ≥ 0))) = true then (if t393 = true then (if t392 = x24_5 then ((impl_IsAllowed.f k5 t362 t366 t385).bind fun t394 => (some (t394 == t393))) else (some false)) else ((impl_IsAllowed.f k5 t362 t366 t385).bind fun t395 => (some (t395 == t393)))) else (some false)) else (some false)) = some r := by rw [if_neg (show ¬ (false = true) by decide)] at H; exact H
                                  clear H
                                  have H := H1
                                  clear H1
                                  by_cases c137 : x11_2 = t368
                                  · rw [if_pos c137] at H
                                    have c137b0 : (x11_2 == t368) = true := beq_iff_eq.mpr c137
                                    have c137b1 : (x11_2 != t368) = false := bne_eq_false_iff_eq.mpr c137
                                    clear c137
                                    by_cases c138 : (t393 == (decide (x24_5 ≥ 0))) = true
                                    · rw [if_pos c138] at H
                                      have c138b0 : (t393 == (decide (x24_5 ≥ 0))) = true := c138
                                      (try (have c138b1 : decide (t393 = (decide (x24_5 ≥ 0))) = true := by simpa using c138))
                                      (try (have c138b2 : (t393 == (decide (x24_5 ≥ 0))) = true := by simpa using c138))
                                      clear c138
                                      by_cases c139 : t393 = true
                                      · subst c139
                                        have H1 : (if t392 = x24_5 then ((impl_IsAllowed.f k5 t362 t366 t385).bind fun t394 => (some (t394 == true))) else (some false)) = some r := by rw [if_pos rfl] at H; exact H
                                        clear H
                                        have H := H1
                                        clear H1
                                        by_cases c140 : t392 = x24_5
                                        · rw [if_pos c140] at H
                                          have c140b0 : (t392 == x24_5) = true := beq_iff_eq.mpr c140
                                          have c140b1 : (t392 != x24_5) = false := bne_eq_false_iff_eq.mpr c140
                                          clear c140
                                          replace H := Option.bind_eq_some_iff.mp H
                                          obtain ⟨t394, A1410, H⟩ := H
                                          replace H : (some (t394 == true)) = some r := H
                                          have A141 := Aside0.mk A1410
                                          clear A1410
                                          obtain rfl := Option.some.inj H
                                          have hcz142_0 : wr.cell? ⟨gb365, 0, none⟩ = some (.slice Ao12 t362.length co12) := (blk_cell BK365.out 0).trans rfl
                                          have hfz142_0 := blk_frozen BK365.out 0
                                          go_wp2_with (first | ((with_reducible refine gate_callee (f := 15) rfl ?_); refine goesL_ (some 185) rfl rfl Tryd.func15 (by kernel_rfl) rfl #[.agg #[.slice Ao12 t362.length co12], .int .i64 t366, .string t385] rfl (by (try simp only [List.map_toArray, List.map_cons, List.map_nil]); first | done | rfl | (simp only [List.length_drop, List.length_take]; rfl)) ?_; (with_reducible refine (impl_StateBehind.calls k5 _ _ t362 t366 t385 t392 true _ ?side1 ?side2 A133.out).mono ?_); (case side1 => repeat (first | exact (Kd.S_reads' HO_366000.out).2.2 | (with_reducible refine Kd.C_alloc ?_ _) | (with_reducible refine Kd.C_drewN ?_ _) | (with_reducible refine Kd.C_drew ?_))); (case side2 => exact (Kd.S_reads' HO_366000.out).2.1); rintro e w143 ⟨rfl, hb⟩; refine ⟨_, rfl, ?_⟩; have n0_ := Aside0.mk (Kd.S_below (by (with_reducible repeat (first | apply Kd.S_alloc | apply Kd.S_drewN | apply Kd.S_drew)); exact HO_366000.out) hb); have n1_ := Aside0.mk (blk_below (g := gb365) (o := .cells #[.slice Ao12 t362.length co12] 27 (0, 0)) (by (with_reducible repeat (first | refine blk_drewN ?_ _ | refine blk_drew ?_ | refine blk_alloc ?_ _)); exact BK365.out) hb); have n2_ := Aside0.mk (below_step (by repeat (first | (with_reducible first | exact HB.out | apply below_alloc | apply pw_below_drewN | apply below_drew1 | refine below_set ?_ GE365.out) | exact HB.out)) hb); clear HO_366000; clear BK365; clear HB; have HO_366000 := n0_; have BK365 := n1_; have HB := n2_; clear n0_ n1_ n2_; (try clear hb); (try clear hb2); (try clear hk); (try clear hi); have hcz144_0 : w143.cell? ⟨gb365, 0, none⟩ = some (.slice Ao12 t362.length co12) := (blk_cell BK365.out 0).trans rfl; have hfz144_0 := blk_frozen BK365.out 0) | (go_at_call 12; (with_reducible refine (impl_IsAllowed.calls k5 _ _ t362 t366 t385 t394 _ ?side1 ?side2 A141.out).mono ?_); (case side1 => repeat (first | exact (Kd.S_reads' HO_366000.out).2.2 | (with_reducible refine Kd.C_alloc ?_ _) | (with_reducible refine Kd.C_drewN ?_ _) | (with_reducible refine Kd.C_drew ?_))); (case side2 => exact (Kd.S_reads' HO_366000.out).2.1); rintro e w145 ⟨rfl, hb⟩; have n0_ := Aside0.mk (Kd.S_below (by (with_reducible repeat (first | apply Kd.S_alloc | apply Kd.S_drewN | apply Kd.S_drew)); exact HO_366000.out) hb); have n1_ := Aside0.mk (blk_below (g := gb365) (o := .cells #[.slice Ao12 t362.length co12] 27 (0, 0)) (by (with_reducible repeat (first | refine blk_drewN ?_ _ | refine blk_drew ?_ | refine blk_alloc ?_ _)); exact BK365.out) hb); have n2_ := Aside0.mk (below_step (by repeat (first | (with_reducible first | exact HB.out | apply below_alloc | apply pw_below_drewN | apply below_drew1 | refine below_set ?_ GE365.out) | exact HB.out)) hb); clear HO_366000; clear BK365; clear HB; have HO_366000 := n0_; have BK365 := n1_; have HB := n2_; clear n0_ n1_ n2_; (try clear hb); (try clear hb2); (try clear hk); (try clear hi)))
                                          go_ret
                                          exact ⟨by first | rfl | (simp [errW_none, errW_some] <;> rfl) | (simp [*, errW_none, errW_some] <;> rfl), by repeat (first | (with_reducible first | exact HB.out | apply below_alloc | apply pw_below_drewN | apply below_drew1 | refine below_set ?_ GE365.out) | exact HB.out)⟩
                                        · rw [if_neg c140] at H
                                          have c140b0 : (t392 == x24_5) = false := beq_eq_false_iff_ne.mpr c140
                                          have c140b1 : (t392 != x24_5) = true := bne_iff_ne.mpr c140
                                          obtain rfl := Option.some.inj H
                                          have hcz146_0 : wr.cell? ⟨gb365, 0, none⟩ = some (.slice Ao12 t362.length co12) := (blk_cell BK365.out 0).trans rfl
                                          have hfz146_0 := blk_frozen BK365.out 0
                                          go_wp2_with (first | ((with_reducible refine gate_callee (f := 15) rfl ?_); refine goesL_ (some 185) rfl rfl Tryd.func15 (by kernel_rfl) rfl #[.agg #[.slice Ao12 t362.length co12], .int .i64 t366, .string t385] rfl (by (try simp only [List.map_toArray, List.map_cons, List.map_nil]); first | done | rfl | (simp only [List.length_drop, List.length_take]; rfl)) ?_; (with_reducible refine (impl_StateBehind.calls k5 _ _ t362 t366 t385 t392 true _ ?side1 ?side2 A133.out).mono ?_); (case side1 => repeat (first | exact (Kd.S_reads' HO_366000.out).2.2 | (with_reducible refine Kd.C_alloc ?_ _) | (with_reducible refine Kd.C_drewN ?_ _) | (with_reducible refine Kd.C_drew ?_))); (case side2 => exact (Kd.S_reads' HO_366000.out).2.1); rintro e w147 ⟨rfl, hb⟩; refine ⟨_, rfl, ?_⟩; have n0_ := Aside0.mk (Kd.S_below (by (with_reducible repeat (first | apply Kd.S_alloc | apply Kd.S_drewN | apply Kd.S_drew)); exact HO_366000.out) hb); have n1_ := Aside0.mk (blk_below (g := gb365) (o := .cells #[.slice Ao12 t362.length co12] 27 (0, 0)) (by (with_reducible repeat (first | refine blk_drewN ?_ _ | refine blk_drew ?_ | refine blk_alloc ?_ _)); exact BK365.out) hb); have n2_ := Aside0.mk (below_step (by repeat (first | (with_reducible first | exact HB.out | apply below_alloc | apply pw_below_drewN | apply below_drew1 | refine below_set ?_ GE365.out) | exact HB.out)) hb); clear HO_366000; clear BK365; clear HB; have HO_366000 := n0_; have BK365 := n1_; have HB := n2_; clear n0_ n1_ n2_; (try clear hb); (try clear hb2); (try clear hk); (try clear hi)))
                                          go_ret
                                          exact ⟨by first | rfl | (simp [errW_none, errW_some] <;> rfl) | (simp [*, errW_none, errW_some] <;> rfl), by repeat (first | (with_reducible first | exact HB.out | apply below_alloc | apply pw_below_drewN | apply below_drew1 | refine below_set ?_ GE365.out) | exact HB.out)⟩
                                      · replace c139 := Bool.eq_false_iff.mpr c139
                                        subst c139
                                        have H1 : ((impl_IsAllowed.f k5 t362 t366 t385).bind fun t395 => (some (t395 == false))) = some r := by rw [if_neg (show ¬ (false = true) by decide)] at H; exact H
                                        clear H
                                        have H := H1
                                        clear H1
                                        replace H := Option.bind_eq_some_iff.mp H
                                        obtain ⟨t395, A1480, H⟩ := H
                                        replace H : (some (t395 == false)) = some r := H
                                        have A148 := Aside0.mk A1480
                                        clear A1480
                                        obtain rfl := Option.some.inj H
                                        have hcz149_0 : wr.cell? ⟨gb365, 0, none⟩ = some (.slice Ao12 t362.length co12) := (blk_cell BK365.out 0).trans rfl
                                        have hfz149_0 := blk_frozen BK365.out 0
                                        go_wp2_with (first | ((with_reducible refine gate_callee (f := 15) rfl ?_); refine goesL_ (some 185) rfl rfl Tryd.func15 (by kernel_rfl) rfl #[.agg #[.slice Ao12 t362.length co12], .int .i64 t366, .string t385] rfl (by (try simp only [List.map_toArray, List.map_cons, List.map_nil]); first | done | rfl | (simp only [List.length_drop, List.length_take]; rfl)) ?_; (with_reducible refine (impl_StateBehind.calls k5 _ _ t362 t366 t385 t392 false _ ?side1 ?side2 A133.out).mono ?_); (case side1 => repeat (first | exact (Kd.S_reads' HO_366000.out).2.2 | (with_reducible refine Kd.C_alloc ?_ _) | (with_reducible refine Kd.C_drewN ?_ _) | (with_reducible refine Kd.C_drew ?_))); (case side2 => exact (Kd.S_reads' HO_366000.out).2.1); rintro e w150 ⟨rfl, hb⟩; refine ⟨_, rfl, ?_⟩; have n0_ := Aside0.mk (Kd.S_below (by (with_reducible repeat (first | apply Kd.S_alloc | apply Kd.S_drewN | apply Kd.S_drew)); exact HO_366000.out) hb); have n1_ := Aside0.mk (blk_below (g := gb365) (o := .cells #[.slice Ao12 t362.length co12] 27 (0, 0)) (by (with_reducible repeat (first | refine blk_drewN ?_ _ | refine blk_drew ?_ | refine blk_alloc ?_ _)); exact BK365.out) hb); have n2_ := Aside0.mk (below_step (by repeat (first | (with_reducible first | exact HB.out | apply below_alloc | apply pw_below_drewN | apply below_drew1 | refine below_set ?_ GE365.out) | exact HB.out)) hb); clear HO_366000; clear BK365; clear HB; have HO_366000 := n0_; have BK365 := n1_; have HB := n2_; clear n0_ n1_ n2_; (try clear hb); (try clear hb2); (try clear hk); (try clear hi); have hcz151_0 : w150.cell? ⟨gb365, 0, none⟩ = some (.slice Ao12 t362.length co12) := (blk_cell BK365.out 0).trans rfl; have hfz151_0 := blk_frozen BK365.out 0) | (go_at_call 12; (with_reducible refine (impl_IsAllowed.calls k5 _ _ t362 t366 t385 t395 _ ?side1 ?side2 A148.out).mono ?_); (case side1 => repeat (first | exact (Kd.S_reads' HO_366000.out).2.2 | (with_reducible refine Kd.C_alloc ?_ _) | (with_reducible refine Kd.C_drewN ?_ _) | (with_reducible refine Kd.C_drew ?_))); (case side2 => exact (Kd.S_reads' HO_366000.out).2.1); rintro e w152 ⟨rfl, hb⟩; have n0_ := Aside0.mk (Kd.S_below (by (with_reducible repeat (first | apply Kd.S_alloc | apply Kd.S_drewN | apply Kd.S_drew)); exact HO_366000.out) hb); have n1_ := Aside0.mk (blk_below (g := gb365) (o := .cells #[.slice Ao12 t362.length co12] 27 (0, 0)) (by (with_reducible repeat (first | refine blk_drewN ?_ _ | refine blk_drew ?_ | refine blk_alloc ?_ _)); exact BK365.out) hb); have n2_ := Aside0.mk (below_step (by repeat (first | (with_reducible first | exact HB.out | apply below_alloc | apply pw_below_drewN | apply below_drew1 | refine below_set ?_ GE365.out) | exact HB.out)) hb); clear HO_366000; clear BK365; clear HB; have HO_366000 := n0_; have BK365 := n1_; have HB := n2_; clear n0_ n1_ n2_; (try clear hb); (try clear hb2); (try clear hk); (try clear hi)))
                                        go_ret
                                        exact ⟨by first | rfl | (simp [errW_none, errW_some] <;> rfl) | (simp [*, errW_none, errW_some] <;> rfl), by repeat (first | (with_reducible first | exact HB.out | apply below_alloc | apply pw_below_drewN | apply below_drew1 | refine below_set ?_ GE365.out) | exact HB.out)⟩
                                    · rw [if_neg c138] at H
                                      have c138b0 : (t393 == (decide (x24_5 ≥ 0))) = false := by simpa using c138
                                      (try (have c138b1 : decide (t393 = (decide (x24_5 ≥ 0))) = false := by simpa using c138))
                                      (try (have c138b2 : (t393 == (decide (x24_5 ≥ 0))) = false := by simpa using c138))
                                      (try (have c138b3 : ¬ (t393 = (decide (x24_5 ≥ 0))) := by simpa using c138))
                                      clear c138
                                      obtain rfl := Option.some.inj H
                                      have hcz153_0 : wr.cell? ⟨gb365, 0, none⟩ = some (.slice Ao12 t362.length co12) := (blk_cell BK365.out 0).trans rfl
                                      have hfz153_0 := blk_frozen BK365.out 0
                                      go_wp2_with (first | ((with_reducible refine gate_callee (f := 15) rfl ?_); refine goesL_ (some 185) rfl rfl Tryd.func15 (by kernel_rfl) rfl #[.agg #[.slice Ao12 t362.length co12], .int .i64 t366, .string t385] rfl (by (try simp only [List.map_toArray, List.map_cons, List.map_nil]); first | done | rfl | (simp only [List.length_drop, List.length_take]; rfl)) ?_; (with_reducible refine (impl_StateBehind.calls k5 _ _ t362 t366 t385 t392 t393 _ ?side1 ?side2 A133.out).mono ?_); (case side1 => repeat (first | exact (Kd.S_reads' HO_366000.out).2.2 | (with_reducible refine Kd.C_alloc ?_ _) | (with_reducible refine Kd.C_drewN ?_ _) | (with_reducible refine Kd.C_drew ?_))); (case side2 => exact (Kd.S_reads' HO_366000.out).2.1); rintro e w154 ⟨rfl, hb⟩; refine ⟨_, rfl, ?_⟩; have n0_ := Aside0.mk (Kd.S_below (by (with_reducible repeat (first | apply Kd.S_alloc | apply Kd.S_drewN | apply Kd.S_drew)); exact HO_366000.out) hb); have n1_ := Aside0.mk (blk_below (g := gb365) (o := .cells #[.slice Ao12 t362.length co12] 27 (0, 0)) (by (with_reducible repeat (first | refine blk_drewN ?_ _ | refine blk_drew ?_ | refine blk_alloc ?_ _)); exact BK365.out) hb); have n2_ := Aside0.mk (below_step (by repeat (first | (with_reducible first | exact HB.out | apply below_alloc | apply pw_below_drewN | apply below_drew1 | refine below_set ?_ GE365.out) | exact HB.out)) hb); clear HO_366000; clear BK365; clear HB; have HO_366000 := n0_; have BK365 := n1_; have HB := n2_; clear n0_ n1_ n2_; (try clear hb); (try clear hb2); (try clear hk); (try clear hi)))
                                      go_ret
                                      exact ⟨by first | rfl | (simp [errW_none, errW_some] <;> rfl) | (simp [*, errW_none, errW_some] <;> rfl), by repeat (first | (with_reducible first | exact HB.out | apply below_alloc | apply pw_below_drewN | apply below_drew1 | refine below_set ?_ GE365.out) | exact HB.out)⟩
                                  · rw [if_neg c137] at H
                                    have c137b0 : (x11_2 == t368) = false := beq_eq_false_iff_ne.mpr c137
                                    have c137b1 : (x11_2 != t368) = true := bne_iff_ne.mpr c137
                                    obtain rfl := Option.some.inj H
                                    have hcz155_0 : wr.cell? ⟨gb365, 0, none⟩ = some (.slice Ao12 t362.length co12) := (blk_cell BK365.out 0).trans rfl
                                    have hfz155_0 := blk_frozen BK365.out 0
                                    go_wp2_with (first | ((with_reducible refine gate_callee (f := 15) rfl ?_); refine goesL_ (some 185) rfl rfl Tryd.func15 (by kernel_rfl) rfl #[.agg #[.slice Ao12 t362.length co12], .int .i64 t366, .string t385] rfl (by (try simp only [List.map_toArray, List.map_cons, List.map_nil]); first | done | rfl | (simp only [List.length_drop, List.length_take]; rfl)) ?_; (with_reducible refine (impl_StateBehind.calls k5 _ _ t362 t366 t385 t392 t393 _ ?side1 ?side2 A133.out).mono ?_); (case side1 => repeat (first | exact (Kd.S_reads' HO_366000.out).2.2 | (with_reducible refine Kd.C_alloc ?_ _) | (with_reducible refine Kd.C_drewN ?_ _) | (with_reducible refine Kd.C_drew ?_))); (case side2 => exact (Kd.S_reads' HO_366000.out).2.1); rintro e w156 ⟨rfl, hb⟩; refine ⟨_, rfl, ?_⟩; have n0_ := Aside0.mk (Kd.S_below (by (with_reducible repeat (first | apply Kd.S_alloc | apply Kd.S_drewN | apply Kd.S_drew)); exact HO_366000.out) hb); have n1_ := Aside0.mk (blk_below (g := gb365) (o := .cells #[.slice Ao12 t362.length co12] 27 (0, 0)) (by (with_reducible repeat (first | refine blk_drewN ?_ _ | refine blk_drew ?_ | refine blk_alloc ?_ _)); exact BK365.out) hb); have n2_ := Aside0.mk (below_step (by repeat (first | (with_reducible first | exact HB.out | apply below_alloc | apply pw_below_drewN | apply below_drew1 | refine below_set ?_ GE365.out) | exact HB.out)) hb); clear HO_366000; clear BK365; clear HB; have HO_366000 := n0_; have BK365 := n1_; have HB := n2_; clear n0_ n1_ n2_; (try clear hb); (try clear hb2); (try clear hk); (try clear hi)))
                                    go_ret
                                    exact ⟨by first | rfl | (simp [errW_none, errW_some] <;> rfl) | (simp [*, errW_none, errW_some] <;> rfl), by repeat (first | (with_reducible first | exact HB.out | apply below_alloc | apply pw_below_drewN | apply below_drew1 | refine below_set ?_ GE365.out) | exact HB.out)⟩

/-- THE ONE PURE STATEMENT of laws_FnRankedBits. -/
def laws_FnRankedBits.Pure : Prop := ∀ (l0 : List Int) (l1 : List Int), l0.length ≤ 9223372036854775807 → (∀ x ∈ l0, (Lit.int .u8 x).wf = true) → l1.length ≤ 9223372036854775807 → (∀ x ∈ l1, (Lit.int .u8 x).wf = true) → ∃ k, laws_FnRankedBits.f k l0 l1 = some true

end Go.Proofs.YtanndepgepgfoabDoor.QFnRankedBits
