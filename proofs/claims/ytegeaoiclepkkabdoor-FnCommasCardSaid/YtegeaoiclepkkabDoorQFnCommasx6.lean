/-
Each Go function that this text names answers as the Lean function beside it says,wherever that one answers; conditions: the arguments lie in memory as each theorem states it.
-/
import Derived.Test.YtegeaoiclepkkabDoorQFnCommasx0
import Derived.Test.YtegeaoiclepkkabDoorQFnCommasx1
import Derived.Test.YtegeaoiclepkkabDoorQFnCommasx3
import Derived.Test.YtegeaoiclepkkabDoorQFnCommasx4
import Derived.Test.YtegeaoiclepkkabDoorQFnCommasx5
namespace Go.Proofs.YtegeaoiclepkkabDoor.QFnCommas
open Go.RowKit Go.Proofs.YtegeaoiclepkkabDoorW.PrintWords Go.Proofs.YtegeaoiclepkkabDoorW.PrintLast Go.Proofs.YtegeaoiclepkkabDoorW.PrintMore
attribute [local go_sem] max2_int min2_int max_two min_two max_three min_three max_four min_four   -- for this text's walks alone
set_option linter.unusedVariables false
set_option linter.unusedSimpArgs false
theorem b6_0 {P : Prop} (h : P := by repeat (first | (with_reducible first | exact HK.out | apply KeepBut.set_ | apply keep_drewN | apply keep_drew | apply keep_alloc | refine keep_far ?_ GW165.out _ | refine keep_far ?_ GW196.out _) | exact HK.out)) : P := h
theorem b6_1 {P : Prop} (h : P := by (with_reducible repeat (first | refine blk_drewN ?_ _ | refine blk_drew ?_ | refine blk_alloc ?_ _)); exact BK165.out) : P := h
theorem b6_2 {P : Prop} (h : P := by repeat (first | (with_reducible first | exact HI0.out | apply IsS80.alloc | apply IsS80.drewN | apply IsS80.drew | apply IsS80.set_1 | apply IsS80.set_2 | refine IsS80.far ?_ NB0_165.out _ | refine IsS80.far ?_ NB0_196.out _) | exact HI0.out)) : P := h
theorem b6_3 {P : Prop} (h : P := by first | (with_reducible assumption) | assumption) : P := h
theorem b6_4 {P : Prop} (h : P := by (with_reducible repeat (first | refine blk_drewN ?_ _ | refine blk_drew ?_ | refine blk_alloc ?_ _)); exact BK196.out) : P := h
theorem b6_5 {P : Prop} (h : P := by repeat (first | (with_reducible first | exact HB.out | apply below_alloc | apply pw_below_drewN | apply below_drew1 | refine below_set ?_ (IsS80.ge HI0.out) | refine below_set ?_ GE165.out | refine below_set ?_ GE196.out) | exact HB.out)) : P := h
theorem b6_6 {P : Prop} (h : P := by repeat (first | (with_reducible first | exact HK.out | apply KeepBut.set_ | apply keep_drewN | apply keep_drew | apply keep_alloc | refine keep_far ?_ GW165.out _) | exact HK.out)) : P := h
theorem b6_7 {P : Prop} (h : P := by (try simp only [List.map_toArray,List.map_cons,List.map_nil]); first | done | rfl | (simp only [List.length_drop,List.length_take]; rfl)) : P := h
theorem b6_8 {P : Prop} (h : P := by (with_reducible repeat (first | apply Kd.R_alloc | apply Kd.R_drewN | apply Kd.R_drew)); exact HO_197002.out) : P := h
theorem b6_9 {P : Prop} (h : P := by (with_reducible repeat (first | apply Kd.R_alloc | apply Kd.R_drewN | apply Kd.R_drew)); exact HO_197003.out) : P := h
theorem b6_10 {P : Prop} (h : P := by (with_reducible repeat (first | refine blk_drewN ?_ _ | refine blk_drew ?_ | refine blk_alloc ?_ _)); refine blk_far ?_ (by have h_ := Kd.R_ne HO_197002.out BK165.out (by decide); intro e_; exact h_ (by rw [e_]; rfl)) _; (with_reducible repeat (first | refine blk_drewN ?_ _ | refine blk_drew ?_ | refine blk_alloc ?_ _)); exact BK165.out) : P := h
theorem b6_11 {P : Prop} (h : P := by (with_reducible repeat (first | refine blk_drewN ?_ _ | refine blk_drew ?_ | refine blk_alloc ?_ _)); refine blk_far ?_ (by have h_ := Kd.R_ne HO_197002.out BK196.out (by decide); intro e_; exact h_ (by rw [e_]; rfl)) _; (with_reducible repeat (first | refine blk_drewN ?_ _ | refine blk_drew ?_ | refine blk_alloc ?_ _)); exact BK196.out) : P := h
theorem b6_12 {P : Prop} (h : P := by (with_reducible repeat (first | refine blk_drewN ?_ _ | refine blk_drew ?_ | refine blk_alloc ?_ _)); refine blk_far ?_ NB165_196.out _; (with_reducible repeat (first | refine blk_drewN ?_ _ | refine blk_drew ?_ | refine blk_alloc ?_ _)); refine blk_far ?_ NB165_196.out _; (with_reducible repeat (first | refine blk_drewN ?_ _ | refine blk_drew ?_ | refine blk_alloc ?_ _)); refine blk_far ?_ NB165_196.out _; (with_reducible repeat (first | refine blk_drewN ?_ _ | refine blk_drew ?_ | refine blk_alloc ?_ _)); refine blk_far ?_ NB165_196.out _; (with_reducible repeat (first | refine blk_drewN ?_ _ | refine blk_drew ?_ | refine blk_alloc ?_ _)); exact BK165.out) : P := h
theorem b6_13 {P : Prop} (h : P := by (with_reducible repeat (first | refine blk_drewN ?_ _ | refine blk_drew ?_ | refine blk_alloc ?_ _)); refine blk_put (cs := #[.int .i64 t187,.int .i64 t188,.slice Ao28 t189.length co28,.slice none 0 0]) ?_ 3 _ rfl; (with_reducible repeat (first | refine blk_drewN ?_ _ | refine blk_drew ?_ | refine blk_alloc ?_ _)); refine blk_put (cs := #[.int .i64 t187,.int .i64 t188,.slice none 0 0,.slice none 0 0]) ?_ 2 _ rfl; (with_reducible repeat (first | refine blk_drewN ?_ _ | refine blk_drew ?_ | refine blk_alloc ?_ _)); refine blk_put (cs := #[.int .i64 t187,.int .i64 0,.slice none 0 0,.slice none 0 0]) ?_ 1 _ rfl; (with_reducible repeat (first | refine blk_drewN ?_ _ | refine blk_drew ?_ | refine blk_alloc ?_ _)); refine blk_put (cs := #[.int .i64 0,.int .i64 0,.slice none 0 0,.slice none 0 0]) ?_ 0 _ rfl; (with_reducible repeat (first | refine blk_drewN ?_ _ | refine blk_drew ?_ | refine blk_alloc ?_ _)); exact BK196.out) : P := h
theorem b6_14 {P : Prop} (h : P := by repeat (first | (with_reducible first | exact HB.out | apply below_alloc | apply pw_below_drewN | apply below_drew1 | refine below_set ?_ (Nat.le_trans HL.out GB51.out) | refine below_set ?_ (IsS80.ge HI0.out) | refine below_set ?_ GE165.out | refine below_set ?_ GE196.out) | exact HB.out)) : P := h
theorem b6_15 {P : Prop} (h : P := by repeat (first | (with_reducible first | exact HI0.out | apply IsS80.alloc | apply IsS80.drewN | apply IsS80.drew | apply IsS80.set_1 | apply IsS80.set_2 | refine IsS80.far ?_ HN0_go51.out _ | refine IsS80.far ?_ NB0_165.out _ | refine IsS80.far ?_ NB0_196.out _) | exact HI0.out)) : P := h
theorem b6_16 {P : Prop} (h : P := by repeat (first | (with_reducible first | exact HK.out | apply KeepBut.set_ | apply keep_drewN | apply keep_drew | apply keep_alloc | refine keep_far ?_ GB51.out _ | refine keep_far ?_ GW165.out _ | refine keep_far ?_ GW196.out _) | exact HK.out)) : P := h
theorem b6_17 {P : Prop} (h : P := by (with_reducible repeat (first | apply Kd.R_alloc | apply Kd.R_drewN | apply Kd.R_drew)); exact (Kd.R_mono (Kd.R_far (p := ⟨gb196,3,none⟩) (Kd.R_far (p := ⟨gb196,2,none⟩) (Kd.R_far (p := ⟨gb196,1,none⟩) (Kd.R_far (p := ⟨gb196,0,none⟩) (Kd.R_types HO191.out BK196.out (by decide)) (fun _ hk => hk.2) (.int .i64 t187)) (fun _ hk => hk.2) (.int .i64 t188)) (fun _ hk => hk.2) (.slice Ao28 t189.length co28)) (fun _ hk => hk.2) (.slice Ao29 t192.length co29)) (fun _ h_ => h_.1))) : P := h
theorem b6_18 {P : Prop} (h : P := by (with_reducible repeat (first | apply Kd.R_alloc | apply Kd.R_drewN | apply Kd.R_drew)); exact (Kd.R_mono (Kd.R_far (p := ⟨gb196,3,none⟩) (Kd.R_far (p := ⟨gb196,2,none⟩) (Kd.R_far (p := ⟨gb196,1,none⟩) (Kd.R_far (p := ⟨gb196,0,none⟩) (Kd.R_types HO194.out BK196.out (by decide)) (fun _ hk => hk.2) (.int .i64 t187)) (fun _ hk => hk.2) (.int .i64 t188)) (fun _ hk => hk.2) (.slice Ao28 t189.length co28)) (fun _ hk => hk.2) (.slice Ao29 t192.length co29)) (fun _ h_ => h_.1))) : P := h
theorem b6_19 {P : Prop} (h : P := by (with_reducible repeat (first | apply Kd.R_alloc | apply Kd.R_drewN | apply Kd.R_drew)); exact Kd.R_mono (Kd.R_far (p := ⟨go51,(t209 : Int).toNat,none⟩) (Kd.R_mono HO_197003.out (fun k_ hk => (⟨hk,fun e_ => hk (by rw [e_]; rfl)⟩ : _ ∧ k_ ≠ go51))) (fun _ hk => hk.2) (.string (rdOf ByteArray.empty x197002_3 t212))) (fun _ hk => hk.1)) : P := h
theorem b6_20 {P : Prop} (h : P := by repeat (first | (with_reducible first | exact HI0.out | apply IsS80.alloc | apply IsS80.drewN | apply IsS80.drew | apply IsS80.set_1 | apply IsS80.set_2 | refine IsS80.far ?_ NB0_165.out _) | exact HI0.out)) : P := h
theorem b6_21 {P : Prop} (h : P := by repeat (first | (with_reducible first | exact HB.out | apply below_alloc | apply pw_below_drewN | apply below_drew1 | refine below_set ?_ (IsS80.ge HI0.out) | refine below_set ?_ GE165.out) | exact HB.out)) : P := h
theorem b6_22 {P : Prop} (h : P := by (with_reducible repeat (first | apply Kd.R_alloc | apply Kd.R_drewN | apply Kd.R_drew)); exact Kd.R_mono HO_197003.out (fun _ hk => ⟨trivial,hk⟩)) : P := h
theorem b6_23 {P : Prop} (h : P := by (with_reducible repeat (first | refine blk_drewN ?_ _ | refine blk_drew ?_ | refine blk_alloc ?_ _)); refine blk_far ?_ (by have h_ := Kd.R_ne HO_197003.out BK165.out (by decide); intro e_; exact h_ (by rw [e_]; rfl)) _; (with_reducible repeat (first | refine blk_drewN ?_ _ | refine blk_drew ?_ | refine blk_alloc ?_ _)); exact BK165.out) : P := h
theorem b6_24 {P : Prop} (h : P := by (with_reducible repeat (first | refine blk_drewN ?_ _ | refine blk_drew ?_ | refine blk_alloc ?_ _)); refine blk_far ?_ (by have h_ := Kd.R_ne HO_197003.out BK196.out (by decide); intro e_; exact h_ (by rw [e_]; rfl)) _; (with_reducible repeat (first | refine blk_drewN ?_ _ | refine blk_drew ?_ | refine blk_alloc ?_ _)); exact BK196.out) : P := h
theorem b6_25 {P : Prop} (h : P := by (with_reducible repeat (first | apply Kd.R_alloc | apply Kd.R_drewN | apply Kd.R_drew)); exact Kd.R_mono (Kd.R_far (p := ⟨go98,(t209 : Int).toNat,none⟩) (Kd.R_mono HO_197002.out (fun k_ hk => (⟨hk,fun e_ => hk (by rw [e_]; rfl)⟩ : _ ∧ k_ ≠ go98))) (fun _ hk => hk.2) (.string (rdOf ByteArray.empty x197003_3 t212))) (fun _ hk => hk.1)) : P := h
theorem b6_26 {P : Prop} (h : P := by (try simp only [List.map_toArray,List.map_cons,List.map_nil]); first | done | (rw [show y218.length = x197002_3.length from (Kd.R_reads' HO_197002.out).1.symm,show y230.length = x197003_3.length from (Kd.R_reads' HO_197003.out).1.symm] <;> rfl) | rfl | (simp only [List.length_drop,List.length_take]; rfl)) : P := h
theorem b6_27 {P : Prop} (h : P := by repeat (first | (with_reducible first | exact HB.out | apply below_alloc | apply pw_below_drewN | apply below_drew1 | refine below_set ?_ (Nat.le_trans HL.out GB98.out) | refine below_set ?_ (IsS80.ge HI0.out) | refine below_set ?_ GE165.out | refine below_set ?_ GE196.out) | exact HB.out)) : P := h
theorem b6_28 {P : Prop} (h : P := by repeat (first | (with_reducible first | exact HI0.out | apply IsS80.alloc | apply IsS80.drewN | apply IsS80.drew | apply IsS80.set_1 | apply IsS80.set_2 | refine IsS80.far ?_ HN0_go98.out _ | refine IsS80.far ?_ NB0_165.out _ | refine IsS80.far ?_ NB0_196.out _) | exact HI0.out)) : P := h
theorem b6_29 {P : Prop} (h : P := by repeat (first | (with_reducible first | exact HK.out | apply KeepBut.set_ | apply keep_drewN | apply keep_drew | apply keep_alloc | refine keep_far ?_ GB98.out _ | refine keep_far ?_ GW165.out _ | refine keep_far ?_ GW196.out _) | exact HK.out)) : P := h
theorem b6_30 {P : Prop} (h : P := by (try simp only [List.map_toArray,List.map_cons,List.map_nil]); first | done | (rw [show y218.length = x197002_3.length from (Kd.R_reads' HO_197002.out).1.symm] <;> rfl) | rfl | (simp only [List.length_drop,List.length_take]; rfl)) : P := h
theorem b6_31 {P : Prop} (h : P := by repeat (first | (with_reducible first | exact HK.out | apply KeepBut.set_ | apply keep_drewN | apply keep_drew | apply keep_alloc) | exact HK.out)) : P := h
theorem b6_32 {P : Prop} (h : P := by first | rfl | (simp; done) | (simp [*]; done)) : P := h
theorem b6_33 {P : Prop} (h : P := by (with_reducible repeat (first | apply Kd.R_alloc | apply Kd.R_drewN | apply Kd.R_drew)); exact HO177.out) : P := h
theorem b6_34 {P : Prop} (h : P := by (with_reducible repeat (first | apply Kd.R_alloc | apply Kd.R_drewN | apply Kd.R_drew)); exact Kd.R_mono HO_197003.out (fun _ hk => hk.2)) : P := h
theorem b6_35 {P : Prop} (h : P := by (with_reducible repeat (first | apply Kd.R_alloc | apply Kd.R_drewN | apply Kd.R_drew)); exact Kd.R_mono HO_197002.out (fun _ hk => ⟨trivial,hk⟩)) : P := h

/-! ### spec_l03DrawOk: function 23 -/
mutual
def spec_l03DrawOk.j0 : Nat → Int → Int → List Int → Int → Int → Option (Int × Int × List ByteArray × List ByteArray × Int × Int)
 | 0,_,_,_,_,_ => none
 | k + 1,x3,x4,x1000,x1001,x1002 => (spec_l03Make.f k x3 x4).bind fun bt187 => (if bt187.2.2.2.2 = true then (spec_l03DrawOk.j1 k x1000 x1001 x1002 bt187.1 bt187.2.1 bt187.2.2.1 bt187.2.2.2.1) else ((spec_l03Make.f k x3 6).bind fun bt197 => (spec_l03DrawOk.j1 k x1000 x1001 x1002 bt197.1 bt197.2.1 bt197.2.2.1 bt197.2.2.2.1)))
def spec_l03DrawOk.j1 : Nat → List Int → Int → Int → Int → Int → List ByteArray → List ByteArray → Option (Int × Int × List ByteArray × List ByteArray × Int × Int)
 | 0,_,_,_,_,_,_,_ => none
 | k + 1,x1000,x1001,x1002,x197000,x197001,x197002,x197003 => (spec_l00Src_pick.f x1000 x1001 x1002 4).bind fun bt206 => (spec_l03DrawOk.l0 k (x197002.length : Int) bt206.1 x1000 bt206.2.1 bt206.2.2 x197000 x197001 x197002 x197003)
def spec_l03DrawOk.l0 : Nat → Int → Int → List Int → Int → Int → Int → Int → List ByteArray → List ByteArray → Option (Int × Int × List ByteArray × List ByteArray × Int × Int)
 | 0,_,_,_,_,_,_,_,_,_ => none
 | k + 1,x7,x8,x1000,x1001,x1002,x197000,x197001,x197002,x197003 => if x8 > 0 then ((spec_l00Src_pick.f x1000 x1001 x1002 x7).bind fun bt209 => ((spec_l00Src_pick.f x1000 bt209.2.1 bt209.2.2 x7).bind fun bt212 => (if 0 ≤ bt209.1 then (if bt209.1 < (x197002.length : Int) then (if 0 ≤ bt212.1 then (if bt212.1 < (x197002.length : Int) then ((some ((x197002.set (bt209.1 : Int).toNat (rdOf ByteArray.empty x197002 bt212.1)).set (bt212.1 : Int).toNat (rdOf ByteArray.empty x197002 bt209.1) : List ByteArray)).bind fun y218 => ((spec_l00Src_one.f x1000 bt212.2.1 bt212.2.2 3).bind fun bt219 => (if bt219.1 = true then ((spec_l03Is.f k x197000 x197001 y218 x197003).bind fun t222 => (if t222 = true then (spec_l03DrawOk.l0 k x7 (wrap64 (x8 - 1)) x1000 bt219.2.1 bt219.2.2 x197000 x197001 y218 x197003) else (spec_l03DrawOk.l0 k x7 (wrap64 (x8 - 1)) x1000 bt219.2.1 bt219.2.2 x197000 x197001 ((y218.set (bt209.1 : Int).toNat (rdOf ByteArray.empty y218 bt212.1)).set (bt212.1 : Int).toNat (rdOf ByteArray.empty y218 bt209.1)) x197003))) else (if bt209.1 < (x197003.length : Int) then (if bt212.1 < (x197003.length : Int) then ((some ((x197003.set (bt209.1 : Int).toNat (rdOf ByteArray.empty x197003 bt212.1)).set (bt212.1 : Int).toNat (rdOf ByteArray.empty x197003 bt209.1) : List ByteArray)).bind fun y230 => ((spec_l03Is.f k x197000 x197001 y218 y230).bind fun t231 => (if t231 = true then (spec_l03DrawOk.l0 k x7 (wrap64 (x8 - 1)) x1000 bt219.2.1 bt219.2.2 x197000 x197001 y218 y230) else (spec_l03DrawOk.l0 k x7 (wrap64 (x8 - 1)) x1000 bt219.2.1 bt219.2.2 x197000 x197001 ((y218.set (bt209.1 : Int).toNat (rdOf ByteArray.empty y218 bt212.1)).set (bt212.1 : Int).toNat (rdOf ByteArray.empty y218 bt209.1)) y230)))) else (none)) else (none))))) else (none)) else (none)) else (none)) else (none)))) else (some (x197000,x197001,x197002,x197003,x1001,x1002))
end
def spec_l03DrawOk.f (k : Nat) (s0_0 : List Int) (s0_1 : Int) (s0_2 : Int) : Option (Int × Int × List ByteArray × List ByteArray × Int × Int) := (spec_l00Src_pick.f s0_0 s0_1 s0_2 3).bind fun bt166 => ((spec_l00Src_pick.f s0_0 bt166.2.1 bt166.2.2 3).bind fun bt169 => ((spec_l00Src_one.f s0_0 bt169.2.1 bt169.2.2 12).bind fun bt172 => (if bt172.1 = true then ((spec_l00Src_among.f s0_0 bt172.2.1 bt172.2.2 (([5,6] : List Int))).bind fun bt178 => ((spec_l00Src_among.f s0_0 bt178.2.1 bt178.2.2 (([8,10] : List Int))).bind fun bt184 => (spec_l03DrawOk.j0 k bt178.1 bt184.1 s0_0 bt184.2.1 bt184.2.2))) else (spec_l03DrawOk.j0 k (wrap64 (1 + bt166.1)) (wrap64 (2 * (wrap64 (1 + bt169.1)))) s0_0 bt172.2.1 bt172.2.2))))
def spec_l03DrawOk.T16 : Bool × List (List Nat × List Nat) := (true,[([],[]),([0],[0]),([],[]),([],[]),([3],[3]),([],[]),([4,5],[4,5]),([6],[6]),([1,2,0,1,2,3,4,5,6,7],[1,2]),([8,7,0,1,2,3,4,5,6,7],[7,8])])
def spec_l03DrawOk.B16 : List Nat := [0,1,0,0,8,0,56,120,255,511]
theorem spec_l03DrawOk.tab16 : rtab .any (opsOf Tryd.f23 16) = spec_l03DrawOk.T16 := by kernel_rfl
theorem spec_l03DrawOk.bits16 : waitsOk spec_l03DrawOk.T16.2 spec_l03DrawOk.B16 = true := by kernel_rfl
def spec_l03DrawOk.T20 : Bool × List (List Nat × List Nat) := (true,[([],[]),([0],[0]),([],[]),([],[]),([3],[3]),([],[]),([4,5],[4,5]),([6],[6]),([1,2,0,1,2,3,4,5,6,7],[1,2]),([8,7,0,1,2,3,4,5,6,7],[7,8])])
def spec_l03DrawOk.B20 : List Nat := [0,1,0,0,8,0,56,120,255,511]
theorem spec_l03DrawOk.tab20 : rtab .any (opsOf Tryd.f23 20) = spec_l03DrawOk.T20 := by kernel_rfl
theorem spec_l03DrawOk.bits20 : waitsOk spec_l03DrawOk.T20.2 spec_l03DrawOk.B20 = true := by kernel_rfl
def spec_l03DrawOk.T24 : Bool × List (List Nat × List Nat) := (true,[([],[]),([0],[0]),([],[]),([],[]),([3],[3]),([],[]),([4,5],[4,5]),([6],[6]),([1,2,0,1,2,3,4,5,6,7],[1,2]),([8,7,0,1,2,3,4,5,6,7],[7,8])])
def spec_l03DrawOk.B24 : List Nat := [0,1,0,0,8,0,56,120,255,511]
theorem spec_l03DrawOk.tab24 : rtab .any (opsOf Tryd.f23 24) = spec_l03DrawOk.T24 := by kernel_rfl
theorem spec_l03DrawOk.bits24 : waitsOk spec_l03DrawOk.T24.2 spec_l03DrawOk.B24 = true := by kernel_rfl
set_option maxHeartbeats 8000000 in
set_option maxRecDepth 100000 in
theorem spec_l03DrawOk.calls (k : Nat) (g : Nat) (s0_0 : List Int) (s0_1 : Int) (s0_2 : Int) (r1 : Int) (r2 : Int) (r3 : List ByteArray) (r4 : List ByteArray) (r5 : Int) (r6 : Int) (w0 w : World) (hI : IsS80 w0 w g s0_0 s0_1 s0_2) (hB : Below w0.heap.size w0 w) (h : spec_l03DrawOk.f k s0_0 s0_1 s0_2 = some (r1,r2,r3,r4,r5,r6)) :
  Calls Tryd.prog 23 #[.pointer (some ⟨g,0,none⟩)] w fun e w' => ∃ v2_ v3_ : Value,e = .returned (.agg #[.int .i64 r1,.int .i64 r2,v2_,v3_]) ∧ Kd.R Kd.string 9 w' w.heap.size (fun k_ => some k_ ≠ (v3_ : Value).ownBlock) v2_ r3 ∧ Kd.R Kd.string 9 w' w.heap.size (fun k_ => some k_ ≠ (v2_ : Value).ownBlock) v3_ r4 ∧ IsS80 w0 w' g s0_0 r5 r6 ∧ Below w0.heap.size w0 w' ∧ KeepBut w w' g none := by
 have hu26 := Tryd.underlying26
 have HI0 := Aside0.mk hI
 have HK := Aside0.mk (KeepBut.refl w g none)
 have HL := Aside0.mk hB.size
 clear hI
 have HW0 := Aside0.mk hB.size
 have HB := Aside0.mk hB
 clear hB
 have H : ((spec_l00Src_pick.f s0_0 s0_1 s0_2 3).bind fun bt166 => ((spec_l00Src_pick.f s0_0 bt166.2.1 bt166.2.2 3).bind fun bt169 => ((spec_l00Src_one.f s0_0 bt169.2.1 bt169.2.2 12).bind fun bt172 => (if bt172.1 = true then ((spec_l00Src_among.f s0_0 bt172.2.1 bt172.2.2 (([5,6] : List Int))).bind fun bt178 => ((spec_l00Src_among.f s0_0 bt178.2.1 bt178.2.2 (([8,10] : List Int))).bind fun bt184 => (spec_l03DrawOk.j0 k bt178.1 bt184.1 s0_0 bt184.2.1 bt184.2.2))) else (spec_l03DrawOk.j0 k (wrap64 (1 + bt166.1)) (wrap64 (2 * (wrap64 (1 + bt169.1)))) s0_0 bt172.2.1 bt172.2.2))))) = some (r1,r2,r3,r4,r5,r6) := h
 clear h
 replace H := Option.bind_eq_some_iff.mp H
 obtain ⟨⟨t166,t167,t168⟩,A20,H⟩ := H
 replace H : ((spec_l00Src_pick.f s0_0 t167 t168 3).bind fun bt169 => ((spec_l00Src_one.f s0_0 bt169.2.1 bt169.2.2 12).bind fun bt172 => (if bt172.1 = true then ((spec_l00Src_among.f s0_0 bt172.2.1 bt172.2.2 (([5,6] : List Int))).bind fun bt178 => ((spec_l00Src_among.f s0_0 bt178.2.1 bt178.2.2 (([8,10] : List Int))).bind fun bt184 => (spec_l03DrawOk.j0 k bt178.1 bt184.1 s0_0 bt184.2.1 bt184.2.2))) else (spec_l03DrawOk.j0 k (wrap64 (1 + t166)) (wrap64 (2 * (wrap64 (1 + bt169.1)))) s0_0 bt172.2.1 bt172.2.2)))) = some (r1,r2,r3,r4,r5,r6) := H
 have A2 := Aside0.mk A20
 clear A20
 replace H := Option.bind_eq_some_iff.mp H
 obtain ⟨⟨t169,t170,t171⟩,A30,H⟩ := H
 replace H : ((spec_l00Src_one.f s0_0 t170 t171 12).bind fun bt172 => (if bt172.1 = true then ((spec_l00Src_among.f s0_0 bt172.2.1 bt172.2.2 (([5,6] : List Int))).bind fun bt178 => ((spec_l00Src_among.f s0_0 bt178.2.1 bt178.2.2 (([8,10] : List Int))).bind fun bt184 => (spec_l03DrawOk.j0 k bt178.1 bt184.1 s0_0 bt184.2.1 bt184.2.2))) else (spec_l03DrawOk.j0 k (wrap64 (1 + t166)) (wrap64 (2 * (wrap64 (1 + t169)))) s0_0 bt172.2.1 bt172.2.2))) = some (r1,r2,r3,r4,r5,r6) := H
 have A3 := Aside0.mk A30
 clear A30
 replace H := Option.bind_eq_some_iff.mp H
 obtain ⟨⟨t172,t173,t174⟩,A40,H⟩ := H
 replace H : (if t172 = true then ((spec_l00Src_among.f s0_0 t173 t174 (([5,6] : List Int))).bind fun bt178 => ((spec_l00Src_among.f s0_0 bt178.2.1 bt178.2.2 (([8,10] : List Int))).bind fun bt184 => (spec_l03DrawOk.j0 k bt178.1 bt184.1 s0_0 bt184.2.1 bt184.2.2))) else (spec_l03DrawOk.j0 k (wrap64 (1 + t166)) (wrap64 (2 * (wrap64 (1 + t169)))) s0_0 t173 t174)) = some (r1,r2,r3,r4,r5,r6) := H
 have A4 := Aside0.mk A40
 clear A40
 have HC5 := Aside0.mk H
 clear H
 go_enter Tryd.func23,Tryd.ntmps23
 go_upto_if 20 with (first | ((with_reducible refine gate_dst (N := 2) rfl ?_); refine box_event ?hg (N := 2) ?hd (cs := #[.int .i64 0,.int .i64 0,.slice none 0 0,.slice none 0 0]) (t := 26) ?hr ?_; (case hd => rfl); (case hg => rfl); (case hr => first | (go_simp; done) | (go_simp; rfl)); intro gb165 hg w6 hbox hb; have n0_ := Aside0.mk (IsS80.below (by repeat (first | (with_reducible first | exact HI0.out | apply IsS80.alloc | apply IsS80.drewN | apply IsS80.drew | apply IsS80.set_1 | apply IsS80.set_2) | exact HI0.out)) hb); have n1_ := Aside0.mk (KeepBut.trans b6_31 (KeepBut.of_below hb g none) (.inl rfl)); have n2_ := Aside0.mk (below_step (by repeat (first | (with_reducible first | exact HB.out | apply below_alloc | apply pw_below_drewN | apply below_drew1 | refine below_set ?_ (IsS80.ge HI0.out)) | exact HB.out)) hb); have n3_ := Aside0.mk (hbox); have n4_ := Aside0.mk ((by rw [hg]; exact (keep_size (w := w) (g := g) (row := none) b6_31) : w.heap.size ≤ gb165)); have n5_ := Aside0.mk ((Nat.le_trans HW0.out (by rw [hg]; exact (keep_size (w := w) (g := g) (row := none) b6_31) : w.heap.size ≤ gb165) : w0.heap.size ≤ gb165)); have n6_ := Aside0.mk ((by rw [hg]; exact Nat.ne_of_lt (IsS80.lt (show IsS80 w0 _ g s0_0 s0_1 s0_2 from by repeat (first | (with_reducible first | exact HI0.out | apply IsS80.alloc | apply IsS80.drewN | apply IsS80.drew | apply IsS80.set_1 | apply IsS80.set_2) | exact HI0.out))) : g ≠ gb165)); have n7_ := Aside0.mk ((by rw [hg]; exact Nat.ne_of_gt (IsS80.lt (show IsS80 w0 _ g s0_0 s0_1 s0_2 from by repeat (first | (with_reducible first | exact HI0.out | apply IsS80.alloc | apply IsS80.drewN | apply IsS80.drew | apply IsS80.set_1 | apply IsS80.set_2) | exact HI0.out))) : gb165 ≠ g)); clear HI0; clear HK; clear HB; have HI0 := n0_; have HK := n1_; have HB := n2_; have BK165 := n3_; have GW165 := n4_; have GE165 := n5_; have NB0_165 := n6_; have NB165_0 := n7_; clear n0_ n1_ n2_ n3_ n4_ n5_ n6_ n7_; clear hb hbox hg) | ((with_reducible refine gate_callee (f := 24) rfl ?_); refine goesL_ (some 13) rfl rfl Tryd.func24 (by kernel_rfl) rfl #[.pointer (some ⟨g,0,none⟩),.int .i64 3] rfl b6_7 ?_; (with_reducible refine (spec_l00Src_pick.calls g s0_0 s0_1 s0_2 3 t166 t167 t168 w0 _ ?side1 ?side2 A2.out).mono ?_); (case side1 => repeat (first | (with_reducible first | exact HI0.out | apply IsS80.alloc | apply IsS80.drewN | apply IsS80.drew | apply IsS80.set_1 | apply IsS80.set_2 | refine IsS80.far ?_ NB0_165.out _) | exact HI0.out)); (case side2 => repeat (first | (with_reducible first | exact HB.out | apply below_alloc | apply pw_below_drewN | apply below_drew1 | refine below_set ?_ (IsS80.ge HI0.out) | refine below_set ?_ GE165.out) | exact HB.out)); rintro e w7 ⟨rfl,hi,hb,hk⟩; refine ⟨_,rfl,?_⟩; have n0_ := Aside0.mk (KeepBut.blk hk (g' := gb165) (o := .cells #[.int .i64 0,.int .i64 0,.slice none 0 0,.slice none 0 0] 26 (0,0)) b6_1 NB165_0.out (by simp)); have n1_ := Aside0.mk (KeepBut.trans b6_6 hk (.inl rfl)); have n2_ := Aside0.mk (hb); have n3_ := Aside0.mk (hi); clear BK165; clear HK; clear HB; clear HI0; have BK165 := n0_; have HK := n1_; have HB := n2_; have HI0 := n3_; clear n0_ n1_ n2_ n3_; (try clear hb); (try clear hb2); (try clear hk); (try clear hi)) | ((with_reducible refine gate_callee (f := 24) rfl ?_); refine goesL_ (some 16) rfl rfl Tryd.func24 (by kernel_rfl) rfl #[.pointer (some ⟨g,0,none⟩),.int .i64 3] rfl b6_7 ?_; (with_reducible refine (spec_l00Src_pick.calls g s0_0 t167 t168 3 t169 t170 t171 w0 _ ?side1 ?side2 A3.out).mono ?_); (case side1 => repeat (first | (with_reducible first | exact HI0.out | apply IsS80.alloc | apply IsS80.drewN | apply IsS80.drew | apply IsS80.set_1 | apply IsS80.set_2 | refine IsS80.far ?_ NB0_165.out _) | exact HI0.out)); (case side2 => repeat (first | (with_reducible first | exact HB.out | apply below_alloc | apply pw_below_drewN | apply below_drew1 | refine below_set ?_ (IsS80.ge HI0.out) | refine below_set ?_ GE165.out) | exact HB.out)); rintro e w8 ⟨rfl,hi,hb,hk⟩; refine ⟨_,rfl,?_⟩; have n0_ := Aside0.mk (KeepBut.blk hk (g' := gb165) (o := .cells #[.int .i64 0,.int .i64 0,.slice none 0 0,.slice none 0 0] 26 (0,0)) b6_1 NB165_0.out (by simp)); have n1_ := Aside0.mk (KeepBut.trans b6_6 hk (.inl rfl)); have n2_ := Aside0.mk (hb); have n3_ := Aside0.mk (hi); clear BK165; clear HK; clear HB; clear HI0; have BK165 := n0_; have HK := n1_; have HB := n2_; have HI0 := n3_; clear n0_ n1_ n2_ n3_; (try clear hb); (try clear hb2); (try clear hk); (try clear hi)) | ((with_reducible refine gate_callee (f := 47) rfl ?_); refine goesL_ (some 20) rfl rfl Tryd.func47 (by kernel_rfl) rfl #[.pointer (some ⟨g,0,none⟩),.int .i64 12] rfl b6_7 ?_; (with_reducible refine (spec_l00Src_one.calls g s0_0 t170 t171 12 t172 t173 t174 w0 _ ?side1 ?side2 A4.out).mono ?_); (case side1 => repeat (first | (with_reducible first | exact HI0.out | apply IsS80.alloc | apply IsS80.drewN | apply IsS80.drew | apply IsS80.set_1 | apply IsS80.set_2 | refine IsS80.far ?_ NB0_165.out _) | exact HI0.out)); (case side2 => repeat (first | (with_reducible first | exact HB.out | apply below_alloc | apply pw_below_drewN | apply below_drew1 | refine below_set ?_ (IsS80.ge HI0.out) | refine below_set ?_ GE165.out) | exact HB.out)); rintro e w9 ⟨rfl,hi,hb,hk⟩; refine ⟨_,rfl,?_⟩; have n0_ := Aside0.mk (KeepBut.blk hk (g' := gb165) (o := .cells #[.int .i64 0,.int .i64 0,.slice none 0 0,.slice none 0 0] 26 (0,0)) b6_1 NB165_0.out (by simp)); have n1_ := Aside0.mk (KeepBut.trans b6_6 hk (.inl rfl)); have n2_ := Aside0.mk (hb); have n3_ := Aside0.mk (hi); clear BK165; clear HK; clear HB; clear HI0; have BK165 := n0_; have HK := n1_; have HB := n2_; have HI0 := n3_; clear n0_ n1_ n2_ n3_; (try clear hb); (try clear hb2); (try clear hk); (try clear hi)))
 (try simp only [Act.put,List.setIfInBounds_toArray,List.set_cons_zero,List.set_cons_succ])
 go_cut [3,4] (fun v3 v4 wc => ∃ (kq : Nat) (x3_4 : Int) (x4_4 : Int) (x1001_4 : Int) (x1002_4 : Int),v3 = .int .i64 x3_4 ∧ v4 = .int .i64 x4_4 ∧ Aside0 (spec_l03DrawOk.j0 kq x3_4 x4_4 s0_0 x1001_4 x1002_4 = some (r1,r2,r3,r4,r5,r6)) ∧ Aside0 (kq ≤ k) ∧ Aside0 (wc.heap[gb165]? = some (.cells #[.int .i64 0,.int .i64 0,(.slice none 0 0),(.slice none 0 0)] 26 (0,0))) ∧ Aside0 (IsS80 w0 wc g s0_0 x1001_4 x1002_4) ∧ Aside0 (KeepBut w wc g none) ∧ Aside0 (Below w0.heap.size w0 wc))
 case first =>
  have H := HC5.out
  clear HC5
  by_cases c10 : t172 = true
  ·subst c10
   have H1 : ((spec_l00Src_among.f s0_0 t173 t174 (([5,6] : List Int))).bind fun bt178 => ((spec_l00Src_among.f s0_0 bt178.2.1 bt178.2.2 (([8,10] : List Int))).bind fun bt184 => (spec_l03DrawOk.j0 k bt178.1 bt184.1 s0_0 bt184.2.1 bt184.2.2))) = some (r1,r2,r3,r4,r5,r6) := by rw [if_pos rfl] at H; exact H
   clear H
   have H := H1
   clear H1
   obtain ⟨y175,hy175⟩ : ∃ y_ : List Int,y_ = (([5,6] : List Int)) := ⟨_,rfl⟩
   replace H : ((spec_l00Src_among.f s0_0 t173 t174 y175).bind fun bt178 => ((spec_l00Src_among.f s0_0 bt178.2.1 bt178.2.2 (([8,10] : List Int))).bind fun bt184 => (spec_l03DrawOk.j0 k bt178.1 bt184.1 s0_0 bt184.2.1 bt184.2.2))) = some (r1,r2,r3,r4,r5,r6) := by first | (rw [hy175]; with_reducible exact H) | (have H2_ := (Option.bind_some _ _).symm.trans H; rw [hy175]; with_reducible exact H2_) | (have H2_ := (Option.bind_some _ _).symm.trans H; with_reducible exact H2_) | with_reducible exact H | (rw [hy175]; exact H) | exact H
   have Ny175 := Aside0.mk hy175
   clear hy175
   replace H := Option.bind_eq_some_iff.mp H
   obtain ⟨⟨t178,t179,t180⟩,A110,H⟩ := H
   replace H : ((spec_l00Src_among.f s0_0 t179 t180 (([8,10] : List Int))).bind fun bt184 => (spec_l03DrawOk.j0 k t178 bt184.1 s0_0 bt184.2.1 bt184.2.2)) = some (r1,r2,r3,r4,r5,r6) := H
   have A11 := Aside0.mk A110
   clear A110
   obtain ⟨y181,hy181⟩ : ∃ y_ : List Int,y_ = (([8,10] : List Int)) := ⟨_,rfl⟩
   replace H : ((spec_l00Src_among.f s0_0 t179 t180 y181).bind fun bt184 => (spec_l03DrawOk.j0 k t178 bt184.1 s0_0 bt184.2.1 bt184.2.2)) = some (r1,r2,r3,r4,r5,r6) := by first | (rw [hy181]; with_reducible exact H) | (have H2_ := (Option.bind_some _ _).symm.trans H; rw [hy181]; with_reducible exact H2_) | (have H2_ := (Option.bind_some _ _).symm.trans H; with_reducible exact H2_) | with_reducible exact H | (rw [hy181]; exact H) | exact H
   have Ny181 := Aside0.mk hy181
   clear hy181
   replace H := Option.bind_eq_some_iff.mp H
   obtain ⟨⟨t184,t185,t186⟩,A120,H⟩ := H
   replace H : (spec_l03DrawOk.j0 k t178 t184 s0_0 t185 t186) = some (r1,r2,r3,r4,r5,r6) := H
   have A12 := Aside0.mk A120
   clear A120
   have H' := Aside0.mk H
   clear H
   go_wp2_with (first | ((with_reducible refine gate_dst (N := 22) rfl ?_); refine Kd.R_lit (Kd.int .i64) _ 2 ?hg (N := 22) ?hd (xs := ([5,6] : List Int)) (inner := [.int .i64 5,.int .i64 6]) (ok := fun _ => True) (okp := fun _ => True) ?hr ?hp (fun _ hk => hk) trivial (Below.refl _ _) (Nat.le_refl _) (by simp) ?_; (case hd => rfl); (case hg => rfl); (case hr => first | (go_simp; done) | (go_simp; rfl)); (case hp => exact (Reps.one (show Kd.M (Kd.int .i64) _ _ _ 5 [.int .i64 5] from rfl) (Reps.one (show Kd.M (Kd.int .i64) _ _ _ 6 [.int .i64 6] from rfl) (Reps.none _ _)))); intro v176 w13 ho14 hb hg_ hnew_; clear hg_ hnew_; (first | rw [← Ny175.out] at ho14 | (simp only [Int.reduceToNat] at ho14; rw [← Ny175.out] at ho14)); have n0_ := Aside0.mk (Kd.R_lower ho14 (keep_size (w := w) (g := g) (row := none) b6_6)); have n1_ := Aside0.mk (IsS80.below b6_20 hb); have n2_ := Aside0.mk (blk_below (g := gb165) (o := .cells #[.int .i64 0,.int .i64 0,.slice none 0 0,.slice none 0 0] 26 (0,0)) b6_1 hb); have n3_ := Aside0.mk (KeepBut.trans b6_6 (KeepBut.of_below hb g none) (.inl rfl)); have n4_ := Aside0.mk (below_step b6_21 hb); clear HI0; clear BK165; clear HK; clear HB; have HO177 := n0_; have HI0 := n1_; have BK165 := n2_; have HK := n3_; have HB := n4_; clear n0_ n1_ n2_ n3_ n4_; clear hb ho14; obtain ⟨Ao15,co15,eo15⟩ := Kd.R_slice HO177.out; subst eo15) | ((with_reducible refine gate_callee (f := 48) rfl ?_); refine goesL_ (some 23) rfl rfl Tryd.func48 (by kernel_rfl) rfl #[.pointer (some ⟨g,0,none⟩),.slice Ao15 y175.length co15] rfl b6_7 ?_; (with_reducible refine (spec_l00Src_among.calls g s0_0 t173 t174 _ _ y175 t178 t179 t180 w0 _ ?side1 ?side2 ?side3 ?side4 ?side5 A11.out).mono ?_); (case side1 => repeat (first | (with_reducible first | exact HI0.out | apply IsS80.alloc | apply IsS80.drewN | apply IsS80.drew | apply IsS80.set_1 | apply IsS80.set_2 | refine IsS80.far ?_ NB0_165.out _) | exact HI0.out)); (case side2 => repeat (first | (with_reducible first | exact HB.out | apply below_alloc | apply pw_below_drewN | apply below_drew1 | refine below_set ?_ (IsS80.ge HI0.out) | refine below_set ?_ GE165.out) | exact HB.out)); (case side3 => repeat (first | exact (Kd.R_reads' HO177.out).2.2 | (with_reducible refine Kd.C_alloc ?_ _) | (with_reducible refine Kd.C_drewN ?_ _) | (with_reducible refine Kd.C_drew ?_))); (case side4 => exact (Kd.R_reads' HO177.out).2.1); (case side5 => exact far_slice (IsS80.own_ne HI0.out HO177.out (by decide))); rintro e w16 ⟨rfl,hi,hb,hk⟩; refine ⟨_,rfl,?_⟩; have n0_ := Aside0.mk (KeepBut.blk hk (g' := gb165) (o := .cells #[.int .i64 0,.int .i64 0,.slice none 0 0,.slice none 0 0] 26 (0,0)) b6_1 NB165_0.out (by simp)); have n1_ := Aside0.mk (Kd.R_mono (Kd.R_keep (IsS80.apart (show IsS80 w0 _ g s0_0 t173 t174 from by repeat (first | (with_reducible first | exact HI0.out | apply IsS80.alloc | apply IsS80.drewN | apply IsS80.drew | apply IsS80.set_1 | apply IsS80.set_2 | refine IsS80.far ?_ NB0_165.out _) | exact HI0.out)) b6_33 (by decide)) hk (fun _ h => h.2)) (fun _ h => h.1)); have n2_ := Aside0.mk (KeepBut.trans b6_6 hk (.inl rfl)); have n3_ := Aside0.mk (hb); have n4_ := Aside0.mk (hi); clear BK165; clear HO177; clear HK; clear HB; clear HI0; have BK165 := n0_; have HO177 := n1_; have HK := n2_; have HB := n3_; have HI0 := n4_; clear n0_ n1_ n2_ n3_ n4_; (try clear hb); (try clear hb2); (try clear hk); (try clear hi)) | ((with_reducible refine gate_dst (N := 25) rfl ?_); refine Kd.R_lit (Kd.int .i64) _ 2 ?hg (N := 25) ?hd (xs := ([8,10] : List Int)) (inner := [.int .i64 8,.int .i64 10]) (ok := fun _ => True) (okp := fun _ => True) ?hr ?hp (fun _ hk => hk) trivial (Below.refl _ _) (Nat.le_refl _) (by simp) ?_; (case hd => rfl); (case hg => rfl); (case hr => first | (go_simp; done) | (go_simp; rfl)); (case hp => exact (Reps.one (show Kd.M (Kd.int .i64) _ _ _ 8 [.int .i64 8] from rfl) (Reps.one (show Kd.M (Kd.int .i64) _ _ _ 10 [.int .i64 10] from rfl) (Reps.none _ _)))); intro v182 w17 ho18 hb hg_ hnew_; clear hg_ hnew_; (first | rw [← Ny181.out] at ho18 | (simp only [Int.reduceToNat] at ho18; rw [← Ny181.out] at ho18)); have n0_ := Aside0.mk (Kd.R_elder' b6_33 (Kd.R_base ho18) hb); have n1_ := Aside0.mk (Kd.R_lower (Kd.R_new' ho18 (Kd.R_lt b6_33)) (keep_size (w := w) (g := g) (row := none) b6_6)); have n2_ := Aside0.mk (IsS80.below b6_20 hb); have n3_ := Aside0.mk (blk_below (g := gb165) (o := .cells #[.int .i64 0,.int .i64 0,.slice none 0 0,.slice none 0 0] 26 (0,0)) b6_1 hb); have n4_ := Aside0.mk (KeepBut.trans b6_6 (KeepBut.of_below hb g none) (.inl rfl)); have n5_ := Aside0.mk (below_step b6_21 hb); clear HO177; clear HI0; clear BK165; clear HK; clear HB; have HO177 := n0_; have HO183 := n1_; have HI0 := n2_; have BK165 := n3_; have HK := n4_; have HB := n5_; clear n0_ n1_ n2_ n3_ n4_ n5_; clear hb ho18; obtain ⟨Ao19,co19,eo19⟩ := Kd.R_slice HO183.out; subst eo19) | ((with_reducible refine gate_callee (f := 48) rfl ?_); refine goesL_ (some 26) rfl rfl Tryd.func48 (by kernel_rfl) rfl #[.pointer (some ⟨g,0,none⟩),.slice Ao19 y181.length co19] rfl b6_7 ?_; (with_reducible refine (spec_l00Src_among.calls g s0_0 t179 t180 _ _ y181 t184 t185 t186 w0 _ ?side1 ?side2 ?side3 ?side4 ?side5 A12.out).mono ?_); (case side1 => repeat (first | (with_reducible first | exact HI0.out | apply IsS80.alloc | apply IsS80.drewN | apply IsS80.drew | apply IsS80.set_1 | apply IsS80.set_2 | refine IsS80.far ?_ NB0_165.out _) | exact HI0.out)); (case side2 => repeat (first | (with_reducible first | exact HB.out | apply below_alloc | apply pw_below_drewN | apply below_drew1 | refine below_set ?_ (IsS80.ge HI0.out) | refine below_set ?_ GE165.out) | exact HB.out)); (case side3 => repeat (first | exact (Kd.R_reads' HO183.out).2.2 | (with_reducible refine Kd.C_alloc ?_ _) | (with_reducible refine Kd.C_drewN ?_ _) | (with_reducible refine Kd.C_drew ?_))); (case side4 => exact (Kd.R_reads' HO183.out).2.1); (case side5 => exact far_slice (IsS80.own_ne HI0.out HO183.out (by decide))); rintro e w20 ⟨rfl,hi,hb,hk⟩; refine ⟨_,rfl,?_⟩; have n0_ := Aside0.mk (KeepBut.blk hk (g' := gb165) (o := .cells #[.int .i64 0,.int .i64 0,.slice none 0 0,.slice none 0 0] 26 (0,0)) b6_1 NB165_0.out (by simp)); have n1_ := Aside0.mk (Kd.R_mono (Kd.R_keep (IsS80.apart (show IsS80 w0 _ g s0_0 t179 t180 from by repeat (first | (with_reducible first | exact HI0.out | apply IsS80.alloc | apply IsS80.drewN | apply IsS80.drew | apply IsS80.set_1 | apply IsS80.set_2 | refine IsS80.far ?_ NB0_165.out _) | exact HI0.out)) b6_33 (by decide)) hk (fun _ h => h.2)) (fun _ h => h.1)); have n2_ := Aside0.mk (Kd.R_mono (Kd.R_keep (IsS80.apart (show IsS80 w0 _ g s0_0 t179 t180 from by repeat (first | (with_reducible first | exact HI0.out | apply IsS80.alloc | apply IsS80.drewN | apply IsS80.drew | apply IsS80.set_1 | apply IsS80.set_2 | refine IsS80.far ?_ NB0_165.out _) | exact HI0.out)) (by (with_reducible repeat (first | apply Kd.R_alloc | apply Kd.R_drewN | apply Kd.R_drew)); exact HO183.out) (by decide)) hk (fun _ h => h.2)) (fun _ h => h.1)); have n3_ := Aside0.mk (KeepBut.trans b6_6 hk (.inl rfl)); have n4_ := Aside0.mk (hb); have n5_ := Aside0.mk (hi); clear BK165; clear HO177; clear HO183; clear HK; clear HB; clear HI0; have BK165 := n0_; have HO177 := n1_; have HO183 := n2_; have HK := n3_; have HB := n4_; have HI0 := n5_; clear n0_ n1_ n2_ n3_ n4_ n5_; (try clear hb); (try clear hb2); (try clear hk); (try clear hi)))
   go_meet
   case rel => exact ⟨_,(t178),(t184),(t185),(t186),b6_32,b6_32,H',⟨by first | omega | exact Nat.le_refl _⟩,⟨b6_1⟩,⟨b6_20⟩,⟨b6_6⟩,⟨b6_21⟩⟩
  ·replace c10 := Bool.eq_false_iff.mpr c10
   subst c10
   have H1 : (spec_l03DrawOk.j0 k (wrap64 (1 + t166)) (wrap64 (2 * (wrap64 (1 + t169)))) s0_0 t173 t174) = some (r1,r2,r3,r4,r5,r6) := by rw [if_neg (show ¬ (false = true) by decide)] at H; exact H
   clear H
   have H := H1
   clear H1
   have H' := Aside0.mk H
   clear H
   go_wp2
   go_meet
   case rel => exact ⟨_,(wrap64 (1 + t166)),(wrap64 (2 * (wrap64 (1 + t169)))),(t173),(t174),b6_32,b6_32,H',⟨by first | omega | exact Nat.le_refl _⟩,⟨b6_1⟩,⟨b6_20⟩,⟨b6_6⟩,⟨b6_21⟩⟩
 case rest =>
  clear HC5
  (try clear c1);(try clear c2);(try clear p2);(try clear c4);(try clear p6);(try clear c10)
  obtain ⟨kq,x3_4,x4_4,x1001_4,x1002_4,rfl,rfl,HA,HJ4,BK165,HI0,HK,HB⟩ := hcut
  cases kq with
  | zero => exact absurd HA.out (by simp [spec_l03DrawOk.j0])
  | succ kj4 =>
   have H := HA.out
   clear HA
   simp only [spec_l03DrawOk.j0] at H
   replace H := Option.bind_eq_some_iff.mp H
   obtain ⟨⟨t187,t188,t189,t192,t195⟩,A210,H⟩ := H
   replace H : (if t195 = true then (spec_l03DrawOk.j1 kj4 s0_0 x1001_4 x1002_4 t187 t188 t189 t192) else ((spec_l03Make.f kj4 x3_4 6).bind fun bt197 => (spec_l03DrawOk.j1 kj4 s0_0 x1001_4 x1002_4 bt197.1 bt197.2.1 bt197.2.2.1 bt197.2.2.2.1))) = some (r1,r2,r3,r4,r5,r6) := H
   have A21 := Aside0.mk A210
   clear A210
   have HC22 := Aside0.mk H
   clear H
   go_upto_if 34 with (first | ((with_reducible refine gate_callee (f := 49) rfl ?_); refine goesL_ (some 30) rfl rfl Tryd.func49 (by kernel_rfl) rfl #[.int .i64 x3_4,.int .i64 x4_4] rfl b6_7 ?_; (with_reducible refine (spec_l03Make.calls kj4 x3_4 x4_4 t187 t188 t189 t192 t195 _ A21.out).mono ?_); rintro e w23 ⟨v190,v193,rfl,ho0,ho1,hb⟩; refine ⟨_,rfl,?_⟩; have n0_ := Aside0.mk (Kd.R_lower ho0 (keep_size (w := w) (g := g) (row := none) b6_6)); have n1_ := Aside0.mk (Kd.R_lower ho1 (keep_size (w := w) (g := g) (row := none) b6_6)); have n2_ := Aside0.mk (blk_below (g := gb165) (o := .cells #[.int .i64 0,.int .i64 0,.slice none 0 0,.slice none 0 0] 26 (0,0)) b6_1 hb); have n3_ := Aside0.mk (IsS80.below b6_20 hb); have n4_ := Aside0.mk (KeepBut.trans b6_6 (KeepBut.of_below hb g none) (.inl rfl)); have n5_ := Aside0.mk (below_step b6_21 hb); clear BK165; clear HI0; clear HK; clear HB; have HO191 := n0_; have HO194 := n1_; have BK165 := n2_; have HI0 := n3_; have HK := n4_; have HB := n5_; clear n0_ n1_ n2_ n3_ n4_ n5_; (try clear hb); (try clear hb2); (try clear hk); (try clear hi); (try clear ho0); (try clear ho1)) | ((with_reducible refine gate_dst (N := 5) rfl ?_); refine box_event ?hg (N := 5) ?hd (cs := #[.int .i64 0,.int .i64 0,.slice none 0 0,.slice none 0 0]) (t := 26) ?hr ?_; (case hd => rfl); (case hg => rfl); (case hr => first | (go_simp; done) | (go_simp; rfl)); intro gb196 hg w24 hbox hb; have n0_ := Aside0.mk (Kd.R_below (by (with_reducible repeat (first | apply Kd.R_alloc | apply Kd.R_drewN | apply Kd.R_drew)); exact HO191.out) hb); have n1_ := Aside0.mk (Kd.R_below (by (with_reducible repeat (first | apply Kd.R_alloc | apply Kd.R_drewN | apply Kd.R_drew)); exact HO194.out) hb); have n2_ := Aside0.mk (blk_below (g := gb165) (o := .cells #[.int .i64 0,.int .i64 0,.slice none 0 0,.slice none 0 0] 26 (0,0)) b6_1 hb); have n3_ := Aside0.mk (IsS80.below b6_20 hb); have n4_ := Aside0.mk (KeepBut.trans b6_6 (KeepBut.of_below hb g none) (.inl rfl)); have n5_ := Aside0.mk (below_step b6_21 hb); have n6_ := Aside0.mk (hbox); have n7_ := Aside0.mk ((by rw [hg]; exact (keep_size (w := w) (g := g) (row := none) b6_6) : w.heap.size ≤ gb196)); have n8_ := Aside0.mk ((Nat.le_trans HW0.out (by rw [hg]; exact (keep_size (w := w) (g := g) (row := none) b6_6) : w.heap.size ≤ gb196) : w0.heap.size ≤ gb196)); have n9_ := Aside0.mk ((by rw [hg]; exact Nat.ne_of_lt (blk_lt (g := gb165) (o := .cells #[.int .i64 0,.int .i64 0,.slice none 0 0,.slice none 0 0] 26 (0,0)) b6_1) : gb165 ≠ gb196)); have n10_ := Aside0.mk ((by rw [hg]; exact Nat.ne_of_gt (blk_lt (g := gb165) (o := .cells #[.int .i64 0,.int .i64 0,.slice none 0 0,.slice none 0 0] 26 (0,0)) b6_1) : gb196 ≠ gb165)); have n11_ := Aside0.mk ((by rw [hg]; exact Nat.ne_of_lt (IsS80.lt (show IsS80 w0 _ g s0_0 x1001_4 x1002_4 from by repeat (first | (with_reducible first | exact HI0.out | apply IsS80.alloc | apply IsS80.drewN | apply IsS80.drew | apply IsS80.set_1 | apply IsS80.set_2 | refine IsS80.far ?_ NB0_165.out _) | exact HI0.out))) : g ≠ gb196)); have n12_ := Aside0.mk ((by rw [hg]; exact Nat.ne_of_gt (IsS80.lt (show IsS80 w0 _ g s0_0 x1001_4 x1002_4 from by repeat (first | (with_reducible first | exact HI0.out | apply IsS80.alloc | apply IsS80.drewN | apply IsS80.drew | apply IsS80.set_1 | apply IsS80.set_2 | refine IsS80.far ?_ NB0_165.out _) | exact HI0.out))) : gb196 ≠ g)); clear HO191; clear HO194; clear BK165; clear HI0; clear HK; clear HB; have HO191 := n0_; have HO194 := n1_; have BK165 := n2_; have HI0 := n3_; have HK := n4_; have HB := n5_; have BK196 := n6_; have GW196 := n7_; have GE196 := n8_; have NB165_196 := n9_; have NB196_165 := n10_; have NB0_196 := n11_; have NB196_0 := n12_; clear n0_ n1_ n2_ n3_ n4_ n5_ n6_ n7_ n8_ n9_ n10_ n11_ n12_; clear hb hbox hg; have hnb25 := NB196_165.out; have hnc25 := NB165_196.out; have hnb26 := NB196_0.out; have hnc26 := NB0_196.out; have hcz27_0 : w24.cell? ⟨gb196,0,none⟩ = some (.int .i64 0) := (blk_cell BK196.out 0).trans rfl; have hcz27_1 : w24.cell? ⟨gb196,1,none⟩ = some (.int .i64 0) := (blk_cell BK196.out 1).trans rfl; have hcz27_2 : w24.cell? ⟨gb196,2,none⟩ = some (.slice none 0 0) := (blk_cell BK196.out 2).trans rfl; have hcz27_3 : w24.cell? ⟨gb196,3,none⟩ = some (.slice none 0 0) := (blk_cell BK196.out 3).trans rfl; have hfz27_0 := blk_frozen BK196.out 0; have hfz27_1 := blk_frozen BK196.out 1; have hfz27_2 := blk_frozen BK196.out 2; have hfz27_3 := blk_frozen BK196.out 3; obtain ⟨Ao28,co28,eo28⟩ := Kd.R_slice HO191.out; subst eo28; obtain ⟨Ao29,co29,eo29⟩ := Kd.R_slice HO194.out; subst eo29))
   (try simp only [Act.put,List.setIfInBounds_toArray,List.set_cons_zero,List.set_cons_succ])
   go_cut [] (fun wc => ∃ (kq : Nat) (x197000_21 : Int) (x197001_21 : Int) (x197002_21 : List ByteArray) (x197003_21 : List ByteArray) (u197002 : Value) (u197003 : Value),Aside0 (spec_l03DrawOk.j1 kq s0_0 x1001_4 x1002_4 x197000_21 x197001_21 x197002_21 x197003_21 = some (r1,r2,r3,r4,r5,r6)) ∧ Aside0 (kq ≤ kj4) ∧ Aside0 (Kd.R Kd.string 9 wc w.heap.size (fun k_ => some k_ ≠ (u197003 : Value).ownBlock) u197002 x197002_21) ∧ Aside0 (Kd.R Kd.string 9 wc w.heap.size (fun k_ => some k_ ≠ (u197002 : Value).ownBlock) u197003 x197003_21) ∧ Aside0 (wc.heap[gb165]? = some (.cells #[.int .i64 0,.int .i64 0,(.slice none 0 0),(.slice none 0 0)] 26 (0,0))) ∧ Aside0 (wc.heap[gb196]? = some (.cells #[.int .i64 x197000_21,.int .i64 x197001_21,u197002,u197003] 26 (0,0))) ∧ Aside0 (IsS80 w0 wc g s0_0 x1001_4 x1002_4) ∧ Aside0 (KeepBut w wc g none) ∧ Aside0 (Below w0.heap.size w0 wc))
   case first =>
    have H := HC22.out
    clear HC22
    by_cases c30 : t195 = true
    ·subst c30
     have H1 : (spec_l03DrawOk.j1 kj4 s0_0 x1001_4 x1002_4 t187 t188 t189 t192) = some (r1,r2,r3,r4,r5,r6) := by rw [if_pos rfl] at H; exact H
     clear H
     have H := H1
     clear H1
     have H' := Aside0.mk H
     clear H
     go_wp2
     go_meet
     case rel => exact ⟨_,(t187),(t188),(t189),(t192),(.slice Ao28 t189.length co28),(.slice Ao29 t192.length co29),H',⟨by have := HJ4.out; first | omega | exact Nat.le_refl _⟩,⟨by (with_reducible repeat (first | apply Kd.R_alloc | apply Kd.R_drewN | apply Kd.R_drew)); exact Kd.R_mono (Kd.R_far (p := ⟨gb196,3,none⟩) (Kd.R_far (p := ⟨gb196,2,none⟩) (Kd.R_far (p := ⟨gb196,1,none⟩) (Kd.R_far (p := ⟨gb196,0,none⟩) (Kd.R_types HO191.out BK196.out (by decide)) (fun _ hk => hk.2) (.int .i64 t187)) (fun _ hk => hk.2) (.int .i64 t188)) (fun _ hk => hk.2) (.slice Ao28 t189.length co28)) (fun _ hk => hk.2) (.slice Ao29 t192.length co29)) (fun _ hk => hk.1)⟩,⟨by (with_reducible repeat (first | apply Kd.R_alloc | apply Kd.R_drewN | apply Kd.R_drew)); exact Kd.R_mono (Kd.R_far (p := ⟨gb196,3,none⟩) (Kd.R_far (p := ⟨gb196,2,none⟩) (Kd.R_far (p := ⟨gb196,1,none⟩) (Kd.R_far (p := ⟨gb196,0,none⟩) (Kd.R_types HO194.out BK196.out (by decide)) (fun _ hk => hk.2) (.int .i64 t187)) (fun _ hk => hk.2) (.int .i64 t188)) (fun _ hk => hk.2) (.slice Ao28 t189.length co28)) (fun _ hk => hk.2) (.slice Ao29 t192.length co29)) (fun _ hk => hk.1)⟩,⟨b6_12⟩,⟨b6_13⟩,⟨b6_2⟩,⟨b6_0⟩,⟨b6_5⟩⟩
    ·replace c30 := Bool.eq_false_iff.mpr c30
     subst c30
     have H1 : ((spec_l03Make.f kj4 x3_4 6).bind fun bt197 => (spec_l03DrawOk.j1 kj4 s0_0 x1001_4 x1002_4 bt197.1 bt197.2.1 bt197.2.2.1 bt197.2.2.2.1)) = some (r1,r2,r3,r4,r5,r6) := by rw [if_neg (show ¬ (false = true) by decide)] at H; exact H
     clear H
     have H := H1
     clear H1
     replace H := Option.bind_eq_some_iff.mp H
     obtain ⟨⟨t197,t198,t199,t202,t205⟩,A310,H⟩ := H
     replace H : (spec_l03DrawOk.j1 kj4 s0_0 x1001_4 x1002_4 t197 t198 t199 t202) = some (r1,r2,r3,r4,r5,r6) := H
     have A31 := Aside0.mk A310
     clear A310
     have H' := Aside0.mk H
     clear H
     go_wp2_with (first | ((with_reducible refine gate_callee (f := 49) rfl ?_); refine goesL_ (some 37) rfl rfl Tryd.func49 (by kernel_rfl) rfl #[.int .i64 x3_4,.int .i64 6] rfl b6_7 ?_; (with_reducible refine (spec_l03Make.calls kj4 x3_4 6 t197 t198 t199 t202 t205 _ A31.out).mono ?_); rintro e w32 ⟨v200,v203,rfl,ho0,ho1,hb⟩; refine ⟨_,rfl,?_⟩; have n0_ := Aside0.mk (Kd.R_mono (Kd.R_told (Kd.R_told (Kd.R_old b6_17 hb) (Kd.R_base ho0)) (Kd.R_base ho1)) (fun _ h_ => h_.1)); have n1_ := Aside0.mk (Kd.R_mono (Kd.R_told (Kd.R_told (Kd.R_old b6_18 hb) (Kd.R_base ho0)) (Kd.R_base ho1)) (fun _ h_ => h_.1)); have n2_ := Aside0.mk (Kd.R_lower (Kd.R_new' (Kd.R_new' ho0 (Kd.R_lt b6_17)) (Kd.R_lt b6_18)) (keep_size (w := w) (g := g) (row := none) b6_0)); have n3_ := Aside0.mk (Kd.R_lower (Kd.R_new' (Kd.R_new' ho1 (Kd.R_lt b6_17)) (Kd.R_lt b6_18)) (keep_size (w := w) (g := g) (row := none) b6_0)); have n4_ := Aside0.mk (blk_below (g := gb165) (o := .cells #[.int .i64 0,.int .i64 0,.slice none 0 0,.slice none 0 0] 26 (0,0)) b6_12 hb); have n5_ := Aside0.mk (IsS80.below (show IsS80 w0 ((((w24.setCell ⟨gb196,0,none⟩ (.int .i64 t187)).setCell ⟨gb196,1,none⟩ (.int .i64 t188)).setCell ⟨gb196,2,none⟩ (.slice Ao28 t189.length co28)).setCell ⟨gb196,3,none⟩ (.slice Ao29 t192.length co29)) g s0_0 x1001_4 x1002_4 from by repeat (first | (with_reducible first | exact HI0.out | apply IsS80.alloc | apply IsS80.drewN | apply IsS80.drew | apply IsS80.set_1 | apply IsS80.set_2 | refine IsS80.far ?_ NB0_165.out _ | refine IsS80.far ?_ NB0_196.out _) | exact HI0.out)) hb); have n6_ := Aside0.mk (blk_below (g := gb196) (o := .cells #[.int .i64 t187,.int .i64 t188,.slice Ao28 t189.length co28,.slice Ao29 t192.length co29] 26 (0,0)) b6_13 hb); have n7_ := Aside0.mk (KeepBut.trans b6_0 (KeepBut.of_below hb g none) (.inl rfl)); have n8_ := Aside0.mk (below_step b6_5 hb); clear HO191; clear HO194; clear BK165; clear HI0; clear BK196; clear HK; clear HB; have HO191 := n0_; have HO194 := n1_; have HO201 := n2_; have HO204 := n3_; have BK165 := n4_; have HI0 := n5_; have BK196 := n6_; have HK := n7_; have HB := n8_; clear n0_ n1_ n2_ n3_ n4_ n5_ n6_ n7_ n8_; (try clear hb); (try clear hb2); (try clear hk); (try clear hi); (try clear ho0); (try clear ho1); have hnb33 := NB196_165.out; have hnc33 := NB165_196.out; have hnb34 := NB196_0.out; have hnc34 := NB0_196.out; have hcz35_0 : w32.cell? ⟨gb196,0,none⟩ = some (.int .i64 t187) := (blk_cell BK196.out 0).trans rfl; have hcz35_1 : w32.cell? ⟨gb196,1,none⟩ = some (.int .i64 t188) := (blk_cell BK196.out 1).trans rfl; have hcz35_2 : w32.cell? ⟨gb196,2,none⟩ = some (.slice Ao28 t189.length co28) := (blk_cell BK196.out 2).trans rfl; have hcz35_3 : w32.cell? ⟨gb196,3,none⟩ = some (.slice Ao29 t192.length co29) := (blk_cell BK196.out 3).trans rfl; have hfz35_0 := blk_frozen BK196.out 0; have hfz35_1 := blk_frozen BK196.out 1; have hfz35_2 := blk_frozen BK196.out 2; have hfz35_3 := blk_frozen BK196.out 3; obtain ⟨Ao36,co36,eo36⟩ := Kd.R_slice HO201.out; subst eo36; obtain ⟨Ao37,co37,eo37⟩ := Kd.R_slice HO204.out; subst eo37))
     go_meet
     case rel => exact ⟨_,(t197),(t198),(t199),(t202),(.slice Ao36 t199.length co36),(.slice Ao37 t202.length co37),H',⟨by have := HJ4.out; first | omega | exact Nat.le_refl _⟩,⟨by (with_reducible repeat (first | apply Kd.R_alloc | apply Kd.R_drewN | apply Kd.R_drew)); exact Kd.R_mono (Kd.R_far (p := ⟨gb196,3,none⟩) (Kd.R_far (p := ⟨gb196,2,none⟩) (Kd.R_far (p := ⟨gb196,1,none⟩) (Kd.R_far (p := ⟨gb196,0,none⟩) (Kd.R_types HO201.out BK196.out (by decide)) (fun _ hk => hk.2) (.int .i64 t197)) (fun _ hk => hk.2) (.int .i64 t198)) (fun _ hk => hk.2) (.slice Ao36 t199.length co36)) (fun _ hk => hk.2) (.slice Ao37 t202.length co37)) (fun _ hk => hk.1.1.1)⟩,⟨by (with_reducible repeat (first | apply Kd.R_alloc | apply Kd.R_drewN | apply Kd.R_drew)); exact Kd.R_mono (Kd.R_far (p := ⟨gb196,3,none⟩) (Kd.R_far (p := ⟨gb196,2,none⟩) (Kd.R_far (p := ⟨gb196,1,none⟩) (Kd.R_far (p := ⟨gb196,0,none⟩) (Kd.R_types HO204.out BK196.out (by decide)) (fun _ hk => hk.2) (.int .i64 t197)) (fun _ hk => hk.2) (.int .i64 t198)) (fun _ hk => hk.2) (.slice Ao36 t199.length co36)) (fun _ hk => hk.2) (.slice Ao37 t202.length co37)) (fun _ hk => hk.1.1.1)⟩,⟨b6_12⟩,⟨by (with_reducible repeat (first | refine blk_drewN ?_ _ | refine blk_drew ?_ | refine blk_alloc ?_ _)); refine blk_put (cs := #[.int .i64 t197,.int .i64 t198,.slice Ao36 t199.length co36,.slice Ao29 t192.length co29]) ?_ 3 _ rfl; (with_reducible repeat (first | refine blk_drewN ?_ _ | refine blk_drew ?_ | refine blk_alloc ?_ _)); refine blk_put (cs := #[.int .i64 t197,.int .i64 t198,.slice Ao28 t189.length co28,.slice Ao29 t192.length co29]) ?_ 2 _ rfl; (with_reducible repeat (first | refine blk_drewN ?_ _ | refine blk_drew ?_ | refine blk_alloc ?_ _)); refine blk_put (cs := #[.int .i64 t197,.int .i64 t188,.slice Ao28 t189.length co28,.slice Ao29 t192.length co29]) ?_ 1 _ rfl; (with_reducible repeat (first | refine blk_drewN ?_ _ | refine blk_drew ?_ | refine blk_alloc ?_ _)); refine blk_put (cs := #[.int .i64 t187,.int .i64 t188,.slice Ao28 t189.length co28,.slice Ao29 t192.length co29]) ?_ 0 _ rfl; (with_reducible repeat (first | refine blk_drewN ?_ _ | refine blk_drew ?_ | refine blk_alloc ?_ _)); exact BK196.out⟩,⟨b6_2⟩,⟨b6_0⟩,⟨b6_5⟩⟩
   case rest =>
    clear HC22
    (try clear c1);(try clear c2);(try clear p2);(try clear c3);(try clear c4);(try clear p6);(try clear c10);(try clear c23);(try clear c24);(try clear c25);(try clear c26);(try clear c30);(try clear c33);(try clear c34);(try clear hcz27_0);(try clear hcz27_1);(try clear hcz27_2);(try clear hcz27_3);(try clear hcz35_0);(try clear hcz35_1);(try clear hcz35_2);(try clear hcz35_3);(try clear hfz27_0);(try clear hfz27_1);(try clear hfz27_2);(try clear hfz27_3);(try clear hfz35_0);(try clear hfz35_1);(try clear hfz35_2);(try clear hfz35_3);(try clear p2);(try clear p6)
    obtain ⟨kq,x197000_21,x197001_21,x197002_21,x197003_21,u197002,u197003,HA,HJ21,HO_197002,HO_197003,BK165,BK196,HI0,HK,HB⟩ := hcut
    cases kq with
    | zero => exact absurd HA.out (by simp [spec_l03DrawOk.j1])
    | succ kj21 =>
     have H := HA.out
     clear HA
     simp only [spec_l03DrawOk.j1] at H
     replace H := Option.bind_eq_some_iff.mp H
     obtain ⟨⟨t206,t207,t208⟩,A380,H⟩ := H
     replace H : (spec_l03DrawOk.l0 kj21 (x197002_21.length : Int) t206 s0_0 t207 t208 x197000_21 x197001_21 x197002_21 x197003_21) = some (r1,r2,r3,r4,r5,r6) := H
     have A38 := Aside0.mk A380
     clear A380
     have H' := Aside0.mk H
     clear H
     have hnb39 := NB196_165.out
     have hnc39 := NB165_196.out
     have hnb40 := NB196_0.out
     have hnc40 := NB0_196.out
     have hcz41_0 : wc.cell? ⟨gb196,0,none⟩ = some (.int .i64 x197000_21) := (blk_cell BK196.out 0).trans rfl
     have hcz41_1 : wc.cell? ⟨gb196,1,none⟩ = some (.int .i64 x197001_21) := (blk_cell BK196.out 1).trans rfl
     have hcz41_2 : wc.cell? ⟨gb196,2,none⟩ = some (u197002) := (blk_cell BK196.out 2).trans rfl
     have hcz41_3 : wc.cell? ⟨gb196,3,none⟩ = some (u197003) := (blk_cell BK196.out 3).trans rfl
     have hfz41_0 := blk_frozen BK196.out 0
     have hfz41_1 := blk_frozen BK196.out 1
     have hfz41_2 := blk_frozen BK196.out 2
     have hfz41_3 := blk_frozen BK196.out 3
     obtain ⟨Ao42,co42,eo42⟩ := Kd.R_slice HO_197002.out
     subst eo42
     go_wp2_with (first | ((with_reducible refine gate_callee (f := 24) rfl ?_); refine goesL_ (some 44) rfl rfl Tryd.func24 (by kernel_rfl) rfl #[.pointer (some ⟨g,0,none⟩),.int .i64 4] rfl b6_7 ?_; (with_reducible refine (spec_l00Src_pick.calls g s0_0 x1001_4 x1002_4 4 t206 t207 t208 w0 _ ?side1 ?side2 A38.out).mono ?_); (case side1 => repeat (first | (with_reducible first | exact HI0.out | apply IsS80.alloc | apply IsS80.drewN | apply IsS80.drew | apply IsS80.set_1 | apply IsS80.set_2 | refine IsS80.far ?_ NB0_165.out _ | refine IsS80.far ?_ NB0_196.out _) | exact HI0.out)); (case side2 => repeat (first | (with_reducible first | exact HB.out | apply below_alloc | apply pw_below_drewN | apply below_drew1 | refine below_set ?_ (IsS80.ge HI0.out) | refine below_set ?_ GE165.out | refine below_set ?_ GE196.out) | exact HB.out)); rintro e w43 ⟨rfl,hi,hb,hk⟩; refine ⟨_,rfl,?_⟩; have n0_ := Aside0.mk (Kd.R_mono (Kd.R_keep (IsS80.apart (show IsS80 w0 _ g s0_0 x1001_4 x1002_4 from by repeat (first | (with_reducible first | exact HI0.out | apply IsS80.alloc | apply IsS80.drewN | apply IsS80.drew | apply IsS80.set_1 | apply IsS80.set_2 | refine IsS80.far ?_ NB0_165.out _ | refine IsS80.far ?_ NB0_196.out _) | exact HI0.out)) b6_8 (by decide)) hk (fun _ h => h.2)) (fun _ h => h.1)); have n1_ := Aside0.mk (Kd.R_mono (Kd.R_keep (IsS80.apart (show IsS80 w0 _ g s0_0 x1001_4 x1002_4 from by repeat (first | (with_reducible first | exact HI0.out | apply IsS80.alloc | apply IsS80.drewN | apply IsS80.drew | apply IsS80.set_1 | apply IsS80.set_2 | refine IsS80.far ?_ NB0_165.out _ | refine IsS80.far ?_ NB0_196.out _) | exact HI0.out)) b6_9 (by decide)) hk (fun _ h => h.2)) (fun _ h => h.1)); have n2_ := Aside0.mk (KeepBut.blk hk (g' := gb165) (o := .cells #[.int .i64 0,.int .i64 0,.slice none 0 0,.slice none 0 0] 26 (0,0)) b6_1 NB165_0.out (by simp)); have n3_ := Aside0.mk (KeepBut.blk hk (g' := gb196) (o := .cells #[.int .i64 x197000_21,.int .i64 x197001_21,.slice Ao42 x197002_21.length co42,u197003] 26 (0,0)) b6_4 NB196_0.out (by simp)); have n4_ := Aside0.mk (KeepBut.trans b6_0 hk (.inl rfl)); have n5_ := Aside0.mk (hb); have n6_ := Aside0.mk (hi); clear HO_197002; clear HO_197003; clear BK165; clear BK196; clear HK; clear HB; clear HI0; have HO_197002 := n0_; have HO_197003 := n1_; have BK165 := n2_; have BK196 := n3_; have HK := n4_; have HB := n5_; have HI0 := n6_; clear n0_ n1_ n2_ n3_ n4_ n5_ n6_; (try clear hb); (try clear hb2); (try clear hk); (try clear hi)))
     go_loopg [8] kj21 (fun kq v8 w' => ∃ (x8_3 : Int) (x1001_3 : Int) (x1002_3 : Int) (x197002_3 : List ByteArray) (x197003_3 : List ByteArray) (u197002 : Value) (u197003 : Value),v8 = .int .i64 x8_3 ∧ Aside0 (spec_l03DrawOk.l0 kq (x197002_21.length : Int) x8_3 s0_0 x1001_3 x1002_3 x197000_21 x197001_21 x197002_3 x197003_3 = some (r1,r2,r3,r4,r5,r6)) ∧ Aside0 (kq ≤ kj21) ∧ Aside0 (Kd.R Kd.string 9 w' w.heap.size (fun k_ => some k_ ≠ (u197003 : Value).ownBlock) u197002 x197002_3) ∧ Aside0 (Kd.R Kd.string 9 w' w.heap.size (fun k_ => some k_ ≠ (u197002 : Value).ownBlock) u197003 x197003_3) ∧ Aside0 (w'.heap[gb165]? = some (.cells #[.int .i64 0,.int .i64 0,(.slice none 0 0),(.slice none 0 0)] 26 (0,0))) ∧ Aside0 (w'.heap[gb196]? = some (.cells #[.int .i64 x197000_21,.int .i64 x197001_21,u197002,u197003] 26 (0,0))) ∧ Aside0 (IsS80 w0 w' g s0_0 x1001_3 x1002_3) ∧ Aside0 (KeepBut w w' g none) ∧ Aside0 (Below w0.heap.size w0 w'))
     case atStart => exact ⟨(t206),(t207),(t208),(x197002_21),(x197003_21),(.slice Ao42 x197002_21.length co42),(u197003),b6_32,H',⟨Nat.le_refl _⟩,⟨b6_8⟩,⟨b6_9⟩,⟨b6_1⟩,⟨b6_4⟩,⟨b6_2⟩,⟨b6_0⟩,⟨b6_5⟩⟩
     case round =>
      clear H'
      (try clear c1);(try clear c2);(try clear p2);(try clear c3);(try clear c4);(try clear p6);(try clear c10);(try clear c23);(try clear c24);(try clear c25);(try clear c26);(try clear c30);(try clear c33);(try clear c34);(try clear c39);(try clear c40);(try clear hcz27_0);(try clear hcz27_1);(try clear hcz27_2);(try clear hcz27_3);(try clear hcz35_0);(try clear hcz35_1);(try clear hcz35_2);(try clear hcz35_3);(try clear hcz41_0);(try clear hcz41_1);(try clear hcz41_2);(try clear hcz41_3);(try clear hfz27_0);(try clear hfz27_1);(try clear hfz27_2);(try clear hfz27_3);(try clear hfz35_0);(try clear hfz35_1);(try clear hfz35_2);(try clear hfz35_3);(try clear hfz41_0);(try clear hfz41_1);(try clear hfz41_2);(try clear hfz41_3);(try clear p2);(try clear p6)
      obtain ⟨x8_3,x1001_3,x1002_3,x197002_3,x197003_3,u197002,u197003,rfl,HA,HK3,HO_197002,HO_197003,BK165,BK196,HI0,HK,HB⟩ := hrel
      cases gk with
      | zero => exact absurd HA.out (by simp [spec_l03DrawOk.l0])
      | succ k3 =>
       have H := HA.out
       clear HA
       simp only [spec_l03DrawOk.l0] at H
       by_cases c44 : x8_3 > 0
       ·rw [if_pos c44] at H
        have c44b0 : decide (0 < x8_3) = true := decide_eq_true c44
        clear c44
        replace H := Option.bind_eq_some_iff.mp H
        obtain ⟨⟨t209,t210,t211⟩,A450,H⟩ := H
        replace H : ((spec_l00Src_pick.f s0_0 t210 t211 (x197002_21.length : Int)).bind fun bt212 => (if 0 ≤ t209 then (if t209 < (x197002_3.length : Int) then (if 0 ≤ bt212.1 then (if bt212.1 < (x197002_3.length : Int) then ((some ((x197002_3.set (t209 : Int).toNat (rdOf ByteArray.empty x197002_3 bt212.1)).set (bt212.1 : Int).toNat (rdOf ByteArray.empty x197002_3 t209) : List ByteArray)).bind fun y218 => ((spec_l00Src_one.f s0_0 bt212.2.1 bt212.2.2 3).bind fun bt219 => (if bt219.1 = true then ((spec_l03Is.f k3 x197000_21 x197001_21 y218 x197003_3).bind fun t222 => (if t222 = true then (spec_l03DrawOk.l0 k3 (x197002_21.length : Int) (wrap64 (x8_3 - 1)) s0_0 bt219.2.1 bt219.2.2 x197000_21 x197001_21 y218 x197003_3) else (spec_l03DrawOk.l0 k3 (x197002_21.length : Int) (wrap64 (x8_3 - 1)) s0_0 bt219.2.1 bt219.2.2 x197000_21 x197001_21 ((y218.set (t209 : Int).toNat (rdOf ByteArray.empty y218 bt212.1)).set (bt212.1 : Int).toNat (rdOf ByteArray.empty y218 t209)) x197003_3))) else (if t209 < (x197003_3.length : Int) then (if bt212.1 < (x197003_3.length : Int) then ((some ((x197003_3.set (t209 : Int).toNat (rdOf ByteArray.empty x197003_3 bt212.1)).set (bt212.1 : Int).toNat (rdOf ByteArray.empty x197003_3 t209) : List ByteArray)).bind fun y230 => ((spec_l03Is.f k3 x197000_21 x197001_21 y218 y230).bind fun t231 => (if t231 = true then (spec_l03DrawOk.l0 k3 (x197002_21.length : Int) (wrap64 (x8_3 - 1)) s0_0 bt219.2.1 bt219.2.2 x197000_21 x197001_21 y218 y230) else (spec_l03DrawOk.l0 k3 (x197002_21.length : Int) (wrap64 (x8_3 - 1)) s0_0 bt219.2.1 bt219.2.2 x197000_21 x197001_21 ((y218.set (t209 : Int).toNat (rdOf ByteArray.empty y218 bt212.1)).set (bt212.1 : Int).toNat (rdOf ByteArray.empty y218 t209)) y230)))) else (none)) else (none))))) else (none)) else (none)) else (none)) else (none))) = some (r1,r2,r3,r4,r5,r6) := H
        have A45 := Aside0.mk A450
        clear A450
        replace H := Option.bind_eq_some_iff.mp H
        obtain ⟨⟨t212,t213,t214⟩,A460,H⟩ := H
        replace H : (if 0 ≤ t209 then (if t209 < (x197002_3.length : Int) then (if 0 ≤ t212 then (if t212 < (x197002_3.length : Int) then ((some ((x197002_3.set (t209 : Int).toNat (rdOf ByteArray.empty x197002_3 t212)).set (t212 : Int).toNat (rdOf ByteArray.empty x197002_3 t209) : List ByteArray)).bind fun y218 => ((spec_l00Src_one.f s0_0 t213 t214 3).bind fun bt219 => (if bt219.1 = true then ((spec_l03Is.f k3 x197000_21 x197001_21 y218 x197003_3).bind fun t222 => (if t222 = true then (spec_l03DrawOk.l0 k3 (x197002_21.length : Int) (wrap64 (x8_3 - 1)) s0_0 bt219.2.1 bt219.2.2 x197000_21 x197001_21 y218 x197003_3) else (spec_l03DrawOk.l0 k3 (x197002_21.length : Int) (wrap64 (x8_3 - 1)) s0_0 bt219.2.1 bt219.2.2 x197000_21 x197001_21 ((y218.set (t209 : Int).toNat (rdOf ByteArray.empty y218 t212)).set (t212 : Int).toNat (rdOf ByteArray.empty y218 t209)) x197003_3))) else (if t209 < (x197003_3.length : Int) then (if t212 < (x197003_3.length : Int) then ((some ((x197003_3.set (t209 : Int).toNat (rdOf ByteArray.empty x197003_3 t212)).set (t212 : Int).toNat (rdOf ByteArray.empty x197003_3 t209) : List ByteArray)).bind fun y230 => ((spec_l03Is.f k3 x197000_21 x197001_21 y218 y230).bind fun t231 => (if t231 = true then (spec_l03DrawOk.l0 k3 (x197002_21.length : Int) (wrap64 (x8_3 - 1)) s0_0 bt219.2.1 bt219.2.2 x197000_21 x197001_21 y218 y230) else (spec_l03DrawOk.l0 k3 (x197002_21.length : Int) (wrap64 (x8_3 - 1)) s0_0 bt219.2.1 bt219.2.2 x197000_21 x197001_21 ((y218.set (t209 : Int).toNat (rdOf ByteArray.empty y218 t212)).set (t212 : Int).toNat (rdOf ByteArray.empty y218 t209)) y230)))) else (none)) else (none))))) else (none)) else (none)) else (none)) else (none)) = some (r1,r2,r3,r4,r5,r6) := H
        have A46 := Aside0.mk A460
        clear A460
        by_cases c47 : 0 ≤ t209
        ·rw [if_pos c47] at H
         have c47b0 : decide (0 ≤ t209) = true := decide_eq_true c47
         clear c47
         by_cases c48 : t209 < (x197002_3.length : Int)
         ·rw [if_pos c48] at H
          have c48b0 : decide (t209 < (x197002_3.length : Int)) = true := decide_eq_true c48
          clear c48
          by_cases c49 : 0 ≤ t212
          ·rw [if_pos c49] at H
           have c49b0 : decide (0 ≤ t212) = true := decide_eq_true c49
           clear c49
           by_cases c50 : t212 < (x197002_3.length : Int)
           ·rw [if_pos c50] at H
            have c50b0 : decide (t212 < (x197002_3.length : Int)) = true := decide_eq_true c50
            clear c50
            obtain ⟨y217,hy217⟩ : ∃ y_ : List ByteArray,y_ = (x197002_3.set (t209 : Int).toNat (rdOf ByteArray.empty x197002_3 t212)) := ⟨_,rfl⟩
            replace H : ((some (y217.set (t212 : Int).toNat (rdOf ByteArray.empty x197002_3 t209) : List ByteArray)).bind fun y218 => ((spec_l00Src_one.f s0_0 t213 t214 3).bind fun bt219 => (if bt219.1 = true then ((spec_l03Is.f k3 x197000_21 x197001_21 y218 x197003_3).bind fun t222 => (if t222 = true then (spec_l03DrawOk.l0 k3 (x197002_21.length : Int) (wrap64 (x8_3 - 1)) s0_0 bt219.2.1 bt219.2.2 x197000_21 x197001_21 y218 x197003_3) else (spec_l03DrawOk.l0 k3 (x197002_21.length : Int) (wrap64 (x8_3 - 1)) s0_0 bt219.2.1 bt219.2.2 x197000_21 x197001_21 ((y218.set (t209 : Int).toNat (rdOf ByteArray.empty y218 t212)).set (t212 : Int).toNat (rdOf ByteArray.empty y218 t209)) x197003_3))) else (if t209 < (x197003_3.length : Int) then (if t212 < (x197003_3.length : Int) then ((some ((x197003_3.set (t209 : Int).toNat (rdOf ByteArray.empty x197003_3 t212)).set (t212 : Int).toNat (rdOf ByteArray.empty x197003_3 t209) : List ByteArray)).bind fun y230 => ((spec_l03Is.f k3 x197000_21 x197001_21 y218 y230).bind fun t231 => (if t231 = true then (spec_l03DrawOk.l0 k3 (x197002_21.length : Int) (wrap64 (x8_3 - 1)) s0_0 bt219.2.1 bt219.2.2 x197000_21 x197001_21 y218 y230) else (spec_l03DrawOk.l0 k3 (x197002_21.length : Int) (wrap64 (x8_3 - 1)) s0_0 bt219.2.1 bt219.2.2 x197000_21 x197001_21 ((y218.set (t209 : Int).toNat (rdOf ByteArray.empty y218 t212)).set (t212 : Int).toNat (rdOf ByteArray.empty y218 t209)) y230)))) else (none)) else (none))))) = some (r1,r2,r3,r4,r5,r6) := by first | (rw [hy217]; with_reducible exact H) | (have H2_ := (Option.bind_some _ _).symm.trans H; rw [hy217]; with_reducible exact H2_) | (have H2_ := (Option.bind_some _ _).symm.trans H; with_reducible exact H2_) | with_reducible exact H | (rw [hy217]; exact H) | exact H
            have Ny217 := Aside0.mk hy217
            clear hy217
            obtain ⟨y218,hy218⟩ : ∃ y_ : List ByteArray,y_ = (y217.set (t212 : Int).toNat (rdOf ByteArray.empty x197002_3 t209)) := ⟨_,rfl⟩
            replace H : ((spec_l00Src_one.f s0_0 t213 t214 3).bind fun bt219 => (if bt219.1 = true then ((spec_l03Is.f k3 x197000_21 x197001_21 y218 x197003_3).bind fun t222 => (if t222 = true then (spec_l03DrawOk.l0 k3 (x197002_21.length : Int) (wrap64 (x8_3 - 1)) s0_0 bt219.2.1 bt219.2.2 x197000_21 x197001_21 y218 x197003_3) else (spec_l03DrawOk.l0 k3 (x197002_21.length : Int) (wrap64 (x8_3 - 1)) s0_0 bt219.2.1 bt219.2.2 x197000_21 x197001_21 ((y218.set (t209 : Int).toNat (rdOf ByteArray.empty y218 t212)).set (t212 : Int).toNat (rdOf ByteArray.empty y218 t209)) x197003_3))) else (if t209 < (x197003_3.length : Int) then (if t212 < (x197003_3.length : Int) then ((some ((x197003_3.set (t209 : Int).toNat (rdOf ByteArray.empty x197003_3 t212)).set (t212 : Int).toNat (rdOf ByteArray.empty x197003_3 t209) : List ByteArray)).bind fun y230 => ((spec_l03Is.f k3 x197000_21 x197001_21 y218 y230).bind fun t231 => (if t231 = true then (spec_l03DrawOk.l0 k3 (x197002_21.length : Int) (wrap64 (x8_3 - 1)) s0_0 bt219.2.1 bt219.2.2 x197000_21 x197001_21 y218 y230) else (spec_l03DrawOk.l0 k3 (x197002_21.length : Int) (wrap64 (x8_3 - 1)) s0_0 bt219.2.1 bt219.2.2 x197000_21 x197001_21 ((y218.set (t209 : Int).toNat (rdOf ByteArray.empty y218 t212)).set (t212 : Int).toNat (rdOf ByteArray.empty y218 t209)) y230)))) else (none)) else (none)))) = some (r1,r2,r3,r4,r5,r6) := by first | (rw [hy218]; with_reducible exact H) | (have H2_ := (Option.bind_some _ _).symm.trans H; rw [hy218]; with_reducible exact H2_) | (have H2_ := (Option.bind_some _ _).symm.trans H; with_reducible exact H2_) | with_reducible exact H | (rw [hy218]; exact H) | exact H
            have Ny218 := Aside0.mk hy218
            clear hy218
            replace H := Option.bind_eq_some_iff.mp H
            obtain ⟨⟨t219,t220,t221⟩,A530,H⟩ := H
            replace H : (if t219 = true then ((spec_l03Is.f k3 x197000_21 x197001_21 y218 x197003_3).bind fun t222 => (if t222 = true then (spec_l03DrawOk.l0 k3 (x197002_21.length : Int) (wrap64 (x8_3 - 1)) s0_0 t220 t221 x197000_21 x197001_21 y218 x197003_3) else (spec_l03DrawOk.l0 k3 (x197002_21.length : Int) (wrap64 (x8_3 - 1)) s0_0 t220 t221 x197000_21 x197001_21 ((y218.set (t209 : Int).toNat (rdOf ByteArray.empty y218 t212)).set (t212 : Int).toNat (rdOf ByteArray.empty y218 t209)) x197003_3))) else (if t209 < (x197003_3.length : Int) then (if t212 < (x197003_3.length : Int) then ((some ((x197003_3.set (t209 : Int).toNat (rdOf ByteArray.empty x197003_3 t212)).set (t212 : Int).toNat (rdOf ByteArray.empty x197003_3 t209) : List ByteArray)).bind fun y230 => ((spec_l03Is.f k3 x197000_21 x197001_21 y218 y230).bind fun t231 => (if t231 = true then (spec_l03DrawOk.l0 k3 (x197002_21.length : Int) (wrap64 (x8_3 - 1)) s0_0 t220 t221 x197000_21 x197001_21 y218 y230) else (spec_l03DrawOk.l0 k3 (x197002_21.length : Int) (wrap64 (x8_3 - 1)) s0_0 t220 t221 x197000_21 x197001_21 ((y218.set (t209 : Int).toNat (rdOf ByteArray.empty y218 t212)).set (t212 : Int).toNat (rdOf ByteArray.empty y218 t209)) y230)))) else (none)) else (none))) = some (r1,r2,r3,r4,r5,r6) := H
            have A53 := Aside0.mk A530
            clear A530
            by_cases c54 : t219 = true
            ·subst c54
             have H1 : ((spec_l03Is.f k3 x197000_21 x197001_21 y218 x197003_3).bind fun t222 => (if t222 = true then (spec_l03DrawOk.l0 k3 (x197002_21.length : Int) (wrap64 (x8_3 - 1)) s0_0 t220 t221 x197000_21 x197001_21 y218 x197003_3) else (spec_l03DrawOk.l0 k3 (x197002_21.length : Int) (wrap64 (x8_3 - 1)) s0_0 t220 t221 x197000_21 x197001_21 ((y218.set (t209 : Int).toNat (rdOf ByteArray.empty y218 t212)).set (t212 : Int).toNat (rdOf ByteArray.empty y218 t209)) x197003_3))) = some (r1,r2,r3,r4,r5,r6) := by rw [if_pos rfl] at H; exact H
             clear H
             have H := H1
             clear H1
             replace H := Option.bind_eq_some_iff.mp H
             obtain ⟨t222,A550,H⟩ := H
             replace H : (if t222 = true then (spec_l03DrawOk.l0 k3 (x197002_21.length : Int) (wrap64 (x8_3 - 1)) s0_0 t220 t221 x197000_21 x197001_21 y218 x197003_3) else (spec_l03DrawOk.l0 k3 (x197002_21.length : Int) (wrap64 (x8_3 - 1)) s0_0 t220 t221 x197000_21 x197001_21 ((y218.set (t209 : Int).toNat (rdOf ByteArray.empty y218 t212)).set (t212 : Int).toNat (rdOf ByteArray.empty y218 t209)) x197003_3)) = some (r1,r2,r3,r4,r5,r6) := H
             have A55 := Aside0.mk A550
             clear A550
             by_cases c56 : t222 = true
             ·subst c56
              have H1 : (spec_l03DrawOk.l0 k3 (x197002_21.length : Int) (wrap64 (x8_3 - 1)) s0_0 t220 t221 x197000_21 x197001_21 y218 x197003_3) = some (r1,r2,r3,r4,r5,r6) := by rw [if_pos rfl] at H; exact H
              clear H
              have H := H1
              clear H1
              have H' := Aside0.mk H
              clear H
              try go_wp2_with (first | ((with_reducible refine gate_callee (f := 24) rfl ?_); refine goesL_ (some 51) rfl rfl Tryd.func24 (by kernel_rfl) rfl #[.pointer (some ⟨g,0,none⟩),.int .i64 (x197002_21.length : Int)] rfl b6_7 ?_; (with_reducible refine (spec_l00Src_pick.calls g s0_0 x1001_3 x1002_3 (x197002_21.length : Int) t209 t210 t211 w0 _ ?side1 ?side2 A45.out).mono ?_); (case side1 => repeat (first | (with_reducible first | exact HI0.out | apply IsS80.alloc | apply IsS80.drewN | apply IsS80.drew | apply IsS80.set_1 | apply IsS80.set_2 | refine IsS80.far ?_ NB0_165.out _ | refine IsS80.far ?_ NB0_196.out _) | exact HI0.out)); (case side2 => repeat (first | (with_reducible first | exact HB.out | apply below_alloc | apply pw_below_drewN | apply below_drew1 | refine below_set ?_ (IsS80.ge HI0.out) | refine below_set ?_ GE165.out | refine below_set ?_ GE196.out) | exact HB.out)); rintro e w57 ⟨rfl,hi,hb,hk⟩; refine ⟨_,rfl,?_⟩; have n0_ := Aside0.mk (Kd.R_mono (Kd.R_keep (IsS80.apart (show IsS80 w0 _ g s0_0 x1001_3 x1002_3 from by repeat (first | (with_reducible first | exact HI0.out | apply IsS80.alloc | apply IsS80.drewN | apply IsS80.drew | apply IsS80.set_1 | apply IsS80.set_2 | refine IsS80.far ?_ NB0_165.out _ | refine IsS80.far ?_ NB0_196.out _) | exact HI0.out)) b6_8 (by decide)) hk (fun _ h => h.2)) (fun _ h => h.1)); have n1_ := Aside0.mk (Kd.R_mono (Kd.R_keep (IsS80.apart (show IsS80 w0 _ g s0_0 x1001_3 x1002_3 from by repeat (first | (with_reducible first | exact HI0.out | apply IsS80.alloc | apply IsS80.drewN | apply IsS80.drew | apply IsS80.set_1 | apply IsS80.set_2 | refine IsS80.far ?_ NB0_165.out _ | refine IsS80.far ?_ NB0_196.out _) | exact HI0.out)) b6_9 (by decide)) hk (fun _ h => h.2)) (fun _ h => h.1)); have n2_ := Aside0.mk (KeepBut.blk hk (g' := gb165) (o := .cells #[.int .i64 0,.int .i64 0,.slice none 0 0,.slice none 0 0] 26 (0,0)) b6_1 NB165_0.out (by simp)); have n3_ := Aside0.mk (KeepBut.blk hk (g' := gb196) (o := .cells #[.int .i64 x197000_21,.int .i64 x197001_21,u197002,u197003] 26 (0,0)) b6_4 NB196_0.out (by simp)); have n4_ := Aside0.mk (KeepBut.trans b6_0 hk (.inl rfl)); have n5_ := Aside0.mk (hb); have n6_ := Aside0.mk (hi); clear HO_197002; clear HO_197003; clear BK165; clear BK196; clear HK; clear HB; clear HI0; have HO_197002 := n0_; have HO_197003 := n1_; have BK165 := n2_; have BK196 := n3_; have HK := n4_; have HB := n5_; have HI0 := n6_; clear n0_ n1_ n2_ n3_ n4_ n5_ n6_; (try clear hb); (try clear hb2); (try clear hk); (try clear hi)) | ((with_reducible refine gate_callee (f := 24) rfl ?_); refine goesL_ (some 54) rfl rfl Tryd.func24 (by kernel_rfl) rfl #[.pointer (some ⟨g,0,none⟩),.int .i64 (x197002_21.length : Int)] rfl b6_7 ?_; (with_reducible refine (spec_l00Src_pick.calls g s0_0 t210 t211 (x197002_21.length : Int) t212 t213 t214 w0 _ ?side1 ?side2 A46.out).mono ?_); (case side1 => repeat (first | (with_reducible first | exact HI0.out | apply IsS80.alloc | apply IsS80.drewN | apply IsS80.drew | apply IsS80.set_1 | apply IsS80.set_2 | refine IsS80.far ?_ NB0_165.out _ | refine IsS80.far ?_ NB0_196.out _) | exact HI0.out)); (case side2 => repeat (first | (with_reducible first | exact HB.out | apply below_alloc | apply pw_below_drewN | apply below_drew1 | refine below_set ?_ (IsS80.ge HI0.out) | refine below_set ?_ GE165.out | refine below_set ?_ GE196.out) | exact HB.out)); rintro e w58 ⟨rfl,hi,hb,hk⟩; refine ⟨_,rfl,?_⟩; have n0_ := Aside0.mk (Kd.R_mono (Kd.R_keep (IsS80.apart (show IsS80 w0 _ g s0_0 t210 t211 from by repeat (first | (with_reducible first | exact HI0.out | apply IsS80.alloc | apply IsS80.drewN | apply IsS80.drew | apply IsS80.set_1 | apply IsS80.set_2 | refine IsS80.far ?_ NB0_165.out _ | refine IsS80.far ?_ NB0_196.out _) | exact HI0.out)) b6_8 (by decide)) hk (fun _ h => h.2)) (fun _ h => h.1)); have n1_ := Aside0.mk (Kd.R_mono (Kd.R_keep (IsS80.apart (show IsS80 w0 _ g s0_0 t210 t211 from by repeat (first | (with_reducible first | exact HI0.out | apply IsS80.alloc | apply IsS80.drewN | apply IsS80.drew | apply IsS80.set_1 | apply IsS80.set_2 | refine IsS80.far ?_ NB0_165.out _ | refine IsS80.far ?_ NB0_196.out _) | exact HI0.out)) b6_9 (by decide)) hk (fun _ h => h.2)) (fun _ h => h.1)); have n2_ := Aside0.mk (KeepBut.blk hk (g' := gb165) (o := .cells #[.int .i64 0,.int .i64 0,.slice none 0 0,.slice none 0 0] 26 (0,0)) b6_1 NB165_0.out (by simp)); have n3_ := Aside0.mk (KeepBut.blk hk (g' := gb196) (o := .cells #[.int .i64 x197000_21,.int .i64 x197001_21,u197002,u197003] 26 (0,0)) b6_4 NB196_0.out (by simp)); have n4_ := Aside0.mk (KeepBut.trans b6_0 hk (.inl rfl)); have n5_ := Aside0.mk (hb); have n6_ := Aside0.mk (hi); clear HO_197002; clear HO_197003; clear BK165; clear BK196; clear HK; clear HB; clear HI0; have HO_197002 := n0_; have HO_197003 := n1_; have BK165 := n2_; have BK196 := n3_; have HK := n4_; have HB := n5_; have HI0 := n6_; clear n0_ n1_ n2_ n3_ n4_ n5_ n6_; (try clear hb); (try clear hb2); (try clear hk); (try clear hi); have hnb59 := NB196_165.out; have hnc59 := NB165_196.out; have hnb60 := NB196_0.out; have hnc60 := NB0_196.out; have hcz61_0 : w58.cell? ⟨gb196,0,none⟩ = some (.int .i64 x197000_21) := (blk_cell BK196.out 0).trans rfl; have hcz61_1 : w58.cell? ⟨gb196,1,none⟩ = some (.int .i64 x197001_21) := (blk_cell BK196.out 1).trans rfl; have hcz61_2 : w58.cell? ⟨gb196,2,none⟩ = some (u197002) := (blk_cell BK196.out 2).trans rfl; have hcz61_3 : w58.cell? ⟨gb196,3,none⟩ = some (u197003) := (blk_cell BK196.out 3).trans rfl; have hfz61_0 := blk_frozen BK196.out 0; have hfz61_1 := blk_frozen BK196.out 1; have hfz61_2 := blk_frozen BK196.out 2; have hfz61_3 := blk_frozen BK196.out 3; obtain ⟨Ao62,co62,eo62⟩ := Kd.R_slice HO_197002.out; subst eo62; have p215 : 0 ≤ (t209 : Int) := of_decide_eq_true b6_3; have q215 : t209 < (x197002_3.length : Int) := of_decide_eq_true b6_3; obtain ⟨ad215,e215,hx215_0⟩ := Kd.at_string (Kd.R_reads' HO_197002.out).2.2 t209 p215 q215; cases e215; replace p215 := eq_true p215; replace q215 := eq_true q215))
              have n0_ := Aside0.mk (Kd.R_drew HO_197002.out)
              have n1_ := Aside0.mk (Kd.R_drew HO_197003.out)
              have n2_ := Aside0.mk (blk_drew BK165.out)
              have n3_ := Aside0.mk (blk_drew BK196.out)
              have n4_ := Aside0.mk (IsS80.drew HI0.out)
              have n5_ := Aside0.mk (keep_drew HK.out)
              have n6_ := Aside0.mk (below_drew1 HB.out)
              clear HO_197002
              clear HO_197003
              clear BK165
              clear BK196
              clear HI0
              clear HK
              clear HB
              have HO_197002 := n0_
              have HO_197003 := n1_
              have BK165 := n2_
              have BK196 := n3_
              have HI0 := n4_
              have HK := n5_
              have HB := n6_
              clear n0_ n1_ n2_ n3_ n4_ n5_ n6_
              have p216 : 0 ≤ (t212 : Int) := of_decide_eq_true b6_3
              have q216 : t212 < (x197002_3.length : Int) := of_decide_eq_true b6_3
              obtain ⟨ad216,e216,hx216_0⟩ := Kd.at_string (Kd.R_reads' HO_197002.out).2.2 t212 p216 q216
              obtain rfl : ad215 = ad216 := (by injection e216)
              replace p216 := eq_true p216
              replace q216 := eq_true q216
              have p51 : 0 ≤ (t209 : Int) := of_decide_eq_true b6_3
              have q51 : (t209 : Int) < ((x197002_3.length : Int) : Int) := of_decide_eq_true b6_3
              obtain ⟨go51,co51,eo51,gb51,gl51,cl51,HG51⟩ := Kd.R_form HO_197002.out (by omega)
              (first | cases eo51 | (injection eo51 with ea_ en_ ec_; (first | subst ea_ | (injection ea_ with ea_; subst ea_)); subst ec_; clear en_))
              have GB51 := Aside0.mk gb51
              have GG51 := Aside0.mk HG51
              clear gb51 gl51 HG51
              (first | simp only [add_plain] at hx215_0 | skip)
              (first | simp only [add_plain] at hx216_0 | skip)
              obtain ⟨hx51_0,hf51_0⟩ := Kd.R_celln (⟨#[]⟩ : ByteArray) HO_197002.out (t209 : Int) p51 q51
              replace p51 := eq_true p51
              replace q51 := eq_true q51
              have HN0_go51 := Aside0.mk (show g ≠ go51 from by have h_ := IsS80.own_ne HI0.out HO_197002.out (by decide); intro e_; exact h_ (by rw [e_]; rfl))
              have HP64 := Kd.R_putn HO_197002.out (t209 : Int) (rdOf ByteArray.empty x197002_3 t212)
              rw [← Ny217.out] at HP64
              have HQ64 := Aside0.mk HP64
              clear HP64
              refine start_ (n := 10) (S := fun w' => w'.cell? ⟨gb196,0,none⟩ = some (.int .i64 x197000_21) ∧ w'.cell? ⟨gb196,1,none⟩ = some (.int .i64 x197001_21) ∧ w'.cell? ⟨gb196,2,none⟩ = some (.slice (some ⟨go51,0,none⟩) x197002_3.length co62) ∧ w'.cell? ⟨gb196,3,none⟩ = some (u197003) ∧ w'.cell? ⟨go51,(t212).toNat,none⟩ = some (.string (rdOf ByteArray.empty x197002_3 t212))) (ds := [9]) #[false,false,false,false,false,false,false,false,false,false] (by kernel_rfl) rfl rfl ⟨(blk_cell BK196.out 0).trans rfl,(blk_cell BK196.out 1).trans rfl,(blk_cell BK196.out 2).trans rfl,(blk_cell BK196.out 3).trans rfl,hx216_0⟩ (fun hHeld => ?_); refine with_tabW spec_l03DrawOk.tab16 spec_l03DrawOk.bits16 (fun HT_ HW_ => ?_)
              generalize w58.drew = w63 at HO_197002 HO_197003 BK165 BK196 HI0 HK HB GG51 HQ64 hf51_0 hx215_0 hx216_0 hx51_0 hHeld ⊢
              refine pure_ (i := 0) (N := some 60) (v := ?_) (a' := ?_) #[true,false,false,false,false,false,false,false,false,false] rfl rfl (any_of HT_.out (by kernel_rfl)) (fun _ _ _ h => h) (Or.inl ⟨by rfl,?_⟩) ?_ ?_
              rotate_left
              ·intro w'
               go_simp
               with_reducible rfl
              rotate_left
              ·simp only [Act.put,List.setIfInBounds_toArray,List.set_cons_zero,List.set_cons_succ,i64_w,i32_w]
               rfl
              refine pure_ (i := 2) (N := some 62) (v := ?_) (a' := ?_) #[true,false,true,false,false,false,false,false,false,false] rfl rfl (any_of HT_.out (by kernel_rfl)) (fun _ _ _ h => h) (Or.inl ⟨by rfl,?_⟩) ?_ ?_
              rotate_left
              ·intro w'
               go_simp
               with_reducible rfl
              rotate_left
              ·simp only [Act.put,List.setIfInBounds_toArray,List.set_cons_zero,List.set_cons_succ,i64_w,i32_w]
               rfl
              refine pure_ (i := 3) (N := some 63) (v := ?_) (a' := ?_) #[true,false,true,true,false,false,false,false,false,false] rfl rfl (any_of HT_.out (by kernel_rfl)) (fun _ _ _ h => h) (Or.inl ⟨by rfl,?_⟩) ?_ ?_
              rotate_left
              ·intro w'
               go_simp
               with_reducible rfl
              rotate_left
              ·simp only [Act.put,List.setIfInBounds_toArray,List.set_cons_zero,List.set_cons_succ,i64_w,i32_w]
               rfl
              refine pure_ (i := 5) (N := some 65) (v := ?_) (a' := ?_) #[true,false,true,true,false,true,false,false,false,false] rfl rfl (any_of HT_.out (by kernel_rfl)) (fun _ _ _ h => h) (Or.inl ⟨by rfl,?_⟩) ?_ ?_
              rotate_left
              ·intro w'
               go_simp
               with_reducible rfl
              rotate_left
              ·simp only [Act.put,List.setIfInBounds_toArray,List.set_cons_zero,List.set_cons_succ,i64_w,i32_w]
               rfl
              refine take_ (i := 1) (N := some 61) (v := ?_) (a' := ?_) #[true,true,true,true,false,true,false,false,false,false] rfl rfl (take_ofW HT_.out HW_.out (by kernel_rfl)) (fun _ _ _ h => h) (Or.inl ⟨by rfl,?_⟩) hHeld ?_ ?_
              rotate_left
              ·rintro w' ⟨s0,s1,s2,s3,s4⟩
               go_simp
               with_reducible rfl
              rotate_left
              ·simp only [Act.put,List.setIfInBounds_toArray,List.set_cons_zero,List.set_cons_succ,i64_w,i32_w]
               rfl
              refine take_ (i := 4) (N := some 64) (v := ?_) (a' := ?_) #[true,true,true,true,true,true,false,false,false,false] rfl rfl (take_ofW HT_.out HW_.out (by kernel_rfl)) (fun _ _ _ h => h) (Or.inl ⟨by rfl,?_⟩) hHeld ?_ ?_
              rotate_left
              ·rintro w' ⟨s0,s1,s2,s3,s4⟩
               go_simp
               with_reducible rfl
              rotate_left
              ·simp only [Act.put,List.setIfInBounds_toArray,List.set_cons_zero,List.set_cons_succ,i64_w,i32_w]
               rfl
              refine pure_ (i := 6) (N := some 66) (v := ?_) (a' := ?_) #[true,true,true,true,true,true,true,false,false,false] rfl rfl (any_of HT_.out (by kernel_rfl)) (fun _ _ _ h => h) (Or.inl ⟨by rfl,?_⟩) ?_ ?_
              rotate_left
              ·intro w'
               go_simp
               with_reducible rfl
              rotate_left
              ·simp only [Act.put,List.setIfInBounds_toArray,List.set_cons_zero,List.set_cons_succ,i64_w,i32_w]
               rfl
              refine take_ (i := 7) (N := some 67) (v := ?_) (a' := ?_) #[true,true,true,true,true,true,true,true,false,false] rfl rfl (take_ofW HT_.out HW_.out (by kernel_rfl)) (fun _ _ _ h => h) (Or.inl ⟨by rfl,?_⟩) hHeld ?_ ?_
              rotate_left
              ·rintro w' ⟨s0,s1,s2,s3,s4⟩
               go_simp
               with_reducible rfl
              rotate_left
              ·simp only [Act.put,List.setIfInBounds_toArray,List.set_cons_zero,List.set_cons_succ,i64_w,i32_w]
               rfl
              refine pure_ (i := 8) (N := some 68) (v := ?_) (a' := ?_) #[true,true,true,true,true,true,true,true,true,false] rfl rfl (any_of HT_.out (by kernel_rfl)) (fun _ _ _ h => h) (Or.inl ⟨by rfl,?_⟩) ?_ ?_
              rotate_left
              ·intro w'
               go_simp
               with_reducible rfl
              rotate_left
              ·simp only [Act.put,List.setIfInBounds_toArray,List.set_cons_zero,List.set_cons_succ,i64_w,i32_w]
               rfl
              refine last_ (i := 9) (N := none) #[true,true,true,true,true,true,true,true,true,true] rfl rfl (one_of HT_.out (by kernel_rfl)) (by decide) (fun K hK => ?_)
              refine skip_ (w1 := ?_) (by rfl) rfl ?_ ?_
              rotate_left
              ·go_simp
               rfl
              refine hK.out _ _ ?_
              clear hK K
              refine done_ (done_of HT_.out (by kernel_rfl)) ?_
              have n0_ : Aside0 (Kd.R Kd.string 9 (w63.setCell ⟨go51,(t209 : Int).toNat,none⟩ (.string (rdOf ByteArray.empty x197002_3 t212))) w.heap.size (fun k_ => some k_ ≠ (u197003 : Value).ownBlock) (.slice (some ⟨go51,0,none⟩) x197002_3.length co62) y217) := ⟨by (with_reducible repeat (first | apply Kd.R_alloc | apply Kd.R_drewN | apply Kd.R_drew)); exact HQ64.out⟩
              have n1_ : Aside0 (Kd.R Kd.string 9 (w63.setCell ⟨go51,(t209 : Int).toNat,none⟩ (.string (rdOf ByteArray.empty x197002_3 t212))) w.heap.size (fun k_ => some k_ ≠ (.slice (some ⟨go51,0,none⟩) x197002_3.length co62 : Value).ownBlock) u197003 x197003_3) := ⟨b6_19⟩
              have n2_ : Aside0 ((w63.setCell ⟨go51,(t209 : Int).toNat,none⟩ (.string (rdOf ByteArray.empty x197002_3 t212))).heap[gb165]? = some (.cells #[.int .i64 0,.int .i64 0,.slice none 0 0,.slice none 0 0] 26 (0,0))) := ⟨b6_10⟩
              have n3_ : Aside0 ((w63.setCell ⟨go51,(t209 : Int).toNat,none⟩ (.string (rdOf ByteArray.empty x197002_3 t212))).heap[gb196]? = some (.cells #[.int .i64 x197000_21,.int .i64 x197001_21,.slice (some ⟨go51,0,none⟩) x197002_3.length co62,u197003] 26 (0,0))) := ⟨b6_11⟩
              have n4_ : Aside0 (IsS80 w0 (w63.setCell ⟨go51,(t209 : Int).toNat,none⟩ (.string (rdOf ByteArray.empty x197002_3 t212))) g s0_0 t213 t214) := ⟨b6_15⟩
              have n5_ : Aside0 (KeepBut w (w63.setCell ⟨go51,(t209 : Int).toNat,none⟩ (.string (rdOf ByteArray.empty x197002_3 t212))) g none) := ⟨b6_16⟩
              have n6_ : Aside0 (Below w0.heap.size w0 (w63.setCell ⟨go51,(t209 : Int).toNat,none⟩ (.string (rdOf ByteArray.empty x197002_3 t212)))) := ⟨b6_14⟩
              (try clear HO_197002)
              (try clear HO_197003)
              (try clear BK165)
              (try clear BK196)
              (try clear HI0)
              (try clear HK)
              (try clear HB)
              generalize (w63.setCell ⟨go51,(t209 : Int).toNat,none⟩ (.string (rdOf ByteArray.empty x197002_3 t212))) = w65 at n0_ n1_ n2_ n3_ n4_ n5_ n6_ ⊢
              have HO_197002 := n0_
              have HO_197003 := n1_
              have BK165 := n2_
              have BK196 := n3_
              have HI0 := n4_
              have HK := n5_
              have HB := n6_
              clear n0_ n1_ n2_ n3_ n4_ n5_ n6_
              have hcz66_0 : w65.cell? ⟨gb196,0,none⟩ = some (.int .i64 x197000_21) := (blk_cell BK196.out 0).trans rfl
              have hcz66_1 : w65.cell? ⟨gb196,1,none⟩ = some (.int .i64 x197001_21) := (blk_cell BK196.out 1).trans rfl
              have hcz66_2 : w65.cell? ⟨gb196,2,none⟩ = some (.slice (some ⟨go51,0,none⟩) x197002_3.length co62) := (blk_cell BK196.out 2).trans rfl
              have hcz66_3 : w65.cell? ⟨gb196,3,none⟩ = some (u197003) := (blk_cell BK196.out 3).trans rfl
              have hfz66_0 := blk_frozen BK196.out 0
              have hfz66_1 := blk_frozen BK196.out 1
              have hfz66_2 := blk_frozen BK196.out 2
              have hfz66_3 := blk_frozen BK196.out 3
              have p52 : 0 ≤ (t212 : Int) := of_decide_eq_true b6_3
              have q52 : (t212 : Int) < ((x197002_3.length : Int) : Int) := of_decide_eq_true b6_3
              obtain ⟨hx52_0,hf52_0⟩ := Kd.R_celln (⟨#[]⟩ : ByteArray) HO_197002.out (t212 : Int) p52 q52
              replace p52 := eq_true p52
              replace q52 := eq_true q52
              obtain ⟨hy67_,hz67_⟩ := Kd.R_celln (⟨#[]⟩ : ByteArray) HO_197002.out (t212 : Int) (of_decide_eq_true b6_3) (of_decide_eq_true b6_3)
              have HP67 := Kd.R_putg HO_197002.out (t212 : Int) (rdOf ByteArray.empty x197002_3 t209)
              try go_wp2_with (first | ((with_reducible refine gate_store (t := 9) (p := 73) rfl ?_); refine store_event (t := 9) (p := 73) (v := ?vo_w68) (w1 := (w65.setCell ⟨go51,(t212 : Int).toNat,none⟩ (.string (rdOf ByteArray.empty x197002_3 t209)))) ?hg ?ho ?hn ?hr ?_; (case ho => rfl); (case hg => rfl); (case hn => rfl); (case hr => first | (go_simp; done) | (go_simp; rfl)); intro w68 hw; have hg : w65.grownBy w68 (some go51) := (by rw [hw]; exact HP67.2); have hp_ : Kd.R Kd.string 9 w68 w.heap.size (fun k_ => some k_ ≠ (u197003 : Value).ownBlock) (.slice (some ⟨go51,0,none⟩) x197002_3.length co62) y218 := (by rw [hw,Ny218.out]; exact HP67.1); clear HP67; have n0_ := Aside0.mk (hp_); have n1_ := Aside0.mk (Kd.R_after (v := (.slice (some ⟨go51,0,none⟩) x197002_3.length co62)) (v1 := (.slice (some ⟨go51,0,none⟩) x197002_3.length co62)) (ok := (fun _ => True)) b6_22 hg (.inl rfl)); have n2_ := Aside0.mk (blk_grown (g := gb165) (o := .cells #[.int .i64 0,.int .i64 0,.slice none 0 0,.slice none 0 0] 26 (0,0)) b6_1 hg (Kd.R_ne HO_197002.out BK165.out (by decide))); have n3_ := Aside0.mk (blk_grown (g := gb196) (o := .cells #[.int .i64 x197000_21,.int .i64 x197001_21,.slice (some ⟨go51,0,none⟩) x197002_3.length co62,u197003] 26 (0,0)) b6_4 hg (Kd.R_ne HO_197002.out BK196.out (by decide))); have n4_ := Aside0.mk (IsS80.grown b6_2 hg (IsS80.own_ne HI0.out HO_197002.out (by decide))); have n5_ := Aside0.mk ((by rw [hw]; exact below_set (HB.out) (Nat.le_trans HL.out GB51.out) : Below w0.heap.size w0 w68)); have n6_ := Aside0.mk (KeepBut.trans b6_0 (KeepBut.of_grown hg g) (Kd.R_base2 HO_197002.out)); clear HO_197002; clear HO_197003; clear BK165; clear BK196; clear HI0; clear HB; clear HK; have HO_197002 := n0_; have HO_197003 := n1_; have BK165 := n2_; have BK196 := n3_; have HI0 := n4_; have HB := n5_; have HK := n6_; clear n0_ n1_ n2_ n3_ n4_ n5_ n6_; clear hg hw hp_) | ((with_reducible refine gate_callee (f := 47) rfl ?_); refine goesL_ (some 75) rfl rfl Tryd.func47 (by kernel_rfl) rfl #[.pointer (some ⟨g,0,none⟩),.int .i64 3] rfl b6_7 ?_; (with_reducible refine (spec_l00Src_one.calls g s0_0 t213 t214 3 true t220 t221 w0 _ ?side1 ?side2 A53.out).mono ?_); (case side1 => repeat (first | (with_reducible first | exact HI0.out | apply IsS80.alloc | apply IsS80.drewN | apply IsS80.drew | apply IsS80.set_1 | apply IsS80.set_2 | refine IsS80.far ?_ NB0_165.out _ | refine IsS80.far ?_ NB0_196.out _) | exact HI0.out)); (case side2 => repeat (first | (with_reducible first | exact HB.out | apply below_alloc | apply pw_below_drewN | apply below_drew1 | refine below_set ?_ (IsS80.ge HI0.out) | refine below_set ?_ GE165.out | refine below_set ?_ GE196.out) | exact HB.out)); rintro e w69 ⟨rfl,hi,hb,hk⟩; refine ⟨_,rfl,?_⟩; have n0_ := Aside0.mk (Kd.R_mono (Kd.R_keep (IsS80.apart (show IsS80 w0 _ g s0_0 t213 t214 from by repeat (first | (with_reducible first | exact HI0.out | apply IsS80.alloc | apply IsS80.drewN | apply IsS80.drew | apply IsS80.set_1 | apply IsS80.set_2 | refine IsS80.far ?_ NB0_165.out _ | refine IsS80.far ?_ NB0_196.out _) | exact HI0.out)) b6_8 (by decide)) hk (fun _ h => h.2)) (fun _ h => h.1)); have n1_ := Aside0.mk (Kd.R_mono (Kd.R_keep (IsS80.apart (show IsS80 w0 _ g s0_0 t213 t214 from by repeat (first | (with_reducible first | exact HI0.out | apply IsS80.alloc | apply IsS80.drewN | apply IsS80.drew | apply IsS80.set_1 | apply IsS80.set_2 | refine IsS80.far ?_ NB0_165.out _ | refine IsS80.far ?_ NB0_196.out _) | exact HI0.out)) b6_9 (by decide)) hk (fun _ h => h.2)) (fun _ h => h.1)); have n2_ := Aside0.mk (KeepBut.blk hk (g' := gb165) (o := .cells #[.int .i64 0,.int .i64 0,.slice none 0 0,.slice none 0 0] 26 (0,0)) b6_1 NB165_0.out (by simp)); have n3_ := Aside0.mk (KeepBut.blk hk (g' := gb196) (o := .cells #[.int .i64 x197000_21,.int .i64 x197001_21,.slice (some ⟨go51,0,none⟩) x197002_3.length co62,u197003] 26 (0,0)) b6_4 NB196_0.out (by simp)); have n4_ := Aside0.mk (KeepBut.trans b6_0 hk (.inl rfl)); have n5_ := Aside0.mk (hb); have n6_ := Aside0.mk (hi); clear HO_197002; clear HO_197003; clear BK165; clear BK196; clear HK; clear HB; clear HI0; have HO_197002 := n0_; have HO_197003 := n1_; have BK165 := n2_; have BK196 := n3_; have HK := n4_; have HB := n5_; have HI0 := n6_; clear n0_ n1_ n2_ n3_ n4_ n5_ n6_; (try clear hb); (try clear hb2); (try clear hk); (try clear hi); obtain ⟨Ao70,co70,eo70⟩ := Kd.R_slice HO_197003.out; subst eo70) | ((with_reducible refine gate_callee (f := 37) rfl ?_); refine goesL_ (some 96) rfl rfl Tryd.func37 (by kernel_rfl) rfl #[.pointer (some ⟨gb196,0,none⟩)] rfl b6_30 ?_; (with_reducible refine (spec_l03Is.calls k3 gb196 x197000_21 x197001_21 (some ⟨go51,0,none⟩) co62 y218 Ao70 co70 x197003_3 true _ ?side1 ?side2 ?side3 ?side4 ?side5 A55.out).mono ?_); (case side1 => first | (exact by (with_reducible repeat (first | refine blk_drewN ?_ _ | refine blk_drew ?_ | refine blk_alloc ?_ _)); exact BK196.out) | (rw [show y218.length = x197002_3.length from (Kd.R_reads' HO_197002.out).1.symm]; ((with_reducible repeat (first | refine blk_drewN ?_ _ | refine blk_drew ?_ | refine blk_alloc ?_ _)); exact BK196.out))); (case side2 => repeat (first | exact (Kd.R_reads' HO_197002.out).2.2 | (with_reducible refine Kd.C_alloc ?_ _) | (with_reducible refine Kd.C_drewN ?_ _) | (with_reducible refine Kd.C_drew ?_))); (case side3 => rw [show y218.length = x197002_3.length from (Kd.R_reads' HO_197002.out).1.symm]; exact (Kd.R_reads' HO_197002.out).2.1); (case side4 => repeat (first | exact (Kd.R_reads' HO_197003.out).2.2 | (with_reducible refine Kd.C_alloc ?_ _) | (with_reducible refine Kd.C_drewN ?_ _) | (with_reducible refine Kd.C_drew ?_))); (case side5 => exact (Kd.R_reads' HO_197003.out).2.1); rintro e w71 ⟨rfl,hb⟩; refine ⟨_,rfl,?_⟩; have n0_ := Aside0.mk (Kd.R_below b6_8 hb); have n1_ := Aside0.mk (Kd.R_below b6_9 hb); have n2_ := Aside0.mk (blk_below (g := gb165) (o := .cells #[.int .i64 0,.int .i64 0,.slice none 0 0,.slice none 0 0] 26 (0,0)) b6_1 hb); have n3_ := Aside0.mk (blk_below (g := gb196) (o := .cells #[.int .i64 x197000_21,.int .i64 x197001_21,.slice (some ⟨go51,0,none⟩) x197002_3.length co62,.slice Ao70 x197003_3.length co70] 26 (0,0)) b6_4 hb); have n4_ := Aside0.mk (IsS80.below b6_2 hb); have n5_ := Aside0.mk (KeepBut.trans b6_0 (KeepBut.of_below hb g none) (.inl rfl)); have n6_ := Aside0.mk (below_step b6_5 hb); clear HO_197002; clear HO_197003; clear BK165; clear BK196; clear HI0; clear HK; clear HB; have HO_197002 := n0_; have HO_197003 := n1_; have BK165 := n2_; have BK196 := n3_; have HI0 := n4_; have HK := n5_; have HB := n6_; clear n0_ n1_ n2_ n3_ n4_ n5_ n6_; (try clear hb); (try clear hb2); (try clear hk); (try clear hi)))
              go_roundg k3
              case measure => have := HJ4.out; have := HJ21.out; have := HK3.out; omega
              case rel => exact ⟨(wrap64 (x8_3 - 1)),(t220),(t221),(y218),(x197003_3),(.slice (some ⟨go51,0,none⟩) x197002_3.length co62),(.slice Ao70 x197003_3.length co70),b6_32,H',⟨by have := HJ4.out; have := HJ21.out; have := HK3.out; omega⟩,⟨b6_8⟩,⟨b6_34⟩,⟨b6_1⟩,⟨b6_4⟩,⟨b6_2⟩,⟨b6_0⟩,⟨b6_5⟩⟩
             ·replace c56 := Bool.eq_false_iff.mpr c56
              subst c56
              have H1 : (spec_l03DrawOk.l0 k3 (x197002_21.length : Int) (wrap64 (x8_3 - 1)) s0_0 t220 t221 x197000_21 x197001_21 ((y218.set (t209 : Int).toNat (rdOf ByteArray.empty y218 t212)).set (t212 : Int).toNat (rdOf ByteArray.empty y218 t209)) x197003_3) = some (r1,r2,r3,r4,r5,r6) := by rw [if_neg (show ¬ (false = true) by decide)] at H; exact H
              clear H
              have H := H1
              clear H1
              obtain ⟨y225,hy225⟩ : ∃ y_ : List ByteArray,y_ = (y218.set (t209 : Int).toNat (rdOf ByteArray.empty y218 t212)) := ⟨_,rfl⟩
              replace H : (spec_l03DrawOk.l0 k3 (x197002_21.length : Int) (wrap64 (x8_3 - 1)) s0_0 t220 t221 x197000_21 x197001_21 (y225.set (t212 : Int).toNat (rdOf ByteArray.empty y218 t209)) x197003_3) = some (r1,r2,r3,r4,r5,r6) := by first | (rw [hy225]; with_reducible exact H) | (have H2_ := (Option.bind_some _ _).symm.trans H; rw [hy225]; with_reducible exact H2_) | (have H2_ := (Option.bind_some _ _).symm.trans H; with_reducible exact H2_) | with_reducible exact H | (rw [hy225]; exact H) | exact H
              have Ny225 := Aside0.mk hy225
              clear hy225
              obtain ⟨y226,hy226⟩ : ∃ y_ : List ByteArray,y_ = (y225.set (t212 : Int).toNat (rdOf ByteArray.empty y218 t209)) := ⟨_,rfl⟩
              replace H : (spec_l03DrawOk.l0 k3 (x197002_21.length : Int) (wrap64 (x8_3 - 1)) s0_0 t220 t221 x197000_21 x197001_21 y226 x197003_3) = some (r1,r2,r3,r4,r5,r6) := by first | (rw [hy226]; with_reducible exact H) | (have H2_ := (Option.bind_some _ _).symm.trans H; rw [hy226]; with_reducible exact H2_) | (have H2_ := (Option.bind_some _ _).symm.trans H; with_reducible exact H2_) | with_reducible exact H | (rw [hy226]; exact H) | exact H
              have Ny226 := Aside0.mk hy226
              clear hy226
              have H' := Aside0.mk H
              clear H
              try go_wp2_with (first | ((with_reducible refine gate_callee (f := 24) rfl ?_); refine goesL_ (some 51) rfl rfl Tryd.func24 (by kernel_rfl) rfl #[.pointer (some ⟨g,0,none⟩),.int .i64 (x197002_21.length : Int)] rfl b6_7 ?_; (with_reducible refine (spec_l00Src_pick.calls g s0_0 x1001_3 x1002_3 (x197002_21.length : Int) t209 t210 t211 w0 _ ?side1 ?side2 A45.out).mono ?_); (case side1 => repeat (first | (with_reducible first | exact HI0.out | apply IsS80.alloc | apply IsS80.drewN | apply IsS80.drew | apply IsS80.set_1 | apply IsS80.set_2 | refine IsS80.far ?_ NB0_165.out _ | refine IsS80.far ?_ NB0_196.out _) | exact HI0.out)); (case side2 => repeat (first | (with_reducible first | exact HB.out | apply below_alloc | apply pw_below_drewN | apply below_drew1 | refine below_set ?_ (IsS80.ge HI0.out) | refine below_set ?_ GE165.out | refine below_set ?_ GE196.out) | exact HB.out)); rintro e w74 ⟨rfl,hi,hb,hk⟩; refine ⟨_,rfl,?_⟩; have n0_ := Aside0.mk (Kd.R_mono (Kd.R_keep (IsS80.apart (show IsS80 w0 _ g s0_0 x1001_3 x1002_3 from by repeat (first | (with_reducible first | exact HI0.out | apply IsS80.alloc | apply IsS80.drewN | apply IsS80.drew | apply IsS80.set_1 | apply IsS80.set_2 | refine IsS80.far ?_ NB0_165.out _ | refine IsS80.far ?_ NB0_196.out _) | exact HI0.out)) b6_8 (by decide)) hk (fun _ h => h.2)) (fun _ h => h.1)); have n1_ := Aside0.mk (Kd.R_mono (Kd.R_keep (IsS80.apart (show IsS80 w0 _ g s0_0 x1001_3 x1002_3 from by repeat (first | (with_reducible first | exact HI0.out | apply IsS80.alloc | apply IsS80.drewN | apply IsS80.drew | apply IsS80.set_1 | apply IsS80.set_2 | refine IsS80.far ?_ NB0_165.out _ | refine IsS80.far ?_ NB0_196.out _) | exact HI0.out)) b6_9 (by decide)) hk (fun _ h => h.2)) (fun _ h => h.1)); have n2_ := Aside0.mk (KeepBut.blk hk (g' := gb165) (o := .cells #[.int .i64 0,.int .i64 0,.slice none 0 0,.slice none 0 0] 26 (0,0)) b6_1 NB165_0.out (by simp)); have n3_ := Aside0.mk (KeepBut.blk hk (g' := gb196) (o := .cells #[.int .i64 x197000_21,.int .i64 x197001_21,u197002,u197003] 26 (0,0)) b6_4 NB196_0.out (by simp)); have n4_ := Aside0.mk (KeepBut.trans b6_0 hk (.inl rfl)); have n5_ := Aside0.mk (hb); have n6_ := Aside0.mk (hi); clear HO_197002; clear HO_197003; clear BK165; clear BK196; clear HK; clear HB; clear HI0; have HO_197002 := n0_; have HO_197003 := n1_; have BK165 := n2_; have BK196 := n3_; have HK := n4_; have HB := n5_; have HI0 := n6_; clear n0_ n1_ n2_ n3_ n4_ n5_ n6_; (try clear hb); (try clear hb2); (try clear hk); (try clear hi)) | ((with_reducible refine gate_callee (f := 24) rfl ?_); refine goesL_ (some 54) rfl rfl Tryd.func24 (by kernel_rfl) rfl #[.pointer (some ⟨g,0,none⟩),.int .i64 (x197002_21.length : Int)] rfl b6_7 ?_; (with_reducible refine (spec_l00Src_pick.calls g s0_0 t210 t211 (x197002_21.length : Int) t212 t213 t214 w0 _ ?side1 ?side2 A46.out).mono ?_); (case side1 => repeat (first | (with_reducible first | exact HI0.out | apply IsS80.alloc | apply IsS80.drewN | apply IsS80.drew | apply IsS80.set_1 | apply IsS80.set_2 | refine IsS80.far ?_ NB0_165.out _ | refine IsS80.far ?_ NB0_196.out _) | exact HI0.out)); (case side2 => repeat (first | (with_reducible first | exact HB.out | apply below_alloc | apply pw_below_drewN | apply below_drew1 | refine below_set ?_ (IsS80.ge HI0.out) | refine below_set ?_ GE165.out | refine below_set ?_ GE196.out) | exact HB.out)); rintro e w75 ⟨rfl,hi,hb,hk⟩; refine ⟨_,rfl,?_⟩; have n0_ := Aside0.mk (Kd.R_mono (Kd.R_keep (IsS80.apart (show IsS80 w0 _ g s0_0 t210 t211 from by repeat (first | (with_reducible first | exact HI0.out | apply IsS80.alloc | apply IsS80.drewN | apply IsS80.drew | apply IsS80.set_1 | apply IsS80.set_2 | refine IsS80.far ?_ NB0_165.out _ | refine IsS80.far ?_ NB0_196.out _) | exact HI0.out)) b6_8 (by decide)) hk (fun _ h => h.2)) (fun _ h => h.1)); have n1_ := Aside0.mk (Kd.R_mono (Kd.R_keep (IsS80.apart (show IsS80 w0 _ g s0_0 t210 t211 from by repeat (first | (with_reducible first | exact HI0.out | apply IsS80.alloc | apply IsS80.drewN | apply IsS80.drew | apply IsS80.set_1 | apply IsS80.set_2 | refine IsS80.far ?_ NB0_165.out _ | refine IsS80.far ?_ NB0_196.out _) | exact HI0.out)) b6_9 (by decide)) hk (fun _ h => h.2)) (fun _ h => h.1)); have n2_ := Aside0.mk (KeepBut.blk hk (g' := gb165) (o := .cells #[.int .i64 0,.int .i64 0,.slice none 0 0,.slice none 0 0] 26 (0,0)) b6_1 NB165_0.out (by simp)); have n3_ := Aside0.mk (KeepBut.blk hk (g' := gb196) (o := .cells #[.int .i64 x197000_21,.int .i64 x197001_21,u197002,u197003] 26 (0,0)) b6_4 NB196_0.out (by simp)); have n4_ := Aside0.mk (KeepBut.trans b6_0 hk (.inl rfl)); have n5_ := Aside0.mk (hb); have n6_ := Aside0.mk (hi); clear HO_197002; clear HO_197003; clear BK165; clear BK196; clear HK; clear HB; clear HI0; have HO_197002 := n0_; have HO_197003 := n1_; have BK165 := n2_; have BK196 := n3_; have HK := n4_; have HB := n5_; have HI0 := n6_; clear n0_ n1_ n2_ n3_ n4_ n5_ n6_; (try clear hb); (try clear hb2); (try clear hk); (try clear hi); have hnb76 := NB196_165.out; have hnc76 := NB165_196.out; have hnb77 := NB196_0.out; have hnc77 := NB0_196.out; have hcz78_0 : w75.cell? ⟨gb196,0,none⟩ = some (.int .i64 x197000_21) := (blk_cell BK196.out 0).trans rfl; have hcz78_1 : w75.cell? ⟨gb196,1,none⟩ = some (.int .i64 x197001_21) := (blk_cell BK196.out 1).trans rfl; have hcz78_2 : w75.cell? ⟨gb196,2,none⟩ = some (u197002) := (blk_cell BK196.out 2).trans rfl; have hcz78_3 : w75.cell? ⟨gb196,3,none⟩ = some (u197003) := (blk_cell BK196.out 3).trans rfl; have hfz78_0 := blk_frozen BK196.out 0; have hfz78_1 := blk_frozen BK196.out 1; have hfz78_2 := blk_frozen BK196.out 2; have hfz78_3 := blk_frozen BK196.out 3; obtain ⟨Ao79,co79,eo79⟩ := Kd.R_slice HO_197002.out; subst eo79; have p215 : 0 ≤ (t209 : Int) := of_decide_eq_true b6_3; have q215 : t209 < (x197002_3.length : Int) := of_decide_eq_true b6_3; obtain ⟨ad215,e215,hx215_0⟩ := Kd.at_string (Kd.R_reads' HO_197002.out).2.2 t209 p215 q215; cases e215; replace p215 := eq_true p215; replace q215 := eq_true q215))
              have n0_ := Aside0.mk (Kd.R_drew HO_197002.out)
              have n1_ := Aside0.mk (Kd.R_drew HO_197003.out)
              have n2_ := Aside0.mk (blk_drew BK165.out)
              have n3_ := Aside0.mk (blk_drew BK196.out)
              have n4_ := Aside0.mk (IsS80.drew HI0.out)
              have n5_ := Aside0.mk (keep_drew HK.out)
              have n6_ := Aside0.mk (below_drew1 HB.out)
              clear HO_197002
              clear HO_197003
              clear BK165
              clear BK196
              clear HI0
              clear HK
              clear HB
              have HO_197002 := n0_
              have HO_197003 := n1_
              have BK165 := n2_
              have BK196 := n3_
              have HI0 := n4_
              have HK := n5_
              have HB := n6_
              clear n0_ n1_ n2_ n3_ n4_ n5_ n6_
              have p216 : 0 ≤ (t212 : Int) := of_decide_eq_true b6_3
              have q216 : t212 < (x197002_3.length : Int) := of_decide_eq_true b6_3
              obtain ⟨ad216,e216,hx216_0⟩ := Kd.at_string (Kd.R_reads' HO_197002.out).2.2 t212 p216 q216
              obtain rfl : ad215 = ad216 := (by injection e216)
              replace p216 := eq_true p216
              replace q216 := eq_true q216
              have p51 : 0 ≤ (t209 : Int) := of_decide_eq_true b6_3
              have q51 : (t209 : Int) < ((x197002_3.length : Int) : Int) := of_decide_eq_true b6_3
              obtain ⟨go51,co51,eo51,gb51,gl51,cl51,HG51⟩ := Kd.R_form HO_197002.out (by omega)
              (first | cases eo51 | (injection eo51 with ea_ en_ ec_; (first | subst ea_ | (injection ea_ with ea_; subst ea_)); subst ec_; clear en_))
              have GB51 := Aside0.mk gb51
              have GG51 := Aside0.mk HG51
              clear gb51 gl51 HG51
              (first | simp only [add_plain] at hx215_0 | skip)
              (first | simp only [add_plain] at hx216_0 | skip)
              obtain ⟨hx51_0,hf51_0⟩ := Kd.R_celln (⟨#[]⟩ : ByteArray) HO_197002.out (t209 : Int) p51 q51
              replace p51 := eq_true p51
              replace q51 := eq_true q51
              have HN0_go51 := Aside0.mk (show g ≠ go51 from by have h_ := IsS80.own_ne HI0.out HO_197002.out (by decide); intro e_; exact h_ (by rw [e_]; rfl))
              have HP81 := Kd.R_putn HO_197002.out (t209 : Int) (rdOf ByteArray.empty x197002_3 t212)
              rw [← Ny217.out] at HP81
              have HQ81 := Aside0.mk HP81
              clear HP81
              refine start_ (n := 10) (S := fun w' => w'.cell? ⟨gb196,0,none⟩ = some (.int .i64 x197000_21) ∧ w'.cell? ⟨gb196,1,none⟩ = some (.int .i64 x197001_21) ∧ w'.cell? ⟨gb196,2,none⟩ = some (.slice (some ⟨go51,0,none⟩) x197002_3.length co79) ∧ w'.cell? ⟨gb196,3,none⟩ = some (u197003) ∧ w'.cell? ⟨go51,(t212).toNat,none⟩ = some (.string (rdOf ByteArray.empty x197002_3 t212))) (ds := [9]) #[false,false,false,false,false,false,false,false,false,false] (by kernel_rfl) rfl rfl ⟨(blk_cell BK196.out 0).trans rfl,(blk_cell BK196.out 1).trans rfl,(blk_cell BK196.out 2).trans rfl,(blk_cell BK196.out 3).trans rfl,hx216_0⟩ (fun hHeld => ?_); refine with_tabW spec_l03DrawOk.tab16 spec_l03DrawOk.bits16 (fun HT_ HW_ => ?_)
              generalize w75.drew = w80 at HO_197002 HO_197003 BK165 BK196 HI0 HK HB GG51 HQ81 hf51_0 hx215_0 hx216_0 hx51_0 hHeld ⊢
              refine pure_ (i := 0) (N := some 60) (v := ?_) (a' := ?_) #[true,false,false,false,false,false,false,false,false,false] rfl rfl (any_of HT_.out (by kernel_rfl)) (fun _ _ _ h => h) (Or.inl ⟨by rfl,?_⟩) ?_ ?_
              rotate_left
              ·intro w'
               go_simp
               with_reducible rfl
              rotate_left
              ·simp only [Act.put,List.setIfInBounds_toArray,List.set_cons_zero,List.set_cons_succ,i64_w,i32_w]
               rfl
              refine pure_ (i := 2) (N := some 62) (v := ?_) (a' := ?_) #[true,false,true,false,false,false,false,false,false,false] rfl rfl (any_of HT_.out (by kernel_rfl)) (fun _ _ _ h => h) (Or.inl ⟨by rfl,?_⟩) ?_ ?_
              rotate_left
              ·intro w'
               go_simp
               with_reducible rfl
              rotate_left
              ·simp only [Act.put,List.setIfInBounds_toArray,List.set_cons_zero,List.set_cons_succ,i64_w,i32_w]
               rfl
              refine pure_ (i := 3) (N := some 63) (v := ?_) (a' := ?_) #[true,false,true,true,false,false,false,false,false,false] rfl rfl (any_of HT_.out (by kernel_rfl)) (fun _ _ _ h => h) (Or.inl ⟨by rfl,?_⟩) ?_ ?_
              rotate_left
              ·intro w'
               go_simp
               with_reducible rfl
              rotate_left
              ·simp only [Act.put,List.setIfInBounds_toArray,List.set_cons_zero,List.set_cons_succ,i64_w,i32_w]
               rfl
              refine pure_ (i := 5) (N := some 65) (v := ?_) (a' := ?_) #[true,false,true,true,false,true,false,false,false,false] rfl rfl (any_of HT_.out (by kernel_rfl)) (fun _ _ _ h => h) (Or.inl ⟨by rfl,?_⟩) ?_ ?_
              rotate_left
              ·intro w'
               go_simp
               with_reducible rfl
              rotate_left
              ·simp only [Act.put,List.setIfInBounds_toArray,List.set_cons_zero,List.set_cons_succ,i64_w,i32_w]
               rfl
              refine take_ (i := 1) (N := some 61) (v := ?_) (a' := ?_) #[true,true,true,true,false,true,false,false,false,false] rfl rfl (take_ofW HT_.out HW_.out (by kernel_rfl)) (fun _ _ _ h => h) (Or.inl ⟨by rfl,?_⟩) hHeld ?_ ?_
              rotate_left
              ·rintro w' ⟨s0,s1,s2,s3,s4⟩
               go_simp
               with_reducible rfl
              rotate_left
              ·simp only [Act.put,List.setIfInBounds_toArray,List.set_cons_zero,List.set_cons_succ,i64_w,i32_w]
               rfl
              refine take_ (i := 4) (N := some 64) (v := ?_) (a' := ?_) #[true,true,true,true,true,true,false,false,false,false] rfl rfl (take_ofW HT_.out HW_.out (by kernel_rfl)) (fun _ _ _ h => h) (Or.inl ⟨by rfl,?_⟩) hHeld ?_ ?_
              rotate_left
              ·rintro w' ⟨s0,s1,s2,s3,s4⟩
               go_simp
               with_reducible rfl
              rotate_left
              ·simp only [Act.put,List.setIfInBounds_toArray,List.set_cons_zero,List.set_cons_succ,i64_w,i32_w]
               rfl
              refine pure_ (i := 6) (N := some 66) (v := ?_) (a' := ?_) #[true,true,true,true,true,true,true,false,false,false] rfl rfl (any_of HT_.out (by kernel_rfl)) (fun _ _ _ h => h) (Or.inl ⟨by rfl,?_⟩) ?_ ?_
              rotate_left
              ·intro w'
               go_simp
               with_reducible rfl
              rotate_left
              ·simp only [Act.put,List.setIfInBounds_toArray,List.set_cons_zero,List.set_cons_succ,i64_w,i32_w]
               rfl
              refine take_ (i := 7) (N := some 67) (v := ?_) (a' := ?_) #[true,true,true,true,true,true,true,true,false,false] rfl rfl (take_ofW HT_.out HW_.out (by kernel_rfl)) (fun _ _ _ h => h) (Or.inl ⟨by rfl,?_⟩) hHeld ?_ ?_
              rotate_left
              ·rintro w' ⟨s0,s1,s2,s3,s4⟩
               go_simp
               with_reducible rfl
              rotate_left
              ·simp only [Act.put,List.setIfInBounds_toArray,List.set_cons_zero,List.set_cons_succ,i64_w,i32_w]
               rfl
              refine pure_ (i := 8) (N := some 68) (v := ?_) (a' := ?_) #[true,true,true,true,true,true,true,true,true,false] rfl rfl (any_of HT_.out (by kernel_rfl)) (fun _ _ _ h => h) (Or.inl ⟨by rfl,?_⟩) ?_ ?_
              rotate_left
              ·intro w'
               go_simp
               with_reducible rfl
              rotate_left
              ·simp only [Act.put,List.setIfInBounds_toArray,List.set_cons_zero,List.set_cons_succ,i64_w,i32_w]
               rfl
              refine last_ (i := 9) (N := none) #[true,true,true,true,true,true,true,true,true,true] rfl rfl (one_of HT_.out (by kernel_rfl)) (by decide) (fun K hK => ?_)
              refine skip_ (w1 := ?_) (by rfl) rfl ?_ ?_
              rotate_left
              ·go_simp
               rfl
              refine hK.out _ _ ?_
              clear hK K
              refine done_ (done_of HT_.out (by kernel_rfl)) ?_
              have n0_ : Aside0 (Kd.R Kd.string 9 (w80.setCell ⟨go51,(t209 : Int).toNat,none⟩ (.string (rdOf ByteArray.empty x197002_3 t212))) w.heap.size (fun k_ => some k_ ≠ (u197003 : Value).ownBlock) (.slice (some ⟨go51,0,none⟩) x197002_3.length co79) y217) := ⟨by (with_reducible repeat (first | apply Kd.R_alloc | apply Kd.R_drewN | apply Kd.R_drew)); exact HQ81.out⟩
              have n1_ : Aside0 (Kd.R Kd.string 9 (w80.setCell ⟨go51,(t209 : Int).toNat,none⟩ (.string (rdOf ByteArray.empty x197002_3 t212))) w.heap.size (fun k_ => some k_ ≠ (.slice (some ⟨go51,0,none⟩) x197002_3.length co79 : Value).ownBlock) u197003 x197003_3) := ⟨b6_19⟩
              have n2_ : Aside0 ((w80.setCell ⟨go51,(t209 : Int).toNat,none⟩ (.string (rdOf ByteArray.empty x197002_3 t212))).heap[gb165]? = some (.cells #[.int .i64 0,.int .i64 0,.slice none 0 0,.slice none 0 0] 26 (0,0))) := ⟨b6_10⟩
              have n3_ : Aside0 ((w80.setCell ⟨go51,(t209 : Int).toNat,none⟩ (.string (rdOf ByteArray.empty x197002_3 t212))).heap[gb196]? = some (.cells #[.int .i64 x197000_21,.int .i64 x197001_21,.slice (some ⟨go51,0,none⟩) x197002_3.length co79,u197003] 26 (0,0))) := ⟨b6_11⟩
              have n4_ : Aside0 (IsS80 w0 (w80.setCell ⟨go51,(t209 : Int).toNat,none⟩ (.string (rdOf ByteArray.empty x197002_3 t212))) g s0_0 t213 t214) := ⟨b6_15⟩
              have n5_ : Aside0 (KeepBut w (w80.setCell ⟨go51,(t209 : Int).toNat,none⟩ (.string (rdOf ByteArray.empty x197002_3 t212))) g none) := ⟨b6_16⟩
              have n6_ : Aside0 (Below w0.heap.size w0 (w80.setCell ⟨go51,(t209 : Int).toNat,none⟩ (.string (rdOf ByteArray.empty x197002_3 t212)))) := ⟨b6_14⟩
              (try clear HO_197002)
              (try clear HO_197003)
              (try clear BK165)
              (try clear BK196)
              (try clear HI0)
              (try clear HK)
              (try clear HB)
              generalize (w80.setCell ⟨go51,(t209 : Int).toNat,none⟩ (.string (rdOf ByteArray.empty x197002_3 t212))) = w82 at n0_ n1_ n2_ n3_ n4_ n5_ n6_ ⊢
              have HO_197002 := n0_
              have HO_197003 := n1_
              have BK165 := n2_
              have BK196 := n3_
              have HI0 := n4_
              have HK := n5_
              have HB := n6_
              clear n0_ n1_ n2_ n3_ n4_ n5_ n6_
              have hcz83_0 : w82.cell? ⟨gb196,0,none⟩ = some (.int .i64 x197000_21) := (blk_cell BK196.out 0).trans rfl
              have hcz83_1 : w82.cell? ⟨gb196,1,none⟩ = some (.int .i64 x197001_21) := (blk_cell BK196.out 1).trans rfl
              have hcz83_2 : w82.cell? ⟨gb196,2,none⟩ = some (.slice (some ⟨go51,0,none⟩) x197002_3.length co79) := (blk_cell BK196.out 2).trans rfl
              have hcz83_3 : w82.cell? ⟨gb196,3,none⟩ = some (u197003) := (blk_cell BK196.out 3).trans rfl
              have hfz83_0 := blk_frozen BK196.out 0
              have hfz83_1 := blk_frozen BK196.out 1
              have hfz83_2 := blk_frozen BK196.out 2
              have hfz83_3 := blk_frozen BK196.out 3
              have p52 : 0 ≤ (t212 : Int) := of_decide_eq_true b6_3
              have q52 : (t212 : Int) < ((x197002_3.length : Int) : Int) := of_decide_eq_true b6_3
              obtain ⟨hx52_0,hf52_0⟩ := Kd.R_celln (⟨#[]⟩ : ByteArray) HO_197002.out (t212 : Int) p52 q52
              replace p52 := eq_true p52
              replace q52 := eq_true q52
              obtain ⟨hy84_,hz84_⟩ := Kd.R_celln (⟨#[]⟩ : ByteArray) HO_197002.out (t212 : Int) (of_decide_eq_true b6_3) (of_decide_eq_true b6_3)
              have HP84 := Kd.R_putg HO_197002.out (t212 : Int) (rdOf ByteArray.empty x197002_3 t209)
              try go_wp2_with (first | ((with_reducible refine gate_store (t := 9) (p := 73) rfl ?_); refine store_event (t := 9) (p := 73) (v := ?vo_w85) (w1 := (w82.setCell ⟨go51,(t212 : Int).toNat,none⟩ (.string (rdOf ByteArray.empty x197002_3 t209)))) ?hg ?ho ?hn ?hr ?_; (case ho => rfl); (case hg => rfl); (case hn => rfl); (case hr => first | (go_simp; done) | (go_simp; rfl)); intro w85 hw; have hg : w82.grownBy w85 (some go51) := (by rw [hw]; exact HP84.2); have hp_ : Kd.R Kd.string 9 w85 w.heap.size (fun k_ => some k_ ≠ (u197003 : Value).ownBlock) (.slice (some ⟨go51,0,none⟩) x197002_3.length co79) y218 := (by rw [hw,Ny218.out]; exact HP84.1); clear HP84; have n0_ := Aside0.mk (hp_); have n1_ := Aside0.mk (Kd.R_after (v := (.slice (some ⟨go51,0,none⟩) x197002_3.length co79)) (v1 := (.slice (some ⟨go51,0,none⟩) x197002_3.length co79)) (ok := (fun _ => True)) b6_22 hg (.inl rfl)); have n2_ := Aside0.mk (blk_grown (g := gb165) (o := .cells #[.int .i64 0,.int .i64 0,.slice none 0 0,.slice none 0 0] 26 (0,0)) b6_1 hg (Kd.R_ne HO_197002.out BK165.out (by decide))); have n3_ := Aside0.mk (blk_grown (g := gb196) (o := .cells #[.int .i64 x197000_21,.int .i64 x197001_21,.slice (some ⟨go51,0,none⟩) x197002_3.length co79,u197003] 26 (0,0)) b6_4 hg (Kd.R_ne HO_197002.out BK196.out (by decide))); have n4_ := Aside0.mk (IsS80.grown b6_2 hg (IsS80.own_ne HI0.out HO_197002.out (by decide))); have n5_ := Aside0.mk ((by rw [hw]; exact below_set (HB.out) (Nat.le_trans HL.out GB51.out) : Below w0.heap.size w0 w85)); have n6_ := Aside0.mk (KeepBut.trans b6_0 (KeepBut.of_grown hg g) (Kd.R_base2 HO_197002.out)); clear HO_197002; clear HO_197003; clear BK165; clear BK196; clear HI0; clear HB; clear HK; have HO_197002 := n0_; have HO_197003 := n1_; have BK165 := n2_; have BK196 := n3_; have HI0 := n4_; have HB := n5_; have HK := n6_; clear n0_ n1_ n2_ n3_ n4_ n5_ n6_; clear hg hw hp_) | ((with_reducible refine gate_callee (f := 47) rfl ?_); refine goesL_ (some 75) rfl rfl Tryd.func47 (by kernel_rfl) rfl #[.pointer (some ⟨g,0,none⟩),.int .i64 3] rfl b6_7 ?_; (with_reducible refine (spec_l00Src_one.calls g s0_0 t213 t214 3 true t220 t221 w0 _ ?side1 ?side2 A53.out).mono ?_); (case side1 => repeat (first | (with_reducible first | exact HI0.out | apply IsS80.alloc | apply IsS80.drewN | apply IsS80.drew | apply IsS80.set_1 | apply IsS80.set_2 | refine IsS80.far ?_ NB0_165.out _ | refine IsS80.far ?_ NB0_196.out _) | exact HI0.out)); (case side2 => repeat (first | (with_reducible first | exact HB.out | apply below_alloc | apply pw_below_drewN | apply below_drew1 | refine below_set ?_ (IsS80.ge HI0.out) | refine below_set ?_ GE165.out | refine below_set ?_ GE196.out) | exact HB.out)); rintro e w86 ⟨rfl,hi,hb,hk⟩; refine ⟨_,rfl,?_⟩; have n0_ := Aside0.mk (Kd.R_mono (Kd.R_keep (IsS80.apart (show IsS80 w0 _ g s0_0 t213 t214 from by repeat (first | (with_reducible first | exact HI0.out | apply IsS80.alloc | apply IsS80.drewN | apply IsS80.drew | apply IsS80.set_1 | apply IsS80.set_2 | refine IsS80.far ?_ NB0_165.out _ | refine IsS80.far ?_ NB0_196.out _) | exact HI0.out)) b6_8 (by decide)) hk (fun _ h => h.2)) (fun _ h => h.1)); have n1_ := Aside0.mk (Kd.R_mono (Kd.R_keep (IsS80.apart (show IsS80 w0 _ g s0_0 t213 t214 from by repeat (first | (with_reducible first | exact HI0.out | apply IsS80.alloc | apply IsS80.drewN | apply IsS80.drew | apply IsS80.set_1 | apply IsS80.set_2 | refine IsS80.far ?_ NB0_165.out _ | refine IsS80.far ?_ NB0_196.out _) | exact HI0.out)) b6_9 (by decide)) hk (fun _ h => h.2)) (fun _ h => h.1)); have n2_ := Aside0.mk (KeepBut.blk hk (g' := gb165) (o := .cells #[.int .i64 0,.int .i64 0,.slice none 0 0,.slice none 0 0] 26 (0,0)) b6_1 NB165_0.out (by simp)); have n3_ := Aside0.mk (KeepBut.blk hk (g' := gb196) (o := .cells #[.int .i64 x197000_21,.int .i64 x197001_21,.slice (some ⟨go51,0,none⟩) x197002_3.length co79,u197003] 26 (0,0)) b6_4 NB196_0.out (by simp)); have n4_ := Aside0.mk (KeepBut.trans b6_0 hk (.inl rfl)); have n5_ := Aside0.mk (hb); have n6_ := Aside0.mk (hi); clear HO_197002; clear HO_197003; clear BK165; clear BK196; clear HK; clear HB; clear HI0; have HO_197002 := n0_; have HO_197003 := n1_; have BK165 := n2_; have BK196 := n3_; have HK := n4_; have HB := n5_; have HI0 := n6_; clear n0_ n1_ n2_ n3_ n4_ n5_ n6_; (try clear hb); (try clear hb2); (try clear hk); (try clear hi); obtain ⟨Ao87,co87,eo87⟩ := Kd.R_slice HO_197003.out; subst eo87) | ((with_reducible refine gate_callee (f := 37) rfl ?_); refine goesL_ (some 96) rfl rfl Tryd.func37 (by kernel_rfl) rfl #[.pointer (some ⟨gb196,0,none⟩)] rfl b6_30 ?_; (with_reducible refine (spec_l03Is.calls k3 gb196 x197000_21 x197001_21 (some ⟨go51,0,none⟩) co79 y218 Ao87 co87 x197003_3 false _ ?side1 ?side2 ?side3 ?side4 ?side5 A55.out).mono ?_); (case side1 => first | (exact by (with_reducible repeat (first | refine blk_drewN ?_ _ | refine blk_drew ?_ | refine blk_alloc ?_ _)); exact BK196.out) | (rw [show y218.length = x197002_3.length from (Kd.R_reads' HO_197002.out).1.symm]; ((with_reducible repeat (first | refine blk_drewN ?_ _ | refine blk_drew ?_ | refine blk_alloc ?_ _)); exact BK196.out))); (case side2 => repeat (first | exact (Kd.R_reads' HO_197002.out).2.2 | (with_reducible refine Kd.C_alloc ?_ _) | (with_reducible refine Kd.C_drewN ?_ _) | (with_reducible refine Kd.C_drew ?_))); (case side3 => rw [show y218.length = x197002_3.length from (Kd.R_reads' HO_197002.out).1.symm]; exact (Kd.R_reads' HO_197002.out).2.1); (case side4 => repeat (first | exact (Kd.R_reads' HO_197003.out).2.2 | (with_reducible refine Kd.C_alloc ?_ _) | (with_reducible refine Kd.C_drewN ?_ _) | (with_reducible refine Kd.C_drew ?_))); (case side5 => exact (Kd.R_reads' HO_197003.out).2.1); rintro e w88 ⟨rfl,hb⟩; refine ⟨_,rfl,?_⟩; have n0_ := Aside0.mk (Kd.R_below b6_8 hb); have n1_ := Aside0.mk (Kd.R_below b6_9 hb); have n2_ := Aside0.mk (blk_below (g := gb165) (o := .cells #[.int .i64 0,.int .i64 0,.slice none 0 0,.slice none 0 0] 26 (0,0)) b6_1 hb); have n3_ := Aside0.mk (blk_below (g := gb196) (o := .cells #[.int .i64 x197000_21,.int .i64 x197001_21,.slice (some ⟨go51,0,none⟩) x197002_3.length co79,.slice Ao87 x197003_3.length co87] 26 (0,0)) b6_4 hb); have n4_ := Aside0.mk (IsS80.below b6_2 hb); have n5_ := Aside0.mk (KeepBut.trans b6_0 (KeepBut.of_below hb g none) (.inl rfl)); have n6_ := Aside0.mk (below_step b6_5 hb); clear HO_197002; clear HO_197003; clear BK165; clear BK196; clear HI0; clear HK; clear HB; have HO_197002 := n0_; have HO_197003 := n1_; have BK165 := n2_; have BK196 := n3_; have HI0 := n4_; have HK := n5_; have HB := n6_; clear n0_ n1_ n2_ n3_ n4_ n5_ n6_; (try clear hb); (try clear hb2); (try clear hk); (try clear hi); have hcz89_0 : w88.cell? ⟨gb196,0,none⟩ = some (.int .i64 x197000_21) := (blk_cell BK196.out 0).trans rfl; have hcz89_1 : w88.cell? ⟨gb196,1,none⟩ = some (.int .i64 x197001_21) := (blk_cell BK196.out 1).trans rfl; have hcz89_2 : w88.cell? ⟨gb196,2,none⟩ = some (.slice (some ⟨go51,0,none⟩) x197002_3.length co79) := (blk_cell BK196.out 2).trans rfl; have hcz89_3 : w88.cell? ⟨gb196,3,none⟩ = some (.slice Ao87 x197003_3.length co87) := (blk_cell BK196.out 3).trans rfl; have hfz89_0 := blk_frozen BK196.out 0; have hfz89_1 := blk_frozen BK196.out 1; have hfz89_2 := blk_frozen BK196.out 2; have hfz89_3 := blk_frozen BK196.out 3; have p223 : 0 ≤ (t209 : Int) := of_decide_eq_true b6_3; have q223 : t209 < (y218.length : Int) := (by have h_ : (t209 : Int) < ((x197002_3.length : Int) : Int) := of_decide_eq_true b6_3; first | (have e_ := (Kd.R_reads' HO_197002.out).1; omega) | simpa only [Ny217.out,Ny218.out,List.length_set] using h_); have ql223 : ((t209 : Int) < ((x197002_3.length : Int) : Int)) = True := eq_true (of_decide_eq_true b6_3); obtain ⟨ad223,e223,hx223_0⟩ := Kd.at_string (Kd.R_reads' HO_197002.out).2.2 t209 p223 q223; obtain rfl : (⟨go51,0,none⟩ : Addr) = ad223 := (by injection e223); (first | simp only [add_plain] at hx223_0 | simp only [add_at] at hx223_0 | simp only [Addr.add,Nat.zero_add] at hx223_0 | skip); replace p223 := eq_true p223; replace q223 := eq_true q223))
              have n0_ := Aside0.mk (Kd.R_drew HO_197002.out)
              have n1_ := Aside0.mk (Kd.R_drew HO_197003.out)
              have n2_ := Aside0.mk (blk_drew BK165.out)
              have n3_ := Aside0.mk (blk_drew BK196.out)
              have n4_ := Aside0.mk (IsS80.drew HI0.out)
              have n5_ := Aside0.mk (keep_drew HK.out)
              have n6_ := Aside0.mk (below_drew1 HB.out)
              clear HO_197002
              clear HO_197003
              clear BK165
              clear BK196
              clear HI0
              clear HK
              clear HB
              have HO_197002 := n0_
              have HO_197003 := n1_
              have BK165 := n2_
              have BK196 := n3_
              have HI0 := n4_
              have HK := n5_
              have HB := n6_
              clear n0_ n1_ n2_ n3_ n4_ n5_ n6_
              have p224 : 0 ≤ (t212 : Int) := of_decide_eq_true b6_3
              have q224 : t212 < (y218.length : Int) := (by have h_ : (t212 : Int) < ((x197002_3.length : Int) : Int) := of_decide_eq_true b6_3; first | (have e_ := (Kd.R_reads' HO_197002.out).1; omega) | simpa only [Ny217.out,Ny218.out,List.length_set] using h_)
              have ql224 : ((t212 : Int) < ((x197002_3.length : Int) : Int)) = True := eq_true (of_decide_eq_true b6_3)
              obtain ⟨ad224,e224,hx224_0⟩ := Kd.at_string (Kd.R_reads' HO_197002.out).2.2 t212 p224 q224
              obtain rfl : (⟨go51,0,none⟩ : Addr) = ad224 := (by injection e224)
              (first | simp only [add_plain] at hx224_0 | simp only [add_at] at hx224_0 | simp only [Addr.add,Nat.zero_add] at hx224_0 | skip)
              replace p224 := eq_true p224
              replace q224 := eq_true q224
              have p72 : 0 ≤ (t209 : Int) := of_decide_eq_true b6_3
              have q72 : (t209 : Int) < ((x197002_3.length : Int) : Int) := of_decide_eq_true b6_3
              obtain ⟨hx72_0,hf72_0⟩ := Kd.R_celln (⟨#[]⟩ : ByteArray) HO_197002.out (t209 : Int) p72 q72
              replace p72 := eq_true p72
              replace q72 := eq_true q72
              have HN0_go51 := Aside0.mk (show g ≠ go51 from by have h_ := IsS80.own_ne HI0.out HO_197002.out (by decide); intro e_; exact h_ (by rw [e_]; rfl))
              have HP91 := Kd.R_putn HO_197002.out (t209 : Int) (rdOf ByteArray.empty y218 t212)
              rw [← Ny225.out] at HP91
              have HQ91 := Aside0.mk HP91
              clear HP91
              refine start_ (n := 10) (S := fun w' => w'.cell? ⟨gb196,0,none⟩ = some (.int .i64 x197000_21) ∧ w'.cell? ⟨gb196,1,none⟩ = some (.int .i64 x197001_21) ∧ w'.cell? ⟨gb196,2,none⟩ = some (.slice (some ⟨go51,0,none⟩) x197002_3.length co79) ∧ w'.cell? ⟨gb196,3,none⟩ = some (.slice Ao87 x197003_3.length co87) ∧ w'.cell? ⟨go51,(t212).toNat,none⟩ = some (.string (rdOf ByteArray.empty y218 t212))) (ds := [9]) #[false,false,false,false,false,false,false,false,false,false] (by kernel_rfl) rfl rfl ⟨(blk_cell BK196.out 0).trans rfl,(blk_cell BK196.out 1).trans rfl,(blk_cell BK196.out 2).trans rfl,(blk_cell BK196.out 3).trans rfl,hx224_0⟩ (fun hHeld => ?_); refine with_tabW spec_l03DrawOk.tab24 spec_l03DrawOk.bits24 (fun HT_ HW_ => ?_)
              generalize w88.drew = w90 at HO_197002 HO_197003 BK165 BK196 HI0 HK HB HQ91 hf72_0 hx224_0 hx72_0 hHeld ⊢
              refine pure_ (i := 0) (N := some 103) (v := ?_) (a' := ?_) #[true,false,false,false,false,false,false,false,false,false] rfl rfl (any_of HT_.out (by kernel_rfl)) (fun _ _ _ h => h) (Or.inl ⟨by rfl,?_⟩) ?_ ?_
              rotate_left
              ·intro w'
               go_simp
               with_reducible rfl
              rotate_left
              ·simp only [Act.put,List.setIfInBounds_toArray,List.set_cons_zero,List.set_cons_succ,i64_w,i32_w]
               rfl
              refine pure_ (i := 2) (N := some 105) (v := ?_) (a' := ?_) #[true,false,true,false,false,false,false,false,false,false] rfl rfl (any_of HT_.out (by kernel_rfl)) (fun _ _ _ h => h) (Or.inl ⟨by rfl,?_⟩) ?_ ?_
              rotate_left
              ·intro w'
               go_simp
               with_reducible rfl
              rotate_left
              ·simp only [Act.put,List.setIfInBounds_toArray,List.set_cons_zero,List.set_cons_succ,i64_w,i32_w]
               rfl
              refine pure_ (i := 3) (N := some 106) (v := ?_) (a' := ?_) #[true,false,true,true,false,false,false,false,false,false] rfl rfl (any_of HT_.out (by kernel_rfl)) (fun _ _ _ h => h) (Or.inl ⟨by rfl,?_⟩) ?_ ?_
              rotate_left
              ·intro w'
               go_simp
               with_reducible rfl
              rotate_left
              ·simp only [Act.put,List.setIfInBounds_toArray,List.set_cons_zero,List.set_cons_succ,i64_w,i32_w]
               rfl
              refine pure_ (i := 5) (N := some 108) (v := ?_) (a' := ?_) #[true,false,true,true,false,true,false,false,false,false] rfl rfl (any_of HT_.out (by kernel_rfl)) (fun _ _ _ h => h) (Or.inl ⟨by rfl,?_⟩) ?_ ?_
              rotate_left
              ·intro w'
               go_simp
               with_reducible rfl
              rotate_left
              ·simp only [Act.put,List.setIfInBounds_toArray,List.set_cons_zero,List.set_cons_succ,i64_w,i32_w]
               rfl
              refine take_ (i := 1) (N := some 104) (v := ?_) (a' := ?_) #[true,true,true,true,false,true,false,false,false,false] rfl rfl (take_ofW HT_.out HW_.out (by kernel_rfl)) (fun _ _ _ h => h) (Or.inl ⟨by rfl,?_⟩) hHeld ?_ ?_
              rotate_left
              ·rintro w' ⟨s0,s1,s2,s3,s4⟩
               go_simp
               with_reducible rfl
              rotate_left
              ·simp only [Act.put,List.setIfInBounds_toArray,List.set_cons_zero,List.set_cons_succ,i64_w,i32_w]
               rfl
              refine take_ (i := 4) (N := some 107) (v := ?_) (a' := ?_) #[true,true,true,true,true,true,false,false,false,false] rfl rfl (take_ofW HT_.out HW_.out (by kernel_rfl)) (fun _ _ _ h => h) (Or.inl ⟨by rfl,?_⟩) hHeld ?_ ?_
              rotate_left
              ·rintro w' ⟨s0,s1,s2,s3,s4⟩
               go_simp
               with_reducible rfl
              rotate_left
              ·simp only [Act.put,List.setIfInBounds_toArray,List.set_cons_zero,List.set_cons_succ,i64_w,i32_w]
               rfl
              refine pure_ (i := 6) (N := some 109) (v := ?_) (a' := ?_) #[true,true,true,true,true,true,true,false,false,false] rfl rfl (any_of HT_.out (by kernel_rfl)) (fun _ _ _ h => h) (Or.inl ⟨by rfl,?_⟩) ?_ ?_
              rotate_left
              ·intro w'
               go_simp
               with_reducible rfl
              rotate_left
              ·simp only [Act.put,List.setIfInBounds_toArray,List.set_cons_zero,List.set_cons_succ,i64_w,i32_w]
               rfl
              refine take_ (i := 7) (N := some 110) (v := ?_) (a' := ?_) #[true,true,true,true,true,true,true,true,false,false] rfl rfl (take_ofW HT_.out HW_.out (by kernel_rfl)) (fun _ _ _ h => h) (Or.inl ⟨by rfl,?_⟩) hHeld ?_ ?_
              rotate_left
              ·rintro w' ⟨s0,s1,s2,s3,s4⟩
               go_simp
               with_reducible rfl
              rotate_left
              ·simp only [Act.put,List.setIfInBounds_toArray,List.set_cons_zero,List.set_cons_succ,i64_w,i32_w]
               rfl
              refine pure_ (i := 8) (N := some 111) (v := ?_) (a' := ?_) #[true,true,true,true,true,true,true,true,true,false] rfl rfl (any_of HT_.out (by kernel_rfl)) (fun _ _ _ h => h) (Or.inl ⟨by rfl,?_⟩) ?_ ?_
              rotate_left
              ·intro w'
               go_simp
               with_reducible rfl
              rotate_left
              ·simp only [Act.put,List.setIfInBounds_toArray,List.set_cons_zero,List.set_cons_succ,i64_w,i32_w]
               rfl
              refine last_ (i := 9) (N := none) #[true,true,true,true,true,true,true,true,true,true] rfl rfl (one_of HT_.out (by kernel_rfl)) (by decide) (fun K hK => ?_)
              refine skip_ (w1 := ?_) (by rfl) rfl ?_ ?_
              rotate_left
              ·go_simp
               rfl
              refine hK.out _ _ ?_
              clear hK K
              refine done_ (done_of HT_.out (by kernel_rfl)) ?_
              have n0_ : Aside0 (Kd.R Kd.string 9 (w90.setCell ⟨go51,(t209 : Int).toNat,none⟩ (.string (rdOf ByteArray.empty y218 t212))) w.heap.size (fun k_ => some k_ ≠ (.slice Ao87 x197003_3.length co87 : Value).ownBlock) (.slice (some ⟨go51,0,none⟩) x197002_3.length co79) y225) := ⟨by (with_reducible repeat (first | apply Kd.R_alloc | apply Kd.R_drewN | apply Kd.R_drew)); exact HQ91.out⟩
              have n1_ : Aside0 (Kd.R Kd.string 9 (w90.setCell ⟨go51,(t209 : Int).toNat,none⟩ (.string (rdOf ByteArray.empty y218 t212))) w.heap.size (fun k_ => some k_ ≠ (.slice (some ⟨go51,0,none⟩) x197002_3.length co79 : Value).ownBlock) (.slice Ao87 x197003_3.length co87) x197003_3) := ⟨by (with_reducible repeat (first | apply Kd.R_alloc | apply Kd.R_drewN | apply Kd.R_drew)); exact Kd.R_mono (Kd.R_far (p := ⟨go51,(t209 : Int).toNat,none⟩) (Kd.R_mono HO_197003.out (fun k_ hk => (⟨hk,fun e_ => hk.2 (by rw [e_]; rfl)⟩ : _ ∧ k_ ≠ go51))) (fun _ hk => hk.2) (.string (rdOf ByteArray.empty y218 t212))) (fun _ hk => hk.1.2)⟩
              have n2_ : Aside0 ((w90.setCell ⟨go51,(t209 : Int).toNat,none⟩ (.string (rdOf ByteArray.empty y218 t212))).heap[gb165]? = some (.cells #[.int .i64 0,.int .i64 0,.slice none 0 0,.slice none 0 0] 26 (0,0))) := ⟨b6_10⟩
              have n3_ : Aside0 ((w90.setCell ⟨go51,(t209 : Int).toNat,none⟩ (.string (rdOf ByteArray.empty y218 t212))).heap[gb196]? = some (.cells #[.int .i64 x197000_21,.int .i64 x197001_21,.slice (some ⟨go51,0,none⟩) x197002_3.length co79,.slice Ao87 x197003_3.length co87] 26 (0,0))) := ⟨b6_11⟩
              have n4_ : Aside0 (IsS80 w0 (w90.setCell ⟨go51,(t209 : Int).toNat,none⟩ (.string (rdOf ByteArray.empty y218 t212))) g s0_0 t220 t221) := ⟨b6_15⟩
              have n5_ : Aside0 (KeepBut w (w90.setCell ⟨go51,(t209 : Int).toNat,none⟩ (.string (rdOf ByteArray.empty y218 t212))) g none) := ⟨b6_16⟩
              have n6_ : Aside0 (Below w0.heap.size w0 (w90.setCell ⟨go51,(t209 : Int).toNat,none⟩ (.string (rdOf ByteArray.empty y218 t212)))) := ⟨b6_14⟩
              (try clear HO_197002)
              (try clear HO_197003)
              (try clear BK165)
              (try clear BK196)
              (try clear HI0)
              (try clear HK)
              (try clear HB)
              generalize (w90.setCell ⟨go51,(t209 : Int).toNat,none⟩ (.string (rdOf ByteArray.empty y218 t212))) = w92 at n0_ n1_ n2_ n3_ n4_ n5_ n6_ ⊢
              have HO_197002 := n0_
              have HO_197003 := n1_
              have BK165 := n2_
              have BK196 := n3_
              have HI0 := n4_
              have HK := n5_
              have HB := n6_
              clear n0_ n1_ n2_ n3_ n4_ n5_ n6_
              have hcz93_0 : w92.cell? ⟨gb196,0,none⟩ = some (.int .i64 x197000_21) := (blk_cell BK196.out 0).trans rfl
              have hcz93_1 : w92.cell? ⟨gb196,1,none⟩ = some (.int .i64 x197001_21) := (blk_cell BK196.out 1).trans rfl
              have hcz93_2 : w92.cell? ⟨gb196,2,none⟩ = some (.slice (some ⟨go51,0,none⟩) x197002_3.length co79) := (blk_cell BK196.out 2).trans rfl
              have hcz93_3 : w92.cell? ⟨gb196,3,none⟩ = some (.slice Ao87 x197003_3.length co87) := (blk_cell BK196.out 3).trans rfl
              have hfz93_0 := blk_frozen BK196.out 0
              have hfz93_1 := blk_frozen BK196.out 1
              have hfz93_2 := blk_frozen BK196.out 2
              have hfz93_3 := blk_frozen BK196.out 3
              have p73 : 0 ≤ (t212 : Int) := of_decide_eq_true b6_3
              have q73 : (t212 : Int) < ((x197002_3.length : Int) : Int) := of_decide_eq_true b6_3
              obtain ⟨hx73_0,hf73_0⟩ := Kd.R_celln (⟨#[]⟩ : ByteArray) HO_197002.out (t212 : Int) p73 q73
              replace p73 := eq_true p73
              replace q73 := eq_true q73
              obtain ⟨hy94_,hz94_⟩ := Kd.R_celln (⟨#[]⟩ : ByteArray) HO_197002.out (t212 : Int) (of_decide_eq_true b6_3) (of_decide_eq_true b6_3)
              have HP94 := Kd.R_putg HO_197002.out (t212 : Int) (rdOf ByteArray.empty y218 t209)
              try go_wp2_with (first | ((with_reducible refine gate_store (t := 9) (p := 116) rfl ?_); refine store_event (t := 9) (p := 116) (v := ?vo_w95) (w1 := (w92.setCell ⟨go51,(t212 : Int).toNat,none⟩ (.string (rdOf ByteArray.empty y218 t209)))) ?hg ?ho ?hn ?hr ?_; (case ho => rfl); (case hg => rfl); (case hn => rfl); (case hr => first | (go_simp; done) | (go_simp; rfl)); intro w95 hw; have hg : w92.grownBy w95 (some go51) := (by rw [hw]; exact HP94.2); have hp_ : Kd.R Kd.string 9 w95 w.heap.size (fun k_ => some k_ ≠ (.slice Ao87 x197003_3.length co87 : Value).ownBlock) (.slice (some ⟨go51,0,none⟩) x197002_3.length co79) y226 := (by rw [hw,Ny226.out]; exact HP94.1); clear HP94; have n0_ := Aside0.mk (hp_); have n1_ := Aside0.mk (Kd.R_after (v := (.slice (some ⟨go51,0,none⟩) x197002_3.length co79)) (v1 := (.slice (some ⟨go51,0,none⟩) x197002_3.length co79)) (ok := (fun _ => True)) b6_22 hg (.inl rfl)); have n2_ := Aside0.mk (blk_grown (g := gb165) (o := .cells #[.int .i64 0,.int .i64 0,.slice none 0 0,.slice none 0 0] 26 (0,0)) b6_1 hg (Kd.R_ne HO_197002.out BK165.out (by decide))); have n3_ := Aside0.mk (blk_grown (g := gb196) (o := .cells #[.int .i64 x197000_21,.int .i64 x197001_21,.slice (some ⟨go51,0,none⟩) x197002_3.length co79,.slice Ao87 x197003_3.length co87] 26 (0,0)) b6_4 hg (Kd.R_ne HO_197002.out BK196.out (by decide))); have n4_ := Aside0.mk (IsS80.grown b6_2 hg (IsS80.own_ne HI0.out HO_197002.out (by decide))); have n5_ := Aside0.mk ((by rw [hw]; exact below_set (HB.out) (Nat.le_trans HL.out GB51.out) : Below w0.heap.size w0 w95)); have n6_ := Aside0.mk (KeepBut.trans b6_0 (KeepBut.of_grown hg g) (Kd.R_base2 HO_197002.out)); clear HO_197002; clear HO_197003; clear BK165; clear BK196; clear HI0; clear HB; clear HK; have HO_197002 := n0_; have HO_197003 := n1_; have BK165 := n2_; have BK196 := n3_; have HI0 := n4_; have HB := n5_; have HK := n6_; clear n0_ n1_ n2_ n3_ n4_ n5_ n6_; clear hg hw hp_))
              go_roundg k3
              case measure => have := HJ4.out; have := HJ21.out; have := HK3.out; omega
              case rel => exact ⟨(wrap64 (x8_3 - 1)),(t220),(t221),(y226),(x197003_3),(.slice (some ⟨go51,0,none⟩) x197002_3.length co79),(.slice Ao87 x197003_3.length co87),b6_32,H',⟨by have := HJ4.out; have := HJ21.out; have := HK3.out; omega⟩,⟨b6_8⟩,⟨b6_34⟩,⟨b6_1⟩,⟨b6_4⟩,⟨b6_2⟩,⟨b6_0⟩,⟨b6_5⟩⟩
            ·replace c54 := Bool.eq_false_iff.mpr c54
             subst c54
             have H1 : (if t209 < (x197003_3.length : Int) then (if t212 < (x197003_3.length : Int) then ((some ((x197003_3.set (t209 : Int).toNat (rdOf ByteArray.empty x197003_3 t212)).set (t212 : Int).toNat (rdOf ByteArray.empty x197003_3 t209) : List ByteArray)).bind fun y230 => ((spec_l03Is.f k3 x197000_21 x197001_21 y218 y230).bind fun t231 => (if t231 = true then (spec_l03DrawOk.l0 k3 (x197002_21.length : Int) (wrap64 (x8_3 - 1)) s0_0 t220 t221 x197000_21 x197001_21 y218 y230) else (spec_l03DrawOk.l0 k3 (x197002_21.length : Int) (wrap64 (x8_3 - 1)) s0_0 t220 t221 x197000_21 x197001_21 ((y218.set (t209 : Int).toNat (rdOf ByteArray.empty y218 t212)).set (t212 : Int).toNat (rdOf ByteArray.empty y218 t209)) y230)))) else (none)) else (none)) = some (r1,r2,r3,r4,r5,r6) := by rw [if_neg (show ¬ (false = true) by decide)] at H; exact H
             clear H
             have H := H1
             clear H1
             by_cases c96 : t209 < (x197003_3.length : Int)
             ·rw [if_pos c96] at H
              have c96b0 : decide (t209 < (x197003_3.length : Int)) = true := decide_eq_true c96
              clear c96
              by_cases c97 : t212 < (x197003_3.length : Int)
              ·rw [if_pos c97] at H
               have c97b0 : decide (t212 < (x197003_3.length : Int)) = true := decide_eq_true c97
               clear c97
               obtain ⟨y229,hy229⟩ : ∃ y_ : List ByteArray,y_ = (x197003_3.set (t209 : Int).toNat (rdOf ByteArray.empty x197003_3 t212)) := ⟨_,rfl⟩
               replace H : ((some (y229.set (t212 : Int).toNat (rdOf ByteArray.empty x197003_3 t209) : List ByteArray)).bind fun y230 => ((spec_l03Is.f k3 x197000_21 x197001_21 y218 y230).bind fun t231 => (if t231 = true then (spec_l03DrawOk.l0 k3 (x197002_21.length : Int) (wrap64 (x8_3 - 1)) s0_0 t220 t221 x197000_21 x197001_21 y218 y230) else (spec_l03DrawOk.l0 k3 (x197002_21.length : Int) (wrap64 (x8_3 - 1)) s0_0 t220 t221 x197000_21 x197001_21 ((y218.set (t209 : Int).toNat (rdOf ByteArray.empty y218 t212)).set (t212 : Int).toNat (rdOf ByteArray.empty y218 t209)) y230)))) = some (r1,r2,r3,r4,r5,r6) := by first | (rw [hy229]; with_reducible exact H) | (have H2_ := (Option.bind_some _ _).symm.trans H; rw [hy229]; with_reducible exact H2_) | (have H2_ := (Option.bind_some _ _).symm.trans H; with_reducible exact H2_) | with_reducible exact H | (rw [hy229]; exact H) | exact H
               have Ny229 := Aside0.mk hy229
               clear hy229
               obtain ⟨y230,hy230⟩ : ∃ y_ : List ByteArray,y_ = (y229.set (t212 : Int).toNat (rdOf ByteArray.empty x197003_3 t209)) := ⟨_,rfl⟩
               replace H : ((spec_l03Is.f k3 x197000_21 x197001_21 y218 y230).bind fun t231 => (if t231 = true then (spec_l03DrawOk.l0 k3 (x197002_21.length : Int) (wrap64 (x8_3 - 1)) s0_0 t220 t221 x197000_21 x197001_21 y218 y230) else (spec_l03DrawOk.l0 k3 (x197002_21.length : Int) (wrap64 (x8_3 - 1)) s0_0 t220 t221 x197000_21 x197001_21 ((y218.set (t209 : Int).toNat (rdOf ByteArray.empty y218 t212)).set (t212 : Int).toNat (rdOf ByteArray.empty y218 t209)) y230))) = some (r1,r2,r3,r4,r5,r6) := by first | (rw [hy230]; with_reducible exact H) | (have H2_ := (Option.bind_some _ _).symm.trans H; rw [hy230]; with_reducible exact H2_) | (have H2_ := (Option.bind_some _ _).symm.trans H; with_reducible exact H2_) | with_reducible exact H | (rw [hy230]; exact H) | exact H
               have Ny230 := Aside0.mk hy230
               clear hy230
               replace H := Option.bind_eq_some_iff.mp H
               obtain ⟨t231,A1000,H⟩ := H
               replace H : (if t231 = true then (spec_l03DrawOk.l0 k3 (x197002_21.length : Int) (wrap64 (x8_3 - 1)) s0_0 t220 t221 x197000_21 x197001_21 y218 y230) else (spec_l03DrawOk.l0 k3 (x197002_21.length : Int) (wrap64 (x8_3 - 1)) s0_0 t220 t221 x197000_21 x197001_21 ((y218.set (t209 : Int).toNat (rdOf ByteArray.empty y218 t212)).set (t212 : Int).toNat (rdOf ByteArray.empty y218 t209)) y230)) = some (r1,r2,r3,r4,r5,r6) := H
               have A100 := Aside0.mk A1000
               clear A1000
               by_cases c101 : t231 = true
               ·subst c101
                have H1 : (spec_l03DrawOk.l0 k3 (x197002_21.length : Int) (wrap64 (x8_3 - 1)) s0_0 t220 t221 x197000_21 x197001_21 y218 y230) = some (r1,r2,r3,r4,r5,r6) := by rw [if_pos rfl] at H; exact H
                clear H
                have H := H1
                clear H1
                have H' := Aside0.mk H
                clear H
                try go_wp2_with (first | ((with_reducible refine gate_callee (f := 24) rfl ?_); refine goesL_ (some 51) rfl rfl Tryd.func24 (by kernel_rfl) rfl #[.pointer (some ⟨g,0,none⟩),.int .i64 (x197002_21.length : Int)] rfl b6_7 ?_; (with_reducible refine (spec_l00Src_pick.calls g s0_0 x1001_3 x1002_3 (x197002_21.length : Int) t209 t210 t211 w0 _ ?side1 ?side2 A45.out).mono ?_); (case side1 => repeat (first | (with_reducible first | exact HI0.out | apply IsS80.alloc | apply IsS80.drewN | apply IsS80.drew | apply IsS80.set_1 | apply IsS80.set_2 | refine IsS80.far ?_ NB0_165.out _ | refine IsS80.far ?_ NB0_196.out _) | exact HI0.out)); (case side2 => repeat (first | (with_reducible first | exact HB.out | apply below_alloc | apply pw_below_drewN | apply below_drew1 | refine below_set ?_ (IsS80.ge HI0.out) | refine below_set ?_ GE165.out | refine below_set ?_ GE196.out) | exact HB.out)); rintro e w102 ⟨rfl,hi,hb,hk⟩; refine ⟨_,rfl,?_⟩; have n0_ := Aside0.mk (Kd.R_mono (Kd.R_keep (IsS80.apart (show IsS80 w0 _ g s0_0 x1001_3 x1002_3 from by repeat (first | (with_reducible first | exact HI0.out | apply IsS80.alloc | apply IsS80.drewN | apply IsS80.drew | apply IsS80.set_1 | apply IsS80.set_2 | refine IsS80.far ?_ NB0_165.out _ | refine IsS80.far ?_ NB0_196.out _) | exact HI0.out)) b6_8 (by decide)) hk (fun _ h => h.2)) (fun _ h => h.1)); have n1_ := Aside0.mk (Kd.R_mono (Kd.R_keep (IsS80.apart (show IsS80 w0 _ g s0_0 x1001_3 x1002_3 from by repeat (first | (with_reducible first | exact HI0.out | apply IsS80.alloc | apply IsS80.drewN | apply IsS80.drew | apply IsS80.set_1 | apply IsS80.set_2 | refine IsS80.far ?_ NB0_165.out _ | refine IsS80.far ?_ NB0_196.out _) | exact HI0.out)) b6_9 (by decide)) hk (fun _ h => h.2)) (fun _ h => h.1)); have n2_ := Aside0.mk (KeepBut.blk hk (g' := gb165) (o := .cells #[.int .i64 0,.int .i64 0,.slice none 0 0,.slice none 0 0] 26 (0,0)) b6_1 NB165_0.out (by simp)); have n3_ := Aside0.mk (KeepBut.blk hk (g' := gb196) (o := .cells #[.int .i64 x197000_21,.int .i64 x197001_21,u197002,u197003] 26 (0,0)) b6_4 NB196_0.out (by simp)); have n4_ := Aside0.mk (KeepBut.trans b6_0 hk (.inl rfl)); have n5_ := Aside0.mk (hb); have n6_ := Aside0.mk (hi); clear HO_197002; clear HO_197003; clear BK165; clear BK196; clear HK; clear HB; clear HI0; have HO_197002 := n0_; have HO_197003 := n1_; have BK165 := n2_; have BK196 := n3_; have HK := n4_; have HB := n5_; have HI0 := n6_; clear n0_ n1_ n2_ n3_ n4_ n5_ n6_; (try clear hb); (try clear hb2); (try clear hk); (try clear hi)) | ((with_reducible refine gate_callee (f := 24) rfl ?_); refine goesL_ (some 54) rfl rfl Tryd.func24 (by kernel_rfl) rfl #[.pointer (some ⟨g,0,none⟩),.int .i64 (x197002_21.length : Int)] rfl b6_7 ?_; (with_reducible refine (spec_l00Src_pick.calls g s0_0 t210 t211 (x197002_21.length : Int) t212 t213 t214 w0 _ ?side1 ?side2 A46.out).mono ?_); (case side1 => repeat (first | (with_reducible first | exact HI0.out | apply IsS80.alloc | apply IsS80.drewN | apply IsS80.drew | apply IsS80.set_1 | apply IsS80.set_2 | refine IsS80.far ?_ NB0_165.out _ | refine IsS80.far ?_ NB0_196.out _) | exact HI0.out)); (case side2 => repeat (first | (with_reducible first | exact HB.out | apply below_alloc | apply pw_below_drewN | apply below_drew1 | refine below_set ?_ (IsS80.ge HI0.out) | refine below_set ?_ GE165.out | refine below_set ?_ GE196.out) | exact HB.out)); rintro e w103 ⟨rfl,hi,hb,hk⟩; refine ⟨_,rfl,?_⟩; have n0_ := Aside0.mk (Kd.R_mono (Kd.R_keep (IsS80.apart (show IsS80 w0 _ g s0_0 t210 t211 from by repeat (first | (with_reducible first | exact HI0.out | apply IsS80.alloc | apply IsS80.drewN | apply IsS80.drew | apply IsS80.set_1 | apply IsS80.set_2 | refine IsS80.far ?_ NB0_165.out _ | refine IsS80.far ?_ NB0_196.out _) | exact HI0.out)) b6_8 (by decide)) hk (fun _ h => h.2)) (fun _ h => h.1)); have n1_ := Aside0.mk (Kd.R_mono (Kd.R_keep (IsS80.apart (show IsS80 w0 _ g s0_0 t210 t211 from by repeat (first | (with_reducible first | exact HI0.out | apply IsS80.alloc | apply IsS80.drewN | apply IsS80.drew | apply IsS80.set_1 | apply IsS80.set_2 | refine IsS80.far ?_ NB0_165.out _ | refine IsS80.far ?_ NB0_196.out _) | exact HI0.out)) b6_9 (by decide)) hk (fun _ h => h.2)) (fun _ h => h.1)); have n2_ := Aside0.mk (KeepBut.blk hk (g' := gb165) (o := .cells #[.int .i64 0,.int .i64 0,.slice none 0 0,.slice none 0 0] 26 (0,0)) b6_1 NB165_0.out (by simp)); have n3_ := Aside0.mk (KeepBut.blk hk (g' := gb196) (o := .cells #[.int .i64 x197000_21,.int .i64 x197001_21,u197002,u197003] 26 (0,0)) b6_4 NB196_0.out (by simp)); have n4_ := Aside0.mk (KeepBut.trans b6_0 hk (.inl rfl)); have n5_ := Aside0.mk (hb); have n6_ := Aside0.mk (hi); clear HO_197002; clear HO_197003; clear BK165; clear BK196; clear HK; clear HB; clear HI0; have HO_197002 := n0_; have HO_197003 := n1_; have BK165 := n2_; have BK196 := n3_; have HK := n4_; have HB := n5_; have HI0 := n6_; clear n0_ n1_ n2_ n3_ n4_ n5_ n6_; (try clear hb); (try clear hb2); (try clear hk); (try clear hi); have hnb104 := NB196_165.out; have hnc104 := NB165_196.out; have hnb105 := NB196_0.out; have hnc105 := NB0_196.out; have hcz106_0 : w103.cell? ⟨gb196,0,none⟩ = some (.int .i64 x197000_21) := (blk_cell BK196.out 0).trans rfl; have hcz106_1 : w103.cell? ⟨gb196,1,none⟩ = some (.int .i64 x197001_21) := (blk_cell BK196.out 1).trans rfl; have hcz106_2 : w103.cell? ⟨gb196,2,none⟩ = some (u197002) := (blk_cell BK196.out 2).trans rfl; have hcz106_3 : w103.cell? ⟨gb196,3,none⟩ = some (u197003) := (blk_cell BK196.out 3).trans rfl; have hfz106_0 := blk_frozen BK196.out 0; have hfz106_1 := blk_frozen BK196.out 1; have hfz106_2 := blk_frozen BK196.out 2; have hfz106_3 := blk_frozen BK196.out 3; obtain ⟨Ao107,co107,eo107⟩ := Kd.R_slice HO_197002.out; subst eo107; have p215 : 0 ≤ (t209 : Int) := of_decide_eq_true b6_3; have q215 : t209 < (x197002_3.length : Int) := of_decide_eq_true b6_3; obtain ⟨ad215,e215,hx215_0⟩ := Kd.at_string (Kd.R_reads' HO_197002.out).2.2 t209 p215 q215; cases e215; replace p215 := eq_true p215; replace q215 := eq_true q215))
                have n0_ := Aside0.mk (Kd.R_drew HO_197002.out)
                have n1_ := Aside0.mk (Kd.R_drew HO_197003.out)
                have n2_ := Aside0.mk (blk_drew BK165.out)
                have n3_ := Aside0.mk (blk_drew BK196.out)
                have n4_ := Aside0.mk (IsS80.drew HI0.out)
                have n5_ := Aside0.mk (keep_drew HK.out)
                have n6_ := Aside0.mk (below_drew1 HB.out)
                clear HO_197002
                clear HO_197003
                clear BK165
                clear BK196
                clear HI0
                clear HK
                clear HB
                have HO_197002 := n0_
                have HO_197003 := n1_
                have BK165 := n2_
                have BK196 := n3_
                have HI0 := n4_
                have HK := n5_
                have HB := n6_
                clear n0_ n1_ n2_ n3_ n4_ n5_ n6_
                have p216 : 0 ≤ (t212 : Int) := of_decide_eq_true b6_3
                have q216 : t212 < (x197002_3.length : Int) := of_decide_eq_true b6_3
                obtain ⟨ad216,e216,hx216_0⟩ := Kd.at_string (Kd.R_reads' HO_197002.out).2.2 t212 p216 q216
                obtain rfl : ad215 = ad216 := (by injection e216)
                replace p216 := eq_true p216
                replace q216 := eq_true q216
                have p51 : 0 ≤ (t209 : Int) := of_decide_eq_true b6_3
                have q51 : (t209 : Int) < ((x197002_3.length : Int) : Int) := of_decide_eq_true b6_3
                obtain ⟨go51,co51,eo51,gb51,gl51,cl51,HG51⟩ := Kd.R_form HO_197002.out (by omega)
                (first | cases eo51 | (injection eo51 with ea_ en_ ec_; (first | subst ea_ | (injection ea_ with ea_; subst ea_)); subst ec_; clear en_))
                have GB51 := Aside0.mk gb51
                have GG51 := Aside0.mk HG51
                clear gb51 gl51 HG51
                (first | simp only [add_plain] at hx215_0 | skip)
                (first | simp only [add_plain] at hx216_0 | skip)
                obtain ⟨hx51_0,hf51_0⟩ := Kd.R_celln (⟨#[]⟩ : ByteArray) HO_197002.out (t209 : Int) p51 q51
                replace p51 := eq_true p51
                replace q51 := eq_true q51
                have HN0_go51 := Aside0.mk (show g ≠ go51 from by have h_ := IsS80.own_ne HI0.out HO_197002.out (by decide); intro e_; exact h_ (by rw [e_]; rfl))
                have HP109 := Kd.R_putn HO_197002.out (t209 : Int) (rdOf ByteArray.empty x197002_3 t212)
                rw [← Ny217.out] at HP109
                have HQ109 := Aside0.mk HP109
                clear HP109
                refine start_ (n := 10) (S := fun w' => w'.cell? ⟨gb196,0,none⟩ = some (.int .i64 x197000_21) ∧ w'.cell? ⟨gb196,1,none⟩ = some (.int .i64 x197001_21) ∧ w'.cell? ⟨gb196,2,none⟩ = some (.slice (some ⟨go51,0,none⟩) x197002_3.length co107) ∧ w'.cell? ⟨gb196,3,none⟩ = some (u197003) ∧ w'.cell? ⟨go51,(t212).toNat,none⟩ = some (.string (rdOf ByteArray.empty x197002_3 t212))) (ds := [9]) #[false,false,false,false,false,false,false,false,false,false] (by kernel_rfl) rfl rfl ⟨(blk_cell BK196.out 0).trans rfl,(blk_cell BK196.out 1).trans rfl,(blk_cell BK196.out 2).trans rfl,(blk_cell BK196.out 3).trans rfl,hx216_0⟩ (fun hHeld => ?_); refine with_tabW spec_l03DrawOk.tab16 spec_l03DrawOk.bits16 (fun HT_ HW_ => ?_)
                generalize w103.drew = w108 at HO_197002 HO_197003 BK165 BK196 HI0 HK HB GG51 HQ109 hf51_0 hx215_0 hx216_0 hx51_0 hHeld ⊢
                refine pure_ (i := 0) (N := some 60) (v := ?_) (a' := ?_) #[true,false,false,false,false,false,false,false,false,false] rfl rfl (any_of HT_.out (by kernel_rfl)) (fun _ _ _ h => h) (Or.inl ⟨by rfl,?_⟩) ?_ ?_
                rotate_left
                ·intro w'
                 go_simp
                 with_reducible rfl
                rotate_left
                ·simp only [Act.put,List.setIfInBounds_toArray,List.set_cons_zero,List.set_cons_succ,i64_w,i32_w]
                 rfl
                refine pure_ (i := 2) (N := some 62) (v := ?_) (a' := ?_) #[true,false,true,false,false,false,false,false,false,false] rfl rfl (any_of HT_.out (by kernel_rfl)) (fun _ _ _ h => h) (Or.inl ⟨by rfl,?_⟩) ?_ ?_
                rotate_left
                ·intro w'
                 go_simp
                 with_reducible rfl
                rotate_left
                ·simp only [Act.put,List.setIfInBounds_toArray,List.set_cons_zero,List.set_cons_succ,i64_w,i32_w]
                 rfl
                refine pure_ (i := 3) (N := some 63) (v := ?_) (a' := ?_) #[true,false,true,true,false,false,false,false,false,false] rfl rfl (any_of HT_.out (by kernel_rfl)) (fun _ _ _ h => h) (Or.inl ⟨by rfl,?_⟩) ?_ ?_
                rotate_left
                ·intro w'
                 go_simp
                 with_reducible rfl
                rotate_left
                ·simp only [Act.put,List.setIfInBounds_toArray,List.set_cons_zero,List.set_cons_succ,i64_w,i32_w]
                 rfl
                refine pure_ (i := 5) (N := some 65) (v := ?_) (a' := ?_) #[true,false,true,true,false,true,false,false,false,false] rfl rfl (any_of HT_.out (by kernel_rfl)) (fun _ _ _ h => h) (Or.inl ⟨by rfl,?_⟩) ?_ ?_
                rotate_left
                ·intro w'
                 go_simp
                 with_reducible rfl
                rotate_left
                ·simp only [Act.put,List.setIfInBounds_toArray,List.set_cons_zero,List.set_cons_succ,i64_w,i32_w]
                 rfl
                refine take_ (i := 1) (N := some 61) (v := ?_) (a' := ?_) #[true,true,true,true,false,true,false,false,false,false] rfl rfl (take_ofW HT_.out HW_.out (by kernel_rfl)) (fun _ _ _ h => h) (Or.inl ⟨by rfl,?_⟩) hHeld ?_ ?_
                rotate_left
                ·rintro w' ⟨s0,s1,s2,s3,s4⟩
                 go_simp
                 with_reducible rfl
                rotate_left
                ·simp only [Act.put,List.setIfInBounds_toArray,List.set_cons_zero,List.set_cons_succ,i64_w,i32_w]
                 rfl
                refine take_ (i := 4) (N := some 64) (v := ?_) (a' := ?_) #[true,true,true,true,true,true,false,false,false,false] rfl rfl (take_ofW HT_.out HW_.out (by kernel_rfl)) (fun _ _ _ h => h) (Or.inl ⟨by rfl,?_⟩) hHeld ?_ ?_
                rotate_left
                ·rintro w' ⟨s0,s1,s2,s3,s4⟩
                 go_simp
                 with_reducible rfl
                rotate_left
                ·simp only [Act.put,List.setIfInBounds_toArray,List.set_cons_zero,List.set_cons_succ,i64_w,i32_w]
                 rfl
                refine pure_ (i := 6) (N := some 66) (v := ?_) (a' := ?_) #[true,true,true,true,true,true,true,false,false,false] rfl rfl (any_of HT_.out (by kernel_rfl)) (fun _ _ _ h => h) (Or.inl ⟨by rfl,?_⟩) ?_ ?_
                rotate_left
                ·intro w'
                 go_simp
                 with_reducible rfl
                rotate_left
                ·simp only [Act.put,List.setIfInBounds_toArray,List.set_cons_zero,List.set_cons_succ,i64_w,i32_w]
                 rfl
                refine take_ (i := 7) (N := some 67) (v := ?_) (a' := ?_) #[true,true,true,true,true,true,true,true,false,false] rfl rfl (take_ofW HT_.out HW_.out (by kernel_rfl)) (fun _ _ _ h => h) (Or.inl ⟨by rfl,?_⟩) hHeld ?_ ?_
                rotate_left
                ·rintro w' ⟨s0,s1,s2,s3,s4⟩
                 go_simp
                 with_reducible rfl
                rotate_left
                ·simp only [Act.put,List.setIfInBounds_toArray,List.set_cons_zero,List.set_cons_succ,i64_w,i32_w]
                 rfl
                refine pure_ (i := 8) (N := some 68) (v := ?_) (a' := ?_) #[true,true,true,true,true,true,true,true,true,false] rfl rfl (any_of HT_.out (by kernel_rfl)) (fun _ _ _ h => h) (Or.inl ⟨by rfl,?_⟩) ?_ ?_
                rotate_left
                ·intro w'
                 go_simp
                 with_reducible rfl
                rotate_left
                ·simp only [Act.put,List.setIfInBounds_toArray,List.set_cons_zero,List.set_cons_succ,i64_w,i32_w]
                 rfl
                refine last_ (i := 9) (N := none) #[true,true,true,true,true,true,true,true,true,true] rfl rfl (one_of HT_.out (by kernel_rfl)) (by decide) (fun K hK => ?_)
                refine skip_ (w1 := ?_) (by rfl) rfl ?_ ?_
                rotate_left
                ·go_simp
                 rfl
                refine hK.out _ _ ?_
                clear hK K
                refine done_ (done_of HT_.out (by kernel_rfl)) ?_
                have n0_ : Aside0 (Kd.R Kd.string 9 (w108.setCell ⟨go51,(t209 : Int).toNat,none⟩ (.string (rdOf ByteArray.empty x197002_3 t212))) w.heap.size (fun k_ => some k_ ≠ (u197003 : Value).ownBlock) (.slice (some ⟨go51,0,none⟩) x197002_3.length co107) y217) := ⟨by (with_reducible repeat (first | apply Kd.R_alloc | apply Kd.R_drewN | apply Kd.R_drew)); exact HQ109.out⟩
                have n1_ : Aside0 (Kd.R Kd.string 9 (w108.setCell ⟨go51,(t209 : Int).toNat,none⟩ (.string (rdOf ByteArray.empty x197002_3 t212))) w.heap.size (fun k_ => some k_ ≠ (.slice (some ⟨go51,0,none⟩) x197002_3.length co107 : Value).ownBlock) u197003 x197003_3) := ⟨b6_19⟩
                have n2_ : Aside0 ((w108.setCell ⟨go51,(t209 : Int).toNat,none⟩ (.string (rdOf ByteArray.empty x197002_3 t212))).heap[gb165]? = some (.cells #[.int .i64 0,.int .i64 0,.slice none 0 0,.slice none 0 0] 26 (0,0))) := ⟨b6_10⟩
                have n3_ : Aside0 ((w108.setCell ⟨go51,(t209 : Int).toNat,none⟩ (.string (rdOf ByteArray.empty x197002_3 t212))).heap[gb196]? = some (.cells #[.int .i64 x197000_21,.int .i64 x197001_21,.slice (some ⟨go51,0,none⟩) x197002_3.length co107,u197003] 26 (0,0))) := ⟨b6_11⟩
                have n4_ : Aside0 (IsS80 w0 (w108.setCell ⟨go51,(t209 : Int).toNat,none⟩ (.string (rdOf ByteArray.empty x197002_3 t212))) g s0_0 t213 t214) := ⟨b6_15⟩
                have n5_ : Aside0 (KeepBut w (w108.setCell ⟨go51,(t209 : Int).toNat,none⟩ (.string (rdOf ByteArray.empty x197002_3 t212))) g none) := ⟨b6_16⟩
                have n6_ : Aside0 (Below w0.heap.size w0 (w108.setCell ⟨go51,(t209 : Int).toNat,none⟩ (.string (rdOf ByteArray.empty x197002_3 t212)))) := ⟨b6_14⟩
                (try clear HO_197002)
                (try clear HO_197003)
                (try clear BK165)
                (try clear BK196)
                (try clear HI0)
                (try clear HK)
                (try clear HB)
                generalize (w108.setCell ⟨go51,(t209 : Int).toNat,none⟩ (.string (rdOf ByteArray.empty x197002_3 t212))) = w110 at n0_ n1_ n2_ n3_ n4_ n5_ n6_ ⊢
                have HO_197002 := n0_
                have HO_197003 := n1_
                have BK165 := n2_
                have BK196 := n3_
                have HI0 := n4_
                have HK := n5_
                have HB := n6_
                clear n0_ n1_ n2_ n3_ n4_ n5_ n6_
                have hcz111_0 : w110.cell? ⟨gb196,0,none⟩ = some (.int .i64 x197000_21) := (blk_cell BK196.out 0).trans rfl
                have hcz111_1 : w110.cell? ⟨gb196,1,none⟩ = some (.int .i64 x197001_21) := (blk_cell BK196.out 1).trans rfl
                have hcz111_2 : w110.cell? ⟨gb196,2,none⟩ = some (.slice (some ⟨go51,0,none⟩) x197002_3.length co107) := (blk_cell BK196.out 2).trans rfl
                have hcz111_3 : w110.cell? ⟨gb196,3,none⟩ = some (u197003) := (blk_cell BK196.out 3).trans rfl
                have hfz111_0 := blk_frozen BK196.out 0
                have hfz111_1 := blk_frozen BK196.out 1
                have hfz111_2 := blk_frozen BK196.out 2
                have hfz111_3 := blk_frozen BK196.out 3
                have p52 : 0 ≤ (t212 : Int) := of_decide_eq_true b6_3
                have q52 : (t212 : Int) < ((x197002_3.length : Int) : Int) := of_decide_eq_true b6_3
                obtain ⟨hx52_0,hf52_0⟩ := Kd.R_celln (⟨#[]⟩ : ByteArray) HO_197002.out (t212 : Int) p52 q52
                replace p52 := eq_true p52
                replace q52 := eq_true q52
                obtain ⟨hy112_,hz112_⟩ := Kd.R_celln (⟨#[]⟩ : ByteArray) HO_197002.out (t212 : Int) (of_decide_eq_true b6_3) (of_decide_eq_true b6_3)
                have HP112 := Kd.R_putg HO_197002.out (t212 : Int) (rdOf ByteArray.empty x197002_3 t209)
                try go_wp2_with (first | ((with_reducible refine gate_store (t := 9) (p := 73) rfl ?_); refine store_event (t := 9) (p := 73) (v := ?vo_w113) (w1 := (w110.setCell ⟨go51,(t212 : Int).toNat,none⟩ (.string (rdOf ByteArray.empty x197002_3 t209)))) ?hg ?ho ?hn ?hr ?_; (case ho => rfl); (case hg => rfl); (case hn => rfl); (case hr => first | (go_simp; done) | (go_simp; rfl)); intro w113 hw; have hg : w110.grownBy w113 (some go51) := (by rw [hw]; exact HP112.2); have hp_ : Kd.R Kd.string 9 w113 w.heap.size (fun k_ => some k_ ≠ (u197003 : Value).ownBlock) (.slice (some ⟨go51,0,none⟩) x197002_3.length co107) y218 := (by rw [hw,Ny218.out]; exact HP112.1); clear HP112; have n0_ := Aside0.mk (hp_); have n1_ := Aside0.mk (Kd.R_after (v := (.slice (some ⟨go51,0,none⟩) x197002_3.length co107)) (v1 := (.slice (some ⟨go51,0,none⟩) x197002_3.length co107)) (ok := (fun _ => True)) b6_22 hg (.inl rfl)); have n2_ := Aside0.mk (blk_grown (g := gb165) (o := .cells #[.int .i64 0,.int .i64 0,.slice none 0 0,.slice none 0 0] 26 (0,0)) b6_1 hg (Kd.R_ne HO_197002.out BK165.out (by decide))); have n3_ := Aside0.mk (blk_grown (g := gb196) (o := .cells #[.int .i64 x197000_21,.int .i64 x197001_21,.slice (some ⟨go51,0,none⟩) x197002_3.length co107,u197003] 26 (0,0)) b6_4 hg (Kd.R_ne HO_197002.out BK196.out (by decide))); have n4_ := Aside0.mk (IsS80.grown b6_2 hg (IsS80.own_ne HI0.out HO_197002.out (by decide))); have n5_ := Aside0.mk ((by rw [hw]; exact below_set (HB.out) (Nat.le_trans HL.out GB51.out) : Below w0.heap.size w0 w113)); have n6_ := Aside0.mk (KeepBut.trans b6_0 (KeepBut.of_grown hg g) (Kd.R_base2 HO_197002.out)); clear HO_197002; clear HO_197003; clear BK165; clear BK196; clear HI0; clear HB; clear HK; have HO_197002 := n0_; have HO_197003 := n1_; have BK165 := n2_; have BK196 := n3_; have HI0 := n4_; have HB := n5_; have HK := n6_; clear n0_ n1_ n2_ n3_ n4_ n5_ n6_; clear hg hw hp_) | ((with_reducible refine gate_callee (f := 47) rfl ?_); refine goesL_ (some 75) rfl rfl Tryd.func47 (by kernel_rfl) rfl #[.pointer (some ⟨g,0,none⟩),.int .i64 3] rfl b6_7 ?_; (with_reducible refine (spec_l00Src_one.calls g s0_0 t213 t214 3 false t220 t221 w0 _ ?side1 ?side2 A53.out).mono ?_); (case side1 => repeat (first | (with_reducible first | exact HI0.out | apply IsS80.alloc | apply IsS80.drewN | apply IsS80.drew | apply IsS80.set_1 | apply IsS80.set_2 | refine IsS80.far ?_ NB0_165.out _ | refine IsS80.far ?_ NB0_196.out _) | exact HI0.out)); (case side2 => repeat (first | (with_reducible first | exact HB.out | apply below_alloc | apply pw_below_drewN | apply below_drew1 | refine below_set ?_ (IsS80.ge HI0.out) | refine below_set ?_ GE165.out | refine below_set ?_ GE196.out) | exact HB.out)); rintro e w114 ⟨rfl,hi,hb,hk⟩; refine ⟨_,rfl,?_⟩; have n0_ := Aside0.mk (Kd.R_mono (Kd.R_keep (IsS80.apart (show IsS80 w0 _ g s0_0 t213 t214 from by repeat (first | (with_reducible first | exact HI0.out | apply IsS80.alloc | apply IsS80.drewN | apply IsS80.drew | apply IsS80.set_1 | apply IsS80.set_2 | refine IsS80.far ?_ NB0_165.out _ | refine IsS80.far ?_ NB0_196.out _) | exact HI0.out)) b6_8 (by decide)) hk (fun _ h => h.2)) (fun _ h => h.1)); have n1_ := Aside0.mk (Kd.R_mono (Kd.R_keep (IsS80.apart (show IsS80 w0 _ g s0_0 t213 t214 from by repeat (first | (with_reducible first | exact HI0.out | apply IsS80.alloc | apply IsS80.drewN | apply IsS80.drew | apply IsS80.set_1 | apply IsS80.set_2 | refine IsS80.far ?_ NB0_165.out _ | refine IsS80.far ?_ NB0_196.out _) | exact HI0.out)) b6_9 (by decide)) hk (fun _ h => h.2)) (fun _ h => h.1)); have n2_ := Aside0.mk (KeepBut.blk hk (g' := gb165) (o := .cells #[.int .i64 0,.int .i64 0,.slice none 0 0,.slice none 0 0] 26 (0,0)) b6_1 NB165_0.out (by simp)); have n3_ := Aside0.mk (KeepBut.blk hk (g' := gb196) (o := .cells #[.int .i64 x197000_21,.int .i64 x197001_21,.slice (some ⟨go51,0,none⟩) x197002_3.length co107,u197003] 26 (0,0)) b6_4 NB196_0.out (by simp)); have n4_ := Aside0.mk (KeepBut.trans b6_0 hk (.inl rfl)); have n5_ := Aside0.mk (hb); have n6_ := Aside0.mk (hi); clear HO_197002; clear HO_197003; clear BK165; clear BK196; clear HK; clear HB; clear HI0; have HO_197002 := n0_; have HO_197003 := n1_; have BK165 := n2_; have BK196 := n3_; have HK := n4_; have HB := n5_; have HI0 := n6_; clear n0_ n1_ n2_ n3_ n4_ n5_ n6_; (try clear hb); (try clear hb2); (try clear hk); (try clear hi); have hcz115_0 : w114.cell? ⟨gb196,0,none⟩ = some (.int .i64 x197000_21) := (blk_cell BK196.out 0).trans rfl; have hcz115_1 : w114.cell? ⟨gb196,1,none⟩ = some (.int .i64 x197001_21) := (blk_cell BK196.out 1).trans rfl; have hcz115_2 : w114.cell? ⟨gb196,2,none⟩ = some (.slice (some ⟨go51,0,none⟩) x197002_3.length co107) := (blk_cell BK196.out 2).trans rfl; have hcz115_3 : w114.cell? ⟨gb196,3,none⟩ = some (u197003) := (blk_cell BK196.out 3).trans rfl; have hfz115_0 := blk_frozen BK196.out 0; have hfz115_1 := blk_frozen BK196.out 1; have hfz115_2 := blk_frozen BK196.out 2; have hfz115_3 := blk_frozen BK196.out 3; obtain ⟨Ao116,co116,eo116⟩ := Kd.R_slice HO_197003.out; subst eo116; have p227 : 0 ≤ (t209 : Int) := of_decide_eq_true b6_3; have q227 : t209 < (x197003_3.length : Int) := of_decide_eq_true b6_3; obtain ⟨ad227,e227,hx227_0⟩ := Kd.at_string (Kd.R_reads' HO_197003.out).2.2 t209 p227 q227; cases e227; replace p227 := eq_true p227; replace q227 := eq_true q227))
                have n0_ := Aside0.mk (Kd.R_drew HO_197002.out)
                have n1_ := Aside0.mk (Kd.R_drew HO_197003.out)
                have n2_ := Aside0.mk (blk_drew BK165.out)
                have n3_ := Aside0.mk (blk_drew BK196.out)
                have n4_ := Aside0.mk (IsS80.drew HI0.out)
                have n5_ := Aside0.mk (keep_drew HK.out)
                have n6_ := Aside0.mk (below_drew1 HB.out)
                clear HO_197002
                clear HO_197003
                clear BK165
                clear BK196
                clear HI0
                clear HK
                clear HB
                have HO_197002 := n0_
                have HO_197003 := n1_
                have BK165 := n2_
                have BK196 := n3_
                have HI0 := n4_
                have HK := n5_
                have HB := n6_
                clear n0_ n1_ n2_ n3_ n4_ n5_ n6_
                have p228 : 0 ≤ (t212 : Int) := of_decide_eq_true b6_3
                have q228 : t212 < (x197003_3.length : Int) := of_decide_eq_true b6_3
                obtain ⟨ad228,e228,hx228_0⟩ := Kd.at_string (Kd.R_reads' HO_197003.out).2.2 t212 p228 q228
                obtain rfl : ad227 = ad228 := (by injection e228)
                replace p228 := eq_true p228
                replace q228 := eq_true q228
                have p98 : 0 ≤ (t209 : Int) := of_decide_eq_true b6_3
                have q98 : (t209 : Int) < ((x197003_3.length : Int) : Int) := of_decide_eq_true b6_3
                obtain ⟨go98,co98,eo98,gb98,gl98,cl98,HG98⟩ := Kd.R_form HO_197003.out (by omega)
                (first | cases eo98 | (injection eo98 with ea_ en_ ec_; (first | subst ea_ | (injection ea_ with ea_; subst ea_)); subst ec_; clear en_))
                have GB98 := Aside0.mk gb98
                have GG98 := Aside0.mk HG98
                clear gb98 gl98 HG98
                (first | simp only [add_plain] at hx227_0 | skip)
                (first | simp only [add_plain] at hx228_0 | skip)
                obtain ⟨hx98_0,hf98_0⟩ := Kd.R_celln (⟨#[]⟩ : ByteArray) HO_197003.out (t209 : Int) p98 q98
                replace p98 := eq_true p98
                replace q98 := eq_true q98
                have HN0_go98 := Aside0.mk (show g ≠ go98 from by have h_ := IsS80.own_ne HI0.out HO_197003.out (by decide); intro e_; exact h_ (by rw [e_]; rfl))
                have HP118 := Kd.R_putn HO_197003.out (t209 : Int) (rdOf ByteArray.empty x197003_3 t212)
                rw [← Ny229.out] at HP118
                have HQ118 := Aside0.mk HP118
                clear HP118
                refine start_ (n := 10) (S := fun w' => w'.cell? ⟨gb196,0,none⟩ = some (.int .i64 x197000_21) ∧ w'.cell? ⟨gb196,1,none⟩ = some (.int .i64 x197001_21) ∧ w'.cell? ⟨gb196,2,none⟩ = some (.slice (some ⟨go51,0,none⟩) x197002_3.length co107) ∧ w'.cell? ⟨gb196,3,none⟩ = some (.slice (some ⟨go98,0,none⟩) x197003_3.length co116) ∧ w'.cell? ⟨go98,(t212).toNat,none⟩ = some (.string (rdOf ByteArray.empty x197003_3 t212))) (ds := [9]) #[false,false,false,false,false,false,false,false,false,false] (by kernel_rfl) rfl rfl ⟨(blk_cell BK196.out 0).trans rfl,(blk_cell BK196.out 1).trans rfl,(blk_cell BK196.out 2).trans rfl,(blk_cell BK196.out 3).trans rfl,hx228_0⟩ (fun hHeld => ?_); refine with_tabW spec_l03DrawOk.tab20 spec_l03DrawOk.bits20 (fun HT_ HW_ => ?_)
                generalize w114.drew = w117 at HO_197002 HO_197003 BK165 BK196 HI0 HK HB GG98 HQ118 hf98_0 hx227_0 hx228_0 hx98_0 hHeld ⊢
                refine pure_ (i := 0) (N := some 82) (v := ?_) (a' := ?_) #[true,false,false,false,false,false,false,false,false,false] rfl rfl (any_of HT_.out (by kernel_rfl)) (fun _ _ _ h => h) (Or.inl ⟨by rfl,?_⟩) ?_ ?_
                rotate_left
                ·intro w'
                 go_simp
                 with_reducible rfl
                rotate_left
                ·simp only [Act.put,List.setIfInBounds_toArray,List.set_cons_zero,List.set_cons_succ,i64_w,i32_w]
                 rfl
                refine pure_ (i := 2) (N := some 84) (v := ?_) (a' := ?_) #[true,false,true,false,false,false,false,false,false,false] rfl rfl (any_of HT_.out (by kernel_rfl)) (fun _ _ _ h => h) (Or.inl ⟨by rfl,?_⟩) ?_ ?_
                rotate_left
                ·intro w'
                 go_simp
                 with_reducible rfl
                rotate_left
                ·simp only [Act.put,List.setIfInBounds_toArray,List.set_cons_zero,List.set_cons_succ,i64_w,i32_w]
                 rfl
                refine pure_ (i := 3) (N := some 85) (v := ?_) (a' := ?_) #[true,false,true,true,false,false,false,false,false,false] rfl rfl (any_of HT_.out (by kernel_rfl)) (fun _ _ _ h => h) (Or.inl ⟨by rfl,?_⟩) ?_ ?_
                rotate_left
                ·intro w'
                 go_simp
                 with_reducible rfl
                rotate_left
                ·simp only [Act.put,List.setIfInBounds_toArray,List.set_cons_zero,List.set_cons_succ,i64_w,i32_w]
                 rfl
                refine pure_ (i := 5) (N := some 87) (v := ?_) (a' := ?_) #[true,false,true,true,false,true,false,false,false,false] rfl rfl (any_of HT_.out (by kernel_rfl)) (fun _ _ _ h => h) (Or.inl ⟨by rfl,?_⟩) ?_ ?_
                rotate_left
                ·intro w'
                 go_simp
                 with_reducible rfl
                rotate_left
                ·simp only [Act.put,List.setIfInBounds_toArray,List.set_cons_zero,List.set_cons_succ,i64_w,i32_w]
                 rfl
                refine take_ (i := 1) (N := some 83) (v := ?_) (a' := ?_) #[true,true,true,true,false,true,false,false,false,false] rfl rfl (take_ofW HT_.out HW_.out (by kernel_rfl)) (fun _ _ _ h => h) (Or.inl ⟨by rfl,?_⟩) hHeld ?_ ?_
                rotate_left
                ·rintro w' ⟨s0,s1,s2,s3,s4⟩
                 go_simp
                 with_reducible rfl
                rotate_left
                ·simp only [Act.put,List.setIfInBounds_toArray,List.set_cons_zero,List.set_cons_succ,i64_w,i32_w]
                 rfl
                refine take_ (i := 4) (N := some 86) (v := ?_) (a' := ?_) #[true,true,true,true,true,true,false,false,false,false] rfl rfl (take_ofW HT_.out HW_.out (by kernel_rfl)) (fun _ _ _ h => h) (Or.inl ⟨by rfl,?_⟩) hHeld ?_ ?_
                rotate_left
                ·rintro w' ⟨s0,s1,s2,s3,s4⟩
                 go_simp
                 with_reducible rfl
                rotate_left
                ·simp only [Act.put,List.setIfInBounds_toArray,List.set_cons_zero,List.set_cons_succ,i64_w,i32_w]
                 rfl
                refine pure_ (i := 6) (N := some 88) (v := ?_) (a' := ?_) #[true,true,true,true,true,true,true,false,false,false] rfl rfl (any_of HT_.out (by kernel_rfl)) (fun _ _ _ h => h) (Or.inl ⟨by rfl,?_⟩) ?_ ?_
                rotate_left
                ·intro w'
                 go_simp
                 with_reducible rfl
                rotate_left
                ·simp only [Act.put,List.setIfInBounds_toArray,List.set_cons_zero,List.set_cons_succ,i64_w,i32_w]
                 rfl
                refine take_ (i := 7) (N := some 89) (v := ?_) (a' := ?_) #[true,true,true,true,true,true,true,true,false,false] rfl rfl (take_ofW HT_.out HW_.out (by kernel_rfl)) (fun _ _ _ h => h) (Or.inl ⟨by rfl,?_⟩) hHeld ?_ ?_
                rotate_left
                ·rintro w' ⟨s0,s1,s2,s3,s4⟩
                 go_simp
                 with_reducible rfl
                rotate_left
                ·simp only [Act.put,List.setIfInBounds_toArray,List.set_cons_zero,List.set_cons_succ,i64_w,i32_w]
                 rfl
                refine pure_ (i := 8) (N := some 90) (v := ?_) (a' := ?_) #[true,true,true,true,true,true,true,true,true,false] rfl rfl (any_of HT_.out (by kernel_rfl)) (fun _ _ _ h => h) (Or.inl ⟨by rfl,?_⟩) ?_ ?_
                rotate_left
                ·intro w'
                 go_simp
                 with_reducible rfl
                rotate_left
                ·simp only [Act.put,List.setIfInBounds_toArray,List.set_cons_zero,List.set_cons_succ,i64_w,i32_w]
                 rfl
                refine last_ (i := 9) (N := none) #[true,true,true,true,true,true,true,true,true,true] rfl rfl (one_of HT_.out (by kernel_rfl)) (by decide) (fun K hK => ?_)
                refine skip_ (w1 := ?_) (by rfl) rfl ?_ ?_
                rotate_left
                ·go_simp
                 rfl
                refine hK.out _ _ ?_
                clear hK K
                refine done_ (done_of HT_.out (by kernel_rfl)) ?_
                have n0_ : Aside0 (Kd.R Kd.string 9 (w117.setCell ⟨go98,(t209 : Int).toNat,none⟩ (.string (rdOf ByteArray.empty x197003_3 t212))) w.heap.size (fun k_ => some k_ ≠ (.slice (some ⟨go98,0,none⟩) x197003_3.length co116 : Value).ownBlock) (.slice (some ⟨go51,0,none⟩) x197002_3.length co107) y218) := ⟨b6_25⟩
                have n1_ : Aside0 (Kd.R Kd.string 9 (w117.setCell ⟨go98,(t209 : Int).toNat,none⟩ (.string (rdOf ByteArray.empty x197003_3 t212))) w.heap.size (fun k_ => some k_ ≠ (.slice (some ⟨go51,0,none⟩) x197002_3.length co107 : Value).ownBlock) (.slice (some ⟨go98,0,none⟩) x197003_3.length co116) y229) := ⟨by (with_reducible repeat (first | apply Kd.R_alloc | apply Kd.R_drewN | apply Kd.R_drew)); exact Kd.R_mono HQ118.out (fun _ hk => hk.2)⟩
                have n2_ : Aside0 ((w117.setCell ⟨go98,(t209 : Int).toNat,none⟩ (.string (rdOf ByteArray.empty x197003_3 t212))).heap[gb165]? = some (.cells #[.int .i64 0,.int .i64 0,.slice none 0 0,.slice none 0 0] 26 (0,0))) := ⟨b6_23⟩
                have n3_ : Aside0 ((w117.setCell ⟨go98,(t209 : Int).toNat,none⟩ (.string (rdOf ByteArray.empty x197003_3 t212))).heap[gb196]? = some (.cells #[.int .i64 x197000_21,.int .i64 x197001_21,.slice (some ⟨go51,0,none⟩) x197002_3.length co107,.slice (some ⟨go98,0,none⟩) x197003_3.length co116] 26 (0,0))) := ⟨b6_24⟩
                have n4_ : Aside0 (IsS80 w0 (w117.setCell ⟨go98,(t209 : Int).toNat,none⟩ (.string (rdOf ByteArray.empty x197003_3 t212))) g s0_0 t220 t221) := ⟨b6_28⟩
                have n5_ : Aside0 (KeepBut w (w117.setCell ⟨go98,(t209 : Int).toNat,none⟩ (.string (rdOf ByteArray.empty x197003_3 t212))) g none) := ⟨b6_29⟩
                have n6_ : Aside0 (Below w0.heap.size w0 (w117.setCell ⟨go98,(t209 : Int).toNat,none⟩ (.string (rdOf ByteArray.empty x197003_3 t212)))) := ⟨b6_27⟩
                (try clear HO_197002)
                (try clear HO_197003)
                (try clear BK165)
                (try clear BK196)
                (try clear HI0)
                (try clear HK)
                (try clear HB)
                generalize (w117.setCell ⟨go98,(t209 : Int).toNat,none⟩ (.string (rdOf ByteArray.empty x197003_3 t212))) = w119 at n0_ n1_ n2_ n3_ n4_ n5_ n6_ ⊢
                have HO_197002 := n0_
                have HO_197003 := n1_
                have BK165 := n2_
                have BK196 := n3_
                have HI0 := n4_
                have HK := n5_
                have HB := n6_
                clear n0_ n1_ n2_ n3_ n4_ n5_ n6_
                have hcz120_0 : w119.cell? ⟨gb196,0,none⟩ = some (.int .i64 x197000_21) := (blk_cell BK196.out 0).trans rfl
                have hcz120_1 : w119.cell? ⟨gb196,1,none⟩ = some (.int .i64 x197001_21) := (blk_cell BK196.out 1).trans rfl
                have hcz120_2 : w119.cell? ⟨gb196,2,none⟩ = some (.slice (some ⟨go51,0,none⟩) x197002_3.length co107) := (blk_cell BK196.out 2).trans rfl
                have hcz120_3 : w119.cell? ⟨gb196,3,none⟩ = some (.slice (some ⟨go98,0,none⟩) x197003_3.length co116) := (blk_cell BK196.out 3).trans rfl
                have hfz120_0 := blk_frozen BK196.out 0
                have hfz120_1 := blk_frozen BK196.out 1
                have hfz120_2 := blk_frozen BK196.out 2
                have hfz120_3 := blk_frozen BK196.out 3
                have p99 : 0 ≤ (t212 : Int) := of_decide_eq_true b6_3
                have q99 : (t212 : Int) < ((x197003_3.length : Int) : Int) := of_decide_eq_true b6_3
                obtain ⟨hx99_0,hf99_0⟩ := Kd.R_celln (⟨#[]⟩ : ByteArray) HO_197003.out (t212 : Int) p99 q99
                replace p99 := eq_true p99
                replace q99 := eq_true q99
                obtain ⟨hy121_,hz121_⟩ := Kd.R_celln (⟨#[]⟩ : ByteArray) HO_197003.out (t212 : Int) (of_decide_eq_true b6_3) (of_decide_eq_true b6_3)
                have HP121 := Kd.R_putg HO_197003.out (t212 : Int) (rdOf ByteArray.empty x197003_3 t209)
                try go_wp2_with (first | ((with_reducible refine gate_store (t := 9) (p := 95) rfl ?_); refine store_event (t := 9) (p := 95) (v := ?vo_w122) (w1 := (w119.setCell ⟨go98,(t212 : Int).toNat,none⟩ (.string (rdOf ByteArray.empty x197003_3 t209)))) ?hg ?ho ?hn ?hr ?_; (case ho => rfl); (case hg => rfl); (case hn => rfl); (case hr => first | (go_simp; done) | (go_simp; rfl)); intro w122 hw; have hg : w119.grownBy w122 (some go98) := (by rw [hw]; exact HP121.2); have hp_ : Kd.R Kd.string 9 w122 w.heap.size (fun k_ => some k_ ≠ (.slice (some ⟨go51,0,none⟩) x197002_3.length co107 : Value).ownBlock) (.slice (some ⟨go98,0,none⟩) x197003_3.length co116) y230 := (by rw [hw,Ny230.out]; exact HP121.1); clear HP121; have n0_ := Aside0.mk (Kd.R_after (v := (.slice (some ⟨go98,0,none⟩) x197003_3.length co116)) (v1 := (.slice (some ⟨go98,0,none⟩) x197003_3.length co116)) (ok := (fun _ => True)) b6_35 hg (.inl rfl)); have n1_ := Aside0.mk (hp_); have n2_ := Aside0.mk (blk_grown (g := gb165) (o := .cells #[.int .i64 0,.int .i64 0,.slice none 0 0,.slice none 0 0] 26 (0,0)) b6_1 hg (Kd.R_ne HO_197003.out BK165.out (by decide))); have n3_ := Aside0.mk (blk_grown (g := gb196) (o := .cells #[.int .i64 x197000_21,.int .i64 x197001_21,.slice (some ⟨go51,0,none⟩) x197002_3.length co107,.slice (some ⟨go98,0,none⟩) x197003_3.length co116] 26 (0,0)) b6_4 hg (Kd.R_ne HO_197003.out BK196.out (by decide))); have n4_ := Aside0.mk (IsS80.grown b6_2 hg (IsS80.own_ne HI0.out HO_197003.out (by decide))); have n5_ := Aside0.mk ((by rw [hw]; exact below_set (HB.out) (Nat.le_trans HL.out GB98.out) : Below w0.heap.size w0 w122)); have n6_ := Aside0.mk (KeepBut.trans b6_0 (KeepBut.of_grown hg g) (Kd.R_base2 HO_197003.out)); clear HO_197002; clear HO_197003; clear BK165; clear BK196; clear HI0; clear HB; clear HK; have HO_197002 := n0_; have HO_197003 := n1_; have BK165 := n2_; have BK196 := n3_; have HI0 := n4_; have HB := n5_; have HK := n6_; clear n0_ n1_ n2_ n3_ n4_ n5_ n6_; clear hg hw hp_) | ((with_reducible refine gate_callee (f := 37) rfl ?_); refine goesL_ (some 96) rfl rfl Tryd.func37 (by kernel_rfl) rfl #[.pointer (some ⟨gb196,0,none⟩)] rfl b6_26 ?_; (with_reducible refine (spec_l03Is.calls k3 gb196 x197000_21 x197001_21 (some ⟨go51,0,none⟩) co107 y218 (some ⟨go98,0,none⟩) co116 y230 true _ ?side1 ?side2 ?side3 ?side4 ?side5 A100.out).mono ?_); (case side1 => first | (exact by (with_reducible repeat (first | refine blk_drewN ?_ _ | refine blk_drew ?_ | refine blk_alloc ?_ _)); exact BK196.out) | (rw [show y218.length = x197002_3.length from (Kd.R_reads' HO_197002.out).1.symm,show y230.length = x197003_3.length from (Kd.R_reads' HO_197003.out).1.symm]; ((with_reducible repeat (first | refine blk_drewN ?_ _ | refine blk_drew ?_ | refine blk_alloc ?_ _)); exact BK196.out))); (case side2 => repeat (first | exact (Kd.R_reads' HO_197002.out).2.2 | (with_reducible refine Kd.C_alloc ?_ _) | (with_reducible refine Kd.C_drewN ?_ _) | (with_reducible refine Kd.C_drew ?_))); (case side3 => rw [show y218.length = x197002_3.length from (Kd.R_reads' HO_197002.out).1.symm]; exact (Kd.R_reads' HO_197002.out).2.1); (case side4 => repeat (first | exact (Kd.R_reads' HO_197003.out).2.2 | (with_reducible refine Kd.C_alloc ?_ _) | (with_reducible refine Kd.C_drewN ?_ _) | (with_reducible refine Kd.C_drew ?_))); (case side5 => rw [show y230.length = x197003_3.length from (Kd.R_reads' HO_197003.out).1.symm]; exact (Kd.R_reads' HO_197003.out).2.1); rintro e w123 ⟨rfl,hb⟩; refine ⟨_,rfl,?_⟩; have n0_ := Aside0.mk (Kd.R_below b6_8 hb); have n1_ := Aside0.mk (Kd.R_below b6_9 hb); have n2_ := Aside0.mk (blk_below (g := gb165) (o := .cells #[.int .i64 0,.int .i64 0,.slice none 0 0,.slice none 0 0] 26 (0,0)) b6_1 hb); have n3_ := Aside0.mk (blk_below (g := gb196) (o := .cells #[.int .i64 x197000_21,.int .i64 x197001_21,.slice (some ⟨go51,0,none⟩) x197002_3.length co107,.slice (some ⟨go98,0,none⟩) x197003_3.length co116] 26 (0,0)) b6_4 hb); have n4_ := Aside0.mk (IsS80.below b6_2 hb); have n5_ := Aside0.mk (KeepBut.trans b6_0 (KeepBut.of_below hb g none) (.inl rfl)); have n6_ := Aside0.mk (below_step b6_5 hb); clear HO_197002; clear HO_197003; clear BK165; clear BK196; clear HI0; clear HK; clear HB; have HO_197002 := n0_; have HO_197003 := n1_; have BK165 := n2_; have BK196 := n3_; have HI0 := n4_; have HK := n5_; have HB := n6_; clear n0_ n1_ n2_ n3_ n4_ n5_ n6_; (try clear hb); (try clear hb2); (try clear hk); (try clear hi)))
                go_roundg k3
                case measure => have := HJ4.out; have := HJ21.out; have := HK3.out; omega
                case rel => exact ⟨(wrap64 (x8_3 - 1)),(t220),(t221),(y218),(y230),(.slice (some ⟨go51,0,none⟩) x197002_3.length co107),(.slice (some ⟨go98,0,none⟩) x197003_3.length co116),b6_32,H',⟨by have := HJ4.out; have := HJ21.out; have := HK3.out; omega⟩,⟨by (with_reducible repeat (first | apply Kd.R_alloc | apply Kd.R_drewN | apply Kd.R_drew)); exact Kd.R_mono HO_197002.out (fun _ hk => hk.2)⟩,⟨b6_9⟩,⟨b6_1⟩,⟨b6_4⟩,⟨b6_2⟩,⟨b6_0⟩,⟨b6_5⟩⟩
               ·replace c101 := Bool.eq_false_iff.mpr c101
                subst c101
                have H1 : (spec_l03DrawOk.l0 k3 (x197002_21.length : Int) (wrap64 (x8_3 - 1)) s0_0 t220 t221 x197000_21 x197001_21 ((y218.set (t209 : Int).toNat (rdOf ByteArray.empty y218 t212)).set (t212 : Int).toNat (rdOf ByteArray.empty y218 t209)) y230) = some (r1,r2,r3,r4,r5,r6) := by rw [if_neg (show ¬ (false = true) by decide)] at H; exact H
                clear H
                have H := H1
                clear H1
                obtain ⟨y234,hy234⟩ : ∃ y_ : List ByteArray,y_ = (y218.set (t209 : Int).toNat (rdOf ByteArray.empty y218 t212)) := ⟨_,rfl⟩
                replace H : (spec_l03DrawOk.l0 k3 (x197002_21.length : Int) (wrap64 (x8_3 - 1)) s0_0 t220 t221 x197000_21 x197001_21 (y234.set (t212 : Int).toNat (rdOf ByteArray.empty y218 t209)) y230) = some (r1,r2,r3,r4,r5,r6) := by first | (rw [hy234]; with_reducible exact H) | (have H2_ := (Option.bind_some _ _).symm.trans H; rw [hy234]; with_reducible exact H2_) | (have H2_ := (Option.bind_some _ _).symm.trans H; with_reducible exact H2_) | with_reducible exact H | (rw [hy234]; exact H) | exact H
                have Ny234 := Aside0.mk hy234
                clear hy234
                obtain ⟨y235,hy235⟩ : ∃ y_ : List ByteArray,y_ = (y234.set (t212 : Int).toNat (rdOf ByteArray.empty y218 t209)) := ⟨_,rfl⟩
                replace H : (spec_l03DrawOk.l0 k3 (x197002_21.length : Int) (wrap64 (x8_3 - 1)) s0_0 t220 t221 x197000_21 x197001_21 y235 y230) = some (r1,r2,r3,r4,r5,r6) := by first | (rw [hy235]; with_reducible exact H) | (have H2_ := (Option.bind_some _ _).symm.trans H; rw [hy235]; with_reducible exact H2_) | (have H2_ := (Option.bind_some _ _).symm.trans H; with_reducible exact H2_) | with_reducible exact H | (rw [hy235]; exact H) | exact H
                have Ny235 := Aside0.mk hy235
                clear hy235
                have H' := Aside0.mk H
                clear H
                try go_wp2_with (first | ((with_reducible refine gate_callee (f := 24) rfl ?_); refine goesL_ (some 51) rfl rfl Tryd.func24 (by kernel_rfl) rfl #[.pointer (some ⟨g,0,none⟩),.int .i64 (x197002_21.length : Int)] rfl b6_7 ?_; (with_reducible refine (spec_l00Src_pick.calls g s0_0 x1001_3 x1002_3 (x197002_21.length : Int) t209 t210 t211 w0 _ ?side1 ?side2 A45.out).mono ?_); (case side1 => repeat (first | (with_reducible first | exact HI0.out | apply IsS80.alloc | apply IsS80.drewN | apply IsS80.drew | apply IsS80.set_1 | apply IsS80.set_2 | refine IsS80.far ?_ NB0_165.out _ | refine IsS80.far ?_ NB0_196.out _) | exact HI0.out)); (case side2 => repeat (first | (with_reducible first | exact HB.out | apply below_alloc | apply pw_below_drewN | apply below_drew1 | refine below_set ?_ (IsS80.ge HI0.out) | refine below_set ?_ GE165.out | refine below_set ?_ GE196.out) | exact HB.out)); rintro e w126 ⟨rfl,hi,hb,hk⟩; refine ⟨_,rfl,?_⟩; have n0_ := Aside0.mk (Kd.R_mono (Kd.R_keep (IsS80.apart (show IsS80 w0 _ g s0_0 x1001_3 x1002_3 from by repeat (first | (with_reducible first | exact HI0.out | apply IsS80.alloc | apply IsS80.drewN | apply IsS80.drew | apply IsS80.set_1 | apply IsS80.set_2 | refine IsS80.far ?_ NB0_165.out _ | refine IsS80.far ?_ NB0_196.out _) | exact HI0.out)) b6_8 (by decide)) hk (fun _ h => h.2)) (fun _ h => h.1)); have n1_ := Aside0.mk (Kd.R_mono (Kd.R_keep (IsS80.apart (show IsS80 w0 _ g s0_0 x1001_3 x1002_3 from by repeat (first | (with_reducible first | exact HI0.out | apply IsS80.alloc | apply IsS80.drewN | apply IsS80.drew | apply IsS80.set_1 | apply IsS80.set_2 | refine IsS80.far ?_ NB0_165.out _ | refine IsS80.far ?_ NB0_196.out _) | exact HI0.out)) b6_9 (by decide)) hk (fun _ h => h.2)) (fun _ h => h.1)); have n2_ := Aside0.mk (KeepBut.blk hk (g' := gb165) (o := .cells #[.int .i64 0,.int .i64 0,.slice none 0 0,.slice none 0 0] 26 (0,0)) b6_1 NB165_0.out (by simp)); have n3_ := Aside0.mk (KeepBut.blk hk (g' := gb196) (o := .cells #[.int .i64 x197000_21,.int .i64 x197001_21,u197002,u197003] 26 (0,0)) b6_4 NB196_0.out (by simp)); have n4_ := Aside0.mk (KeepBut.trans b6_0 hk (.inl rfl)); have n5_ := Aside0.mk (hb); have n6_ := Aside0.mk (hi); clear HO_197002; clear HO_197003; clear BK165; clear BK196; clear HK; clear HB; clear HI0; have HO_197002 := n0_; have HO_197003 := n1_; have BK165 := n2_; have BK196 := n3_; have HK := n4_; have HB := n5_; have HI0 := n6_; clear n0_ n1_ n2_ n3_ n4_ n5_ n6_; (try clear hb); (try clear hb2); (try clear hk); (try clear hi)) | ((with_reducible refine gate_callee (f := 24) rfl ?_); refine goesL_ (some 54) rfl rfl Tryd.func24 (by kernel_rfl) rfl #[.pointer (some ⟨g,0,none⟩),.int .i64 (x197002_21.length : Int)] rfl b6_7 ?_; (with_reducible refine (spec_l00Src_pick.calls g s0_0 t210 t211 (x197002_21.length : Int) t212 t213 t214 w0 _ ?side1 ?side2 A46.out).mono ?_); (case side1 => repeat (first | (with_reducible first | exact HI0.out | apply IsS80.alloc | apply IsS80.drewN | apply IsS80.drew | apply IsS80.set_1 | apply IsS80.set_2 | refine IsS80.far ?_ NB0_165.out _ | refine IsS80.far ?_ NB0_196.out _) | exact HI0.out)); (case side2 => repeat (first | (with_reducible first | exact HB.out | apply below_alloc | apply pw_below_drewN | apply below_drew1 | refine below_set ?_ (IsS80.ge HI0.out) | refine below_set ?_ GE165.out | refine below_set ?_ GE196.out) | exact HB.out)); rintro e w127 ⟨rfl,hi,hb,hk⟩; refine ⟨_,rfl,?_⟩; have n0_ := Aside0.mk (Kd.R_mono (Kd.R_keep (IsS80.apart (show IsS80 w0 _ g s0_0 t210 t211 from by repeat (first | (with_reducible first | exact HI0.out | apply IsS80.alloc | apply IsS80.drewN | apply IsS80.drew | apply IsS80.set_1 | apply IsS80.set_2 | refine IsS80.far ?_ NB0_165.out _ | refine IsS80.far ?_ NB0_196.out _) | exact HI0.out)) b6_8 (by decide)) hk (fun _ h => h.2)) (fun _ h => h.1)); have n1_ := Aside0.mk (Kd.R_mono (Kd.R_keep (IsS80.apart (show IsS80 w0 _ g s0_0 t210 t211 from by repeat (first | (with_reducible first | exact HI0.out | apply IsS80.alloc | apply IsS80.drewN | apply IsS80.drew | apply IsS80.set_1 | apply IsS80.set_2 | refine IsS80.far ?_ NB0_165.out _ | refine IsS80.far ?_ NB0_196.out _) | exact HI0.out)) b6_9 (by decide)) hk (fun _ h => h.2)) (fun _ h => h.1)); have n2_ := Aside0.mk (KeepBut.blk hk (g' := gb165) (o := .cells #[.int .i64 0,.int .i64 0,.slice none 0 0,.slice none 0 0] 26 (0,0)) b6_1 NB165_0.out (by simp)); have n3_ := Aside0.mk (KeepBut.blk hk (g' := gb196) (o := .cells #[.int .i64 x197000_21,.int .i64 x197001_21,u197002,u197003] 26 (0,0)) b6_4 NB196_0.out (by simp)); have n4_ := Aside0.mk (KeepBut.trans b6_0 hk (.inl rfl)); have n5_ := Aside0.mk (hb); have n6_ := Aside0.mk (hi); clear HO_197002; clear HO_197003; clear BK165; clear BK196; clear HK; clear HB; clear HI0; have HO_197002 := n0_; have HO_197003 := n1_; have BK165 := n2_; have BK196 := n3_; have HK := n4_; have HB := n5_; have HI0 := n6_; clear n0_ n1_ n2_ n3_ n4_ n5_ n6_; (try clear hb); (try clear hb2); (try clear hk); (try clear hi); have hnb128 := NB196_165.out; have hnc128 := NB165_196.out; have hnb129 := NB196_0.out; have hnc129 := NB0_196.out; have hcz130_0 : w127.cell? ⟨gb196,0,none⟩ = some (.int .i64 x197000_21) := (blk_cell BK196.out 0).trans rfl; have hcz130_1 : w127.cell? ⟨gb196,1,none⟩ = some (.int .i64 x197001_21) := (blk_cell BK196.out 1).trans rfl; have hcz130_2 : w127.cell? ⟨gb196,2,none⟩ = some (u197002) := (blk_cell BK196.out 2).trans rfl; have hcz130_3 : w127.cell? ⟨gb196,3,none⟩ = some (u197003) := (blk_cell BK196.out 3).trans rfl; have hfz130_0 := blk_frozen BK196.out 0; have hfz130_1 := blk_frozen BK196.out 1; have hfz130_2 := blk_frozen BK196.out 2; have hfz130_3 := blk_frozen BK196.out 3; obtain ⟨Ao131,co131,eo131⟩ := Kd.R_slice HO_197002.out; subst eo131; have p215 : 0 ≤ (t209 : Int) := of_decide_eq_true b6_3; have q215 : t209 < (x197002_3.length : Int) := of_decide_eq_true b6_3; obtain ⟨ad215,e215,hx215_0⟩ := Kd.at_string (Kd.R_reads' HO_197002.out).2.2 t209 p215 q215; cases e215; replace p215 := eq_true p215; replace q215 := eq_true q215))
                have n0_ := Aside0.mk (Kd.R_drew HO_197002.out)
                have n1_ := Aside0.mk (Kd.R_drew HO_197003.out)
                have n2_ := Aside0.mk (blk_drew BK165.out)
                have n3_ := Aside0.mk (blk_drew BK196.out)
                have n4_ := Aside0.mk (IsS80.drew HI0.out)
                have n5_ := Aside0.mk (keep_drew HK.out)
                have n6_ := Aside0.mk (below_drew1 HB.out)
                clear HO_197002
                clear HO_197003
                clear BK165
                clear BK196
                clear HI0
                clear HK
                clear HB
                have HO_197002 := n0_
                have HO_197003 := n1_
                have BK165 := n2_
                have BK196 := n3_
                have HI0 := n4_
                have HK := n5_
                have HB := n6_
                clear n0_ n1_ n2_ n3_ n4_ n5_ n6_
                have p216 : 0 ≤ (t212 : Int) := of_decide_eq_true b6_3
                have q216 : t212 < (x197002_3.length : Int) := of_decide_eq_true b6_3
                obtain ⟨ad216,e216,hx216_0⟩ := Kd.at_string (Kd.R_reads' HO_197002.out).2.2 t212 p216 q216
                obtain rfl : ad215 = ad216 := (by injection e216)
                replace p216 := eq_true p216
                replace q216 := eq_true q216
                have p51 : 0 ≤ (t209 : Int) := of_decide_eq_true b6_3
                have q51 : (t209 : Int) < ((x197002_3.length : Int) : Int) := of_decide_eq_true b6_3
                obtain ⟨go51,co51,eo51,gb51,gl51,cl51,HG51⟩ := Kd.R_form HO_197002.out (by omega)
                (first | cases eo51 | (injection eo51 with ea_ en_ ec_; (first | subst ea_ | (injection ea_ with ea_; subst ea_)); subst ec_; clear en_))
                have GB51 := Aside0.mk gb51
                have GG51 := Aside0.mk HG51
                clear gb51 gl51 HG51
                (first | simp only [add_plain] at hx215_0 | skip)
                (first | simp only [add_plain] at hx216_0 | skip)
                obtain ⟨hx51_0,hf51_0⟩ := Kd.R_celln (⟨#[]⟩ : ByteArray) HO_197002.out (t209 : Int) p51 q51
                replace p51 := eq_true p51
                replace q51 := eq_true q51
                have HN0_go51 := Aside0.mk (show g ≠ go51 from by have h_ := IsS80.own_ne HI0.out HO_197002.out (by decide); intro e_; exact h_ (by rw [e_]; rfl))
                have HP133 := Kd.R_putn HO_197002.out (t209 : Int) (rdOf ByteArray.empty x197002_3 t212)
                rw [← Ny217.out] at HP133
                have HQ133 := Aside0.mk HP133
                clear HP133
                refine start_ (n := 10) (S := fun w' => w'.cell? ⟨gb196,0,none⟩ = some (.int .i64 x197000_21) ∧ w'.cell? ⟨gb196,1,none⟩ = some (.int .i64 x197001_21) ∧ w'.cell? ⟨gb196,2,none⟩ = some (.slice (some ⟨go51,0,none⟩) x197002_3.length co131) ∧ w'.cell? ⟨gb196,3,none⟩ = some (u197003) ∧ w'.cell? ⟨go51,(t212).toNat,none⟩ = some (.string (rdOf ByteArray.empty x197002_3 t212))) (ds := [9]) #[false,false,false,false,false,false,false,false,false,false] (by kernel_rfl) rfl rfl ⟨(blk_cell BK196.out 0).trans rfl,(blk_cell BK196.out 1).trans rfl,(blk_cell BK196.out 2).trans rfl,(blk_cell BK196.out 3).trans rfl,hx216_0⟩ (fun hHeld => ?_); refine with_tabW spec_l03DrawOk.tab16 spec_l03DrawOk.bits16 (fun HT_ HW_ => ?_)
                generalize w127.drew = w132 at HO_197002 HO_197003 BK165 BK196 HI0 HK HB GG51 HQ133 hf51_0 hx215_0 hx216_0 hx51_0 hHeld ⊢
                refine pure_ (i := 0) (N := some 60) (v := ?_) (a' := ?_) #[true,false,false,false,false,false,false,false,false,false] rfl rfl (any_of HT_.out (by kernel_rfl)) (fun _ _ _ h => h) (Or.inl ⟨by rfl,?_⟩) ?_ ?_
                rotate_left
                ·intro w'
                 go_simp
                 with_reducible rfl
                rotate_left
                ·simp only [Act.put,List.setIfInBounds_toArray,List.set_cons_zero,List.set_cons_succ,i64_w,i32_w]
                 rfl
                refine pure_ (i := 2) (N := some 62) (v := ?_) (a' := ?_) #[true,false,true,false,false,false,false,false,false,false] rfl rfl (any_of HT_.out (by kernel_rfl)) (fun _ _ _ h => h) (Or.inl ⟨by rfl,?_⟩) ?_ ?_
                rotate_left
                ·intro w'
                 go_simp
                 with_reducible rfl
                rotate_left
                ·simp only [Act.put,List.setIfInBounds_toArray,List.set_cons_zero,List.set_cons_succ,i64_w,i32_w]
                 rfl
                refine pure_ (i := 3) (N := some 63) (v := ?_) (a' := ?_) #[true,false,true,true,false,false,false,false,false,false] rfl rfl (any_of HT_.out (by kernel_rfl)) (fun _ _ _ h => h) (Or.inl ⟨by rfl,?_⟩) ?_ ?_
                rotate_left
                ·intro w'
                 go_simp
                 with_reducible rfl
                rotate_left
                ·simp only [Act.put,List.setIfInBounds_toArray,List.set_cons_zero,List.set_cons_succ,i64_w,i32_w]
                 rfl
                refine pure_ (i := 5) (N := some 65) (v := ?_) (a' := ?_) #[true,false,true,true,false,true,false,false,false,false] rfl rfl (any_of HT_.out (by kernel_rfl)) (fun _ _ _ h => h) (Or.inl ⟨by rfl,?_⟩) ?_ ?_
                rotate_left
                ·intro w'
                 go_simp
                 with_reducible rfl
                rotate_left
                ·simp only [Act.put,List.setIfInBounds_toArray,List.set_cons_zero,List.set_cons_succ,i64_w,i32_w]
                 rfl
                refine take_ (i := 1) (N := some 61) (v := ?_) (a' := ?_) #[true,true,true,true,false,true,false,false,false,false] rfl rfl (take_ofW HT_.out HW_.out (by kernel_rfl)) (fun _ _ _ h => h) (Or.inl ⟨by rfl,?_⟩) hHeld ?_ ?_
                rotate_left
                ·rintro w' ⟨s0,s1,s2,s3,s4⟩
                 go_simp
                 with_reducible rfl
                rotate_left
                ·simp only [Act.put,List.setIfInBounds_toArray,List.set_cons_zero,List.set_cons_succ,i64_w,i32_w]
                 rfl
                refine take_ (i := 4) (N := some 64) (v := ?_) (a' := ?_) #[true,true,true,true,true,true,false,false,false,false] rfl rfl (take_ofW HT_.out HW_.out (by kernel_rfl)) (fun _ _ _ h => h) (Or.inl ⟨by rfl,?_⟩) hHeld ?_ ?_
                rotate_left
                ·rintro w' ⟨s0,s1,s2,s3,s4⟩
                 go_simp
                 with_reducible rfl
                rotate_left
                ·simp only [Act.put,List.setIfInBounds_toArray,List.set_cons_zero,List.set_cons_succ,i64_w,i32_w]
                 rfl
                refine pure_ (i := 6) (N := some 66) (v := ?_) (a' := ?_) #[true,true,true,true,true,true,true,false,false,false] rfl rfl (any_of HT_.out (by kernel_rfl)) (fun _ _ _ h => h) (Or.inl ⟨by rfl,?_⟩) ?_ ?_
                rotate_left
                ·intro w'
                 go_simp
                 with_reducible rfl
                rotate_left
                ·simp only [Act.put,List.setIfInBounds_toArray,List.set_cons_zero,List.set_cons_succ,i64_w,i32_w]
                 rfl
                refine take_ (i := 7) (N := some 67) (v := ?_) (a' := ?_) #[true,true,true,true,true,true,true,true,false,false] rfl rfl (take_ofW HT_.out HW_.out (by kernel_rfl)) (fun _ _ _ h => h) (Or.inl ⟨by rfl,?_⟩) hHeld ?_ ?_
                rotate_left
                ·rintro w' ⟨s0,s1,s2,s3,s4⟩
                 go_simp
                 with_reducible rfl
                rotate_left
                ·simp only [Act.put,List.setIfInBounds_toArray,List.set_cons_zero,List.set_cons_succ,i64_w,i32_w]
                 rfl
                refine pure_ (i := 8) (N := some 68) (v := ?_) (a' := ?_) #[true,true,true,true,true,true,true,true,true,false] rfl rfl (any_of HT_.out (by kernel_rfl)) (fun _ _ _ h => h) (Or.inl ⟨by rfl,?_⟩) ?_ ?_
                rotate_left
                ·intro w'
                 go_simp
                 with_reducible rfl
                rotate_left
                ·simp only [Act.put,List.setIfInBounds_toArray,List.set_cons_zero,List.set_cons_succ,i64_w,i32_w]
                 rfl
                refine last_ (i := 9) (N := none) #[true,true,true,true,true,true,true,true,true,true] rfl rfl (one_of HT_.out (by kernel_rfl)) (by decide) (fun K hK => ?_)
                refine skip_ (w1 := ?_) (by rfl) rfl ?_ ?_
                rotate_left
                ·go_simp
                 rfl
                refine hK.out _ _ ?_
                clear hK K
                refine done_ (done_of HT_.out (by kernel_rfl)) ?_
                have n0_ : Aside0 (Kd.R Kd.string 9 (w132.setCell ⟨go51,(t209 : Int).toNat,none⟩ (.string (rdOf ByteArray.empty x197002_3 t212))) w.heap.size (fun k_ => some k_ ≠ (u197003 : Value).ownBlock) (.slice (some ⟨go51,0,none⟩) x197002_3.length co131) y217) := ⟨by (with_reducible repeat (first | apply Kd.R_alloc | apply Kd.R_drewN | apply Kd.R_drew)); exact HQ133.out⟩
                have n1_ : Aside0 (Kd.R Kd.string 9 (w132.setCell ⟨go51,(t209 : Int).toNat,none⟩ (.string (rdOf ByteArray.empty x197002_3 t212))) w.heap.size (fun k_ => some k_ ≠ (.slice (some ⟨go51,0,none⟩) x197002_3.length co131 : Value).ownBlock) u197003 x197003_3) := ⟨b6_19⟩
                have n2_ : Aside0 ((w132.setCell ⟨go51,(t209 : Int).toNat,none⟩ (.string (rdOf ByteArray.empty x197002_3 t212))).heap[gb165]? = some (.cells #[.int .i64 0,.int .i64 0,.slice none 0 0,.slice none 0 0] 26 (0,0))) := ⟨b6_10⟩
                have n3_ : Aside0 ((w132.setCell ⟨go51,(t209 : Int).toNat,none⟩ (.string (rdOf ByteArray.empty x197002_3 t212))).heap[gb196]? = some (.cells #[.int .i64 x197000_21,.int .i64 x197001_21,.slice (some ⟨go51,0,none⟩) x197002_3.length co131,u197003] 26 (0,0))) := ⟨b6_11⟩
                have n4_ : Aside0 (IsS80 w0 (w132.setCell ⟨go51,(t209 : Int).toNat,none⟩ (.string (rdOf ByteArray.empty x197002_3 t212))) g s0_0 t213 t214) := ⟨b6_15⟩
                have n5_ : Aside0 (KeepBut w (w132.setCell ⟨go51,(t209 : Int).toNat,none⟩ (.string (rdOf ByteArray.empty x197002_3 t212))) g none) := ⟨b6_16⟩
                have n6_ : Aside0 (Below w0.heap.size w0 (w132.setCell ⟨go51,(t209 : Int).toNat,none⟩ (.string (rdOf ByteArray.empty x197002_3 t212)))) := ⟨b6_14⟩
                (try clear HO_197002)
                (try clear HO_197003)
                (try clear BK165)
                (try clear BK196)
                (try clear HI0)
                (try clear HK)
                (try clear HB)
                generalize (w132.setCell ⟨go51,(t209 : Int).toNat,none⟩ (.string (rdOf ByteArray.empty x197002_3 t212))) = w134 at n0_ n1_ n2_ n3_ n4_ n5_ n6_ ⊢
                have HO_197002 := n0_
                have HO_197003 := n1_
                have BK165 := n2_
                have BK196 := n3_
                have HI0 := n4_
                have HK := n5_
                have HB := n6_
                clear n0_ n1_ n2_ n3_ n4_ n5_ n6_
                have hcz135_0 : w134.cell? ⟨gb196,0,none⟩ = some (.int .i64 x197000_21) := (blk_cell BK196.out 0).trans rfl
                have hcz135_1 : w134.cell? ⟨gb196,1,none⟩ = some (.int .i64 x197001_21) := (blk_cell BK196.out 1).trans rfl
                have hcz135_2 : w134.cell? ⟨gb196,2,none⟩ = some (.slice (some ⟨go51,0,none⟩) x197002_3.length co131) := (blk_cell BK196.out 2).trans rfl
                have hcz135_3 : w134.cell? ⟨gb196,3,none⟩ = some (u197003) := (blk_cell BK196.out 3).trans rfl
                have hfz135_0 := blk_frozen BK196.out 0
                have hfz135_1 := blk_frozen BK196.out 1
                have hfz135_2 := blk_frozen BK196.out 2
                have hfz135_3 := blk_frozen BK196.out 3
                have p52 : 0 ≤ (t212 : Int) := of_decide_eq_true b6_3
                have q52 : (t212 : Int) < ((x197002_3.length : Int) : Int) := of_decide_eq_true b6_3
                obtain ⟨hx52_0,hf52_0⟩ := Kd.R_celln (⟨#[]⟩ : ByteArray) HO_197002.out (t212 : Int) p52 q52
                replace p52 := eq_true p52
                replace q52 := eq_true q52
                obtain ⟨hy136_,hz136_⟩ := Kd.R_celln (⟨#[]⟩ : ByteArray) HO_197002.out (t212 : Int) (of_decide_eq_true b6_3) (of_decide_eq_true b6_3)
                have HP136 := Kd.R_putg HO_197002.out (t212 : Int) (rdOf ByteArray.empty x197002_3 t209)
                try go_wp2_with (first | ((with_reducible refine gate_store (t := 9) (p := 73) rfl ?_); refine store_event (t := 9) (p := 73) (v := ?vo_w137) (w1 := (w134.setCell ⟨go51,(t212 : Int).toNat,none⟩ (.string (rdOf ByteArray.empty x197002_3 t209)))) ?hg ?ho ?hn ?hr ?_; (case ho => rfl); (case hg => rfl); (case hn => rfl); (case hr => first | (go_simp; done) | (go_simp; rfl)); intro w137 hw; have hg : w134.grownBy w137 (some go51) := (by rw [hw]; exact HP136.2); have hp_ : Kd.R Kd.string 9 w137 w.heap.size (fun k_ => some k_ ≠ (u197003 : Value).ownBlock) (.slice (some ⟨go51,0,none⟩) x197002_3.length co131) y218 := (by rw [hw,Ny218.out]; exact HP136.1); clear HP136; have n0_ := Aside0.mk (hp_); have n1_ := Aside0.mk (Kd.R_after (v := (.slice (some ⟨go51,0,none⟩) x197002_3.length co131)) (v1 := (.slice (some ⟨go51,0,none⟩) x197002_3.length co131)) (ok := (fun _ => True)) b6_22 hg (.inl rfl)); have n2_ := Aside0.mk (blk_grown (g := gb165) (o := .cells #[.int .i64 0,.int .i64 0,.slice none 0 0,.slice none 0 0] 26 (0,0)) b6_1 hg (Kd.R_ne HO_197002.out BK165.out (by decide))); have n3_ := Aside0.mk (blk_grown (g := gb196) (o := .cells #[.int .i64 x197000_21,.int .i64 x197001_21,.slice (some ⟨go51,0,none⟩) x197002_3.length co131,u197003] 26 (0,0)) b6_4 hg (Kd.R_ne HO_197002.out BK196.out (by decide))); have n4_ := Aside0.mk (IsS80.grown b6_2 hg (IsS80.own_ne HI0.out HO_197002.out (by decide))); have n5_ := Aside0.mk ((by rw [hw]; exact below_set (HB.out) (Nat.le_trans HL.out GB51.out) : Below w0.heap.size w0 w137)); have n6_ := Aside0.mk (KeepBut.trans b6_0 (KeepBut.of_grown hg g) (Kd.R_base2 HO_197002.out)); clear HO_197002; clear HO_197003; clear BK165; clear BK196; clear HI0; clear HB; clear HK; have HO_197002 := n0_; have HO_197003 := n1_; have BK165 := n2_; have BK196 := n3_; have HI0 := n4_; have HB := n5_; have HK := n6_; clear n0_ n1_ n2_ n3_ n4_ n5_ n6_; clear hg hw hp_) | ((with_reducible refine gate_callee (f := 47) rfl ?_); refine goesL_ (some 75) rfl rfl Tryd.func47 (by kernel_rfl) rfl #[.pointer (some ⟨g,0,none⟩),.int .i64 3] rfl b6_7 ?_; (with_reducible refine (spec_l00Src_one.calls g s0_0 t213 t214 3 false t220 t221 w0 _ ?side1 ?side2 A53.out).mono ?_); (case side1 => repeat (first | (with_reducible first | exact HI0.out | apply IsS80.alloc | apply IsS80.drewN | apply IsS80.drew | apply IsS80.set_1 | apply IsS80.set_2 | refine IsS80.far ?_ NB0_165.out _ | refine IsS80.far ?_ NB0_196.out _) | exact HI0.out)); (case side2 => repeat (first | (with_reducible first | exact HB.out | apply below_alloc | apply pw_below_drewN | apply below_drew1 | refine below_set ?_ (IsS80.ge HI0.out) | refine below_set ?_ GE165.out | refine below_set ?_ GE196.out) | exact HB.out)); rintro e w138 ⟨rfl,hi,hb,hk⟩; refine ⟨_,rfl,?_⟩; have n0_ := Aside0.mk (Kd.R_mono (Kd.R_keep (IsS80.apart (show IsS80 w0 _ g s0_0 t213 t214 from by repeat (first | (with_reducible first | exact HI0.out | apply IsS80.alloc | apply IsS80.drewN | apply IsS80.drew | apply IsS80.set_1 | apply IsS80.set_2 | refine IsS80.far ?_ NB0_165.out _ | refine IsS80.far ?_ NB0_196.out _) | exact HI0.out)) b6_8 (by decide)) hk (fun _ h => h.2)) (fun _ h => h.1)); have n1_ := Aside0.mk (Kd.R_mono (Kd.R_keep (IsS80.apart (show IsS80 w0 _ g s0_0 t213 t214 from by repeat (first | (with_reducible first | exact HI0.out | apply IsS80.alloc | apply IsS80.drewN | apply IsS80.drew | apply IsS80.set_1 | apply IsS80.set_2 | refine IsS80.far ?_ NB0_165.out _ | refine IsS80.far ?_ NB0_196.out _) | exact HI0.out)) b6_9 (by decide)) hk (fun _ h => h.2)) (fun _ h => h.1)); have n2_ := Aside0.mk (KeepBut.blk hk (g' := gb165) (o := .cells #[.int .i64 0,.int .i64 0,.slice none 0 0,.slice none 0 0] 26 (0,0)) b6_1 NB165_0.out (by simp)); have n3_ := Aside0.mk (KeepBut.blk hk (g' := gb196) (o := .cells #[.int .i64 x197000_21,.int .i64 x197001_21,.slice (some ⟨go51,0,none⟩) x197002_3.length co131,u197003] 26 (0,0)) b6_4 NB196_0.out (by simp)); have n4_ := Aside0.mk (KeepBut.trans b6_0 hk (.inl rfl)); have n5_ := Aside0.mk (hb); have n6_ := Aside0.mk (hi); clear HO_197002; clear HO_197003; clear BK165; clear BK196; clear HK; clear HB; clear HI0; have HO_197002 := n0_; have HO_197003 := n1_; have BK165 := n2_; have BK196 := n3_; have HK := n4_; have HB := n5_; have HI0 := n6_; clear n0_ n1_ n2_ n3_ n4_ n5_ n6_; (try clear hb); (try clear hb2); (try clear hk); (try clear hi); have hcz139_0 : w138.cell? ⟨gb196,0,none⟩ = some (.int .i64 x197000_21) := (blk_cell BK196.out 0).trans rfl; have hcz139_1 : w138.cell? ⟨gb196,1,none⟩ = some (.int .i64 x197001_21) := (blk_cell BK196.out 1).trans rfl; have hcz139_2 : w138.cell? ⟨gb196,2,none⟩ = some (.slice (some ⟨go51,0,none⟩) x197002_3.length co131) := (blk_cell BK196.out 2).trans rfl; have hcz139_3 : w138.cell? ⟨gb196,3,none⟩ = some (u197003) := (blk_cell BK196.out 3).trans rfl; have hfz139_0 := blk_frozen BK196.out 0; have hfz139_1 := blk_frozen BK196.out 1; have hfz139_2 := blk_frozen BK196.out 2; have hfz139_3 := blk_frozen BK196.out 3; obtain ⟨Ao140,co140,eo140⟩ := Kd.R_slice HO_197003.out; subst eo140; have p227 : 0 ≤ (t209 : Int) := of_decide_eq_true b6_3; have q227 : t209 < (x197003_3.length : Int) := of_decide_eq_true b6_3; obtain ⟨ad227,e227,hx227_0⟩ := Kd.at_string (Kd.R_reads' HO_197003.out).2.2 t209 p227 q227; cases e227; replace p227 := eq_true p227; replace q227 := eq_true q227))
                have n0_ := Aside0.mk (Kd.R_drew HO_197002.out)
                have n1_ := Aside0.mk (Kd.R_drew HO_197003.out)
                have n2_ := Aside0.mk (blk_drew BK165.out)
                have n3_ := Aside0.mk (blk_drew BK196.out)
                have n4_ := Aside0.mk (IsS80.drew HI0.out)
                have n5_ := Aside0.mk (keep_drew HK.out)
                have n6_ := Aside0.mk (below_drew1 HB.out)
                clear HO_197002
                clear HO_197003
                clear BK165
                clear BK196
                clear HI0
                clear HK
                clear HB
                have HO_197002 := n0_
                have HO_197003 := n1_
                have BK165 := n2_
                have BK196 := n3_
                have HI0 := n4_
                have HK := n5_
                have HB := n6_
                clear n0_ n1_ n2_ n3_ n4_ n5_ n6_
                have p228 : 0 ≤ (t212 : Int) := of_decide_eq_true b6_3
                have q228 : t212 < (x197003_3.length : Int) := of_decide_eq_true b6_3
                obtain ⟨ad228,e228,hx228_0⟩ := Kd.at_string (Kd.R_reads' HO_197003.out).2.2 t212 p228 q228
                obtain rfl : ad227 = ad228 := (by injection e228)
                replace p228 := eq_true p228
                replace q228 := eq_true q228
                have p98 : 0 ≤ (t209 : Int) := of_decide_eq_true b6_3
                have q98 : (t209 : Int) < ((x197003_3.length : Int) : Int) := of_decide_eq_true b6_3
                obtain ⟨go98,co98,eo98,gb98,gl98,cl98,HG98⟩ := Kd.R_form HO_197003.out (by omega)
                (first | cases eo98 | (injection eo98 with ea_ en_ ec_; (first | subst ea_ | (injection ea_ with ea_; subst ea_)); subst ec_; clear en_))
                have GB98 := Aside0.mk gb98
                have GG98 := Aside0.mk HG98
                clear gb98 gl98 HG98
                (first | simp only [add_plain] at hx227_0 | skip)
                (first | simp only [add_plain] at hx228_0 | skip)
                obtain ⟨hx98_0,hf98_0⟩ := Kd.R_celln (⟨#[]⟩ : ByteArray) HO_197003.out (t209 : Int) p98 q98
                replace p98 := eq_true p98
                replace q98 := eq_true q98
                have HN0_go98 := Aside0.mk (show g ≠ go98 from by have h_ := IsS80.own_ne HI0.out HO_197003.out (by decide); intro e_; exact h_ (by rw [e_]; rfl))
                have HP142 := Kd.R_putn HO_197003.out (t209 : Int) (rdOf ByteArray.empty x197003_3 t212)
                rw [← Ny229.out] at HP142
                have HQ142 := Aside0.mk HP142
                clear HP142
                refine start_ (n := 10) (S := fun w' => w'.cell? ⟨gb196,0,none⟩ = some (.int .i64 x197000_21) ∧ w'.cell? ⟨gb196,1,none⟩ = some (.int .i64 x197001_21) ∧ w'.cell? ⟨gb196,2,none⟩ = some (.slice (some ⟨go51,0,none⟩) x197002_3.length co131) ∧ w'.cell? ⟨gb196,3,none⟩ = some (.slice (some ⟨go98,0,none⟩) x197003_3.length co140) ∧ w'.cell? ⟨go98,(t212).toNat,none⟩ = some (.string (rdOf ByteArray.empty x197003_3 t212))) (ds := [9]) #[false,false,false,false,false,false,false,false,false,false] (by kernel_rfl) rfl rfl ⟨(blk_cell BK196.out 0).trans rfl,(blk_cell BK196.out 1).trans rfl,(blk_cell BK196.out 2).trans rfl,(blk_cell BK196.out 3).trans rfl,hx228_0⟩ (fun hHeld => ?_); refine with_tabW spec_l03DrawOk.tab20 spec_l03DrawOk.bits20 (fun HT_ HW_ => ?_)
                generalize w138.drew = w141 at HO_197002 HO_197003 BK165 BK196 HI0 HK HB GG98 HQ142 hf98_0 hx227_0 hx228_0 hx98_0 hHeld ⊢
                refine pure_ (i := 0) (N := some 82) (v := ?_) (a' := ?_) #[true,false,false,false,false,false,false,false,false,false] rfl rfl (any_of HT_.out (by kernel_rfl)) (fun _ _ _ h => h) (Or.inl ⟨by rfl,?_⟩) ?_ ?_
                rotate_left
                ·intro w'
                 go_simp
                 with_reducible rfl
                rotate_left
                ·simp only [Act.put,List.setIfInBounds_toArray,List.set_cons_zero,List.set_cons_succ,i64_w,i32_w]
                 rfl
                refine pure_ (i := 2) (N := some 84) (v := ?_) (a' := ?_) #[true,false,true,false,false,false,false,false,false,false] rfl rfl (any_of HT_.out (by kernel_rfl)) (fun _ _ _ h => h) (Or.inl ⟨by rfl,?_⟩) ?_ ?_
                rotate_left
                ·intro w'
                 go_simp
                 with_reducible rfl
                rotate_left
                ·simp only [Act.put,List.setIfInBounds_toArray,List.set_cons_zero,List.set_cons_succ,i64_w,i32_w]
                 rfl
                refine pure_ (i := 3) (N := some 85) (v := ?_) (a' := ?_) #[true,false,true,true,false,false,false,false,false,false] rfl rfl (any_of HT_.out (by kernel_rfl)) (fun _ _ _ h => h) (Or.inl ⟨by rfl,?_⟩) ?_ ?_
                rotate_left
                ·intro w'
                 go_simp
                 with_reducible rfl
                rotate_left
                ·simp only [Act.put,List.setIfInBounds_toArray,List.set_cons_zero,List.set_cons_succ,i64_w,i32_w]
                 rfl
                refine pure_ (i := 5) (N := some 87) (v := ?_) (a' := ?_) #[true,false,true,true,false,true,false,false,false,false] rfl rfl (any_of HT_.out (by kernel_rfl)) (fun _ _ _ h => h) (Or.inl ⟨by rfl,?_⟩) ?_ ?_
                rotate_left
                ·intro w'
                 go_simp
                 with_reducible rfl
                rotate_left
                ·simp only [Act.put,List.setIfInBounds_toArray,List.set_cons_zero,List.set_cons_succ,i64_w,i32_w]
                 rfl
                refine take_ (i := 1) (N := some 83) (v := ?_) (a' := ?_) #[true,true,true,true,false,true,false,false,false,false] rfl rfl (take_ofW HT_.out HW_.out (by kernel_rfl)) (fun _ _ _ h => h) (Or.inl ⟨by rfl,?_⟩) hHeld ?_ ?_
                rotate_left
                ·rintro w' ⟨s0,s1,s2,s3,s4⟩
                 go_simp
                 with_reducible rfl
                rotate_left
                ·simp only [Act.put,List.setIfInBounds_toArray,List.set_cons_zero,List.set_cons_succ,i64_w,i32_w]
                 rfl
                refine take_ (i := 4) (N := some 86) (v := ?_) (a' := ?_) #[true,true,true,true,true,true,false,false,false,false] rfl rfl (take_ofW HT_.out HW_.out (by kernel_rfl)) (fun _ _ _ h => h) (Or.inl ⟨by rfl,?_⟩) hHeld ?_ ?_
                rotate_left
                ·rintro w' ⟨s0,s1,s2,s3,s4⟩
                 go_simp
                 with_reducible rfl
                rotate_left
                ·simp only [Act.put,List.setIfInBounds_toArray,List.set_cons_zero,List.set_cons_succ,i64_w,i32_w]
                 rfl
                refine pure_ (i := 6) (N := some 88) (v := ?_) (a' := ?_) #[true,true,true,true,true,true,true,false,false,false] rfl rfl (any_of HT_.out (by kernel_rfl)) (fun _ _ _ h => h) (Or.inl ⟨by rfl,?_⟩) ?_ ?_
                rotate_left
                ·intro w'
                 go_simp
                 with_reducible rfl
                rotate_left
                ·simp only [Act.put,List.setIfInBounds_toArray,List.set_cons_zero,List.set_cons_succ,i64_w,i32_w]
                 rfl
                refine take_ (i := 7) (N := some 89) (v := ?_) (a' := ?_) #[true,true,true,true,true,true,true,true,false,false] rfl rfl (take_ofW HT_.out HW_.out (by kernel_rfl)) (fun _ _ _ h => h) (Or.inl ⟨by rfl,?_⟩) hHeld ?_ ?_
                rotate_left
                ·rintro w' ⟨s0,s1,s2,s3,s4⟩
                 go_simp
                 with_reducible rfl
                rotate_left
                ·simp only [Act.put,List.setIfInBounds_toArray,List.set_cons_zero,List.set_cons_succ,i64_w,i32_w]
                 rfl
                refine pure_ (i := 8) (N := some 90) (v := ?_) (a' := ?_) #[true,true,true,true,true,true,true,true,true,false] rfl rfl (any_of HT_.out (by kernel_rfl)) (fun _ _ _ h => h) (Or.inl ⟨by rfl,?_⟩) ?_ ?_
                rotate_left
                ·intro w'
                 go_simp
                 with_reducible rfl
                rotate_left
                ·simp only [Act.put,List.setIfInBounds_toArray,List.set_cons_zero,List.set_cons_succ,i64_w,i32_w]
                 rfl
                refine last_ (i := 9) (N := none) #[true,true,true,true,true,true,true,true,true,true] rfl rfl (one_of HT_.out (by kernel_rfl)) (by decide) (fun K hK => ?_)
                refine skip_ (w1 := ?_) (by rfl) rfl ?_ ?_
                rotate_left
                ·go_simp
                 rfl
                refine hK.out _ _ ?_
                clear hK K
                refine done_ (done_of HT_.out (by kernel_rfl)) ?_
                have n0_ : Aside0 (Kd.R Kd.string 9 (w141.setCell ⟨go98,(t209 : Int).toNat,none⟩ (.string (rdOf ByteArray.empty x197003_3 t212))) w.heap.size (fun k_ => some k_ ≠ (.slice (some ⟨go98,0,none⟩) x197003_3.length co140 : Value).ownBlock) (.slice (some ⟨go51,0,none⟩) x197002_3.length co131) y218) := ⟨b6_25⟩
                have n1_ : Aside0 (Kd.R Kd.string 9 (w141.setCell ⟨go98,(t209 : Int).toNat,none⟩ (.string (rdOf ByteArray.empty x197003_3 t212))) w.heap.size (fun k_ => some k_ ≠ (.slice (some ⟨go51,0,none⟩) x197002_3.length co131 : Value).ownBlock) (.slice (some ⟨go98,0,none⟩) x197003_3.length co140) y229) := ⟨by (with_reducible repeat (first | apply Kd.R_alloc | apply Kd.R_drewN | apply Kd.R_drew)); exact Kd.R_mono HQ142.out (fun _ hk => hk.2)⟩
                have n2_ : Aside0 ((w141.setCell ⟨go98,(t209 : Int).toNat,none⟩ (.string (rdOf ByteArray.empty x197003_3 t212))).heap[gb165]? = some (.cells #[.int .i64 0,.int .i64 0,.slice none 0 0,.slice none 0 0] 26 (0,0))) := ⟨b6_23⟩
                have n3_ : Aside0 ((w141.setCell ⟨go98,(t209 : Int).toNat,none⟩ (.string (rdOf ByteArray.empty x197003_3 t212))).heap[gb196]? = some (.cells #[.int .i64 x197000_21,.int .i64 x197001_21,.slice (some ⟨go51,0,none⟩) x197002_3.length co131,.slice (some ⟨go98,0,none⟩) x197003_3.length co140] 26 (0,0))) := ⟨b6_24⟩
                have n4_ : Aside0 (IsS80 w0 (w141.setCell ⟨go98,(t209 : Int).toNat,none⟩ (.string (rdOf ByteArray.empty x197003_3 t212))) g s0_0 t220 t221) := ⟨b6_28⟩
                have n5_ : Aside0 (KeepBut w (w141.setCell ⟨go98,(t209 : Int).toNat,none⟩ (.string (rdOf ByteArray.empty x197003_3 t212))) g none) := ⟨b6_29⟩
                have n6_ : Aside0 (Below w0.heap.size w0 (w141.setCell ⟨go98,(t209 : Int).toNat,none⟩ (.string (rdOf ByteArray.empty x197003_3 t212)))) := ⟨b6_27⟩
                (try clear HO_197002)
                (try clear HO_197003)
                (try clear BK165)
                (try clear BK196)
                (try clear HI0)
                (try clear HK)
                (try clear HB)
                generalize (w141.setCell ⟨go98,(t209 : Int).toNat,none⟩ (.string (rdOf ByteArray.empty x197003_3 t212))) = w143 at n0_ n1_ n2_ n3_ n4_ n5_ n6_ ⊢
                have HO_197002 := n0_
                have HO_197003 := n1_
                have BK165 := n2_
                have BK196 := n3_
                have HI0 := n4_
                have HK := n5_
                have HB := n6_
                clear n0_ n1_ n2_ n3_ n4_ n5_ n6_
                have hcz144_0 : w143.cell? ⟨gb196,0,none⟩ = some (.int .i64 x197000_21) := (blk_cell BK196.out 0).trans rfl
                have hcz144_1 : w143.cell? ⟨gb196,1,none⟩ = some (.int .i64 x197001_21) := (blk_cell BK196.out 1).trans rfl
                have hcz144_2 : w143.cell? ⟨gb196,2,none⟩ = some (.slice (some ⟨go51,0,none⟩) x197002_3.length co131) := (blk_cell BK196.out 2).trans rfl
                have hcz144_3 : w143.cell? ⟨gb196,3,none⟩ = some (.slice (some ⟨go98,0,none⟩) x197003_3.length co140) := (blk_cell BK196.out 3).trans rfl
                have hfz144_0 := blk_frozen BK196.out 0
                have hfz144_1 := blk_frozen BK196.out 1
                have hfz144_2 := blk_frozen BK196.out 2
                have hfz144_3 := blk_frozen BK196.out 3
                have p99 : 0 ≤ (t212 : Int) := of_decide_eq_true b6_3
                have q99 : (t212 : Int) < ((x197003_3.length : Int) : Int) := of_decide_eq_true b6_3
                obtain ⟨hx99_0,hf99_0⟩ := Kd.R_celln (⟨#[]⟩ : ByteArray) HO_197003.out (t212 : Int) p99 q99
                replace p99 := eq_true p99
                replace q99 := eq_true q99
                obtain ⟨hy145_,hz145_⟩ := Kd.R_celln (⟨#[]⟩ : ByteArray) HO_197003.out (t212 : Int) (of_decide_eq_true b6_3) (of_decide_eq_true b6_3)
                have HP145 := Kd.R_putg HO_197003.out (t212 : Int) (rdOf ByteArray.empty x197003_3 t209)
                try go_wp2_with (first | ((with_reducible refine gate_store (t := 9) (p := 95) rfl ?_); refine store_event (t := 9) (p := 95) (v := ?vo_w146) (w1 := (w143.setCell ⟨go98,(t212 : Int).toNat,none⟩ (.string (rdOf ByteArray.empty x197003_3 t209)))) ?hg ?ho ?hn ?hr ?_; (case ho => rfl); (case hg => rfl); (case hn => rfl); (case hr => first | (go_simp; done) | (go_simp; rfl)); intro w146 hw; have hg : w143.grownBy w146 (some go98) := (by rw [hw]; exact HP145.2); have hp_ : Kd.R Kd.string 9 w146 w.heap.size (fun k_ => some k_ ≠ (.slice (some ⟨go51,0,none⟩) x197002_3.length co131 : Value).ownBlock) (.slice (some ⟨go98,0,none⟩) x197003_3.length co140) y230 := (by rw [hw,Ny230.out]; exact HP145.1); clear HP145; have n0_ := Aside0.mk (Kd.R_after (v := (.slice (some ⟨go98,0,none⟩) x197003_3.length co140)) (v1 := (.slice (some ⟨go98,0,none⟩) x197003_3.length co140)) (ok := (fun _ => True)) b6_35 hg (.inl rfl)); have n1_ := Aside0.mk (hp_); have n2_ := Aside0.mk (blk_grown (g := gb165) (o := .cells #[.int .i64 0,.int .i64 0,.slice none 0 0,.slice none 0 0] 26 (0,0)) b6_1 hg (Kd.R_ne HO_197003.out BK165.out (by decide))); have n3_ := Aside0.mk (blk_grown (g := gb196) (o := .cells #[.int .i64 x197000_21,.int .i64 x197001_21,.slice (some ⟨go51,0,none⟩) x197002_3.length co131,.slice (some ⟨go98,0,none⟩) x197003_3.length co140] 26 (0,0)) b6_4 hg (Kd.R_ne HO_197003.out BK196.out (by decide))); have n4_ := Aside0.mk (IsS80.grown b6_2 hg (IsS80.own_ne HI0.out HO_197003.out (by decide))); have n5_ := Aside0.mk ((by rw [hw]; exact below_set (HB.out) (Nat.le_trans HL.out GB98.out) : Below w0.heap.size w0 w146)); have n6_ := Aside0.mk (KeepBut.trans b6_0 (KeepBut.of_grown hg g) (Kd.R_base2 HO_197003.out)); clear HO_197002; clear HO_197003; clear BK165; clear BK196; clear HI0; clear HB; clear HK; have HO_197002 := n0_; have HO_197003 := n1_; have BK165 := n2_; have BK196 := n3_; have HI0 := n4_; have HB := n5_; have HK := n6_; clear n0_ n1_ n2_ n3_ n4_ n5_ n6_; clear hg hw hp_) | ((with_reducible refine gate_callee (f := 37) rfl ?_); refine goesL_ (some 96) rfl rfl Tryd.func37 (by kernel_rfl) rfl #[.pointer (some ⟨gb196,0,none⟩)] rfl b6_26 ?_; (with_reducible refine (spec_l03Is.calls k3 gb196 x197000_21 x197001_21 (some ⟨go51,0,none⟩) co131 y218 (some ⟨go98,0,none⟩) co140 y230 false _ ?side1 ?side2 ?side3 ?side4 ?side5 A100.out).mono ?_); (case side1 => first | (exact by (with_reducible repeat (first | refine blk_drewN ?_ _ | refine blk_drew ?_ | refine blk_alloc ?_ _)); exact BK196.out) | (rw [show y218.length = x197002_3.length from (Kd.R_reads' HO_197002.out).1.symm,show y230.length = x197003_3.length from (Kd.R_reads' HO_197003.out).1.symm]; ((with_reducible repeat (first | refine blk_drewN ?_ _ | refine blk_drew ?_ | refine blk_alloc ?_ _)); exact BK196.out))); (case side2 => repeat (first | exact (Kd.R_reads' HO_197002.out).2.2 | (with_reducible refine Kd.C_alloc ?_ _) | (with_reducible refine Kd.C_drewN ?_ _) | (with_reducible refine Kd.C_drew ?_))); (case side3 => rw [show y218.length = x197002_3.length from (Kd.R_reads' HO_197002.out).1.symm]; exact (Kd.R_reads' HO_197002.out).2.1); (case side4 => repeat (first | exact (Kd.R_reads' HO_197003.out).2.2 | (with_reducible refine Kd.C_alloc ?_ _) | (with_reducible refine Kd.C_drewN ?_ _) | (with_reducible refine Kd.C_drew ?_))); (case side5 => rw [show y230.length = x197003_3.length from (Kd.R_reads' HO_197003.out).1.symm]; exact (Kd.R_reads' HO_197003.out).2.1); rintro e w147 ⟨rfl,hb⟩; refine ⟨_,rfl,?_⟩; have n0_ := Aside0.mk (Kd.R_below b6_8 hb); have n1_ := Aside0.mk (Kd.R_below b6_9 hb); have n2_ := Aside0.mk (blk_below (g := gb165) (o := .cells #[.int .i64 0,.int .i64 0,.slice none 0 0,.slice none 0 0] 26 (0,0)) b6_1 hb); have n3_ := Aside0.mk (blk_below (g := gb196) (o := .cells #[.int .i64 x197000_21,.int .i64 x197001_21,.slice (some ⟨go51,0,none⟩) x197002_3.length co131,.slice (some ⟨go98,0,none⟩) x197003_3.length co140] 26 (0,0)) b6_4 hb); have n4_ := Aside0.mk (IsS80.below b6_2 hb); have n5_ := Aside0.mk (KeepBut.trans b6_0 (KeepBut.of_below hb g none) (.inl rfl)); have n6_ := Aside0.mk (below_step b6_5 hb); clear HO_197002; clear HO_197003; clear BK165; clear BK196; clear HI0; clear HK; clear HB; have HO_197002 := n0_; have HO_197003 := n1_; have BK165 := n2_; have BK196 := n3_; have HI0 := n4_; have HK := n5_; have HB := n6_; clear n0_ n1_ n2_ n3_ n4_ n5_ n6_; (try clear hb); (try clear hb2); (try clear hk); (try clear hi); have hcz148_0 : w147.cell? ⟨gb196,0,none⟩ = some (.int .i64 x197000_21) := (blk_cell BK196.out 0).trans rfl; have hcz148_1 : w147.cell? ⟨gb196,1,none⟩ = some (.int .i64 x197001_21) := (blk_cell BK196.out 1).trans rfl; have hcz148_2 : w147.cell? ⟨gb196,2,none⟩ = some (.slice (some ⟨go51,0,none⟩) x197002_3.length co131) := (blk_cell BK196.out 2).trans rfl; have hcz148_3 : w147.cell? ⟨gb196,3,none⟩ = some (.slice (some ⟨go98,0,none⟩) x197003_3.length co140) := (blk_cell BK196.out 3).trans rfl; have hfz148_0 := blk_frozen BK196.out 0; have hfz148_1 := blk_frozen BK196.out 1; have hfz148_2 := blk_frozen BK196.out 2; have hfz148_3 := blk_frozen BK196.out 3; have p232 : 0 ≤ (t209 : Int) := of_decide_eq_true b6_3; have q232 : t209 < (y218.length : Int) := (by have h_ : (t209 : Int) < ((x197002_3.length : Int) : Int) := of_decide_eq_true b6_3; first | (have e_ := (Kd.R_reads' HO_197002.out).1; omega) | simpa only [Ny217.out,Ny218.out,List.length_set] using h_); have ql232 : ((t209 : Int) < ((x197002_3.length : Int) : Int)) = True := eq_true (of_decide_eq_true b6_3); obtain ⟨ad232,e232,hx232_0⟩ := Kd.at_string (Kd.R_reads' HO_197002.out).2.2 t209 p232 q232; obtain rfl : (⟨go51,0,none⟩ : Addr) = ad232 := (by injection e232); (first | simp only [add_plain] at hx232_0 | simp only [add_at] at hx232_0 | simp only [Addr.add,Nat.zero_add] at hx232_0 | skip); replace p232 := eq_true p232; replace q232 := eq_true q232))
                have n0_ := Aside0.mk (Kd.R_drew HO_197002.out)
                have n1_ := Aside0.mk (Kd.R_drew HO_197003.out)
                have n2_ := Aside0.mk (blk_drew BK165.out)
                have n3_ := Aside0.mk (blk_drew BK196.out)
                have n4_ := Aside0.mk (IsS80.drew HI0.out)
                have n5_ := Aside0.mk (keep_drew HK.out)
                have n6_ := Aside0.mk (below_drew1 HB.out)
                clear HO_197002
                clear HO_197003
                clear BK165
                clear BK196
                clear HI0
                clear HK
                clear HB
                have HO_197002 := n0_
                have HO_197003 := n1_
                have BK165 := n2_
                have BK196 := n3_
                have HI0 := n4_
                have HK := n5_
                have HB := n6_
                clear n0_ n1_ n2_ n3_ n4_ n5_ n6_
                have p233 : 0 ≤ (t212 : Int) := of_decide_eq_true b6_3
                have q233 : t212 < (y218.length : Int) := (by have h_ : (t212 : Int) < ((x197002_3.length : Int) : Int) := of_decide_eq_true b6_3; first | (have e_ := (Kd.R_reads' HO_197002.out).1; omega) | simpa only [Ny217.out,Ny218.out,List.length_set] using h_)
                have ql233 : ((t212 : Int) < ((x197002_3.length : Int) : Int)) = True := eq_true (of_decide_eq_true b6_3)
                obtain ⟨ad233,e233,hx233_0⟩ := Kd.at_string (Kd.R_reads' HO_197002.out).2.2 t212 p233 q233
                obtain rfl : (⟨go51,0,none⟩ : Addr) = ad233 := (by injection e233)
                (first | simp only [add_plain] at hx233_0 | simp only [add_at] at hx233_0 | simp only [Addr.add,Nat.zero_add] at hx233_0 | skip)
                replace p233 := eq_true p233
                replace q233 := eq_true q233
                have p124 : 0 ≤ (t209 : Int) := of_decide_eq_true b6_3
                have q124 : (t209 : Int) < ((x197002_3.length : Int) : Int) := of_decide_eq_true b6_3
                obtain ⟨hx124_0,hf124_0⟩ := Kd.R_celln (⟨#[]⟩ : ByteArray) HO_197002.out (t209 : Int) p124 q124
                replace p124 := eq_true p124
                replace q124 := eq_true q124
                have HN0_go51 := Aside0.mk (show g ≠ go51 from by have h_ := IsS80.own_ne HI0.out HO_197002.out (by decide); intro e_; exact h_ (by rw [e_]; rfl))
                have HP150 := Kd.R_putn HO_197002.out (t209 : Int) (rdOf ByteArray.empty y218 t212)
                rw [← Ny234.out] at HP150
                have HQ150 := Aside0.mk HP150
                clear HP150
                refine start_ (n := 10) (S := fun w' => w'.cell? ⟨gb196,0,none⟩ = some (.int .i64 x197000_21) ∧ w'.cell? ⟨gb196,1,none⟩ = some (.int .i64 x197001_21) ∧ w'.cell? ⟨gb196,2,none⟩ = some (.slice (some ⟨go51,0,none⟩) x197002_3.length co131) ∧ w'.cell? ⟨gb196,3,none⟩ = some (.slice (some ⟨go98,0,none⟩) x197003_3.length co140) ∧ w'.cell? ⟨go51,(t212).toNat,none⟩ = some (.string (rdOf ByteArray.empty y218 t212))) (ds := [9]) #[false,false,false,false,false,false,false,false,false,false] (by kernel_rfl) rfl rfl ⟨(blk_cell BK196.out 0).trans rfl,(blk_cell BK196.out 1).trans rfl,(blk_cell BK196.out 2).trans rfl,(blk_cell BK196.out 3).trans rfl,hx233_0⟩ (fun hHeld => ?_); refine with_tabW spec_l03DrawOk.tab24 spec_l03DrawOk.bits24 (fun HT_ HW_ => ?_)
                generalize w147.drew = w149 at HO_197002 HO_197003 BK165 BK196 HI0 HK HB HQ150 hf124_0 hx124_0 hx233_0 hHeld ⊢
                refine pure_ (i := 0) (N := some 103) (v := ?_) (a' := ?_) #[true,false,false,false,false,false,false,false,false,false] rfl rfl (any_of HT_.out (by kernel_rfl)) (fun _ _ _ h => h) (Or.inl ⟨by rfl,?_⟩) ?_ ?_
                rotate_left
                ·intro w'
                 go_simp
                 with_reducible rfl
                rotate_left
                ·simp only [Act.put,List.setIfInBounds_toArray,List.set_cons_zero,List.set_cons_succ,i64_w,i32_w]
                 rfl
                refine pure_ (i := 2) (N := some 105) (v := ?_) (a' := ?_) #[true,false,true,false,false,false,false,false,false,false] rfl rfl (any_of HT_.out (by kernel_rfl)) (fun _ _ _ h => h) (Or.inl ⟨by rfl,?_⟩) ?_ ?_
                rotate_left
                ·intro w'
                 go_simp
                 with_reducible rfl
                rotate_left
                ·simp only [Act.put,List.setIfInBounds_toArray,List.set_cons_zero,List.set_cons_succ,i64_w,i32_w]
                 rfl
                refine pure_ (i := 3) (N := some 106) (v := ?_) (a' := ?_) #[true,false,true,true,false,false,false,false,false,false] rfl rfl (any_of HT_.out (by kernel_rfl)) (fun _ _ _ h => h) (Or.inl ⟨by rfl,?_⟩) ?_ ?_
                rotate_left
                ·intro w'
                 go_simp
                 with_reducible rfl
                rotate_left
                ·simp only [Act.put,List.setIfInBounds_toArray,List.set_cons_zero,List.set_cons_succ,i64_w,i32_w]
                 rfl
                refine pure_ (i := 5) (N := some 108) (v := ?_) (a' := ?_) #[true,false,true,true,false,true,false,false,false,false] rfl rfl (any_of HT_.out (by kernel_rfl)) (fun _ _ _ h => h) (Or.inl ⟨by rfl,?_⟩) ?_ ?_
                rotate_left
                ·intro w'
                 go_simp
                 with_reducible rfl
                rotate_left
                ·simp only [Act.put,List.setIfInBounds_toArray,List.set_cons_zero,List.set_cons_succ,i64_w,i32_w]
                 rfl
                refine take_ (i := 1) (N := some 104) (v := ?_) (a' := ?_) #[true,true,true,true,false,true,false,false,false,false] rfl rfl (take_ofW HT_.out HW_.out (by kernel_rfl)) (fun _ _ _ h => h) (Or.inl ⟨by rfl,?_⟩) hHeld ?_ ?_
                rotate_left
                ·rintro w' ⟨s0,s1,s2,s3,s4⟩
                 go_simp
                 with_reducible rfl
                rotate_left
                ·simp only [Act.put,List.setIfInBounds_toArray,List.set_cons_zero,List.set_cons_succ,i64_w,i32_w]
                 rfl
                refine take_ (i := 4) (N := some 107) (v := ?_) (a' := ?_) #[true,true,true,true,true,true,false,false,false,false] rfl rfl (take_ofW HT_.out HW_.out (by kernel_rfl)) (fun _ _ _ h => h) (Or.inl ⟨by rfl,?_⟩) hHeld ?_ ?_
                rotate_left
                ·rintro w' ⟨s0,s1,s2,s3,s4⟩
                 go_simp
                 with_reducible rfl
                rotate_left
                ·simp only [Act.put,List.setIfInBounds_toArray,List.set_cons_zero,List.set_cons_succ,i64_w,i32_w]
                 rfl
                refine pure_ (i := 6) (N := some 109) (v := ?_) (a' := ?_) #[true,true,true,true,true,true,true,false,false,false] rfl rfl (any_of HT_.out (by kernel_rfl)) (fun _ _ _ h => h) (Or.inl ⟨by rfl,?_⟩) ?_ ?_
                rotate_left
                ·intro w'
                 go_simp
                 with_reducible rfl
                rotate_left
                ·simp only [Act.put,List.setIfInBounds_toArray,List.set_cons_zero,List.set_cons_succ,i64_w,i32_w]
                 rfl
                refine take_ (i := 7) (N := some 110) (v := ?_) (a' := ?_) #[true,true,true,true,true,true,true,true,false,false] rfl rfl (take_ofW HT_.out HW_.out (by kernel_rfl)) (fun _ _ _ h => h) (Or.inl ⟨by rfl,?_⟩) hHeld ?_ ?_
                rotate_left
                ·rintro w' ⟨s0,s1,s2,s3,s4⟩
                 go_simp
                 with_reducible rfl
                rotate_left
                ·simp only [Act.put,List.setIfInBounds_toArray,List.set_cons_zero,List.set_cons_succ,i64_w,i32_w]
                 rfl
                refine pure_ (i := 8) (N := some 111) (v := ?_) (a' := ?_) #[true,true,true,true,true,true,true,true,true,false] rfl rfl (any_of HT_.out (by kernel_rfl)) (fun _ _ _ h => h) (Or.inl ⟨by rfl,?_⟩) ?_ ?_
                rotate_left
                ·intro w'
                 go_simp
                 with_reducible rfl
                rotate_left
                ·simp only [Act.put,List.setIfInBounds_toArray,List.set_cons_zero,List.set_cons_succ,i64_w,i32_w]
                 rfl
                refine last_ (i := 9) (N := none) #[true,true,true,true,true,true,true,true,true,true] rfl rfl (one_of HT_.out (by kernel_rfl)) (by decide) (fun K hK => ?_)
                refine skip_ (w1 := ?_) (by rfl) rfl ?_ ?_
                rotate_left
                ·go_simp
                 rfl
                refine hK.out _ _ ?_
                clear hK K
                refine done_ (done_of HT_.out (by kernel_rfl)) ?_
                have n0_ : Aside0 (Kd.R Kd.string 9 (w149.setCell ⟨go51,(t209 : Int).toNat,none⟩ (.string (rdOf ByteArray.empty y218 t212))) w.heap.size (fun k_ => some k_ ≠ (.slice (some ⟨go98,0,none⟩) x197003_3.length co140 : Value).ownBlock) (.slice (some ⟨go51,0,none⟩) x197002_3.length co131) y234) := ⟨by (with_reducible repeat (first | apply Kd.R_alloc | apply Kd.R_drewN | apply Kd.R_drew)); exact Kd.R_mono HQ150.out (fun _ hk => hk.2)⟩
                have n1_ : Aside0 (Kd.R Kd.string 9 (w149.setCell ⟨go51,(t209 : Int).toNat,none⟩ (.string (rdOf ByteArray.empty y218 t212))) w.heap.size (fun k_ => some k_ ≠ (.slice (some ⟨go51,0,none⟩) x197002_3.length co131 : Value).ownBlock) (.slice (some ⟨go98,0,none⟩) x197003_3.length co140) y230) := ⟨by (with_reducible repeat (first | apply Kd.R_alloc | apply Kd.R_drewN | apply Kd.R_drew)); exact Kd.R_mono (Kd.R_far (p := ⟨go51,(t209 : Int).toNat,none⟩) (Kd.R_mono HO_197003.out (fun k_ hk => (⟨hk,fun e_ => hk (by rw [e_]; rfl)⟩ : _ ∧ k_ ≠ go51))) (fun _ hk => hk.2) (.string (rdOf ByteArray.empty y218 t212))) (fun _ hk => hk.1)⟩
                have n2_ : Aside0 ((w149.setCell ⟨go51,(t209 : Int).toNat,none⟩ (.string (rdOf ByteArray.empty y218 t212))).heap[gb165]? = some (.cells #[.int .i64 0,.int .i64 0,.slice none 0 0,.slice none 0 0] 26 (0,0))) := ⟨b6_10⟩
                have n3_ : Aside0 ((w149.setCell ⟨go51,(t209 : Int).toNat,none⟩ (.string (rdOf ByteArray.empty y218 t212))).heap[gb196]? = some (.cells #[.int .i64 x197000_21,.int .i64 x197001_21,.slice (some ⟨go51,0,none⟩) x197002_3.length co131,.slice (some ⟨go98,0,none⟩) x197003_3.length co140] 26 (0,0))) := ⟨b6_11⟩
                have n4_ : Aside0 (IsS80 w0 (w149.setCell ⟨go51,(t209 : Int).toNat,none⟩ (.string (rdOf ByteArray.empty y218 t212))) g s0_0 t220 t221) := ⟨b6_15⟩
                have n5_ : Aside0 (KeepBut w (w149.setCell ⟨go51,(t209 : Int).toNat,none⟩ (.string (rdOf ByteArray.empty y218 t212))) g none) := ⟨b6_16⟩
                have n6_ : Aside0 (Below w0.heap.size w0 (w149.setCell ⟨go51,(t209 : Int).toNat,none⟩ (.string (rdOf ByteArray.empty y218 t212)))) := ⟨b6_14⟩
                (try clear HO_197002)
                (try clear HO_197003)
                (try clear BK165)
                (try clear BK196)
                (try clear HI0)
                (try clear HK)
                (try clear HB)
                generalize (w149.setCell ⟨go51,(t209 : Int).toNat,none⟩ (.string (rdOf ByteArray.empty y218 t212))) = w151 at n0_ n1_ n2_ n3_ n4_ n5_ n6_ ⊢
                have HO_197002 := n0_
                have HO_197003 := n1_
                have BK165 := n2_
                have BK196 := n3_
                have HI0 := n4_
                have HK := n5_
                have HB := n6_
                clear n0_ n1_ n2_ n3_ n4_ n5_ n6_
                have hcz152_0 : w151.cell? ⟨gb196,0,none⟩ = some (.int .i64 x197000_21) := (blk_cell BK196.out 0).trans rfl
                have hcz152_1 : w151.cell? ⟨gb196,1,none⟩ = some (.int .i64 x197001_21) := (blk_cell BK196.out 1).trans rfl
                have hcz152_2 : w151.cell? ⟨gb196,2,none⟩ = some (.slice (some ⟨go51,0,none⟩) x197002_3.length co131) := (blk_cell BK196.out 2).trans rfl
                have hcz152_3 : w151.cell? ⟨gb196,3,none⟩ = some (.slice (some ⟨go98,0,none⟩) x197003_3.length co140) := (blk_cell BK196.out 3).trans rfl
                have hfz152_0 := blk_frozen BK196.out 0
                have hfz152_1 := blk_frozen BK196.out 1
                have hfz152_2 := blk_frozen BK196.out 2
                have hfz152_3 := blk_frozen BK196.out 3
                have p125 : 0 ≤ (t212 : Int) := of_decide_eq_true b6_3
                have q125 : (t212 : Int) < ((x197002_3.length : Int) : Int) := of_decide_eq_true b6_3
                obtain ⟨hx125_0,hf125_0⟩ := Kd.R_celln (⟨#[]⟩ : ByteArray) HO_197002.out (t212 : Int) p125 q125
                replace p125 := eq_true p125
                replace q125 := eq_true q125
                obtain ⟨hy153_,hz153_⟩ := Kd.R_celln (⟨#[]⟩ : ByteArray) HO_197002.out (t212 : Int) (of_decide_eq_true b6_3) (of_decide_eq_true b6_3)
                have HP153 := Kd.R_putg HO_197002.out (t212 : Int) (rdOf ByteArray.empty y218 t209)
                try go_wp2_with (first | ((with_reducible refine gate_store (t := 9) (p := 116) rfl ?_); refine store_event (t := 9) (p := 116) (v := ?vo_w154) (w1 := (w151.setCell ⟨go51,(t212 : Int).toNat,none⟩ (.string (rdOf ByteArray.empty y218 t209)))) ?hg ?ho ?hn ?hr ?_; (case ho => rfl); (case hg => rfl); (case hn => rfl); (case hr => first | (go_simp; done) | (go_simp; rfl)); intro w154 hw; have hg : w151.grownBy w154 (some go51) := (by rw [hw]; exact HP153.2); have hp_ : Kd.R Kd.string 9 w154 w.heap.size (fun k_ => some k_ ≠ (.slice (some ⟨go98,0,none⟩) x197003_3.length co140 : Value).ownBlock) (.slice (some ⟨go51,0,none⟩) x197002_3.length co131) y235 := (by rw [hw,Ny235.out]; exact HP153.1); clear HP153; have n0_ := Aside0.mk (hp_); have n1_ := Aside0.mk (Kd.R_after (v := (.slice (some ⟨go51,0,none⟩) x197002_3.length co131)) (v1 := (.slice (some ⟨go51,0,none⟩) x197002_3.length co131)) (ok := (fun _ => True)) b6_22 hg (.inl rfl)); have n2_ := Aside0.mk (blk_grown (g := gb165) (o := .cells #[.int .i64 0,.int .i64 0,.slice none 0 0,.slice none 0 0] 26 (0,0)) b6_1 hg (Kd.R_ne HO_197002.out BK165.out (by decide))); have n3_ := Aside0.mk (blk_grown (g := gb196) (o := .cells #[.int .i64 x197000_21,.int .i64 x197001_21,.slice (some ⟨go51,0,none⟩) x197002_3.length co131,.slice (some ⟨go98,0,none⟩) x197003_3.length co140] 26 (0,0)) b6_4 hg (Kd.R_ne HO_197002.out BK196.out (by decide))); have n4_ := Aside0.mk (IsS80.grown b6_2 hg (IsS80.own_ne HI0.out HO_197002.out (by decide))); have n5_ := Aside0.mk ((by rw [hw]; exact below_set (HB.out) (Nat.le_trans HL.out GB51.out) : Below w0.heap.size w0 w154)); have n6_ := Aside0.mk (KeepBut.trans b6_0 (KeepBut.of_grown hg g) (Kd.R_base2 HO_197002.out)); clear HO_197002; clear HO_197003; clear BK165; clear BK196; clear HI0; clear HB; clear HK; have HO_197002 := n0_; have HO_197003 := n1_; have BK165 := n2_; have BK196 := n3_; have HI0 := n4_; have HB := n5_; have HK := n6_; clear n0_ n1_ n2_ n3_ n4_ n5_ n6_; clear hg hw hp_))
                go_roundg k3
                case measure => have := HJ4.out; have := HJ21.out; have := HK3.out; omega
                case rel => exact ⟨(wrap64 (x8_3 - 1)),(t220),(t221),(y235),(y230),(.slice (some ⟨go51,0,none⟩) x197002_3.length co131),(.slice (some ⟨go98,0,none⟩) x197003_3.length co140),b6_32,H',⟨by have := HJ4.out; have := HJ21.out; have := HK3.out; omega⟩,⟨b6_8⟩,⟨b6_34⟩,⟨b6_1⟩,⟨b6_4⟩,⟨b6_2⟩,⟨b6_0⟩,⟨b6_5⟩⟩
              ·rw [if_neg c97] at H
               exact absurd H (by simp)
             ·rw [if_neg c96] at H
              exact absurd H (by simp)
           ·rw [if_neg c50] at H
            exact absurd H (by simp)
          ·rw [if_neg c49] at H
           exact absurd H (by simp)
         ·rw [if_neg c48] at H
          exact absurd H (by simp)
        ·rw [if_neg c47] at H
         exact absurd H (by simp)
       ·rw [if_neg c44] at H
        have c44b0 : decide (0 < x8_3) = false := decide_eq_false c44
        clear c44
        simp only [Option.some.injEq,Prod.mk.injEq] at H
        obtain ⟨rfl,rfl,rfl,rfl,rfl,rfl⟩ := H
        have hnb155 := NB196_165.out
        have hnc155 := NB165_196.out
        have hnb156 := NB196_0.out
        have hnc156 := NB0_196.out
        have hcz157_0 : wr.cell? ⟨gb196,0,none⟩ = some (.int .i64 x197000_21) := (blk_cell BK196.out 0).trans rfl
        have hcz157_1 : wr.cell? ⟨gb196,1,none⟩ = some (.int .i64 x197001_21) := (blk_cell BK196.out 1).trans rfl
        have hcz157_2 : wr.cell? ⟨gb196,2,none⟩ = some (u197002) := (blk_cell BK196.out 2).trans rfl
        have hcz157_3 : wr.cell? ⟨gb196,3,none⟩ = some (u197003) := (blk_cell BK196.out 3).trans rfl
        have hfz157_0 := blk_frozen BK196.out 0
        have hfz157_1 := blk_frozen BK196.out 1
        have hfz157_2 := blk_frozen BK196.out 2
        have hfz157_3 := blk_frozen BK196.out 3
        have hnb158 := NB165_0.out
        have hnc158 := NB0_165.out
        have hcz159_0 : wr.cell? ⟨gb165,0,none⟩ = some (.int .i64 0) := (blk_cell BK165.out 0).trans rfl
        have hcz159_1 : wr.cell? ⟨gb165,1,none⟩ = some (.int .i64 0) := (blk_cell BK165.out 1).trans rfl
        have hcz159_2 : wr.cell? ⟨gb165,2,none⟩ = some (.slice none 0 0) := (blk_cell BK165.out 2).trans rfl
        have hcz159_3 : wr.cell? ⟨gb165,3,none⟩ = some (.slice none 0 0) := (blk_cell BK165.out 3).trans rfl
        have hfz159_0 := blk_frozen BK165.out 0
        have hfz159_1 := blk_frozen BK165.out 1
        have hfz159_2 := blk_frozen BK165.out 2
        have hfz159_3 := blk_frozen BK165.out 3
        obtain ⟨Ao160,co160,eo160⟩ := Kd.R_slice HO_197002.out
        subst eo160
        obtain ⟨Ao161,co161,eo161⟩ := Kd.R_slice HO_197003.out
        subst eo161
        go_wp2
        refine bodyPost_ret (results_cell_row rfl _ _ gb165 26 #[.int .i64 x197000_21,.int .i64 x197001_21,.slice Ao160 x197002_3.length co160,.slice Ao161 x197003_3.length co161] (0,0) _ rfl (by (with_reducible repeat (first | refine blk_drewN ?_ _ | refine blk_drew ?_ | refine blk_alloc ?_ _)); refine blk_put (cs := #[.int .i64 x197000_21,.int .i64 x197001_21,.slice Ao160 x197002_3.length co160,.slice none 0 0]) ?_ 3 _ rfl; (with_reducible repeat (first | refine blk_drewN ?_ _ | refine blk_drew ?_ | refine blk_alloc ?_ _)); refine blk_put (cs := #[.int .i64 x197000_21,.int .i64 x197001_21,.slice none 0 0,.slice none 0 0]) ?_ 2 _ rfl; (with_reducible repeat (first | refine blk_drewN ?_ _ | refine blk_drew ?_ | refine blk_alloc ?_ _)); refine blk_put (cs := #[.int .i64 x197000_21,.int .i64 0,.slice none 0 0,.slice none 0 0]) ?_ 1 _ rfl; (with_reducible repeat (first | refine blk_drewN ?_ _ | refine blk_drew ?_ | refine blk_alloc ?_ _)); refine blk_put (cs := #[.int .i64 0,.int .i64 0,.slice none 0 0,.slice none 0 0]) ?_ 0 _ rfl; (with_reducible repeat (first | refine blk_drewN ?_ _ | refine blk_drew ?_ | refine blk_alloc ?_ _)); exact BK165.out) Tryd.underlying26 rfl (by kernel_rfl)) rfl ?_
        exact ⟨_,_,by first | rfl | (simp [errW_none,errW_some] <;> rfl) | (simp [*,errW_none,errW_some] <;> rfl),by (with_reducible repeat (first | apply Kd.R_alloc | apply Kd.R_drewN | apply Kd.R_drew)); exact Kd.R_mono (Kd.R_far (p := ⟨gb165,3,none⟩) (Kd.R_far (p := ⟨gb165,2,none⟩) (Kd.R_far (p := ⟨gb165,1,none⟩) (Kd.R_far (p := ⟨gb165,0,none⟩) (Kd.R_types HO_197002.out BK165.out (by decide)) (fun _ hk => hk.2) (.int .i64 x197000_21)) (fun _ hk => hk.2) (.int .i64 x197001_21)) (fun _ hk => hk.2) (.slice Ao160 x197002_3.length co160)) (fun _ hk => hk.2) (.slice Ao161 x197003_3.length co161)) (fun _ hk => hk.1),by (with_reducible repeat (first | apply Kd.R_alloc | apply Kd.R_drewN | apply Kd.R_drew)); exact Kd.R_mono (Kd.R_far (p := ⟨gb165,3,none⟩) (Kd.R_far (p := ⟨gb165,2,none⟩) (Kd.R_far (p := ⟨gb165,1,none⟩) (Kd.R_far (p := ⟨gb165,0,none⟩) (Kd.R_types HO_197003.out BK165.out (by decide)) (fun _ hk => hk.2) (.int .i64 x197000_21)) (fun _ hk => hk.2) (.int .i64 x197001_21)) (fun _ hk => hk.2) (.slice Ao160 x197002_3.length co160)) (fun _ hk => hk.2) (.slice Ao161 x197003_3.length co161)) (fun _ hk => hk.1),b6_2,b6_5,b6_0⟩

end Go.Proofs.YtegeaoiclepkkabDoor.QFnCommas
