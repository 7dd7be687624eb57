/-
Each Go function that this text names answers as the Lean function beside it says,wherever that one answers; conditions: the arguments lie in memory as each theorem states it.
-/
import Derived.Test.YtegeaoiclepkkabDoorQFnCommasx0
import Derived.Test.YtegeaoiclepkkabDoorQFnCommasx1
import Derived.Test.YtegeaoiclepkkabDoorQFnCommasx6
namespace Go.Proofs.YtegeaoiclepkkabDoor.QFnCommas
open Go.RowKit Go.Proofs.YtegeaoiclepkkabDoorW.PrintWords Go.Proofs.YtegeaoiclepkkabDoorW.PrintLast Go.Proofs.YtegeaoiclepkkabDoorW.PrintMore
attribute [local go_sem] max2_int min2_int max_two min_two max_three min_three max_four min_four   -- for this text's walks alone
set_option linter.unusedVariables false
set_option linter.unusedSimpArgs false
theorem b7_0 {P : Prop} (h : P := by repeat (first | (with_reducible first | exact HB.out | apply below_alloc | apply pw_below_drewN | apply below_drew1 | refine below_set ?_ (IsS80.ge HI255.out) | refine below_set ?_ GE251.out) | exact HB.out)) : P := h
theorem b7_1 {P : Prop} (h : P := by repeat (first | (with_reducible first | exact HB.out | apply below_alloc | apply pw_below_drewN | apply below_drew1) | exact HB.out)) : P := h
theorem b7_2 {P : Prop} (h : P := by (with_reducible repeat (first | refine blk_drewN ?_ _ | refine blk_drew ?_ | refine blk_alloc ?_ _)); exact BK251.out) : P := h
theorem b7_3 {P : Prop} (h : P := by (try simp only [List.map_toArray,List.map_cons,List.map_nil]); first | done | rfl | (simp only [List.length_drop,List.length_take]; rfl)) : P := h
theorem b7_4 {P : Prop} (h : P := by repeat (first | (with_reducible first | exact HI255.out | apply IsS80.alloc | apply IsS80.drewN | apply IsS80.drew | apply IsS80.set_1 | apply IsS80.set_2 | refine IsS80.far ?_ NB255_251.out _) | exact HI255.out)) : P := h
theorem b7_5 {P : Prop} (h : P := by repeat (first | (with_reducible first | exact HB.out | apply below_alloc | apply pw_below_drewN | apply below_drew1 | refine below_set ?_ (IsS80.ge HI240.out) | refine below_set ?_ GE236.out) | exact HB.out)) : P := h
theorem b7_6 {P : Prop} (h : P := by first | rfl | (simp; done) | (simp [*]; done)) : P := h
theorem b7_7 {P : Prop} (h : P := by (with_reducible repeat (first | refine blk_drewN ?_ _ | refine blk_drew ?_ | refine blk_alloc ?_ _)); exact BK236.out) : P := h
theorem b7_8 {P : Prop} (h : P := by repeat (first | exact Drawn0.refl _ | apply Drawn0.step)) : P := h
theorem b7_9 {P : Prop} (h : P := by (with_reducible repeat (first | apply Kd.R_alloc | apply Kd.R_drewN | apply Kd.R_drew)); exact HO_6.out) : P := h
theorem b7_10 {P : Prop} (h : P := by (with_reducible repeat (first | apply Kd.R_alloc | apply Kd.R_drewN | apply Kd.R_drew)); exact HO258.out) : P := h
theorem b7_11 {P : Prop} (h : P := by first | rfl | (simp [errW_none,errW_some] <;> rfl) | (simp [*,errW_none,errW_some] <;> rfl)) : P := h

/-! ### spec_B10Block: function 6 -/
def spec_B10Block.f (k : Nat) (l0 : List Int) : Option (Int × Int × List ByteArray × List ByteArray) := (spec_l00From.f l0).bind fun bt237 => ((spec_l03DrawOk.f k bt237.1 bt237.2.1 bt237.2.2).bind fun bt241 => (some (bt241.1,bt241.2.1,bt241.2.2.1,bt241.2.2.2.1)))
set_option maxHeartbeats 8000000 in
set_option maxRecDepth 100000 in
theorem spec_B10Block.calls (k : Nat) (A0 : Option Addr) (c0 : Nat) (l0 : List Int) (r1 : Int) (r2 : Int) (r3 : List ByteArray) (r4 : List ByteArray) (w : World) (hr0 : Kd.C (Kd.int .u8) w A0 l0.length l0) (hc0 : l0.length ≤ c0) (h : spec_B10Block.f k l0 = some (r1,r2,r3,r4)) :
  Calls Tryd.prog 6 #[.slice A0 l0.length c0] w fun e w' => ∃ v2_ v3_ : Value,e = .returned (.agg #[.int .i64 r1,.int .i64 r2,v2_,v3_]) ∧ Kd.R Kd.string 9 w' w.heap.size (fun k_ => some k_ ≠ (v3_ : Value).ownBlock) v2_ r3 ∧ Kd.R Kd.string 9 w' w.heap.size (fun k_ => some k_ ≠ (v2_ : Value).ownBlock) v3_ r4 ∧ Below w.heap.size w w' := by
 have hu26 := Tryd.underlying26
 have HR0 := Aside0.mk hr0
 have HC0 := Aside0.mk hc0
 clear hr0 hc0
 have HB := Aside0.mk (Below.refl w.heap.size w)
 have H : ((spec_l00From.f l0).bind fun bt237 => ((spec_l03DrawOk.f k bt237.1 bt237.2.1 bt237.2.2).bind fun bt241 => (some (bt241.1,bt241.2.1,bt241.2.2.1,bt241.2.2.2.1)))) = some (r1,r2,r3,r4) := h
 clear h
 replace H := Option.bind_eq_some_iff.mp H
 obtain ⟨⟨t237,t238,t239⟩,A20,H⟩ := H
 replace H : ((spec_l03DrawOk.f k t237 t238 t239).bind fun bt241 => (some (bt241.1,bt241.2.1,bt241.2.2.1,bt241.2.2.2.1))) = some (r1,r2,r3,r4) := H
 have A2 := Aside0.mk A20
 clear A20
 replace H := Option.bind_eq_some_iff.mp H
 obtain ⟨⟨t241,t242,t243,t246,t249,t250⟩,A30,H⟩ := H
 replace H : (some (t241,t242,t243,t246)) = some (r1,r2,r3,r4) := H
 have A3 := Aside0.mk A30
 clear A30
 simp only [Option.some.injEq,Prod.mk.injEq] at H
 obtain ⟨rfl,rfl,rfl,rfl⟩ := H
 go_enter Tryd.func6,Tryd.ntmps6
 go_wp2_with (first | ((with_reducible refine gate_dst (N := 2) rfl ?_); refine box_event ?hg (N := 2) ?hd (cs := #[.int .i64 0,.int .i64 0,.slice none 0 0,.slice none 0 0]) (t := 26) ?hr ?_; (case hd => rfl); (case hg => rfl); (case hr => first | (go_simp; done) | (go_simp; rfl)); intro gb236 hg w4 hbox hb; have n0_ := Aside0.mk (below_step b7_1 hb); have n1_ := Aside0.mk (hbox); have n2_ := Aside0.mk ((by rw [hg]; exact (below_size b7_1) : w.heap.size ≤ gb236)); have n3_ := Aside0.mk ((by rw [hg]; exact (below_size b7_1) : w.heap.size ≤ gb236)); clear HB; have HB := n0_; have BK236 := n1_; have GW236 := n2_; have GE236 := n3_; clear n0_ n1_ n2_ n3_; clear hb hbox hg) | ((with_reducible refine gate_callee (f := 22) rfl ?_); refine goesL_ (some 5) rfl rfl Tryd.func22 (by kernel_rfl) rfl #[.slice A0 l0.length c0] rfl b7_3 ?_; (with_reducible refine (spec_l00From.calls _ _ l0 t237 t238 t239 w _ ?side1 ?side2 ?side3 A2.out).mono ?_); (case side1 => repeat (first | (with_reducible first | exact HB.out | apply below_alloc | apply pw_below_drewN | apply below_drew1 | refine below_set ?_ GE236.out) | exact HB.out)); (case side2 => exact HR0.out); (case side3 => exact HC0.out); rintro e w5 ⟨g240,rfl,hi,hb,hb2⟩; refine ⟨_,rfl,?_⟩; have n0_ := Aside0.mk (blk_below (g := gb236) (o := .cells #[.int .i64 0,.int .i64 0,.slice none 0 0,.slice none 0 0] 26 (0,0)) b7_7 hb2); have n1_ := Aside0.mk (hb); have n2_ := Aside0.mk (hi); have n3_ := Aside0.mk (IsS80.ne_blk hi (blk_below (g := gb236) (o := .cells #[.int .i64 0,.int .i64 0,.slice none 0 0,.slice none 0 0] 26 (0,0)) b7_7 hb2) (by decide)); have n4_ := Aside0.mk (Ne.symm (IsS80.ne_blk hi (blk_below (g := gb236) (o := .cells #[.int .i64 0,.int .i64 0,.slice none 0 0,.slice none 0 0] 26 (0,0)) b7_7 hb2) (by decide))); clear BK236; clear HB; have BK236 := n0_; have HB := n1_; have HI240 := n2_; have NB240_236 := n3_; have NB236_240 := n4_; clear n0_ n1_ n2_ n3_ n4_; (try clear hb); (try clear hb2); (try clear hk); (try clear hi)) | ((with_reducible refine gate_callee (f := 23) rfl ?_); refine goesL_ (some 7) rfl rfl Tryd.func23 (by kernel_rfl) rfl #[.pointer (some ⟨g240,0,none⟩)] rfl b7_3 ?_; (with_reducible refine (spec_l03DrawOk.calls k g240 t237 t238 t239 t241 t242 t243 t246 t249 t250 w _ ?side1 ?side2 A3.out).mono ?_); (case side1 => repeat (first | (with_reducible first | exact HI240.out | apply IsS80.alloc | apply IsS80.drewN | apply IsS80.drew | apply IsS80.set_1 | apply IsS80.set_2 | refine IsS80.far ?_ NB240_236.out _) | exact HI240.out)); (case side2 => repeat (first | (with_reducible first | exact HB.out | apply below_alloc | apply pw_below_drewN | apply below_drew1 | refine below_set ?_ (IsS80.ge HI240.out) | refine below_set ?_ GE236.out) | exact HB.out)); rintro e w6 ⟨v244,v247,rfl,ho0,ho1,hi,hb,hk⟩; refine ⟨_,rfl,?_⟩; have n0_ := Aside0.mk (KeepBut.blk hk (g' := gb236) (o := .cells #[.int .i64 0,.int .i64 0,.slice none 0 0,.slice none 0 0] 26 (0,0)) b7_7 NB236_240.out (by simp)); have n1_ := Aside0.mk (Kd.R_lower ho0 (below_size b7_5)); have n2_ := Aside0.mk (Kd.R_lower ho1 (below_size b7_5)); have n3_ := Aside0.mk (hb); have n4_ := Aside0.mk (hi); clear BK236; clear HB; clear HI240; have BK236 := n0_; have HO245 := n1_; have HO248 := n2_; have HB := n3_; have HI240 := n4_; clear n0_ n1_ n2_ n3_ n4_; (try clear hb); (try clear hb2); (try clear hk); (try clear hi); (try clear ho0); (try clear ho1); have hnb7 := NB236_240.out; have hnc7 := NB240_236.out; have hcz8_0 : w6.cell? ⟨gb236,0,none⟩ = some (.int .i64 0) := (blk_cell BK236.out 0).trans rfl; have hcz8_1 : w6.cell? ⟨gb236,1,none⟩ = some (.int .i64 0) := (blk_cell BK236.out 1).trans rfl; have hcz8_2 : w6.cell? ⟨gb236,2,none⟩ = some (.slice none 0 0) := (blk_cell BK236.out 2).trans rfl; have hcz8_3 : w6.cell? ⟨gb236,3,none⟩ = some (.slice none 0 0) := (blk_cell BK236.out 3).trans rfl; have hfz8_0 := blk_frozen BK236.out 0; have hfz8_1 := blk_frozen BK236.out 1; have hfz8_2 := blk_frozen BK236.out 2; have hfz8_3 := blk_frozen BK236.out 3; obtain ⟨Ao9,co9,eo9⟩ := Kd.R_slice HO245.out; subst eo9; obtain ⟨Ao10,co10,eo10⟩ := Kd.R_slice HO248.out; subst eo10))
 refine bodyPost_ret (results_cell_row rfl _ _ gb236 26 #[.int .i64 t241,.int .i64 t242,.slice Ao9 t243.length co9,.slice Ao10 t246.length co10] (0,0) _ rfl (by (with_reducible repeat (first | refine blk_drewN ?_ _ | refine blk_drew ?_ | refine blk_alloc ?_ _)); refine blk_put (cs := #[.int .i64 t241,.int .i64 t242,.slice Ao9 t243.length co9,.slice none 0 0]) ?_ 3 _ rfl; (with_reducible repeat (first | refine blk_drewN ?_ _ | refine blk_drew ?_ | refine blk_alloc ?_ _)); refine blk_put (cs := #[.int .i64 t241,.int .i64 t242,.slice none 0 0,.slice none 0 0]) ?_ 2 _ rfl; (with_reducible repeat (first | refine blk_drewN ?_ _ | refine blk_drew ?_ | refine blk_alloc ?_ _)); refine blk_put (cs := #[.int .i64 t241,.int .i64 0,.slice none 0 0,.slice none 0 0]) ?_ 1 _ rfl; (with_reducible repeat (first | refine blk_drewN ?_ _ | refine blk_drew ?_ | refine blk_alloc ?_ _)); refine blk_put (cs := #[.int .i64 0,.int .i64 0,.slice none 0 0,.slice none 0 0]) ?_ 0 _ rfl; (with_reducible repeat (first | refine blk_drewN ?_ _ | refine blk_drew ?_ | refine blk_alloc ?_ _)); exact BK236.out) Tryd.underlying26 rfl (by kernel_rfl)) rfl ?_
 exact ⟨_,_,b7_11,by (with_reducible repeat (first | apply Kd.R_alloc | apply Kd.R_drewN | apply Kd.R_drew)); exact Kd.R_mono (Kd.R_far (p := ⟨gb236,3,none⟩) (Kd.R_far (p := ⟨gb236,2,none⟩) (Kd.R_far (p := ⟨gb236,1,none⟩) (Kd.R_far (p := ⟨gb236,0,none⟩) (Kd.R_types HO245.out BK236.out (by decide)) (fun _ hk => hk.2) (.int .i64 t241)) (fun _ hk => hk.2) (.int .i64 t242)) (fun _ hk => hk.2) (.slice Ao9 t243.length co9)) (fun _ hk => hk.2) (.slice Ao10 t246.length co10)) (fun _ hk => hk.1),by (with_reducible repeat (first | apply Kd.R_alloc | apply Kd.R_drewN | apply Kd.R_drew)); exact Kd.R_mono (Kd.R_far (p := ⟨gb236,3,none⟩) (Kd.R_far (p := ⟨gb236,2,none⟩) (Kd.R_far (p := ⟨gb236,1,none⟩) (Kd.R_far (p := ⟨gb236,0,none⟩) (Kd.R_types HO248.out BK236.out (by decide)) (fun _ hk => hk.2) (.int .i64 t241)) (fun _ hk => hk.2) (.int .i64 t242)) (fun _ hk => hk.2) (.slice Ao9 t243.length co9)) (fun _ hk => hk.2) (.slice Ao10 t246.length co10)) (fun _ hk => hk.1),b7_5⟩

/-! ### spec_B10Data: function 7 -/
def spec_B10Data.l0 : Nat → List Int → Int → Int → Int → List ByteArray → List ByteArray → List Int → Int → Int → Option (List Int)
 | 0,_,_,_,_,_,_,_,_,_ => none
 | k + 1,x6,x7,x252000,x252001,x252002,x252003,x256000,x256001,x256002 => if x7 > 0 then (if 0 ≤ (IntKind.u64.wrap (x252000)) then ((spec_l00Src_pick.f x256000 x256001 x256002 (shl .i64 1 (IntKind.u64.wrap (x252000)))).bind fun bt262 => (if x6.length < 17592186044416 then (spec_B10Data.l0 k (x6 ++ [bt262.1]) (wrap64 (x7 - 1)) x252000 x252001 x252002 x252003 x256000 bt262.2.1 bt262.2.2) else (none))) else (none)) else (some x6)
def spec_B10Data.f (k : Nat) (l0 : List Int) (a1_0 : Int) (a1_1 : Int) (l1_2 : List ByteArray) (l1_3 : List ByteArray) : Option (List Int) := (spec_l00From.f l0).bind fun bt252 => ((spec_l00Src_pick.f bt252.1 bt252.2.1 bt252.2.2 9).bind fun bt259 => (spec_B10Data.l0 k (([] : List Int)) bt259.1 a1_0 a1_1 l1_2 l1_3 bt252.1 bt259.2.1 bt259.2.2))
set_option maxHeartbeats 8000000 in
set_option maxRecDepth 100000 in
theorem spec_B10Data.calls (k : Nat) (A0 : Option Addr) (c0 : Nat) (l0 : List Int) (a1_0 : Int) (a1_1 : Int) (A1_2 : Option Addr) (c1_2 : Nat) (l1_2 : List ByteArray) (A1_3 : Option Addr) (c1_3 : Nat) (l1_3 : List ByteArray) (r : List Int) (w : World) (hr0 : Kd.C (Kd.int .u8) w A0 l0.length l0) (hc0 : l0.length ≤ c0) (hr1_2 : Kd.C Kd.string w A1_2 l1_2.length l1_2) (hc1_2 : l1_2.length ≤ c1_2) (hr1_3 : Kd.C Kd.string w A1_3 l1_3.length l1_3) (hc1_3 : l1_3.length ≤ c1_3) (h : spec_B10Data.f k l0 a1_0 a1_1 l1_2 l1_3 = some r) :
  Calls Tryd.prog 7 #[.slice A0 l0.length c0,.agg #[.int .i64 a1_0,.int .i64 a1_1,.slice A1_2 l1_2.length c1_2,.slice A1_3 l1_3.length c1_3]] w fun e w' => ∃ v0_ : Value,e = .returned (v0_) ∧ Kd.R (Kd.int .i64) 2 w' w.heap.size (fun _ => True) v0_ r ∧ Below w.heap.size w w' := by
 have hu26 := Tryd.underlying26
 have HR0 := Aside0.mk hr0
 have HC0 := Aside0.mk hc0
 clear hr0 hc0
 have HR1_2 := Aside0.mk hr1_2
 have HC1_2 := Aside0.mk hc1_2
 clear hr1_2 hc1_2
 have HR1_3 := Aside0.mk hr1_3
 have HC1_3 := Aside0.mk hc1_3
 clear hr1_3 hc1_3
 have HB := Aside0.mk (Below.refl w.heap.size w)
 have H : ((spec_l00From.f l0).bind fun bt252 => ((spec_l00Src_pick.f bt252.1 bt252.2.1 bt252.2.2 9).bind fun bt259 => (spec_B10Data.l0 k (([] : List Int)) bt259.1 a1_0 a1_1 l1_2 l1_3 bt252.1 bt259.2.1 bt259.2.2))) = some r := h
 clear h
 replace H := Option.bind_eq_some_iff.mp H
 obtain ⟨⟨t252,t253,t254⟩,A30,H⟩ := H
 replace H : ((spec_l00Src_pick.f t252 t253 t254 9).bind fun bt259 => (spec_B10Data.l0 k (([] : List Int)) bt259.1 a1_0 a1_1 l1_2 l1_3 t252 bt259.2.1 bt259.2.2)) = some r := H
 have A3 := Aside0.mk A30
 clear A30
 obtain ⟨y256,hy256⟩ : ∃ y_ : List Int,y_ = (([] : List Int)) := ⟨_,rfl⟩
 replace H : ((spec_l00Src_pick.f t252 t253 t254 9).bind fun bt259 => (spec_B10Data.l0 k y256 bt259.1 a1_0 a1_1 l1_2 l1_3 t252 bt259.2.1 bt259.2.2)) = some r := by first | (rw [hy256]; with_reducible exact H) | (have H2_ := (Option.bind_some _ _).symm.trans H; rw [hy256]; with_reducible exact H2_) | (have H2_ := (Option.bind_some _ _).symm.trans H; with_reducible exact H2_) | with_reducible exact H | (rw [hy256]; exact H) | exact H
 have Ny256 := Aside0.mk hy256
 clear hy256
 replace H := Option.bind_eq_some_iff.mp H
 obtain ⟨⟨t259,t260,t261⟩,A40,H⟩ := H
 replace H : (spec_B10Data.l0 k y256 t259 a1_0 a1_1 l1_2 l1_3 t252 t260 t261) = some r := H
 have A4 := Aside0.mk A40
 clear A40
 have H' := Aside0.mk H
 clear H
 go_enter Tryd.func7,Tryd.ntmps7
 go_wp2_with (first | ((with_reducible refine gate_dst (N := 3) rfl ?_); refine box_event ?hg (N := 3) ?hd (cs := #[.int .i64 a1_0,.int .i64 a1_1,.slice A1_2 l1_2.length c1_2,.slice A1_3 l1_3.length c1_3]) (t := 26) ?hr ?_; (case hd => rfl); (case hg => rfl); (case hr => first | (go_simp; done) | (go_simp; rfl)); intro gb251 hg w5 hbox hb; have n0_ := Aside0.mk (below_step b7_1 hb); have n1_ := Aside0.mk (hbox); have n2_ := Aside0.mk ((by rw [hg]; exact (below_size b7_1) : w.heap.size ≤ gb251)); have n3_ := Aside0.mk ((by rw [hg]; exact (below_size b7_1) : w.heap.size ≤ gb251)); clear HB; have HB := n0_; have BK251 := n1_; have GW251 := n2_; have GE251 := n3_; clear n0_ n1_ n2_ n3_; clear hb hbox hg) | ((with_reducible refine gate_callee (f := 22) rfl ?_); refine goesL_ (some 9) rfl rfl Tryd.func22 (by kernel_rfl) rfl #[.slice A0 l0.length c0] rfl b7_3 ?_; (with_reducible refine (spec_l00From.calls _ _ l0 t252 t253 t254 w _ ?side1 ?side2 ?side3 A3.out).mono ?_); (case side1 => repeat (first | (with_reducible first | exact HB.out | apply below_alloc | apply pw_below_drewN | apply below_drew1 | refine below_set ?_ GE251.out) | exact HB.out)); (case side2 => exact HR0.out); (case side3 => exact HC0.out); rintro e w6 ⟨g255,rfl,hi,hb,hb2⟩; refine ⟨_,rfl,?_⟩; have n0_ := Aside0.mk (blk_below (g := gb251) (o := .cells #[.int .i64 a1_0,.int .i64 a1_1,.slice A1_2 l1_2.length c1_2,.slice A1_3 l1_3.length c1_3] 26 (0,0)) b7_2 hb2); have n1_ := Aside0.mk (hb); have n2_ := Aside0.mk (hi); have n3_ := Aside0.mk (IsS80.ne_blk hi (blk_below (g := gb251) (o := .cells #[.int .i64 a1_0,.int .i64 a1_1,.slice A1_2 l1_2.length c1_2,.slice A1_3 l1_3.length c1_3] 26 (0,0)) b7_2 hb2) (by decide)); have n4_ := Aside0.mk (Ne.symm (IsS80.ne_blk hi (blk_below (g := gb251) (o := .cells #[.int .i64 a1_0,.int .i64 a1_1,.slice A1_2 l1_2.length c1_2,.slice A1_3 l1_3.length c1_3] 26 (0,0)) b7_2 hb2) (by decide))); clear BK251; clear HB; have BK251 := n0_; have HB := n1_; have HI255 := n2_; have NB255_251 := n3_; have NB251_255 := n4_; clear n0_ n1_ n2_ n3_ n4_; (try clear hb); (try clear hb2); (try clear hk); (try clear hi)) | ((with_reducible refine gate_dst (N := 10) rfl ?_); refine Kd.R_lit (Kd.int .i64) _ 2 ?hg (N := 10) ?hd (xs := ([] : List Int)) (inner := []) (ok := fun _ => True) (okp := fun _ => True) ?hr ?hp (fun _ hk => hk) trivial (Below.refl _ _) (Nat.le_refl _) (by simp) ?_; (case hd => rfl); (case hg => rfl); (case hr => first | (go_simp; done) | (go_simp; rfl)); (case hp => exact (Reps.none _ _)); intro v257 w7 ho8 hb hg_ hnew_; clear hg_ hnew_; (first | rw [← Ny256.out] at ho8 | (simp only [Int.reduceToNat] at ho8; rw [← Ny256.out] at ho8)); have n0_ := Aside0.mk (Kd.R_lower ho8 (below_size b7_0)); have n1_ := Aside0.mk (blk_below (g := gb251) (o := .cells #[.int .i64 a1_0,.int .i64 a1_1,.slice A1_2 l1_2.length c1_2,.slice A1_3 l1_3.length c1_3] 26 (0,0)) b7_2 hb); have n2_ := Aside0.mk (IsS80.below b7_4 hb); have n3_ := Aside0.mk (below_step b7_0 hb); clear BK251; clear HI255; clear HB; have HO258 := n0_; have BK251 := n1_; have HI255 := n2_; have HB := n3_; clear n0_ n1_ n2_ n3_; clear hb ho8) | ((with_reducible refine gate_callee (f := 24) rfl ?_); refine goesL_ (some 12) rfl rfl Tryd.func24 (by kernel_rfl) rfl #[.pointer (some ⟨g255,0,none⟩),.int .i64 9] rfl b7_3 ?_; (with_reducible refine (spec_l00Src_pick.calls g255 t252 t253 t254 9 t259 t260 t261 w _ ?side1 ?side2 A4.out).mono ?_); (case side1 => repeat (first | (with_reducible first | exact HI255.out | apply IsS80.alloc | apply IsS80.drewN | apply IsS80.drew | apply IsS80.set_1 | apply IsS80.set_2 | refine IsS80.far ?_ NB255_251.out _) | exact HI255.out)); (case side2 => repeat (first | (with_reducible first | exact HB.out | apply below_alloc | apply pw_below_drewN | apply below_drew1 | refine below_set ?_ (IsS80.ge HI255.out) | refine below_set ?_ GE251.out) | exact HB.out)); rintro e w9 ⟨rfl,hi,hb,hk⟩; refine ⟨_,rfl,?_⟩; have n0_ := Aside0.mk (KeepBut.blk hk (g' := gb251) (o := .cells #[.int .i64 a1_0,.int .i64 a1_1,.slice A1_2 l1_2.length c1_2,.slice A1_3 l1_3.length c1_3] 26 (0,0)) b7_2 NB251_255.out (by simp)); have n1_ := Aside0.mk (Kd.R_mono (Kd.R_keep (IsS80.apart (show IsS80 w _ g255 t252 t253 t254 from by repeat (first | (with_reducible first | exact HI255.out | apply IsS80.alloc | apply IsS80.drewN | apply IsS80.drew | apply IsS80.set_1 | apply IsS80.set_2 | refine IsS80.far ?_ NB255_251.out _) | exact HI255.out)) b7_10 (by decide)) hk (fun _ h => h.2)) (fun _ h => h.1)); have n2_ := Aside0.mk (hb); have n3_ := Aside0.mk (hi); clear BK251; clear HO258; clear HB; clear HI255; have BK251 := n0_; have HO258 := n1_; have HB := n2_; have HI255 := n3_; clear n0_ n1_ n2_ n3_; (try clear hb); (try clear hb2); (try clear hk); (try clear hi)))
 go_loopg [6,7] k (fun kq v6 v7 w' => ∃ (x6_1 : List Int) (x7_1 : Int) (x256001_1 : Int) (x256002_1 : Int),v7 = .int .i64 x7_1 ∧ Aside0 (spec_B10Data.l0 kq x6_1 x7_1 a1_0 a1_1 l1_2 l1_3 t252 x256001_1 x256002_1 = some r) ∧ Aside0 (kq ≤ k) ∧ Aside0 (Kd.R (Kd.int .i64) 2 w' w.heap.size (fun _ => True) v6 x6_1) ∧ Aside0 (w'.heap[gb251]? = some (.cells #[.int .i64 a1_0,.int .i64 a1_1,(.slice A1_2 l1_2.length c1_2),(.slice A1_3 l1_3.length c1_3)] 26 (0,0))) ∧ Aside0 (IsS80 w w' g255 t252 x256001_1 x256002_1) ∧ Aside0 (Below w.heap.size w w'))
 case atStart => exact ⟨(y256),(t259),(t260),(t261),b7_6,H',⟨Nat.le_refl _⟩,⟨b7_10⟩,⟨b7_2⟩,⟨b7_4⟩,⟨b7_0⟩⟩
 case round =>
  clear H'
  (try clear c1);(try clear c2);(try clear p2);(try clear c7)
  obtain ⟨x6_1,x7_1,x256001_1,x256002_1,rfl,HA,HK1,HO_6,BK251,HI255,HB⟩ := hrel
  cases gk with
  | zero => exact absurd HA.out (by simp [spec_B10Data.l0])
  | succ k1 =>
   have H := HA.out
   clear HA
   simp only [spec_B10Data.l0] at H
   by_cases c10 : x7_1 > 0
   ·rw [if_pos c10] at H
    have c10b0 : decide (0 < x7_1) = true := decide_eq_true c10
    clear c10
    obtain ⟨ji11,hji11⟩ : ∃ j_ : Int,(IntKind.u64.wrap (a1_0)) = j_ := ⟨_,rfl⟩
    replace H : (if 0 ≤ (ji11) then ((spec_l00Src_pick.f t252 x256001_1 x256002_1 (shl .i64 1 (ji11))).bind fun bt262 => (if x6_1.length < 17592186044416 then (spec_B10Data.l0 k1 (x6_1 ++ [bt262.1]) (wrap64 (x7_1 - 1)) a1_0 a1_1 l1_2 l1_3 t252 bt262.2.1 bt262.2.2) else (none))) else (none)) = some r := by first | (rw [hji11] at H; exact H) | (simp only [hji11] at H ⊢; exact H)
    by_cases c12 : 0 ≤ (ji11)
    ·rw [if_pos c12] at H
     have c12b0 := eq_true c12
     have c12b1 : decide (0 ≤ (ji11)) = true := decide_eq_true c12
     clear c12
     obtain ⟨ji13,hji13⟩ : ∃ j_ : Int,(shl .i64 1 (ji11)) = j_ := ⟨_,rfl⟩
     replace H : ((spec_l00Src_pick.f t252 x256001_1 x256002_1 (ji13)).bind fun bt262 => (if x6_1.length < 17592186044416 then (spec_B10Data.l0 k1 (x6_1 ++ [bt262.1]) (wrap64 (x7_1 - 1)) a1_0 a1_1 l1_2 l1_3 t252 bt262.2.1 bt262.2.2) else (none))) = some r := by first | (rw [hji13] at H; exact H) | (simp only [hji13] at H ⊢; exact H)
     have hji13_ : (IntKind.i64.wrap (1 * 2 ^ min (ji11).toNat 64)) = ji13 := hji13
     have hji13z : (ji11) ≤ 64 → (IntKind.i64.wrap (1 * 2 ^ (ji11).toNat)) = ji13 := shl_small hji13
     have hji13u : (IntKind.i64.wrap (2 ^ min (ji11).toNat 64)) = ji13 := by have h_ := hji13_; rw [Int.one_mul] at h_; exact h_
     have hji13v : (ji11) ≤ 64 → (IntKind.i64.wrap (2 ^ (ji11).toNat)) = ji13 := fun hle_ => by have h_ := hji13z hle_; rw [Int.one_mul] at h_; exact h_
     have hji13y : (wrap64 (1 * 2 ^ min (ji11).toNat 64)) = ji13 := (i64_w _).symm.trans hji13_
     have hji13x : (ji11) ≤ 64 → (wrap64 (1 * 2 ^ (ji11).toNat)) = ji13 := fun h_ => (i64_w _).symm.trans (hji13z h_)
     replace H := Option.bind_eq_some_iff.mp H
     obtain ⟨⟨t262,t263,t264⟩,A140,H⟩ := H
     replace H : (if x6_1.length < 17592186044416 then (spec_B10Data.l0 k1 (x6_1 ++ [t262]) (wrap64 (x7_1 - 1)) a1_0 a1_1 l1_2 l1_3 t252 t263 t264) else (none)) = some r := H
     have A14 := Aside0.mk A140
     clear A140
     by_cases c15 : x6_1.length < 17592186044416
     ·rw [if_pos c15] at H
      have LMc15 := Aside0.mk c15
      clear c15
      obtain ⟨y265,hy265⟩ : ∃ y_ : List Int,y_ = (x6_1 ++ [t262]) := ⟨_,rfl⟩
      replace H : (spec_B10Data.l0 k1 y265 (wrap64 (x7_1 - 1)) a1_0 a1_1 l1_2 l1_3 t252 t263 t264) = some r := by first | (rw [hy265]; with_reducible exact H) | (have H2_ := (Option.bind_some _ _).symm.trans H; rw [hy265]; with_reducible exact H2_) | (have H2_ := (Option.bind_some _ _).symm.trans H; with_reducible exact H2_) | with_reducible exact H | (rw [hy265]; exact H) | exact H
      have Ny265 := Aside0.mk hy265
      clear hy265
      have H' := Aside0.mk H
      clear H
      have hnb16 := NB251_255.out
      have hnc16 := NB255_251.out
      have hcz17_0 : wr.cell? ⟨gb251,0,none⟩ = some (.int .i64 a1_0) := (blk_cell BK251.out 0).trans rfl
      have hcz17_1 : wr.cell? ⟨gb251,1,none⟩ = some (.int .i64 a1_1) := (blk_cell BK251.out 1).trans rfl
      have hcz17_2 : wr.cell? ⟨gb251,2,none⟩ = some (.slice A1_2 l1_2.length c1_2) := (blk_cell BK251.out 2).trans rfl
      have hcz17_3 : wr.cell? ⟨gb251,3,none⟩ = some (.slice A1_3 l1_3.length c1_3) := (blk_cell BK251.out 3).trans rfl
      have hfz17_0 := blk_frozen BK251.out 0
      have hfz17_1 := blk_frozen BK251.out 1
      have hfz17_2 := blk_frozen BK251.out 2
      have hfz17_3 := blk_frozen BK251.out 3
      go_wp2_with (first | ((with_reducible refine gate_callee (f := 24) rfl ?_); refine goesL_ (some 23) rfl rfl Tryd.func24 (by kernel_rfl) rfl #[.pointer (some ⟨g255,0,none⟩),.int .i64 ji13] rfl (by (try simp only [List.map_toArray,List.map_cons,List.map_nil]); first | done | (simp only [hji13]; rfl) | rfl | (simp only [List.length_drop,List.length_take]; rfl)) ?_; (with_reducible refine (spec_l00Src_pick.calls g255 t252 x256001_1 x256002_1 ji13 t262 t263 t264 w _ ?side1 ?side2 A14.out).mono ?_); (case side1 => repeat (first | (with_reducible first | exact HI255.out | apply IsS80.alloc | apply IsS80.drewN | apply IsS80.drew | apply IsS80.set_1 | apply IsS80.set_2 | refine IsS80.far ?_ NB255_251.out _) | exact HI255.out)); (case side2 => repeat (first | (with_reducible first | exact HB.out | apply below_alloc | apply pw_below_drewN | apply below_drew1 | refine below_set ?_ (IsS80.ge HI255.out) | refine below_set ?_ GE251.out) | exact HB.out)); rintro e w18 ⟨rfl,hi,hb,hk⟩; refine ⟨_,rfl,?_⟩; have n0_ := Aside0.mk (Kd.R_mono (Kd.R_keep (IsS80.apart (show IsS80 w _ g255 t252 x256001_1 x256002_1 from by repeat (first | (with_reducible first | exact HI255.out | apply IsS80.alloc | apply IsS80.drewN | apply IsS80.drew | apply IsS80.set_1 | apply IsS80.set_2 | refine IsS80.far ?_ NB255_251.out _) | exact HI255.out)) b7_9 (by decide)) hk (fun _ h => h.2)) (fun _ h => h.1)); have n1_ := Aside0.mk (KeepBut.blk hk (g' := gb251) (o := .cells #[.int .i64 a1_0,.int .i64 a1_1,.slice A1_2 l1_2.length c1_2,.slice A1_3 l1_3.length c1_3] 26 (0,0)) b7_2 NB251_255.out (by simp)); have n2_ := Aside0.mk (hb); have n3_ := Aside0.mk (hi); clear HO_6; clear BK251; clear HB; clear HI255; have HO_6 := n0_; have BK251 := n1_; have HB := n2_; have HI255 := n3_; clear n0_ n1_ n2_ n3_; (try clear hb); (try clear hb2); (try clear hk); (try clear hi)) | ((with_reducible refine gate_builtin (b := .append) (xs := #[.tmp 17,.tmp 24]) rfl ?_); at_builtin; refine Kd.R_append (Kd.int .i64) (w0 := w) w.heap.size rfl (.tmp 17) (.tmp 24) 28 2 (.int .i64 0) 8 rfl Tryd.underlying28 info2 rfl (by decide) (by omega) u6 x6_1 t262 [.int .i64 t262] (fun _ => True) (fun _ => False) rfl rfl ?aP (fun _ hk => hk.elim) ?aF ?aO ?aB ?aS ?aL ?_; (case aP => exact rfl); (case aB => exact b7_0); (case aF => exact (fun _ _ => trivial)); (case aO => exact b7_9); (case aS => exact (below_size b7_0)); (case aL => have := LMc15.out; omega); intro v266 w19 ho hb hg hat; rw [← Ny265.out] at ho; have n0_ := Aside0.mk (blk_grown (g := gb251) (o := .cells #[.int .i64 a1_0,.int .i64 a1_1,.slice A1_2 l1_2.length c1_2,.slice A1_3 l1_3.length c1_3] 26 (0,0)) b7_2 hg (Kd.R_ne HO_6.out BK251.out (by decide))); have n1_ := Aside0.mk (IsS80.grown b7_4 hg (IsS80.own_ne HI255.out HO_6.out (by decide))); have n2_ := Aside0.mk (hb); have n3_ := Aside0.mk (ho); clear BK251; clear HI255; clear HB; clear HO_6; have BK251 := n0_; have HI255 := n1_; have HB := n2_; have HO267 := n3_; clear n0_ n1_ n2_ n3_; clear ho hb hg hat))
      go_roundg k1
      case measure => have := HK1.out; omega
      case rel => exact ⟨(y265),(wrap64 (x7_1 - 1)),(t263),(t264),b7_6,H',⟨by have := HK1.out; omega⟩,⟨by (with_reducible repeat (first | apply Kd.R_alloc | apply Kd.R_drewN | apply Kd.R_drew)); exact HO267.out⟩,⟨b7_2⟩,⟨b7_4⟩,⟨b7_0⟩⟩
     ·rw [if_neg c15] at H
      exact absurd H (by simp)
    ·rw [if_neg c12] at H
     exact absurd H (by simp)
   ·rw [if_neg c10] at H
    have c10b0 : decide (0 < x7_1) = false := decide_eq_false c10
    clear c10
    obtain rfl := Option.some.inj H
    go_wp2
    go_ret
    exact ⟨_,b7_11,b7_9,b7_0⟩

/-! ### laws_b10At: function 8 -/
def laws_b10At.f (l0 : List Int) (a1 : Int) (a2 : Int) : Option (Int) := if a2 ≤ 1 then (some 0) else (if a1 < (l0.length : Int) then (if 0 ≤ a1 then (if a2 = 0 then (none) else (some (Int.tmod (wrap64 (rd l0 a1)) a2))) else (none)) else (if a2 = 0 then (none) else (some (Int.tmod (wrap64 ((wrap64 (a1 * 37)) + 11)) a2))))
set_option maxHeartbeats 8000000 in
set_option maxRecDepth 100000 in
theorem laws_b10At.calls (A0 : Option Addr) (c0 : Nat) (l0 : List Int) (a1 : Int) (a2 : Int) (r : Int) (w : World) (hr0 : Kd.C (Kd.int .u8) w A0 l0.length l0) (hc0 : l0.length ≤ c0) (h : laws_b10At.f l0 a1 a2 = some r) :
  Calls Tryd.prog 8 #[.slice A0 l0.length c0,.int .i64 a1,.int .i64 a2] w fun e w' => e = .returned (.int .i64 r) ∧ Drawn0 w w' := by
 have HR0 := Aside0.mk hr0
 have HC0 := Aside0.mk hc0
 clear hr0 hc0
 have H : (if a2 ≤ 1 then (some 0) else (if a1 < (l0.length : Int) then (if 0 ≤ a1 then (if a2 = 0 then (none) else (some (Int.tmod (wrap64 (rd l0 a1)) a2))) else (none)) else (if a2 = 0 then (none) else (some (Int.tmod (wrap64 ((wrap64 (a1 * 37)) + 11)) a2))))) = some r := h
 clear h
 by_cases c4 : a2 ≤ 1
 ·rw [if_pos c4] at H
  have c4b0 : decide (a2 ≤ 1) = true := decide_eq_true c4
  clear c4
  obtain rfl := Option.some.inj H
  go_enter Tryd.func8,Tryd.ntmps8
  go_wp2
  go_ret
  exact ⟨b7_6,b7_8⟩
 ·rw [if_neg c4] at H
  have c4b0 : decide (a2 ≤ 1) = false := decide_eq_false c4
  clear c4
  by_cases c5 : a1 < (l0.length : Int)
  ·rw [if_pos c5] at H
   have c5b0 : decide (a1 < (l0.length : Int)) = true := decide_eq_true c5
   clear c5
   by_cases c6 : 0 ≤ a1
   ·rw [if_pos c6] at H
    have c6b0 : decide (0 ≤ a1) = true := decide_eq_true c6
    clear c6
    by_cases c7 : a2 = 0
    ·rw [if_pos c7] at H
     exact absurd H (by simp)
    ·rw [if_neg c7] at H
     have c7b0 : (a2 == 0) = false := beq_eq_false_iff_ne.mpr c7
     have c7b1 : (a2 != 0) = true := bne_iff_ne.mpr c7
     obtain rfl := Option.some.inj H
     have p268 : 0 ≤ (a1 : Int) := of_decide_eq_true (by first | (with_reducible assumption) | assumption)
     have q268 : a1 < (l0.length : Int) := of_decide_eq_true (by first | (with_reducible assumption) | assumption)
     obtain ⟨ad268,e268,hx268_0⟩ := Kd.at_int HR0.out a1 p268 q268
     cases e268
     replace p268 := eq_true p268
     replace q268 := eq_true q268
     go_enter Tryd.func8,Tryd.ntmps8
     go_wp2
     go_ret
     exact ⟨b7_6,b7_8⟩
   ·rw [if_neg c6] at H
    exact absurd H (by simp)
  ·rw [if_neg c5] at H
   have c5b0 : decide (a1 < (l0.length : Int)) = false := decide_eq_false c5
   clear c5
   by_cases c8 : a2 = 0
   ·rw [if_pos c8] at H
    exact absurd H (by simp)
   ·rw [if_neg c8] at H
    have c8b0 : (a2 == 0) = false := beq_eq_false_iff_ne.mpr c8
    have c8b1 : (a2 != 0) = true := bne_iff_ne.mpr c8
    obtain rfl := Option.some.inj H
    go_enter Tryd.func8,Tryd.ntmps8
    go_wp2
    go_ret
    exact ⟨b7_6,b7_8⟩

/-! ### spec_l03State: function 38 -/
def spec_l03State.f (a0 : Int) : Option (Bool) := if a0 = (-1) then (some true) else (some (a0 == 1))
set_option maxHeartbeats 8000000 in
set_option maxRecDepth 100000 in
theorem spec_l03State.calls (a0 : Int) (r : Bool) (w : World) (h : spec_l03State.f a0 = some r) :
  Calls Tryd.prog 38 #[.int .i64 a0] w fun e w' => e = .returned (.bool r) ∧ Drawn0 w w' := by
 have H : (if a0 = (-1) then (some true) else (some (a0 == 1))) = some r := h
 clear h
 by_cases c2 : a0 = (-1)
 ·rw [if_pos c2] at H
  have c2b0 : (a0 == (-1)) = true := beq_iff_eq.mpr c2
  have c2b1 : (a0 != (-1)) = false := bne_eq_false_iff_eq.mpr c2
  clear c2
  obtain rfl := Option.some.inj H
  go_enter Tryd.func38,Tryd.ntmps38
  go_wp2
  go_ret
  exact ⟨b7_6,b7_8⟩
 ·rw [if_neg c2] at H
  have c2b0 : (a0 == (-1)) = false := beq_eq_false_iff_ne.mpr c2
  have c2b1 : (a0 != (-1)) = true := bne_iff_ne.mpr c2
  obtain rfl := Option.some.inj H
  go_enter Tryd.func38,Tryd.ntmps38
  go_wp2
  go_ret
  exact ⟨b7_6,b7_8⟩

/-! ### spec_l03List: function 54 -/
/-!  One of the lists that came in,by the sign of a number. -/
def spec_l03List.f (a1 : Int) : Option Unit := some ()
def spec_l03List_neg.f (a0_0 : Int) (a0_1 : Int) (l0_2 : List ByteArray) (l0_3 : List ByteArray) (a1 : Int) : Option Unit := if a1 < 0 then some () else none
set_option maxHeartbeats 8000000 in
set_option maxRecDepth 100000 in
theorem spec_l03List_neg.calls (g0 : Nat) (a0_0 : Int) (a0_1 : Int) (A0_2 : Option Addr) (c0_2 : Nat) (l0_2 : List ByteArray) (A0_3 : Option Addr) (c0_3 : Nat) (l0_3 : List ByteArray) (a1 : Int) (w : World) (hb0_ : w.heap[g0]? = some (.cells #[.int .i64 a0_0,.int .i64 a0_1,.slice A0_2 l0_2.length c0_2,.slice A0_3 l0_3.length c0_3] 26 (0,0))) (hr0_2 : Kd.C Kd.string w A0_2 l0_2.length l0_2) (hc0_2 : l0_2.length ≤ c0_2) (hr0_3 : Kd.C Kd.string w A0_3 l0_3.length l0_3) (hc0_3 : l0_3.length ≤ c0_3) (h : spec_l03List_neg.f a0_0 a0_1 l0_2 l0_3 a1 = some ()) :
  Calls Tryd.prog 54 #[.pointer (some ⟨g0,0,none⟩),.int .i64 a1] w fun e w' => e = .returned (.slice A0_2 l0_2.length c0_2) ∧ Below w.heap.size w w' := by
 unfold spec_l03List_neg.f at h
 by_cases c : a1 < 0
 ·have cb : decide (a1 < 0) = true := decide_eq_true c
  clear h hr0_2 hc0_2 hr0_3 hc0_3
  have hu30 := Tryd.underlying26
  have hcz2 : w.cell? ⟨g0,2,none⟩ = some (.slice A0_2 l0_2.length c0_2) := (blk_cell hb0_ 2).trans rfl
  have hcz3 : w.cell? ⟨g0,3,none⟩ = some (.slice A0_3 l0_3.length c0_3) := (blk_cell hb0_ 3).trans rfl
  clear hb0_
  have HB := Aside0.mk (Below.refl w.heap.size w)
  go_enter Tryd.func54,Tryd.ntmps54
  go_wp2
  go_ret
  exact ⟨b7_6,b7_1⟩
 ·rw [if_neg c] at h; cases h
def spec_l03List_pos.f (a0_0 : Int) (a0_1 : Int) (l0_2 : List ByteArray) (l0_3 : List ByteArray) (a1 : Int) : Option Unit := if ¬ a1 < 0 then some () else none
set_option maxHeartbeats 8000000 in
set_option maxRecDepth 100000 in
theorem spec_l03List_pos.calls (g0 : Nat) (a0_0 : Int) (a0_1 : Int) (A0_2 : Option Addr) (c0_2 : Nat) (l0_2 : List ByteArray) (A0_3 : Option Addr) (c0_3 : Nat) (l0_3 : List ByteArray) (a1 : Int) (w : World) (hb0_ : w.heap[g0]? = some (.cells #[.int .i64 a0_0,.int .i64 a0_1,.slice A0_2 l0_2.length c0_2,.slice A0_3 l0_3.length c0_3] 26 (0,0))) (hr0_2 : Kd.C Kd.string w A0_2 l0_2.length l0_2) (hc0_2 : l0_2.length ≤ c0_2) (hr0_3 : Kd.C Kd.string w A0_3 l0_3.length l0_3) (hc0_3 : l0_3.length ≤ c0_3) (h : spec_l03List_pos.f a0_0 a0_1 l0_2 l0_3 a1 = some ()) :
  Calls Tryd.prog 54 #[.pointer (some ⟨g0,0,none⟩),.int .i64 a1] w fun e w' => e = .returned (.slice A0_3 l0_3.length c0_3) ∧ Below w.heap.size w w' := by
 unfold spec_l03List_pos.f at h
 by_cases c : a1 < 0
 ·rw [if_neg (fun q => q c)] at h; cases h
 ·have cb : decide (a1 < 0) = false := decide_eq_false c
  clear h hr0_2 hc0_2 hr0_3 hc0_3
  have hu30 := Tryd.underlying26
  have hcz2 : w.cell? ⟨g0,2,none⟩ = some (.slice A0_2 l0_2.length c0_2) := (blk_cell hb0_ 2).trans rfl
  have hcz3 : w.cell? ⟨g0,3,none⟩ = some (.slice A0_3 l0_3.length c0_3) := (blk_cell hb0_ 3).trans rfl
  clear hb0_
  have HB := Aside0.mk (Below.refl w.heap.size w)
  go_enter Tryd.func54,Tryd.ntmps54
  go_wp2
  go_ret
  exact ⟨b7_6,b7_1⟩

/-! ### spec_l03Next: function 55 -/
def spec_l03Next.f (k : Nat) (a0 : Int) (a1 : ByteArray) : Option (Int) := (spec_l03Disparity.f k a1).bind fun t269 => (if t269 > 0 then (some 1) else (if t269 < 0 then (some (-1)) else (some a0)))
set_option maxHeartbeats 8000000 in
set_option maxRecDepth 100000 in
theorem spec_l03Next.calls (k : Nat) (a0 : Int) (a1 : ByteArray) (r : Int) (w : World) (h : spec_l03Next.f k a0 a1 = some r) :
  Calls Tryd.prog 55 #[.int .i64 a0,.string a1] w fun e w' => e = .returned (.int .i64 r) ∧ Drawn0 w w' := by
 have H : ((spec_l03Disparity.f k a1).bind fun t269 => (if t269 > 0 then (some 1) else (if t269 < 0 then (some (-1)) else (some a0)))) = some r := h
 clear h
 replace H := Option.bind_eq_some_iff.mp H
 obtain ⟨t269,A30,H⟩ := H
 replace H : (if t269 > 0 then (some 1) else (if t269 < 0 then (some (-1)) else (some a0))) = some r := H
 have A3 := Aside0.mk A30
 clear A30
 by_cases c4 : t269 > 0
 ·rw [if_pos c4] at H
  have c4b0 : decide (0 < t269) = true := decide_eq_true c4
  clear c4
  obtain rfl := Option.some.inj H
  go_enter Tryd.func55,Tryd.ntmps55
  go_wp2_with (first | ((with_reducible refine gate_callee (f := 58) rfl ?_); refine goesL_ (some 7) rfl rfl Tryd.func58 (by kernel_rfl) rfl #[.string a1] rfl b7_3 ?_; (with_reducible refine (spec_l03Disparity.calls k a1 t269 _ A3.out).mono ?_); rintro e w' ⟨rfl,⟨nd,rfl⟩⟩; refine ⟨_,rfl,?_⟩))
  go_ret
  exact ⟨b7_6,b7_8⟩
 ·rw [if_neg c4] at H
  have c4b0 : decide (0 < t269) = false := decide_eq_false c4
  clear c4
  by_cases c5 : t269 < 0
  ·rw [if_pos c5] at H
   have c5b0 : decide (t269 < 0) = true := decide_eq_true c5
   clear c5
   obtain rfl := Option.some.inj H
   go_enter Tryd.func55,Tryd.ntmps55
   go_wp2_with (first | ((with_reducible refine gate_callee (f := 58) rfl ?_); refine goesL_ (some 7) rfl rfl Tryd.func58 (by kernel_rfl) rfl #[.string a1] rfl b7_3 ?_; (with_reducible refine (spec_l03Disparity.calls k a1 t269 _ A3.out).mono ?_); rintro e w' ⟨rfl,⟨nd,rfl⟩⟩; refine ⟨_,rfl,?_⟩))
   go_ret
   exact ⟨b7_6,b7_8⟩
  ·rw [if_neg c5] at H
   have c5b0 : decide (t269 < 0) = false := decide_eq_false c5
   clear c5
   obtain rfl := Option.some.inj H
   go_enter Tryd.func55,Tryd.ntmps55
   go_wp2_with (first | ((with_reducible refine gate_callee (f := 58) rfl ?_); refine goesL_ (some 7) rfl rfl Tryd.func58 (by kernel_rfl) rfl #[.string a1] rfl b7_3 ?_; (with_reducible refine (spec_l03Disparity.calls k a1 t269 _ A3.out).mono ?_); rintro e w' ⟨rfl,⟨nd,rfl⟩⟩; refine ⟨_,rfl,?_⟩))
   go_ret
   exact ⟨b7_6,b7_8⟩

end Go.Proofs.YtegeaoiclepkkabDoor.QFnCommas
