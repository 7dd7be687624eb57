/-
Each Go function that this text names answers as the Lean function beside it says,wherever that one answers; conditions: the arguments lie in memory as each theorem states it.
-/
import Derived.Test.YtegeaoiclepkkaaDoorQFnExactDecodeBlocksx0
import Derived.Test.YtegeaoiclepkkaaDoorQFnExactDecodeBlocksx1
import Derived.Test.YtegeaoiclepkkaaDoorQFnExactDecodeBlocksx5
import Derived.Test.YtegeaoiclepkkaaDoorQFnExactDecodeBlocksx7
import Derived.Test.YtegeaoiclepkkaaDoorQFnExactDecodeBlocksx8
namespace Go.Proofs.YtegeaoiclepkkaaDoor.QFnExactDecodeBlocks
open Go.RowKit Go.Proofs.YtegeaoiclepkkaaDoorW.PrintWords Go.Proofs.YtegeaoiclepkkaaDoorW.PrintLast Go.Proofs.YtegeaoiclepkkaaDoorW.PrintMore
attribute [local go_sem] max2_int min2_int max_two min_two max_three min_three max_four min_four   -- for this text's walks alone
set_option linter.unusedVariables false
set_option linter.unusedSimpArgs false

/-! ### laws_FnExactDecodeBlocks: function 8 -/
mutual
def laws_FnExactDecodeBlocks.j0 : Nat → Int → ByteArray → List Int → List Int → Int → Bool → List Int → List Int → Int → Bool → Bool → Int → Int → List ByteArray → List ByteArray → Int → Int → List ByteArray → List ByteArray → Option (Bool)
 | 0,_,_,_,_,_,_,_,_,_,_,_,_,_,_,_,_,_,_,_ => none
 | k + 1,x1,x2,x8,x9,x10,x11,x13,x14,x15,x16,x72,x263000,x263001,x263002,x263003,x289000,x289001,x289002,x289003 => if x72 = true then (some false) else ((laws_toBlockCode.f k x263000 x263001 x263002 x263003).bind fun bt299 => ((laws_eqBlockCode.f k x289000 x289001 x289002 x289003 bt299.1 bt299.2.1 bt299.2.2.1 bt299.2.2.2).bind fun t307 => (if t307 = true then ((laws_markBlockCode.f k x289000 x289001 x289002 x289003 1).bind fun bt308 => (if bt308.1 < 0 then (laws_FnExactDecodeBlocks.j1 k x1 x2 x8 x9 x10 x11 x13 x14 true x263000 x263001 x263002 x263003) else ((laws_eqInt64S.f k x13 x8).bind fun t311 => (if t311 = true then ((laws_eqInt64S.f k x14 x9).bind fun t312 => (if t312 = true then (if x15 = x10 then (laws_FnExactDecodeBlocks.j1 k x1 x2 x8 x9 x10 x11 x13 x14 (x16 != x11) x263000 x263001 x263002 x263003) else (laws_FnExactDecodeBlocks.j1 k x1 x2 x8 x9 x10 x11 x13 x14 true x263000 x263001 x263002 x263003)) else (laws_FnExactDecodeBlocks.j1 k x1 x2 x8 x9 x10 x11 x13 x14 true x263000 x263001 x263002 x263003))) else (laws_FnExactDecodeBlocks.j1 k x1 x2 x8 x9 x10 x11 x13 x14 true x263000 x263001 x263002 x263003))))) else (some false))))
def laws_FnExactDecodeBlocks.j1 : Nat → Int → ByteArray → List Int → List Int → Int → Bool → List Int → List Int → Bool → Int → Int → List ByteArray → List ByteArray → Option (Bool)
 | 0,_,_,_,_,_,_,_,_,_,_,_,_,_ => none
 | k + 1,x1,x2,x8,x9,x10,x11,x13,x14,x104,x263000,x263001,x263002,x263003 => if x104 = true then (some false) else ((laws_markInt64S.f k x13 1).bind fun bt313 => ((laws_markInt64S.f k x14 bt313.1).bind fun bt315 => ((laws_heldInt64S.f k bt313.2 1).bind fun t317 => (if t317 < 0 then (some false) else ((laws_heldInt64S.f k bt315.2 t317).bind fun t318 => (if t318 < 0 then (some false) else (if t318 = bt315.1 then ((laws_toBlockCode.f k x263000 x263001 x263002 x263003).bind fun bt319 => ((impl_DecodeBlocks.f k bt319.1 bt319.2.1 bt319.2.2.1 bt319.2.2.2 x1 x2).bind fun bt327 => ((laws_eqInt64S.f k bt327.1 x8).bind fun t335 => (if t335 = true then ((laws_eqInt64S.f k bt327.2.1 x9).bind fun t336 => (if t336 = true then (if bt327.2.2.1 = x10 then (laws_FnExactDecodeBlocks.j2 k bt313.2 bt315.2 bt315.1 (bt327.2.2.2 != x11)) else (laws_FnExactDecodeBlocks.j2 k bt313.2 bt315.2 bt315.1 true)) else (laws_FnExactDecodeBlocks.j2 k bt313.2 bt315.2 bt315.1 true))) else (laws_FnExactDecodeBlocks.j2 k bt313.2 bt315.2 bt315.1 true))))) else (some false))))))))
def laws_FnExactDecodeBlocks.j2 : Nat → List Int → List Int → Int → Bool → Option (Bool)
 | 0,_,_,_,_ => none
 | k + 1,x13,x14,x18,x153 => if x153 = true then (some false) else ((laws_heldInt64S.f k x13 1).bind fun t337 => (if t337 < 0 then (some false) else ((laws_heldInt64S.f k x14 t337).bind fun t338 => (if t338 < 0 then (some false) else (if t338 = x18 then (some true) else (some false))))))
end
def laws_FnExactDecodeBlocks.f (k : Nat) (a0_0 : Int) (a0_1 : Int) (l0_2 : List ByteArray) (l0_3 : List ByteArray) (a1 : Int) (a2 : ByteArray) : Option (Bool) := if (a2.size : Int) > 1048576 then (some true) else ((laws_szBlockCode.f k a0_0 a0_1 l0_2 l0_3 1048576).bind fun t263 => (if t263 < 0 then (some true) else ((laws_toBlockCode.f k a0_0 a0_1 l0_2 l0_3).bind fun bt264 => ((spec_DecodeBlocks.f k bt264.1 bt264.2.1 bt264.2.2.1 bt264.2.2.2 a1 a2).bind fun bt272 => ((laws_toBlockCode.f k a0_0 a0_1 l0_2 l0_3).bind fun bt280 => ((impl_DecodeBlocks.f k bt280.1 bt280.2.1 bt280.2.2.1 bt280.2.2.2 a1 a2).bind fun bt289 => ((laws_eqInt64S.f k bt289.1 bt272.1).bind fun t297 => (if t297 = true then ((laws_eqInt64S.f k bt289.2.1 bt272.2.1).bind fun t298 => (if t298 = true then (if bt289.2.2.1 = bt272.2.2.1 then (laws_FnExactDecodeBlocks.j0 k a1 a2 bt272.1 bt272.2.1 bt272.2.2.1 bt272.2.2.2 bt289.1 bt289.2.1 bt289.2.2.1 bt289.2.2.2 (bt289.2.2.2 != bt272.2.2.2) a0_0 a0_1 l0_2 l0_3 bt280.1 bt280.2.1 bt280.2.2.1 bt280.2.2.2) else (laws_FnExactDecodeBlocks.j0 k a1 a2 bt272.1 bt272.2.1 bt272.2.2.1 bt272.2.2.2 bt289.1 bt289.2.1 bt289.2.2.1 bt289.2.2.2 true a0_0 a0_1 l0_2 l0_3 bt280.1 bt280.2.1 bt280.2.2.1 bt280.2.2.2)) else (laws_FnExactDecodeBlocks.j0 k a1 a2 bt272.1 bt272.2.1 bt272.2.2.1 bt272.2.2.2 bt289.1 bt289.2.1 bt289.2.2.1 bt289.2.2.2 true a0_0 a0_1 l0_2 l0_3 bt280.1 bt280.2.1 bt280.2.2.1 bt280.2.2.2))) else (laws_FnExactDecodeBlocks.j0 k a1 a2 bt272.1 bt272.2.1 bt272.2.2.1 bt272.2.2.2 bt289.1 bt289.2.1 bt289.2.2.1 bt289.2.2.2 true a0_0 a0_1 l0_2 l0_3 bt280.1 bt280.2.1 bt280.2.2.1 bt280.2.2.2)))))))))
set_option maxHeartbeats 8000000 in
set_option maxRecDepth 100000 in
theorem laws_FnExactDecodeBlocks.calls (k : Nat) (a0_0 : Int) (a0_1 : Int) (A0_2 : Option Addr) (c0_2 : Nat) (l0_2 : List ByteArray) (A0_3 : Option Addr) (c0_3 : Nat) (l0_3 : List ByteArray) (a1 : Int) (a2 : ByteArray) (r : Bool) (w : World) (hr0_2 : Kd.C Kd.string w A0_2 l0_2.length l0_2) (hc0_2 : l0_2.length ≤ c0_2) (hr0_3 : Kd.C Kd.string w A0_3 l0_3.length l0_3) (hc0_3 : l0_3.length ≤ c0_3) (h : laws_FnExactDecodeBlocks.f k a0_0 a0_1 l0_2 l0_3 a1 a2 = some r) :
  Calls Tryd.prog 8 #[.agg #[.int .i64 a0_0,.int .i64 a0_1,.slice A0_2 l0_2.length c0_2,.slice A0_3 l0_3.length c0_3],.int .i64 a1,.string a2] w fun e w' => e = .returned (.bool r) ∧ Below w.heap.size w w' := by
 have hu27 := Tryd.underlying27
 have hu30 := Tryd.underlying30
 have HR0_2 := Aside0.mk hr0_2
 have HC0_2 := Aside0.mk hc0_2
 clear hr0_2 hc0_2
 have HR0_3 := Aside0.mk hr0_3
 have HC0_3 := Aside0.mk hc0_3
 clear hr0_3 hc0_3
 have HB := Aside0.mk (Below.refl w.heap.size w)
 have H : (if (a2.size : Int) > 1048576 then (some true) else ((laws_szBlockCode.f k a0_0 a0_1 l0_2 l0_3 1048576).bind fun t263 => (if t263 < 0 then (some true) else ((laws_toBlockCode.f k a0_0 a0_1 l0_2 l0_3).bind fun bt264 => ((spec_DecodeBlocks.f k bt264.1 bt264.2.1 bt264.2.2.1 bt264.2.2.2 a1 a2).bind fun bt272 => ((laws_toBlockCode.f k a0_0 a0_1 l0_2 l0_3).bind fun bt280 => ((impl_DecodeBlocks.f k bt280.1 bt280.2.1 bt280.2.2.1 bt280.2.2.2 a1 a2).bind fun bt289 => ((laws_eqInt64S.f k bt289.1 bt272.1).bind fun t297 => (if t297 = true then ((laws_eqInt64S.f k bt289.2.1 bt272.2.1).bind fun t298 => (if t298 = true then (if bt289.2.2.1 = bt272.2.2.1 then (laws_FnExactDecodeBlocks.j0 k a1 a2 bt272.1 bt272.2.1 bt272.2.2.1 bt272.2.2.2 bt289.1 bt289.2.1 bt289.2.2.1 bt289.2.2.2 (bt289.2.2.2 != bt272.2.2.2) a0_0 a0_1 l0_2 l0_3 bt280.1 bt280.2.1 bt280.2.2.1 bt280.2.2.2) else (laws_FnExactDecodeBlocks.j0 k a1 a2 bt272.1 bt272.2.1 bt272.2.2.1 bt272.2.2.2 bt289.1 bt289.2.1 bt289.2.2.1 bt289.2.2.2 true a0_0 a0_1 l0_2 l0_3 bt280.1 bt280.2.1 bt280.2.2.1 bt280.2.2.2)) else (laws_FnExactDecodeBlocks.j0 k a1 a2 bt272.1 bt272.2.1 bt272.2.2.1 bt272.2.2.2 bt289.1 bt289.2.1 bt289.2.2.1 bt289.2.2.2 true a0_0 a0_1 l0_2 l0_3 bt280.1 bt280.2.1 bt280.2.2.1 bt280.2.2.2))) else (laws_FnExactDecodeBlocks.j0 k a1 a2 bt272.1 bt272.2.1 bt272.2.2.1 bt272.2.2.2 bt289.1 bt289.2.1 bt289.2.2.1 bt289.2.2.2 true a0_0 a0_1 l0_2 l0_3 bt280.1 bt280.2.1 bt280.2.2.1 bt280.2.2.2)))))))))) = some r := h
 clear h
 by_cases c4 : (a2.size : Int) > 1048576
 ·rw [if_pos c4] at H
  have c4b0 : decide (1048576 < (a2.size : Int)) = true := decide_eq_true c4
  have c4b1 : decide (1048576 < a2.size) = true := decide_eq_true (by omega)
  clear c4
  obtain rfl := Option.some.inj H
  go_enter Tryd.func8,Tryd.ntmps8
  go_wp2_with (first | ((with_reducible refine gate_dst (N := 3) rfl ?_); refine box_event ?hg (N := 3) ?hd (cs := #[.int .i64 a0_0,.int .i64 a0_1,.slice A0_2 l0_2.length c0_2,.slice A0_3 l0_3.length c0_3]) (t := 27) ?hr ?_; (case hd => rfl); (case hg => rfl); (case hr => first | (go_simp; done) | (go_simp; rfl)); intro gb262 hg w5 hbox hb; have n0_ := Aside0.mk (below_step (by repeat (first | (with_reducible first | exact HB.out | apply below_alloc | apply pw_below_drewN | apply below_drew1) | exact HB.out)) hb); have n1_ := Aside0.mk (hbox); have n2_ := Aside0.mk ((by rw [hg]; exact (below_size (by repeat (first | (with_reducible first | exact HB.out | apply below_alloc | apply pw_below_drewN | apply below_drew1) | exact HB.out))) : w.heap.size ≤ gb262)); have n3_ := Aside0.mk ((by rw [hg]; exact (below_size (by repeat (first | (with_reducible first | exact HB.out | apply below_alloc | apply pw_below_drewN | apply below_drew1) | exact HB.out))) : w.heap.size ≤ gb262)); clear HB; have HB := n0_; have BK262 := n1_; have GW262 := n2_; have GE262 := n3_; clear n0_ n1_ n2_ n3_; clear hb hbox hg))
  go_ret
  exact ⟨by first | rfl | (simp [errW_none,errW_some] <;> rfl) | (simp [*,errW_none,errW_some] <;> rfl),by repeat (first | (with_reducible first | exact HB.out | apply below_alloc | apply pw_below_drewN | apply below_drew1 | refine below_set ?_ GE262.out) | exact HB.out)⟩
 ·rw [if_neg c4] at H
  have c4b0 : decide (1048576 < (a2.size : Int)) = false := decide_eq_false c4
  have c4b1 : decide (1048576 < a2.size) = false := decide_eq_false (by omega)
  clear c4
  replace H := Option.bind_eq_some_iff.mp H
  obtain ⟨t263,A60,H⟩ := H
  replace H : (if t263 < 0 then (some true) else ((laws_toBlockCode.f k a0_0 a0_1 l0_2 l0_3).bind fun bt264 => ((spec_DecodeBlocks.f k bt264.1 bt264.2.1 bt264.2.2.1 bt264.2.2.2 a1 a2).bind fun bt272 => ((laws_toBlockCode.f k a0_0 a0_1 l0_2 l0_3).bind fun bt280 => ((impl_DecodeBlocks.f k bt280.1 bt280.2.1 bt280.2.2.1 bt280.2.2.2 a1 a2).bind fun bt289 => ((laws_eqInt64S.f k bt289.1 bt272.1).bind fun t297 => (if t297 = true then ((laws_eqInt64S.f k bt289.2.1 bt272.2.1).bind fun t298 => (if t298 = true then (if bt289.2.2.1 = bt272.2.2.1 then (laws_FnExactDecodeBlocks.j0 k a1 a2 bt272.1 bt272.2.1 bt272.2.2.1 bt272.2.2.2 bt289.1 bt289.2.1 bt289.2.2.1 bt289.2.2.2 (bt289.2.2.2 != bt272.2.2.2) a0_0 a0_1 l0_2 l0_3 bt280.1 bt280.2.1 bt280.2.2.1 bt280.2.2.2) else (laws_FnExactDecodeBlocks.j0 k a1 a2 bt272.1 bt272.2.1 bt272.2.2.1 bt272.2.2.2 bt289.1 bt289.2.1 bt289.2.2.1 bt289.2.2.2 true a0_0 a0_1 l0_2 l0_3 bt280.1 bt280.2.1 bt280.2.2.1 bt280.2.2.2)) else (laws_FnExactDecodeBlocks.j0 k a1 a2 bt272.1 bt272.2.1 bt272.2.2.1 bt272.2.2.2 bt289.1 bt289.2.1 bt289.2.2.1 bt289.2.2.2 true a0_0 a0_1 l0_2 l0_3 bt280.1 bt280.2.1 bt280.2.2.1 bt280.2.2.2))) else (laws_FnExactDecodeBlocks.j0 k a1 a2 bt272.1 bt272.2.1 bt272.2.2.1 bt272.2.2.2 bt289.1 bt289.2.1 bt289.2.2.1 bt289.2.2.2 true a0_0 a0_1 l0_2 l0_3 bt280.1 bt280.2.1 bt280.2.2.1 bt280.2.2.2)))))))) = some r := H
  have A6 := Aside0.mk A60
  clear A60
  by_cases c7 : t263 < 0
  ·rw [if_pos c7] at H
   have c7b0 : decide (t263 < 0) = true := decide_eq_true c7
   clear c7
   obtain rfl := Option.some.inj H
   go_enter Tryd.func8,Tryd.ntmps8
   go_wp2_with (first | ((with_reducible refine gate_dst (N := 3) rfl ?_); refine box_event ?hg (N := 3) ?hd (cs := #[.int .i64 a0_0,.int .i64 a0_1,.slice A0_2 l0_2.length c0_2,.slice A0_3 l0_3.length c0_3]) (t := 27) ?hr ?_; (case hd => rfl); (case hg => rfl); (case hr => first | (go_simp; done) | (go_simp; rfl)); intro gb262 hg w8 hbox hb; have n0_ := Aside0.mk (below_step (by repeat (first | (with_reducible first | exact HB.out | apply below_alloc | apply pw_below_drewN | apply below_drew1) | exact HB.out)) hb); have n1_ := Aside0.mk (hbox); have n2_ := Aside0.mk ((by rw [hg]; exact (below_size (by repeat (first | (with_reducible first | exact HB.out | apply below_alloc | apply pw_below_drewN | apply below_drew1) | exact HB.out))) : w.heap.size ≤ gb262)); have n3_ := Aside0.mk ((by rw [hg]; exact (below_size (by repeat (first | (with_reducible first | exact HB.out | apply below_alloc | apply pw_below_drewN | apply below_drew1) | exact HB.out))) : w.heap.size ≤ gb262)); clear HB; have HB := n0_; have BK262 := n1_; have GW262 := n2_; have GE262 := n3_; clear n0_ n1_ n2_ n3_; clear hb hbox hg; have hcz9_0 : w8.cell? ⟨gb262,0,none⟩ = some (.int .i64 a0_0) := (blk_cell BK262.out 0).trans rfl; have hcz9_1 : w8.cell? ⟨gb262,1,none⟩ = some (.int .i64 a0_1) := (blk_cell BK262.out 1).trans rfl; have hcz9_2 : w8.cell? ⟨gb262,2,none⟩ = some (.slice A0_2 l0_2.length c0_2) := (blk_cell BK262.out 2).trans rfl; have hcz9_3 : w8.cell? ⟨gb262,3,none⟩ = some (.slice A0_3 l0_3.length c0_3) := (blk_cell BK262.out 3).trans rfl; have hfz9_0 := blk_frozen BK262.out 0; have hfz9_1 := blk_frozen BK262.out 1; have hfz9_2 := blk_frozen BK262.out 2; have hfz9_3 := blk_frozen BK262.out 3) | ((with_reducible refine gate_callee (f := 14) rfl ?_); refine goesL_ (some 29) rfl rfl Tryd.func14 (by kernel_rfl) rfl #[.agg #[.int .i64 a0_0,.int .i64 a0_1,.slice A0_2 l0_2.length c0_2,.slice A0_3 l0_3.length c0_3],.int .i64 1048576] rfl (by (try simp only [List.map_toArray,List.map_cons,List.map_nil]); first | done | rfl | (simp only [List.length_drop,List.length_take]; rfl)) ?_; (with_reducible refine (laws_szBlockCode.calls k a0_0 a0_1 _ _ l0_2 _ _ l0_3 1048576 t263 _ ?side1 ?side2 ?side3 ?side4 A6.out).mono ?_); (case side1 => repeat (first | exact (Kd.C_below HR0_2.out HB.out) | (with_reducible refine Kd.C_alloc ?_ _) | (with_reducible refine Kd.C_drewN ?_ _) | (with_reducible refine Kd.C_drew ?_))); (case side2 => exact HC0_2.out); (case side3 => repeat (first | exact (Kd.C_below HR0_3.out HB.out) | (with_reducible refine Kd.C_alloc ?_ _) | (with_reducible refine Kd.C_drewN ?_ _) | (with_reducible refine Kd.C_drew ?_))); (case side4 => exact HC0_3.out); rintro e w10 ⟨rfl,hb⟩; refine ⟨_,rfl,?_⟩; have n0_ := Aside0.mk (blk_below (g := gb262) (o := .cells #[.int .i64 a0_0,.int .i64 a0_1,.slice A0_2 l0_2.length c0_2,.slice A0_3 l0_3.length c0_3] 27 (0,0)) (by (with_reducible repeat (first | refine blk_drewN ?_ _ | refine blk_drew ?_ | refine blk_alloc ?_ _)); exact BK262.out) hb); have n1_ := Aside0.mk (below_step (by repeat (first | (with_reducible first | exact HB.out | apply below_alloc | apply pw_below_drewN | apply below_drew1 | refine below_set ?_ GE262.out) | exact HB.out)) hb); clear BK262; clear HB; have BK262 := n0_; have HB := n1_; clear n0_ n1_; (try clear hb); (try clear hb2); (try clear hk); (try clear hi)))
   go_ret
   exact ⟨by first | rfl | (simp [errW_none,errW_some] <;> rfl) | (simp [*,errW_none,errW_some] <;> rfl),by repeat (first | (with_reducible first | exact HB.out | apply below_alloc | apply pw_below_drewN | apply below_drew1 | refine below_set ?_ GE262.out) | exact HB.out)⟩
  ·rw [if_neg c7] at H
   have c7b0 : decide (t263 < 0) = false := decide_eq_false c7
   clear c7
   replace H := Option.bind_eq_some_iff.mp H
   obtain ⟨⟨t264,t265,t266,t269⟩,A110,H⟩ := H
   replace H : ((spec_DecodeBlocks.f k t264 t265 t266 t269 a1 a2).bind fun bt272 => ((laws_toBlockCode.f k a0_0 a0_1 l0_2 l0_3).bind fun bt280 => ((impl_DecodeBlocks.f k bt280.1 bt280.2.1 bt280.2.2.1 bt280.2.2.2 a1 a2).bind fun bt289 => ((laws_eqInt64S.f k bt289.1 bt272.1).bind fun t297 => (if t297 = true then ((laws_eqInt64S.f k bt289.2.1 bt272.2.1).bind fun t298 => (if t298 = true then (if bt289.2.2.1 = bt272.2.2.1 then (laws_FnExactDecodeBlocks.j0 k a1 a2 bt272.1 bt272.2.1 bt272.2.2.1 bt272.2.2.2 bt289.1 bt289.2.1 bt289.2.2.1 bt289.2.2.2 (bt289.2.2.2 != bt272.2.2.2) a0_0 a0_1 l0_2 l0_3 bt280.1 bt280.2.1 bt280.2.2.1 bt280.2.2.2) else (laws_FnExactDecodeBlocks.j0 k a1 a2 bt272.1 bt272.2.1 bt272.2.2.1 bt272.2.2.2 bt289.1 bt289.2.1 bt289.2.2.1 bt289.2.2.2 true a0_0 a0_1 l0_2 l0_3 bt280.1 bt280.2.1 bt280.2.2.1 bt280.2.2.2)) else (laws_FnExactDecodeBlocks.j0 k a1 a2 bt272.1 bt272.2.1 bt272.2.2.1 bt272.2.2.2 bt289.1 bt289.2.1 bt289.2.2.1 bt289.2.2.2 true a0_0 a0_1 l0_2 l0_3 bt280.1 bt280.2.1 bt280.2.2.1 bt280.2.2.2))) else (laws_FnExactDecodeBlocks.j0 k a1 a2 bt272.1 bt272.2.1 bt272.2.2.1 bt272.2.2.2 bt289.1 bt289.2.1 bt289.2.2.1 bt289.2.2.2 true a0_0 a0_1 l0_2 l0_3 bt280.1 bt280.2.1 bt280.2.2.1 bt280.2.2.2)))))) = some r := H
   have A11 := Aside0.mk A110
   clear A110
   replace H := Option.bind_eq_some_iff.mp H
   obtain ⟨⟨t272,t275,t278,t279⟩,A120,H⟩ := H
   replace H : ((laws_toBlockCode.f k a0_0 a0_1 l0_2 l0_3).bind fun bt280 => ((impl_DecodeBlocks.f k bt280.1 bt280.2.1 bt280.2.2.1 bt280.2.2.2 a1 a2).bind fun bt289 => ((laws_eqInt64S.f k bt289.1 t272).bind fun t297 => (if t297 = true then ((laws_eqInt64S.f k bt289.2.1 t275).bind fun t298 => (if t298 = true then (if bt289.2.2.1 = t278 then (laws_FnExactDecodeBlocks.j0 k a1 a2 t272 t275 t278 t279 bt289.1 bt289.2.1 bt289.2.2.1 bt289.2.2.2 (bt289.2.2.2 != t279) a0_0 a0_1 l0_2 l0_3 bt280.1 bt280.2.1 bt280.2.2.1 bt280.2.2.2) else (laws_FnExactDecodeBlocks.j0 k a1 a2 t272 t275 t278 t279 bt289.1 bt289.2.1 bt289.2.2.1 bt289.2.2.2 true a0_0 a0_1 l0_2 l0_3 bt280.1 bt280.2.1 bt280.2.2.1 bt280.2.2.2)) else (laws_FnExactDecodeBlocks.j0 k a1 a2 t272 t275 t278 t279 bt289.1 bt289.2.1 bt289.2.2.1 bt289.2.2.2 true a0_0 a0_1 l0_2 l0_3 bt280.1 bt280.2.1 bt280.2.2.1 bt280.2.2.2))) else (laws_FnExactDecodeBlocks.j0 k a1 a2 t272 t275 t278 t279 bt289.1 bt289.2.1 bt289.2.2.1 bt289.2.2.2 true a0_0 a0_1 l0_2 l0_3 bt280.1 bt280.2.1 bt280.2.2.1 bt280.2.2.2))))) = some r := H
   have A12 := Aside0.mk A120
   clear A120
   replace H := Option.bind_eq_some_iff.mp H
   obtain ⟨⟨t280,t281,t282,t285⟩,A130,H⟩ := H
   replace H : ((impl_DecodeBlocks.f k t280 t281 t282 t285 a1 a2).bind fun bt289 => ((laws_eqInt64S.f k bt289.1 t272).bind fun t297 => (if t297 = true then ((laws_eqInt64S.f k bt289.2.1 t275).bind fun t298 => (if t298 = true then (if bt289.2.2.1 = t278 then (laws_FnExactDecodeBlocks.j0 k a1 a2 t272 t275 t278 t279 bt289.1 bt289.2.1 bt289.2.2.1 bt289.2.2.2 (bt289.2.2.2 != t279) a0_0 a0_1 l0_2 l0_3 t280 t281 t282 t285) else (laws_FnExactDecodeBlocks.j0 k a1 a2 t272 t275 t278 t279 bt289.1 bt289.2.1 bt289.2.2.1 bt289.2.2.2 true a0_0 a0_1 l0_2 l0_3 t280 t281 t282 t285)) else (laws_FnExactDecodeBlocks.j0 k a1 a2 t272 t275 t278 t279 bt289.1 bt289.2.1 bt289.2.2.1 bt289.2.2.2 true a0_0 a0_1 l0_2 l0_3 t280 t281 t282 t285))) else (laws_FnExactDecodeBlocks.j0 k a1 a2 t272 t275 t278 t279 bt289.1 bt289.2.1 bt289.2.2.1 bt289.2.2.2 true a0_0 a0_1 l0_2 l0_3 t280 t281 t282 t285)))) = some r := H
   have A13 := Aside0.mk A130
   clear A130
   replace H := Option.bind_eq_some_iff.mp H
   obtain ⟨⟨t289,t292,t295,t296⟩,A140,H⟩ := H
   replace H : ((laws_eqInt64S.f k t289 t272).bind fun t297 => (if t297 = true then ((laws_eqInt64S.f k t292 t275).bind fun t298 => (if t298 = true then (if t295 = t278 then (laws_FnExactDecodeBlocks.j0 k a1 a2 t272 t275 t278 t279 t289 t292 t295 t296 (t296 != t279) a0_0 a0_1 l0_2 l0_3 t280 t281 t282 t285) else (laws_FnExactDecodeBlocks.j0 k a1 a2 t272 t275 t278 t279 t289 t292 t295 t296 true a0_0 a0_1 l0_2 l0_3 t280 t281 t282 t285)) else (laws_FnExactDecodeBlocks.j0 k a1 a2 t272 t275 t278 t279 t289 t292 t295 t296 true a0_0 a0_1 l0_2 l0_3 t280 t281 t282 t285))) else (laws_FnExactDecodeBlocks.j0 k a1 a2 t272 t275 t278 t279 t289 t292 t295 t296 true a0_0 a0_1 l0_2 l0_3 t280 t281 t282 t285))) = some r := H
   have A14 := Aside0.mk A140
   clear A140
   have HC15 := Aside0.mk H
   clear H
   go_enter Tryd.func8,Tryd.ntmps8
   go_upto_region 10 with (first | ((with_reducible refine gate_dst (N := 3) rfl ?_); refine box_event ?hg (N := 3) ?hd (cs := #[.int .i64 a0_0,.int .i64 a0_1,.slice A0_2 l0_2.length c0_2,.slice A0_3 l0_3.length c0_3]) (t := 27) ?hr ?_; (case hd => rfl); (case hg => rfl); (case hr => first | (go_simp; done) | (go_simp; rfl)); intro gb262 hg w16 hbox hb; have n0_ := Aside0.mk (below_step (by repeat (first | (with_reducible first | exact HB.out | apply below_alloc | apply pw_below_drewN | apply below_drew1) | exact HB.out)) hb); have n1_ := Aside0.mk (hbox); have n2_ := Aside0.mk ((by rw [hg]; exact (below_size (by repeat (first | (with_reducible first | exact HB.out | apply below_alloc | apply pw_below_drewN | apply below_drew1) | exact HB.out))) : w.heap.size ≤ gb262)); have n3_ := Aside0.mk ((by rw [hg]; exact (below_size (by repeat (first | (with_reducible first | exact HB.out | apply below_alloc | apply pw_below_drewN | apply below_drew1) | exact HB.out))) : w.heap.size ≤ gb262)); clear HB; have HB := n0_; have BK262 := n1_; have GW262 := n2_; have GE262 := n3_; clear n0_ n1_ n2_ n3_; clear hb hbox hg; have hcz17_0 : w16.cell? ⟨gb262,0,none⟩ = some (.int .i64 a0_0) := (blk_cell BK262.out 0).trans rfl; have hcz17_1 : w16.cell? ⟨gb262,1,none⟩ = some (.int .i64 a0_1) := (blk_cell BK262.out 1).trans rfl; have hcz17_2 : w16.cell? ⟨gb262,2,none⟩ = some (.slice A0_2 l0_2.length c0_2) := (blk_cell BK262.out 2).trans rfl; have hcz17_3 : w16.cell? ⟨gb262,3,none⟩ = some (.slice A0_3 l0_3.length c0_3) := (blk_cell BK262.out 3).trans rfl; have hfz17_0 := blk_frozen BK262.out 0; have hfz17_1 := blk_frozen BK262.out 1; have hfz17_2 := blk_frozen BK262.out 2; have hfz17_3 := blk_frozen BK262.out 3) | ((with_reducible refine gate_callee (f := 14) rfl ?_); refine goesL_ (some 29) rfl rfl Tryd.func14 (by kernel_rfl) rfl #[.agg #[.int .i64 a0_0,.int .i64 a0_1,.slice A0_2 l0_2.length c0_2,.slice A0_3 l0_3.length c0_3],.int .i64 1048576] rfl (by (try simp only [List.map_toArray,List.map_cons,List.map_nil]); first | done | rfl | (simp only [List.length_drop,List.length_take]; rfl)) ?_; (with_reducible refine (laws_szBlockCode.calls k a0_0 a0_1 _ _ l0_2 _ _ l0_3 1048576 t263 _ ?side1 ?side2 ?side3 ?side4 A6.out).mono ?_); (case side1 => repeat (first | exact (Kd.C_below HR0_2.out HB.out) | (with_reducible refine Kd.C_alloc ?_ _) | (with_reducible refine Kd.C_drewN ?_ _) | (with_reducible refine Kd.C_drew ?_))); (case side2 => exact HC0_2.out); (case side3 => repeat (first | exact (Kd.C_below HR0_3.out HB.out) | (with_reducible refine Kd.C_alloc ?_ _) | (with_reducible refine Kd.C_drewN ?_ _) | (with_reducible refine Kd.C_drew ?_))); (case side4 => exact HC0_3.out); rintro e w18 ⟨rfl,hb⟩; refine ⟨_,rfl,?_⟩; have n0_ := Aside0.mk (blk_below (g := gb262) (o := .cells #[.int .i64 a0_0,.int .i64 a0_1,.slice A0_2 l0_2.length c0_2,.slice A0_3 l0_3.length c0_3] 27 (0,0)) (by (with_reducible repeat (first | refine blk_drewN ?_ _ | refine blk_drew ?_ | refine blk_alloc ?_ _)); exact BK262.out) hb); have n1_ := Aside0.mk (below_step (by repeat (first | (with_reducible first | exact HB.out | apply below_alloc | apply pw_below_drewN | apply below_drew1 | refine below_set ?_ GE262.out) | exact HB.out)) hb); clear BK262; clear HB; have BK262 := n0_; have HB := n1_; clear n0_ n1_; (try clear hb); (try clear hb2); (try clear hk); (try clear hi); have hcz19_0 : w18.cell? ⟨gb262,0,none⟩ = some (.int .i64 a0_0) := (blk_cell BK262.out 0).trans rfl; have hcz19_1 : w18.cell? ⟨gb262,1,none⟩ = some (.int .i64 a0_1) := (blk_cell BK262.out 1).trans rfl; have hcz19_2 : w18.cell? ⟨gb262,2,none⟩ = some (.slice A0_2 l0_2.length c0_2) := (blk_cell BK262.out 2).trans rfl; have hcz19_3 : w18.cell? ⟨gb262,3,none⟩ = some (.slice A0_3 l0_3.length c0_3) := (blk_cell BK262.out 3).trans rfl; have hfz19_0 := blk_frozen BK262.out 0; have hfz19_1 := blk_frozen BK262.out 1; have hfz19_2 := blk_frozen BK262.out 2; have hfz19_3 := blk_frozen BK262.out 3) | ((with_reducible refine gate_callee (f := 16) rfl ?_); refine goesL_ (some 34) rfl rfl Tryd.func16 (by kernel_rfl) rfl #[.agg #[.int .i64 a0_0,.int .i64 a0_1,.slice A0_2 l0_2.length c0_2,.slice A0_3 l0_3.length c0_3]] rfl (by (try simp only [List.map_toArray,List.map_cons,List.map_nil]); first | done | rfl | (simp only [List.length_drop,List.length_take]; rfl)) ?_; (with_reducible refine (laws_toBlockCode.calls k a0_0 a0_1 _ _ l0_2 _ _ l0_3 t264 t265 t266 t269 _ ?side1 ?side2 ?side3 ?side4 A11.out).mono ?_); (case side1 => repeat (first | exact (Kd.C_below HR0_2.out HB.out) | (with_reducible refine Kd.C_alloc ?_ _) | (with_reducible refine Kd.C_drewN ?_ _) | (with_reducible refine Kd.C_drew ?_))); (case side2 => exact HC0_2.out); (case side3 => repeat (first | exact (Kd.C_below HR0_3.out HB.out) | (with_reducible refine Kd.C_alloc ?_ _) | (with_reducible refine Kd.C_drewN ?_ _) | (with_reducible refine Kd.C_drew ?_))); (case side4 => exact HC0_3.out); rintro e w20 ⟨v267,v270,rfl,ho0,ho1,hb⟩; refine ⟨_,rfl,?_⟩; have n0_ := Aside0.mk (Kd.R_lower ho0 (below_size (by repeat (first | (with_reducible first | exact HB.out | apply below_alloc | apply pw_below_drewN | apply below_drew1 | refine below_set ?_ GE262.out) | exact HB.out)))); have n1_ := Aside0.mk (Kd.R_lower ho1 (below_size (by repeat (first | (with_reducible first | exact HB.out | apply below_alloc | apply pw_below_drewN | apply below_drew1 | refine below_set ?_ GE262.out) | exact HB.out)))); have n2_ := Aside0.mk (blk_below (g := gb262) (o := .cells #[.int .i64 a0_0,.int .i64 a0_1,.slice A0_2 l0_2.length c0_2,.slice A0_3 l0_3.length c0_3] 27 (0,0)) (by (with_reducible repeat (first | refine blk_drewN ?_ _ | refine blk_drew ?_ | refine blk_alloc ?_ _)); exact BK262.out) hb); have n3_ := Aside0.mk (below_step (by repeat (first | (with_reducible first | exact HB.out | apply below_alloc | apply pw_below_drewN | apply below_drew1 | refine below_set ?_ GE262.out) | exact HB.out)) hb); clear BK262; clear HB; have HO268 := n0_; have HO271 := n1_; have BK262 := n2_; have HB := n3_; clear n0_ n1_ n2_ n3_; (try clear hb); (try clear hb2); (try clear hk); (try clear hi); (try clear ho0); (try clear ho1); obtain ⟨Ao21,co21,eo21⟩ := Kd.R_slice HO268.out; subst eo21; obtain ⟨Ao22,co22,eo22⟩ := Kd.R_slice HO271.out; subst eo22) | ((with_reducible refine gate_callee (f := 27) rfl ?_); refine goesL_ (some 37) rfl rfl Tryd.func27 (by kernel_rfl) rfl #[.agg #[.int .i64 t264,.int .i64 t265,.slice Ao21 t266.length co21,.slice Ao22 t269.length co22],.int .i64 a1,.string a2] rfl (by (try simp only [List.map_toArray,List.map_cons,List.map_nil]); first | done | rfl | (simp only [List.length_drop,List.length_take]; rfl)) ?_; (with_reducible refine (spec_DecodeBlocks.calls k t264 t265 _ _ t266 _ _ t269 a1 a2 t272 t275 t278 t279 _ ?side1 ?side2 ?side3 ?side4 A12.out).mono ?_); (case side1 => repeat (first | exact (Kd.R_reads' HO268.out).2.2 | (with_reducible refine Kd.C_alloc ?_ _) | (with_reducible refine Kd.C_drewN ?_ _) | (with_reducible refine Kd.C_drew ?_))); (case side2 => exact (Kd.R_reads' HO268.out).2.1); (case side3 => repeat (first | exact (Kd.R_reads' HO271.out).2.2 | (with_reducible refine Kd.C_alloc ?_ _) | (with_reducible refine Kd.C_drewN ?_ _) | (with_reducible refine Kd.C_drew ?_))); (case side4 => exact (Kd.R_reads' HO271.out).2.1); rintro e w23 ⟨v273,v276,rfl,ho0,ho1,hb⟩; refine ⟨_,rfl,?_⟩; have n0_ := Aside0.mk (Kd.R_below (by (with_reducible repeat (first | apply Kd.R_alloc | apply Kd.R_drewN | apply Kd.R_drew)); exact HO268.out) hb); have n1_ := Aside0.mk (Kd.R_below (by (with_reducible repeat (first | apply Kd.R_alloc | apply Kd.R_drewN | apply Kd.R_drew)); exact HO271.out) hb); have n2_ := Aside0.mk (Kd.R_lower ho0 (below_size (by repeat (first | (with_reducible first | exact HB.out | apply below_alloc | apply pw_below_drewN | apply below_drew1 | refine below_set ?_ GE262.out) | exact HB.out)))); have n3_ := Aside0.mk (Kd.R_lower ho1 (below_size (by repeat (first | (with_reducible first | exact HB.out | apply below_alloc | apply pw_below_drewN | apply below_drew1 | refine below_set ?_ GE262.out) | exact HB.out)))); have n4_ := Aside0.mk (blk_below (g := gb262) (o := .cells #[.int .i64 a0_0,.int .i64 a0_1,.slice A0_2 l0_2.length c0_2,.slice A0_3 l0_3.length c0_3] 27 (0,0)) (by (with_reducible repeat (first | refine blk_drewN ?_ _ | refine blk_drew ?_ | refine blk_alloc ?_ _)); exact BK262.out) hb); have n5_ := Aside0.mk (below_step (by repeat (first | (with_reducible first | exact HB.out | apply below_alloc | apply pw_below_drewN | apply below_drew1 | refine below_set ?_ GE262.out) | exact HB.out)) hb); clear HO268; clear HO271; clear BK262; clear HB; have HO268 := n0_; have HO271 := n1_; have HO274 := n2_; have HO277 := n3_; have BK262 := n4_; have HB := n5_; clear n0_ n1_ n2_ n3_ n4_ n5_; (try clear hb); (try clear hb2); (try clear hk); (try clear hi); (try clear ho0); (try clear ho1); have hcz24_0 : w23.cell? ⟨gb262,0,none⟩ = some (.int .i64 a0_0) := (blk_cell BK262.out 0).trans rfl; have hcz24_1 : w23.cell? ⟨gb262,1,none⟩ = some (.int .i64 a0_1) := (blk_cell BK262.out 1).trans rfl; have hcz24_2 : w23.cell? ⟨gb262,2,none⟩ = some (.slice A0_2 l0_2.length c0_2) := (blk_cell BK262.out 2).trans rfl; have hcz24_3 : w23.cell? ⟨gb262,3,none⟩ = some (.slice A0_3 l0_3.length c0_3) := (blk_cell BK262.out 3).trans rfl; have hfz24_0 := blk_frozen BK262.out 0; have hfz24_1 := blk_frozen BK262.out 1; have hfz24_2 := blk_frozen BK262.out 2; have hfz24_3 := blk_frozen BK262.out 3) | ((with_reducible refine gate_callee (f := 16) rfl ?_); refine goesL_ (some 43) rfl rfl Tryd.func16 (by kernel_rfl) rfl #[.agg #[.int .i64 a0_0,.int .i64 a0_1,.slice A0_2 l0_2.length c0_2,.slice A0_3 l0_3.length c0_3]] rfl (by (try simp only [List.map_toArray,List.map_cons,List.map_nil]); first | done | rfl | (simp only [List.length_drop,List.length_take]; rfl)) ?_; (with_reducible refine (laws_toBlockCode.calls k a0_0 a0_1 _ _ l0_2 _ _ l0_3 t280 t281 t282 t285 _ ?side1 ?side2 ?side3 ?side4 A13.out).mono ?_); (case side1 => repeat (first | exact (Kd.C_below HR0_2.out HB.out) | (with_reducible refine Kd.C_alloc ?_ _) | (with_reducible refine Kd.C_drewN ?_ _) | (with_reducible refine Kd.C_drew ?_))); (case side2 => exact HC0_2.out); (case side3 => repeat (first | exact (Kd.C_below HR0_3.out HB.out) | (with_reducible refine Kd.C_alloc ?_ _) | (with_reducible refine Kd.C_drewN ?_ _) | (with_reducible refine Kd.C_drew ?_))); (case side4 => exact HC0_3.out); rintro e w25 ⟨v283,v286,rfl,ho0,ho1,hb⟩; refine ⟨_,rfl,?_⟩; have n0_ := Aside0.mk (Kd.R_mono (Kd.R_told (Kd.R_told (Kd.R_old (by (with_reducible repeat (first | apply Kd.R_alloc | apply Kd.R_drewN | apply Kd.R_drew)); exact HO268.out) hb) (Kd.R_base ho0)) (Kd.R_base ho1)) (fun _ h_ => h_.1)); have n1_ := Aside0.mk (Kd.R_mono (Kd.R_told (Kd.R_told (Kd.R_old (by (with_reducible repeat (first | apply Kd.R_alloc | apply Kd.R_drewN | apply Kd.R_drew)); exact HO271.out) hb) (Kd.R_base ho0)) (Kd.R_base ho1)) (fun _ h_ => h_.1)); have n2_ := Aside0.mk (Kd.R_below (by (with_reducible repeat (first | apply Kd.R_alloc | apply Kd.R_drewN | apply Kd.R_drew)); exact HO274.out) hb); have n3_ := Aside0.mk (Kd.R_below (by (with_reducible repeat (first | apply Kd.R_alloc | apply Kd.R_drewN | apply Kd.R_drew)); exact HO277.out) hb); have n4_ := Aside0.mk (Kd.R_lower (Kd.R_new' (Kd.R_new' ho0 (Kd.R_lt (by (with_reducible repeat (first | apply Kd.R_alloc | apply Kd.R_drewN | apply Kd.R_drew)); exact HO268.out))) (Kd.R_lt (by (with_reducible repeat (first | apply Kd.R_alloc | apply Kd.R_drewN | apply Kd.R_drew)); exact HO271.out))) (below_size (by repeat (first | (with_reducible first | exact HB.out | apply below_alloc | apply pw_below_drewN | apply below_drew1 | refine below_set ?_ GE262.out) | exact HB.out)))); have n5_ := Aside0.mk (Kd.R_lower (Kd.R_new' (Kd.R_new' ho1 (Kd.R_lt (by (with_reducible repeat (first | apply Kd.R_alloc | apply Kd.R_drewN | apply Kd.R_drew)); exact HO268.out))) (Kd.R_lt (by (with_reducible repeat (first | apply Kd.R_alloc | apply Kd.R_drewN | apply Kd.R_drew)); exact HO271.out))) (below_size (by repeat (first | (with_reducible first | exact HB.out | apply below_alloc | apply pw_below_drewN | apply below_drew1 | refine below_set ?_ GE262.out) | exact HB.out)))); have n6_ := Aside0.mk (blk_below (g := gb262) (o := .cells #[.int .i64 a0_0,.int .i64 a0_1,.slice A0_2 l0_2.length c0_2,.slice A0_3 l0_3.length c0_3] 27 (0,0)) (by (with_reducible repeat (first | refine blk_drewN ?_ _ | refine blk_drew ?_ | refine blk_alloc ?_ _)); exact BK262.out) hb); have n7_ := Aside0.mk (below_step (by repeat (first | (with_reducible first | exact HB.out | apply below_alloc | apply pw_below_drewN | apply below_drew1 | refine below_set ?_ GE262.out) | exact HB.out)) hb); clear HO268; clear HO271; clear HO274; clear HO277; clear BK262; clear HB; have HO268 := n0_; have HO271 := n1_; have HO274 := n2_; have HO277 := n3_; have HO284 := n4_; have HO287 := n5_; have BK262 := n6_; have HB := n7_; clear n0_ n1_ n2_ n3_ n4_ n5_ n6_ n7_; (try clear hb); (try clear hb2); (try clear hk); (try clear hi); (try clear ho0); (try clear ho1)) | ((with_reducible refine gate_dst (N := 12) rfl ?_); refine box_event ?hg (N := 12) ?hd (cs := #[.int .i64 0,.int .i64 0,.slice none 0 0,.slice none 0 0]) (t := 30) ?hr ?_; (case hd => rfl); (case hg => rfl); (case hr => first | (go_simp; done) | (go_simp; rfl)); intro gb288 hg w26 hbox hb; have n0_ := Aside0.mk (Kd.R_below (by (with_reducible repeat (first | apply Kd.R_alloc | apply Kd.R_drewN | apply Kd.R_drew)); exact HO268.out) hb); have n1_ := Aside0.mk (Kd.R_below (by (with_reducible repeat (first | apply Kd.R_alloc | apply Kd.R_drewN | apply Kd.R_drew)); exact HO271.out) hb); have n2_ := Aside0.mk (Kd.R_below (by (with_reducible repeat (first | apply Kd.R_alloc | apply Kd.R_drewN | apply Kd.R_drew)); exact HO274.out) hb); have n3_ := Aside0.mk (Kd.R_below (by (with_reducible repeat (first | apply Kd.R_alloc | apply Kd.R_drewN | apply Kd.R_drew)); exact HO277.out) hb); have n4_ := Aside0.mk (Kd.R_below (by (with_reducible repeat (first | apply Kd.R_alloc | apply Kd.R_drewN | apply Kd.R_drew)); exact HO284.out) hb); have n5_ := Aside0.mk (Kd.R_below (by (with_reducible repeat (first | apply Kd.R_alloc | apply Kd.R_drewN | apply Kd.R_drew)); exact HO287.out) hb); have n6_ := Aside0.mk (blk_below (g := gb262) (o := .cells #[.int .i64 a0_0,.int .i64 a0_1,.slice A0_2 l0_2.length c0_2,.slice A0_3 l0_3.length c0_3] 27 (0,0)) (by (with_reducible repeat (first | refine blk_drewN ?_ _ | refine blk_drew ?_ | refine blk_alloc ?_ _)); exact BK262.out) hb); have n7_ := Aside0.mk (below_step (by repeat (first | (with_reducible first | exact HB.out | apply below_alloc | apply pw_below_drewN | apply below_drew1 | refine below_set ?_ GE262.out) | exact HB.out)) hb); have n8_ := Aside0.mk (hbox); have n9_ := Aside0.mk ((by rw [hg]; exact (below_size (by repeat (first | (with_reducible first | exact HB.out | apply below_alloc | apply pw_below_drewN | apply below_drew1 | refine below_set ?_ GE262.out) | exact HB.out))) : w.heap.size ≤ gb288)); have n10_ := Aside0.mk ((by rw [hg]; exact (below_size (by repeat (first | (with_reducible first | exact HB.out | apply below_alloc | apply pw_below_drewN | apply below_drew1 | refine below_set ?_ GE262.out) | exact HB.out))) : w.heap.size ≤ gb288)); have n11_ := Aside0.mk ((by rw [hg]; exact Nat.ne_of_lt (blk_lt (g := gb262) (o := .cells #[.int .i64 a0_0,.int .i64 a0_1,.slice A0_2 l0_2.length c0_2,.slice A0_3 l0_3.length c0_3] 27 (0,0)) (by (with_reducible repeat (first | refine blk_drewN ?_ _ | refine blk_drew ?_ | refine blk_alloc ?_ _)); exact BK262.out)) : gb262 ≠ gb288)); have n12_ := Aside0.mk ((by rw [hg]; exact Nat.ne_of_gt (blk_lt (g := gb262) (o := .cells #[.int .i64 a0_0,.int .i64 a0_1,.slice A0_2 l0_2.length c0_2,.slice A0_3 l0_3.length c0_3] 27 (0,0)) (by (with_reducible repeat (first | refine blk_drewN ?_ _ | refine blk_drew ?_ | refine blk_alloc ?_ _)); exact BK262.out)) : gb288 ≠ gb262)); clear HO268; clear HO271; clear HO274; clear HO277; clear HO284; clear HO287; clear BK262; clear HB; have HO268 := n0_; have HO271 := n1_; have HO274 := n2_; have HO277 := n3_; have HO284 := n4_; have HO287 := n5_; have BK262 := n6_; have HB := n7_; have BK288 := n8_; have GW288 := n9_; have GE288 := n10_; have NB262_288 := n11_; have NB288_262 := n12_; clear n0_ n1_ n2_ n3_ n4_ n5_ n6_ n7_ n8_ n9_ n10_ n11_ n12_; clear hb hbox hg; have hnb27 := NB288_262.out; have hnc27 := NB262_288.out; have hcz28_0 : w26.cell? ⟨gb288,0,none⟩ = some (.int .i64 0) := (blk_cell BK288.out 0).trans rfl; have hcz28_1 : w26.cell? ⟨gb288,1,none⟩ = some (.int .i64 0) := (blk_cell BK288.out 1).trans rfl; have hcz28_2 : w26.cell? ⟨gb288,2,none⟩ = some (.slice none 0 0) := (blk_cell BK288.out 2).trans rfl; have hcz28_3 : w26.cell? ⟨gb288,3,none⟩ = some (.slice none 0 0) := (blk_cell BK288.out 3).trans rfl; have hfz28_0 := blk_frozen BK288.out 0; have hfz28_1 := blk_frozen BK288.out 1; have hfz28_2 := blk_frozen BK288.out 2; have hfz28_3 := blk_frozen BK288.out 3; obtain ⟨Ao29,co29,eo29⟩ := Kd.R_slice HO284.out; subst eo29; obtain ⟨Ao30,co30,eo30⟩ := Kd.R_slice HO287.out; subst eo30) | ((with_reducible refine gate_callee (f := 28) rfl ?_); refine goesL_ (some 48) rfl rfl Tryd.func28 (by kernel_rfl) rfl #[.agg #[.int .i64 t280,.int .i64 t281,.slice Ao29 t282.length co29,.slice Ao30 t285.length co30],.int .i64 a1,.string a2] rfl (by (try simp only [List.map_toArray,List.map_cons,List.map_nil]); first | done | rfl | (simp only [List.length_drop,List.length_take]; rfl)) ?_; (with_reducible refine (impl_DecodeBlocks.calls k t280 t281 _ _ t282 _ _ t285 a1 a2 t289 t292 t295 t296 _ ?side1 ?side2 ?side3 ?side4 A14.out).mono ?_); (case side1 => refine (Kd.R_reads' (e := 9) (base := w.heap.size) (ok := fun k_ => ((some k_ ≠ (.slice Ao30 t285.length co30 : Value).ownBlock ∧ some k_ ≠ (.slice Ao21 t266.length co21 : Value).ownBlock) ∧ some k_ ≠ (.slice Ao22 t269.length co22 : Value).ownBlock)) (n := t282.length) (c := co29) ?_).2.2; exact (by (with_reducible repeat (first | apply Kd.R_alloc | apply Kd.R_drewN | apply Kd.R_drew)); exact (Kd.R_mono (Kd.R_far (p := ⟨gb288,3,none⟩) (Kd.R_far (p := ⟨gb288,2,none⟩) (Kd.R_far (p := ⟨gb288,1,none⟩) (Kd.R_far (p := ⟨gb288,0,none⟩) (Kd.R_types HO284.out BK288.out (by decide)) (fun _ hk => hk.2) (.int .i64 t280)) (fun _ hk => hk.2) (.int .i64 t281)) (fun _ hk => hk.2) (.slice Ao29 t282.length co29)) (fun _ hk => hk.2) (.slice Ao30 t285.length co30)) (fun _ h_ => h_.1)))); (case side2 => exact (Kd.R_reads' HO284.out).2.1); (case side3 => refine (Kd.R_reads' (e := 9) (base := w.heap.size) (ok := fun k_ => ((some k_ ≠ (.slice Ao29 t282.length co29 : Value).ownBlock ∧ some k_ ≠ (.slice Ao21 t266.length co21 : Value).ownBlock) ∧ some k_ ≠ (.slice Ao22 t269.length co22 : Value).ownBlock)) (n := t285.length) (c := co30) ?_).2.2; exact (by (with_reducible repeat (first | apply Kd.R_alloc | apply Kd.R_drewN | apply Kd.R_drew)); exact (Kd.R_mono (Kd.R_far (p := ⟨gb288,3,none⟩) (Kd.R_far (p := ⟨gb288,2,none⟩) (Kd.R_far (p := ⟨gb288,1,none⟩) (Kd.R_far (p := ⟨gb288,0,none⟩) (Kd.R_types HO287.out BK288.out (by decide)) (fun _ hk => hk.2) (.int .i64 t280)) (fun _ hk => hk.2) (.int .i64 t281)) (fun _ hk => hk.2) (.slice Ao29 t282.length co29)) (fun _ hk => hk.2) (.slice Ao30 t285.length co30)) (fun _ h_ => h_.1)))); (case side4 => exact (Kd.R_reads' HO287.out).2.1); rintro e w31 ⟨v290,v293,rfl,ho0,ho1,hb⟩; refine ⟨_,rfl,?_⟩; have n0_ := Aside0.mk (Kd.R_below (by (with_reducible repeat (first | apply Kd.R_alloc | apply Kd.R_drewN | apply Kd.R_drew)); exact (Kd.R_mono (Kd.R_far (p := ⟨gb288,3,none⟩) (Kd.R_far (p := ⟨gb288,2,none⟩) (Kd.R_far (p := ⟨gb288,1,none⟩) (Kd.R_far (p := ⟨gb288,0,none⟩) (Kd.R_types HO268.out BK288.out (by decide)) (fun _ hk => hk.2) (.int .i64 t280)) (fun _ hk => hk.2) (.int .i64 t281)) (fun _ hk => hk.2) (.slice Ao29 t282.length co29)) (fun _ hk => hk.2) (.slice Ao30 t285.length co30)) (fun _ h_ => h_.1))) hb); have n1_ := Aside0.mk (Kd.R_below (by (with_reducible repeat (first | apply Kd.R_alloc | apply Kd.R_drewN | apply Kd.R_drew)); exact (Kd.R_mono (Kd.R_far (p := ⟨gb288,3,none⟩) (Kd.R_far (p := ⟨gb288,2,none⟩) (Kd.R_far (p := ⟨gb288,1,none⟩) (Kd.R_far (p := ⟨gb288,0,none⟩) (Kd.R_types HO271.out BK288.out (by decide)) (fun _ hk => hk.2) (.int .i64 t280)) (fun _ hk => hk.2) (.int .i64 t281)) (fun _ hk => hk.2) (.slice Ao29 t282.length co29)) (fun _ hk => hk.2) (.slice Ao30 t285.length co30)) (fun _ h_ => h_.1))) hb); have n2_ := Aside0.mk (Kd.R_mono (Kd.R_told (Kd.R_told (Kd.R_old (by (with_reducible repeat (first | apply Kd.R_alloc | apply Kd.R_drewN | apply Kd.R_drew)); exact (Kd.R_mono (Kd.R_far (p := ⟨gb288,3,none⟩) (Kd.R_far (p := ⟨gb288,2,none⟩) (Kd.R_far (p := ⟨gb288,1,none⟩) (Kd.R_far (p := ⟨gb288,0,none⟩) (Kd.R_types HO274.out BK288.out (by decide)) (fun _ hk => hk.2) (.int .i64 t280)) (fun _ hk => hk.2) (.int .i64 t281)) (fun _ hk => hk.2) (.slice Ao29 t282.length co29)) (fun _ hk => hk.2) (.slice Ao30 t285.length co30)) (fun _ h_ => h_.1))) hb) (Kd.R_base ho0)) (Kd.R_base ho1)) (fun _ h_ => h_.1)); have n3_ := Aside0.mk (Kd.R_mono (Kd.R_told (Kd.R_told (Kd.R_old (by (with_reducible repeat (first | apply Kd.R_alloc | apply Kd.R_drewN | apply Kd.R_drew)); exact (Kd.R_mono (Kd.R_far (p := ⟨gb288,3,none⟩) (Kd.R_far (p := ⟨gb288,2,none⟩) (Kd.R_far (p := ⟨gb288,1,none⟩) (Kd.R_far (p := ⟨gb288,0,none⟩) (Kd.R_types HO277.out BK288.out (by decide)) (fun _ hk => hk.2) (.int .i64 t280)) (fun _ hk => hk.2) (.int .i64 t281)) (fun _ hk => hk.2) (.slice Ao29 t282.length co29)) (fun _ hk => hk.2) (.slice Ao30 t285.length co30)) (fun _ h_ => h_.1))) hb) (Kd.R_base ho0)) (Kd.R_base ho1)) (fun _ h_ => h_.1)); have n4_ := Aside0.mk (Kd.R_below (by (with_reducible repeat (first | apply Kd.R_alloc | apply Kd.R_drewN | apply Kd.R_drew)); exact (Kd.R_mono (Kd.R_far (p := ⟨gb288,3,none⟩) (Kd.R_far (p := ⟨gb288,2,none⟩) (Kd.R_far (p := ⟨gb288,1,none⟩) (Kd.R_far (p := ⟨gb288,0,none⟩) (Kd.R_types HO284.out BK288.out (by decide)) (fun _ hk => hk.2) (.int .i64 t280)) (fun _ hk => hk.2) (.int .i64 t281)) (fun _ hk => hk.2) (.slice Ao29 t282.length co29)) (fun _ hk => hk.2) (.slice Ao30 t285.length co30)) (fun _ h_ => h_.1))) hb); have n5_ := Aside0.mk (Kd.R_below (by (with_reducible repeat (first | apply Kd.R_alloc | apply Kd.R_drewN | apply Kd.R_drew)); exact (Kd.R_mono (Kd.R_far (p := ⟨gb288,3,none⟩) (Kd.R_far (p := ⟨gb288,2,none⟩) (Kd.R_far (p := ⟨gb288,1,none⟩) (Kd.R_far (p := ⟨gb288,0,none⟩) (Kd.R_types HO287.out BK288.out (by decide)) (fun _ hk => hk.2) (.int .i64 t280)) (fun _ hk => hk.2) (.int .i64 t281)) (fun _ hk => hk.2) (.slice Ao29 t282.length co29)) (fun _ hk => hk.2) (.slice Ao30 t285.length co30)) (fun _ h_ => h_.1))) hb); have n6_ := Aside0.mk (Kd.R_lower (Kd.R_new' (Kd.R_new' ho0 (Kd.R_lt (by (with_reducible repeat (first | apply Kd.R_alloc | apply Kd.R_drewN | apply Kd.R_drew)); exact (Kd.R_mono (Kd.R_far (p := ⟨gb288,3,none⟩) (Kd.R_far (p := ⟨gb288,2,none⟩) (Kd.R_far (p := ⟨gb288,1,none⟩) (Kd.R_far (p := ⟨gb288,0,none⟩) (Kd.R_types HO274.out BK288.out (by decide)) (fun _ hk => hk.2) (.int .i64 t280)) (fun _ hk => hk.2) (.int .i64 t281)) (fun _ hk => hk.2) (.slice Ao29 t282.length co29)) (fun _ hk => hk.2) (.slice Ao30 t285.length co30)) (fun _ h_ => h_.1))))) (Kd.R_lt (by (with_reducible repeat (first | apply Kd.R_alloc | apply Kd.R_drewN | apply Kd.R_drew)); exact (Kd.R_mono (Kd.R_far (p := ⟨gb288,3,none⟩) (Kd.R_far (p := ⟨gb288,2,none⟩) (Kd.R_far (p := ⟨gb288,1,none⟩) (Kd.R_far (p := ⟨gb288,0,none⟩) (Kd.R_types HO277.out BK288.out (by decide)) (fun _ hk => hk.2) (.int .i64 t280)) (fun _ hk => hk.2) (.int .i64 t281)) (fun _ hk => hk.2) (.slice Ao29 t282.length co29)) (fun _ hk => hk.2) (.slice Ao30 t285.length co30)) (fun _ h_ => h_.1))))) (below_size (by repeat (first | (with_reducible first | exact HB.out | apply below_alloc | apply pw_below_drewN | apply below_drew1 | refine below_set ?_ GE262.out | refine below_set ?_ GE288.out) | exact HB.out)))); have n7_ := Aside0.mk (Kd.R_lower (Kd.R_new' (Kd.R_new' ho1 (Kd.R_lt (by (with_reducible repeat (first | apply Kd.R_alloc | apply Kd.R_drewN | apply Kd.R_drew)); exact (Kd.R_mono (Kd.R_far (p := ⟨gb288,3,none⟩) (Kd.R_far (p := ⟨gb288,2,none⟩) (Kd.R_far (p := ⟨gb288,1,none⟩) (Kd.R_far (p := ⟨gb288,0,none⟩) (Kd.R_types HO274.out BK288.out (by decide)) (fun _ hk => hk.2) (.int .i64 t280)) (fun _ hk => hk.2) (.int .i64 t281)) (fun _ hk => hk.2) (.slice Ao29 t282.length co29)) (fun _ hk => hk.2) (.slice Ao30 t285.length co30)) (fun _ h_ => h_.1))))) (Kd.R_lt (by (with_reducible repeat (first | apply Kd.R_alloc | apply Kd.R_drewN | apply Kd.R_drew)); exact (Kd.R_mono (Kd.R_far (p := ⟨gb288,3,none⟩) (Kd.R_far (p := ⟨gb288,2,none⟩) (Kd.R_far (p := ⟨gb288,1,none⟩) (Kd.R_far (p := ⟨gb288,0,none⟩) (Kd.R_types HO277.out BK288.out (by decide)) (fun _ hk => hk.2) (.int .i64 t280)) (fun _ hk => hk.2) (.int .i64 t281)) (fun _ hk => hk.2) (.slice Ao29 t282.length co29)) (fun _ hk => hk.2) (.slice Ao30 t285.length co30)) (fun _ h_ => h_.1))))) (below_size (by repeat (first | (with_reducible first | exact HB.out | apply below_alloc | apply pw_below_drewN | apply below_drew1 | refine below_set ?_ GE262.out | refine below_set ?_ GE288.out) | exact HB.out)))); have n8_ := Aside0.mk (blk_below (g := gb262) (o := .cells #[.int .i64 a0_0,.int .i64 a0_1,.slice A0_2 l0_2.length c0_2,.slice A0_3 l0_3.length c0_3] 27 (0,0)) (by (with_reducible repeat (first | refine blk_drewN ?_ _ | refine blk_drew ?_ | refine blk_alloc ?_ _)); refine blk_far ?_ NB262_288.out _; (with_reducible repeat (first | refine blk_drewN ?_ _ | refine blk_drew ?_ | refine blk_alloc ?_ _)); refine blk_far ?_ NB262_288.out _; (with_reducible repeat (first | refine blk_drewN ?_ _ | refine blk_drew ?_ | refine blk_alloc ?_ _)); refine blk_far ?_ NB262_288.out _; (with_reducible repeat (first | refine blk_drewN ?_ _ | refine blk_drew ?_ | refine blk_alloc ?_ _)); refine blk_far ?_ NB262_288.out _; (with_reducible repeat (first | refine blk_drewN ?_ _ | refine blk_drew ?_ | refine blk_alloc ?_ _)); exact BK262.out) hb); have n9_ := Aside0.mk (blk_below (g := gb288) (o := .cells #[.int .i64 t280,.int .i64 t281,.slice Ao29 t282.length co29,.slice Ao30 t285.length co30] 30 (0,0)) (by (with_reducible repeat (first | refine blk_drewN ?_ _ | refine blk_drew ?_ | refine blk_alloc ?_ _)); refine blk_put (cs := #[.int .i64 t280,.int .i64 t281,.slice Ao29 t282.length co29,.slice none 0 0]) ?_ 3 _ rfl; (with_reducible repeat (first | refine blk_drewN ?_ _ | refine blk_drew ?_ | refine blk_alloc ?_ _)); refine blk_put (cs := #[.int .i64 t280,.int .i64 t281,.slice none 0 0,.slice none 0 0]) ?_ 2 _ rfl; (with_reducible repeat (first | refine blk_drewN ?_ _ | refine blk_drew ?_ | refine blk_alloc ?_ _)); refine blk_put (cs := #[.int .i64 t280,.int .i64 0,.slice none 0 0,.slice none 0 0]) ?_ 1 _ rfl; (with_reducible repeat (first | refine blk_drewN ?_ _ | refine blk_drew ?_ | refine blk_alloc ?_ _)); refine blk_put (cs := #[.int .i64 0,.int .i64 0,.slice none 0 0,.slice none 0 0]) ?_ 0 _ rfl; (with_reducible repeat (first | refine blk_drewN ?_ _ | refine blk_drew ?_ | refine blk_alloc ?_ _)); exact BK288.out) hb); have n10_ := Aside0.mk (below_step (by repeat (first | (with_reducible first | exact HB.out | apply below_alloc | apply pw_below_drewN | apply below_drew1 | refine below_set ?_ GE262.out | refine below_set ?_ GE288.out) | exact HB.out)) hb); clear HO268; clear HO271; clear HO274; clear HO277; clear HO284; clear HO287; clear BK262; clear BK288; clear HB; have HO268 := n0_; have HO271 := n1_; have HO274 := n2_; have HO277 := n3_; have HO284 := n4_; have HO287 := n5_; have HO291 := n6_; have HO294 := n7_; have BK262 := n8_; have BK288 := n9_; have HB := n10_; clear n0_ n1_ n2_ n3_ n4_ n5_ n6_ n7_ n8_ n9_ n10_; (try clear hb); (try clear hb2); (try clear hk); (try clear hi); (try clear ho0); (try clear ho1)))
   (try simp only [Act.put,List.setIfInBounds_toArray,List.set_cons_zero,List.set_cons_succ])
   go_cut [72] (fun v72 wc => ∃ (kq : Nat) (x72_14 : Bool),v72 = .bool x72_14 ∧ Aside0 (laws_FnExactDecodeBlocks.j0 kq a1 a2 t272 t275 t278 t279 t289 t292 t295 t296 x72_14 a0_0 a0_1 l0_2 l0_3 t280 t281 t282 t285 = some r) ∧ Aside0 (kq ≤ k) ∧ Aside0 (Kd.R (Kd.int .i64) 2 wc w.heap.size (fun k_ => some k_ ≠ (v276 : Value).ownBlock ∧ some k_ ≠ (v290 : Value).ownBlock ∧ some k_ ≠ (v293 : Value).ownBlock) v273 t272) ∧ Aside0 (Kd.R (Kd.int .i64) 2 wc w.heap.size (fun k_ => some k_ ≠ (v273 : Value).ownBlock ∧ some k_ ≠ (v290 : Value).ownBlock ∧ some k_ ≠ (v293 : Value).ownBlock) v276 t275) ∧ Aside0 (Kd.R (Kd.int .i64) 2 wc w.heap.size (fun k_ => some k_ ≠ (v273 : Value).ownBlock ∧ some k_ ≠ (v276 : Value).ownBlock ∧ some k_ ≠ (v293 : Value).ownBlock) v290 t289) ∧ Aside0 (Kd.R (Kd.int .i64) 2 wc w.heap.size (fun k_ => some k_ ≠ (v273 : Value).ownBlock ∧ some k_ ≠ (v276 : Value).ownBlock ∧ some k_ ≠ (v290 : Value).ownBlock) v293 t292) ∧ Aside0 (Kd.R Kd.string 9 wc w.heap.size (fun k_ => some k_ ≠ ((.slice Ao30 t285.length co30) : Value).ownBlock) (.slice Ao29 t282.length co29) t282) ∧ Aside0 (Kd.R Kd.string 9 wc w.heap.size (fun k_ => some k_ ≠ ((.slice Ao29 t282.length co29) : Value).ownBlock) (.slice Ao30 t285.length co30) t285) ∧ Aside0 (wc.heap[gb262]? = some (.cells #[.int .i64 a0_0,.int .i64 a0_1,(.slice A0_2 l0_2.length c0_2),(.slice A0_3 l0_3.length c0_3)] 27 (0,0))) ∧ Aside0 (wc.heap[gb288]? = some (.cells #[.int .i64 t280,.int .i64 t281,(.slice Ao29 t282.length co29),(.slice Ao30 t285.length co30)] 30 (0,0))) ∧ Aside0 (Below w.heap.size w wc))
   case first =>
    have H := HC15.out
    clear HC15
    replace H := Option.bind_eq_some_iff.mp H
    obtain ⟨t297,A320,H⟩ := H
    replace H : (if t297 = true then ((laws_eqInt64S.f k t292 t275).bind fun t298 => (if t298 = true then (if t295 = t278 then (laws_FnExactDecodeBlocks.j0 k a1 a2 t272 t275 t278 t279 t289 t292 t295 t296 (t296 != t279) a0_0 a0_1 l0_2 l0_3 t280 t281 t282 t285) else (laws_FnExactDecodeBlocks.j0 k a1 a2 t272 t275 t278 t279 t289 t292 t295 t296 true a0_0 a0_1 l0_2 l0_3 t280 t281 t282 t285)) else (laws_FnExactDecodeBlocks.j0 k a1 a2 t272 t275 t278 t279 t289 t292 t295 t296 true a0_0 a0_1 l0_2 l0_3 t280 t281 t282 t285))) else (laws_FnExactDecodeBlocks.j0 k a1 a2 t272 t275 t278 t279 t289 t292 t295 t296 true a0_0 a0_1 l0_2 l0_3 t280 t281 t282 t285)) = some r := H
    have A32 := Aside0.mk A320
    clear A320
    by_cases c33 : t297 = true
    ·subst c33
     have H1 : ((laws_eqInt64S.f k t292 t275).bind fun t298 => (if t298 = true then (if t295 = t278 then (laws_FnExactDecodeBlocks.j0 k a1 a2 t272 t275 t278 t279 t289 t292 t295 t296 (t296 != t279) a0_0 a0_1 l0_2 l0_3 t280 t281 t282 t285) else (laws_FnExactDecodeBlocks.j0 k a1 a2 t272 t275 t278 t279 t289 t292 t295 t296 true a0_0 a0_1 l0_2 l0_3 t280 t281 t282 t285)) else (laws_FnExactDecodeBlocks.j0 k a1 a2 t272 t275 t278 t279 t289 t292 t295 t296 true a0_0 a0_1 l0_2 l0_3 t280 t281 t282 t285))) = some r := by rw [if_pos rfl] at H; exact H
     clear H
     have H := H1
     clear H1
     replace H := Option.bind_eq_some_iff.mp H
     obtain ⟨t298,A340,H⟩ := H
     replace H : (if t298 = true then (if t295 = t278 then (laws_FnExactDecodeBlocks.j0 k a1 a2 t272 t275 t278 t279 t289 t292 t295 t296 (t296 != t279) a0_0 a0_1 l0_2 l0_3 t280 t281 t282 t285) else (laws_FnExactDecodeBlocks.j0 k a1 a2 t272 t275 t278 t279 t289 t292 t295 t296 true a0_0 a0_1 l0_2 l0_3 t280 t281 t282 t285)) else (laws_FnExactDecodeBlocks.j0 k a1 a2 t272 t275 t278 t279 t289 t292 t295 t296 true a0_0 a0_1 l0_2 l0_3 t280 t281 t282 t285)) = some r := H
     have A34 := Aside0.mk A340
     clear A340
     by_cases c35 : t298 = true
     ·subst c35
      have H1 : (if t295 = t278 then (laws_FnExactDecodeBlocks.j0 k a1 a2 t272 t275 t278 t279 t289 t292 t295 t296 (t296 != t279) a0_0 a0_1 l0_2 l0_3 t280 t281 t282 t285) else (laws_FnExactDecodeBlocks.j0 k a1 a2 t272 t275 t278 t279 t289 t292 t295 t296 true a0_0 a0_1 l0_2 l0_3 t280 t281 t282 t285)) = some r := by rw [if_pos rfl] at H; exact H
      clear H
      have H := H1
      clear H1
      by_cases c36 : t295 = t278
      ·rw [if_pos c36] at H
       have c36b0 : (t295 == t278) = true := beq_iff_eq.mpr c36
       have c36b1 : (t295 != t278) = false := bne_eq_false_iff_eq.mpr c36
       clear c36
       (first | rw [c36b0] | (simp only [i64_w,i32_w]; rw [c36b0]) | skip)
       have H' := Aside0.mk H
       clear H
       obtain ⟨Ao37,co37,eo37⟩ := Kd.R_slice HO291.out
       subst eo37
       obtain ⟨Ao38,co38,eo38⟩ := Kd.R_slice HO274.out
       subst eo38
       go_wp2_with (first | ((with_reducible refine gate_callee (f := 26) rfl ?_); refine goesL_ (some 55) rfl rfl Tryd.func26 (by kernel_rfl) rfl #[.slice Ao37 t289.length co37,.slice Ao38 t272.length co38] rfl (by (try simp only [List.map_toArray,List.map_cons,List.map_nil]); first | done | rfl | (simp only [List.length_drop,List.length_take]; rfl)) ?_; (with_reducible refine (laws_eqInt64S.calls k _ _ t289 _ _ t272 true _ ?side1 ?side2 ?side3 ?side4 A32.out).mono ?_); (case side1 => repeat (first | exact (Kd.R_reads' HO291.out).2.2 | (with_reducible refine Kd.C_alloc ?_ _) | (with_reducible refine Kd.C_drewN ?_ _) | (with_reducible refine Kd.C_drew ?_))); (case side2 => exact (Kd.R_reads' HO291.out).2.1); (case side3 => repeat (first | exact (Kd.R_reads' HO274.out).2.2 | (with_reducible refine Kd.C_alloc ?_ _) | (with_reducible refine Kd.C_drewN ?_ _) | (with_reducible refine Kd.C_drew ?_))); (case side4 => exact (Kd.R_reads' HO274.out).2.1); rintro e w' ⟨rfl,⟨nd,rfl⟩⟩; refine ⟨_,rfl,?_⟩; obtain ⟨Ao39,co39,eo39⟩ := Kd.R_slice HO294.out; subst eo39; obtain ⟨Ao40,co40,eo40⟩ := Kd.R_slice HO277.out; subst eo40) | (go_at_call 26; (with_reducible refine (laws_eqInt64S.calls k _ _ t292 _ _ t275 true _ ?side1 ?side2 ?side3 ?side4 A34.out).mono ?_); (case side1 => repeat (first | exact (Kd.R_reads' HO294.out).2.2 | (with_reducible refine Kd.C_alloc ?_ _) | (with_reducible refine Kd.C_drewN ?_ _) | (with_reducible refine Kd.C_drew ?_))); (case side2 => exact (Kd.R_reads' HO294.out).2.1); (case side3 => repeat (first | exact (Kd.R_reads' HO277.out).2.2 | (with_reducible refine Kd.C_alloc ?_ _) | (with_reducible refine Kd.C_drewN ?_ _) | (with_reducible refine Kd.C_drew ?_))); (case side4 => exact (Kd.R_reads' HO277.out).2.1); rintro e w' ⟨rfl,⟨nd,rfl⟩⟩))
       go_meet
       case rel => exact ⟨_,((t296 != t279)),(by first | rfl | (simp; done) | (simp [*]; done)),H',⟨by first | omega | exact Nat.le_refl _⟩,⟨by (with_reducible repeat (first | apply Kd.R_alloc | apply Kd.R_drewN | apply Kd.R_drew)); exact Kd.R_mono HO274.out (fun _ hk => ⟨hk.1.1,⟨hk.1.2,hk.2⟩⟩)⟩,⟨by (with_reducible repeat (first | apply Kd.R_alloc | apply Kd.R_drewN | apply Kd.R_drew)); exact Kd.R_mono HO277.out (fun _ hk => ⟨hk.1.1,⟨hk.1.2,hk.2⟩⟩)⟩,⟨by (with_reducible repeat (first | apply Kd.R_alloc | apply Kd.R_drewN | apply Kd.R_drew)); exact Kd.R_mono HO291.out (fun _ hk => ⟨hk.1.2,⟨hk.2,hk.1.1⟩⟩)⟩,⟨by (with_reducible repeat (first | apply Kd.R_alloc | apply Kd.R_drewN | apply Kd.R_drew)); exact Kd.R_mono HO294.out (fun _ hk => ⟨hk.1.2,⟨hk.2,hk.1.1⟩⟩)⟩,⟨by (with_reducible repeat (first | apply Kd.R_alloc | apply Kd.R_drewN | apply Kd.R_drew)); exact Kd.R_mono HO284.out (fun _ hk => hk.1.1)⟩,⟨by (with_reducible repeat (first | apply Kd.R_alloc | apply Kd.R_drewN | apply Kd.R_drew)); exact Kd.R_mono HO287.out (fun _ hk => hk.1.1)⟩,⟨by (with_reducible repeat (first | refine blk_drewN ?_ _ | refine blk_drew ?_ | refine blk_alloc ?_ _)); exact BK262.out⟩,⟨by (with_reducible repeat (first | refine blk_drewN ?_ _ | refine blk_drew ?_ | refine blk_alloc ?_ _)); exact BK288.out⟩,⟨by repeat (first | (with_reducible first | exact HB.out | apply below_alloc | apply pw_below_drewN | apply below_drew1 | refine below_set ?_ GE262.out | refine below_set ?_ GE288.out) | exact HB.out)⟩⟩
      ·rw [if_neg c36] at H
       have c36b0 : (t295 == t278) = false := beq_eq_false_iff_ne.mpr c36
       have c36b1 : (t295 != t278) = true := bne_iff_ne.mpr c36
       (first | rw [c36b0] | (simp only [i64_w,i32_w]; rw [c36b0]) | skip)
       have H' := Aside0.mk H
       clear H
       obtain ⟨Ao41,co41,eo41⟩ := Kd.R_slice HO291.out
       subst eo41
       obtain ⟨Ao42,co42,eo42⟩ := Kd.R_slice HO274.out
       subst eo42
       go_wp2_with (first | ((with_reducible refine gate_callee (f := 26) rfl ?_); refine goesL_ (some 55) rfl rfl Tryd.func26 (by kernel_rfl) rfl #[.slice Ao41 t289.length co41,.slice Ao42 t272.length co42] rfl (by (try simp only [List.map_toArray,List.map_cons,List.map_nil]); first | done | rfl | (simp only [List.length_drop,List.length_take]; rfl)) ?_; (with_reducible refine (laws_eqInt64S.calls k _ _ t289 _ _ t272 true _ ?side1 ?side2 ?side3 ?side4 A32.out).mono ?_); (case side1 => repeat (first | exact (Kd.R_reads' HO291.out).2.2 | (with_reducible refine Kd.C_alloc ?_ _) | (with_reducible refine Kd.C_drewN ?_ _) | (with_reducible refine Kd.C_drew ?_))); (case side2 => exact (Kd.R_reads' HO291.out).2.1); (case side3 => repeat (first | exact (Kd.R_reads' HO274.out).2.2 | (with_reducible refine Kd.C_alloc ?_ _) | (with_reducible refine Kd.C_drewN ?_ _) | (with_reducible refine Kd.C_drew ?_))); (case side4 => exact (Kd.R_reads' HO274.out).2.1); rintro e w' ⟨rfl,⟨nd,rfl⟩⟩; refine ⟨_,rfl,?_⟩; obtain ⟨Ao43,co43,eo43⟩ := Kd.R_slice HO294.out; subst eo43; obtain ⟨Ao44,co44,eo44⟩ := Kd.R_slice HO277.out; subst eo44) | (go_at_call 26; (with_reducible refine (laws_eqInt64S.calls k _ _ t292 _ _ t275 true _ ?side1 ?side2 ?side3 ?side4 A34.out).mono ?_); (case side1 => repeat (first | exact (Kd.R_reads' HO294.out).2.2 | (with_reducible refine Kd.C_alloc ?_ _) | (with_reducible refine Kd.C_drewN ?_ _) | (with_reducible refine Kd.C_drew ?_))); (case side2 => exact (Kd.R_reads' HO294.out).2.1); (case side3 => repeat (first | exact (Kd.R_reads' HO277.out).2.2 | (with_reducible refine Kd.C_alloc ?_ _) | (with_reducible refine Kd.C_drewN ?_ _) | (with_reducible refine Kd.C_drew ?_))); (case side4 => exact (Kd.R_reads' HO277.out).2.1); rintro e w' ⟨rfl,⟨nd,rfl⟩⟩))
       go_meet
       case rel => exact ⟨_,(true),(by first | rfl | (simp; done) | (simp [*]; done)),H',⟨by first | omega | exact Nat.le_refl _⟩,⟨by (with_reducible repeat (first | apply Kd.R_alloc | apply Kd.R_drewN | apply Kd.R_drew)); exact Kd.R_mono HO274.out (fun _ hk => ⟨hk.1.1,⟨hk.1.2,hk.2⟩⟩)⟩,⟨by (with_reducible repeat (first | apply Kd.R_alloc | apply Kd.R_drewN | apply Kd.R_drew)); exact Kd.R_mono HO277.out (fun _ hk => ⟨hk.1.1,⟨hk.1.2,hk.2⟩⟩)⟩,⟨by (with_reducible repeat (first | apply Kd.R_alloc | apply Kd.R_drewN | apply Kd.R_drew)); exact Kd.R_mono HO291.out (fun _ hk => ⟨hk.1.2,⟨hk.2,hk.1.1⟩⟩)⟩,⟨by (with_reducible repeat (first | apply Kd.R_alloc | apply Kd.R_drewN | apply Kd.R_drew)); exact Kd.R_mono HO294.out (fun _ hk => ⟨hk.1.2,⟨hk.2,hk.1.1⟩⟩)⟩,⟨by (with_reducible repeat (first | apply Kd.R_alloc | apply Kd.R_drewN | apply Kd.R_drew)); exact Kd.R_mono HO284.out (fun _ hk => hk.1.1)⟩,⟨by (with_reducible repeat (first | apply Kd.R_alloc | apply Kd.R_drewN | apply Kd.R_drew)); exact Kd.R_mono HO287.out (fun _ hk => hk.1.1)⟩,⟨by (with_reducible repeat (first | refine blk_drewN ?_ _ | refine blk_drew ?_ | refine blk_alloc ?_ _)); exact BK262.out⟩,⟨by (with_reducible repeat (first | refine blk_drewN ?_ _ | refine blk_drew ?_ | refine blk_alloc ?_ _)); exact BK288.out⟩,⟨by repeat (first | (with_reducible first | exact HB.out | apply below_alloc | apply pw_below_drewN | apply below_drew1 | refine below_set ?_ GE262.out | refine below_set ?_ GE288.out) | exact HB.out)⟩⟩
     ·replace c35 := Bool.eq_false_iff.mpr c35
      subst c35
      have H1 : (laws_FnExactDecodeBlocks.j0 k a1 a2 t272 t275 t278 t279 t289 t292 t295 t296 true a0_0 a0_1 l0_2 l0_3 t280 t281 t282 t285) = some r := by rw [if_neg (show ¬ (false = true) by decide)] at H; exact H
      clear H
      have H := H1
      clear H1
      have H' := Aside0.mk H
      clear H
      obtain ⟨Ao45,co45,eo45⟩ := Kd.R_slice HO291.out
      subst eo45
      obtain ⟨Ao46,co46,eo46⟩ := Kd.R_slice HO274.out
      subst eo46
      go_wp2_with (first | ((with_reducible refine gate_callee (f := 26) rfl ?_); refine goesL_ (some 55) rfl rfl Tryd.func26 (by kernel_rfl) rfl #[.slice Ao45 t289.length co45,.slice Ao46 t272.length co46] rfl (by (try simp only [List.map_toArray,List.map_cons,List.map_nil]); first | done | rfl | (simp only [List.length_drop,List.length_take]; rfl)) ?_; (with_reducible refine (laws_eqInt64S.calls k _ _ t289 _ _ t272 true _ ?side1 ?side2 ?side3 ?side4 A32.out).mono ?_); (case side1 => repeat (first | exact (Kd.R_reads' HO291.out).2.2 | (with_reducible refine Kd.C_alloc ?_ _) | (with_reducible refine Kd.C_drewN ?_ _) | (with_reducible refine Kd.C_drew ?_))); (case side2 => exact (Kd.R_reads' HO291.out).2.1); (case side3 => repeat (first | exact (Kd.R_reads' HO274.out).2.2 | (with_reducible refine Kd.C_alloc ?_ _) | (with_reducible refine Kd.C_drewN ?_ _) | (with_reducible refine Kd.C_drew ?_))); (case side4 => exact (Kd.R_reads' HO274.out).2.1); rintro e w' ⟨rfl,⟨nd,rfl⟩⟩; refine ⟨_,rfl,?_⟩; obtain ⟨Ao47,co47,eo47⟩ := Kd.R_slice HO294.out; subst eo47; obtain ⟨Ao48,co48,eo48⟩ := Kd.R_slice HO277.out; subst eo48) | (go_at_call 26; (with_reducible refine (laws_eqInt64S.calls k _ _ t292 _ _ t275 false _ ?side1 ?side2 ?side3 ?side4 A34.out).mono ?_); (case side1 => repeat (first | exact (Kd.R_reads' HO294.out).2.2 | (with_reducible refine Kd.C_alloc ?_ _) | (with_reducible refine Kd.C_drewN ?_ _) | (with_reducible refine Kd.C_drew ?_))); (case side2 => exact (Kd.R_reads' HO294.out).2.1); (case side3 => repeat (first | exact (Kd.R_reads' HO277.out).2.2 | (with_reducible refine Kd.C_alloc ?_ _) | (with_reducible refine Kd.C_drewN ?_ _) | (with_reducible refine Kd.C_drew ?_))); (case side4 => exact (Kd.R_reads' HO277.out).2.1); rintro e w' ⟨rfl,⟨nd,rfl⟩⟩))
      go_meet
      case rel => exact ⟨_,(true),(by first | rfl | (simp; done) | (simp [*]; done)),H',⟨by first | omega | exact Nat.le_refl _⟩,⟨by (with_reducible repeat (first | apply Kd.R_alloc | apply Kd.R_drewN | apply Kd.R_drew)); exact Kd.R_mono HO274.out (fun _ hk => ⟨hk.1.1,⟨hk.1.2,hk.2⟩⟩)⟩,⟨by (with_reducible repeat (first | apply Kd.R_alloc | apply Kd.R_drewN | apply Kd.R_drew)); exact Kd.R_mono HO277.out (fun _ hk => ⟨hk.1.1,⟨hk.1.2,hk.2⟩⟩)⟩,⟨by (with_reducible repeat (first | apply Kd.R_alloc | apply Kd.R_drewN | apply Kd.R_drew)); exact Kd.R_mono HO291.out (fun _ hk => ⟨hk.1.2,⟨hk.2,hk.1.1⟩⟩)⟩,⟨by (with_reducible repeat (first | apply Kd.R_alloc | apply Kd.R_drewN | apply Kd.R_drew)); exact Kd.R_mono HO294.out (fun _ hk => ⟨hk.1.2,⟨hk.2,hk.1.1⟩⟩)⟩,⟨by (with_reducible repeat (first | apply Kd.R_alloc | apply Kd.R_drewN | apply Kd.R_drew)); exact Kd.R_mono HO284.out (fun _ hk => hk.1.1)⟩,⟨by (with_reducible repeat (first | apply Kd.R_alloc | apply Kd.R_drewN | apply Kd.R_drew)); exact Kd.R_mono HO287.out (fun _ hk => hk.1.1)⟩,⟨by (with_reducible repeat (first | refine blk_drewN ?_ _ | refine blk_drew ?_ | refine blk_alloc ?_ _)); exact BK262.out⟩,⟨by (with_reducible repeat (first | refine blk_drewN ?_ _ | refine blk_drew ?_ | refine blk_alloc ?_ _)); exact BK288.out⟩,⟨by repeat (first | (with_reducible first | exact HB.out | apply below_alloc | apply pw_below_drewN | apply below_drew1 | refine below_set ?_ GE262.out | refine below_set ?_ GE288.out) | exact HB.out)⟩⟩
    ·replace c33 := Bool.eq_false_iff.mpr c33
     subst c33
     have H1 : (laws_FnExactDecodeBlocks.j0 k a1 a2 t272 t275 t278 t279 t289 t292 t295 t296 true a0_0 a0_1 l0_2 l0_3 t280 t281 t282 t285) = some r := by rw [if_neg (show ¬ (false = true) by decide)] at H; exact H
     clear H
     have H := H1
     clear H1
     have H' := Aside0.mk H
     clear H
     obtain ⟨Ao49,co49,eo49⟩ := Kd.R_slice HO291.out
     subst eo49
     obtain ⟨Ao50,co50,eo50⟩ := Kd.R_slice HO274.out
     subst eo50
     go_wp2_with (first | ((with_reducible refine gate_callee (f := 26) rfl ?_); refine goesL_ (some 55) rfl rfl Tryd.func26 (by kernel_rfl) rfl #[.slice Ao49 t289.length co49,.slice Ao50 t272.length co50] rfl (by (try simp only [List.map_toArray,List.map_cons,List.map_nil]); first | done | rfl | (simp only [List.length_drop,List.length_take]; rfl)) ?_; (with_reducible refine (laws_eqInt64S.calls k _ _ t289 _ _ t272 false _ ?side1 ?side2 ?side3 ?side4 A32.out).mono ?_); (case side1 => repeat (first | exact (Kd.R_reads' HO291.out).2.2 | (with_reducible refine Kd.C_alloc ?_ _) | (with_reducible refine Kd.C_drewN ?_ _) | (with_reducible refine Kd.C_drew ?_))); (case side2 => exact (Kd.R_reads' HO291.out).2.1); (case side3 => repeat (first | exact (Kd.R_reads' HO274.out).2.2 | (with_reducible refine Kd.C_alloc ?_ _) | (with_reducible refine Kd.C_drewN ?_ _) | (with_reducible refine Kd.C_drew ?_))); (case side4 => exact (Kd.R_reads' HO274.out).2.1); rintro e w' ⟨rfl,⟨nd,rfl⟩⟩; refine ⟨_,rfl,?_⟩))
     go_meet
     case rel => exact ⟨_,(true),(by first | rfl | (simp; done) | (simp [*]; done)),H',⟨by first | omega | exact Nat.le_refl _⟩,⟨by (with_reducible repeat (first | apply Kd.R_alloc | apply Kd.R_drewN | apply Kd.R_drew)); exact Kd.R_mono HO274.out (fun _ hk => ⟨hk.1.1,⟨hk.1.2,hk.2⟩⟩)⟩,⟨by (with_reducible repeat (first | apply Kd.R_alloc | apply Kd.R_drewN | apply Kd.R_drew)); exact Kd.R_mono HO277.out (fun _ hk => ⟨hk.1.1,⟨hk.1.2,hk.2⟩⟩)⟩,⟨by (with_reducible repeat (first | apply Kd.R_alloc | apply Kd.R_drewN | apply Kd.R_drew)); exact Kd.R_mono HO291.out (fun _ hk => ⟨hk.1.2,⟨hk.2,hk.1.1⟩⟩)⟩,⟨by (with_reducible repeat (first | apply Kd.R_alloc | apply Kd.R_drewN | apply Kd.R_drew)); exact Kd.R_mono HO294.out (fun _ hk => ⟨hk.1.2,⟨hk.2,hk.1.1⟩⟩)⟩,⟨by (with_reducible repeat (first | apply Kd.R_alloc | apply Kd.R_drewN | apply Kd.R_drew)); exact Kd.R_mono HO284.out (fun _ hk => hk.1.1)⟩,⟨by (with_reducible repeat (first | apply Kd.R_alloc | apply Kd.R_drewN | apply Kd.R_drew)); exact Kd.R_mono HO287.out (fun _ hk => hk.1.1)⟩,⟨by (with_reducible repeat (first | refine blk_drewN ?_ _ | refine blk_drew ?_ | refine blk_alloc ?_ _)); exact BK262.out⟩,⟨by (with_reducible repeat (first | refine blk_drewN ?_ _ | refine blk_drew ?_ | refine blk_alloc ?_ _)); exact BK288.out⟩,⟨by repeat (first | (with_reducible first | exact HB.out | apply below_alloc | apply pw_below_drewN | apply below_drew1 | refine below_set ?_ GE262.out | refine below_set ?_ GE288.out) | exact HB.out)⟩⟩
   case rest =>
    clear HC15
    try clear c1
    try clear c2
    try clear p2
    try clear c3
    try clear c4
    try clear c4b0
    try clear c4b1
    try clear c7
    try clear c7b0
    try clear c8
    try clear c14
    try clear c16
    try clear c26
    try clear c27
    try clear c28
    try clear c33
    try clear c35
    try clear c36
    try clear c36b0
    try clear c36b1
    try clear hcz17_0
    try clear hcz17_1
    try clear hcz17_2
    try clear hcz17_3
    try clear hcz19_0
    try clear hcz19_1
    try clear hcz19_2
    try clear hcz19_3
    try clear hcz24_0
    try clear hcz24_1
    try clear hcz24_2
    try clear hcz24_3
    try clear hcz28_0
    try clear hcz28_1
    try clear hcz28_2
    try clear hcz28_3
    try clear hcz9_0
    try clear hcz9_1
    try clear hcz9_2
    try clear hcz9_3
    try clear hfz17_0
    try clear hfz17_1
    try clear hfz17_2
    try clear hfz17_3
    try clear hfz19_0
    try clear hfz19_1
    try clear hfz19_2
    try clear hfz19_3
    try clear hfz24_0
    try clear hfz24_1
    try clear hfz24_2
    try clear hfz24_3
    try clear hfz28_0
    try clear hfz28_1
    try clear hfz28_2
    try clear hfz28_3
    try clear hfz9_0
    try clear hfz9_1
    try clear hfz9_2
    try clear hfz9_3
    obtain ⟨kq,x72_14,rfl,HA,HJ14,HO_8,HO_9,HO_13,HO_14,HO_289002,HO_289003,BK262,BK288,HB⟩ := hcut
    cases kq with
    | zero => exact absurd HA.out (by simp [laws_FnExactDecodeBlocks.j0])
    | succ kj14 =>
     have H := HA.out
     clear HA
     simp only [laws_FnExactDecodeBlocks.j0] at H
     by_cases c51 : x72_14 = true
     ·subst c51
      have H1 : (some false) = some r := by rw [if_pos rfl] at H; exact H
      clear H
      have H := H1
      clear H1
      obtain rfl := Option.some.inj H
      go_wp2
      go_ret
      exact ⟨by first | rfl | (simp [errW_none,errW_some] <;> rfl) | (simp [*,errW_none,errW_some] <;> rfl),by repeat (first | (with_reducible first | exact HB.out | apply below_alloc | apply pw_below_drewN | apply below_drew1 | refine below_set ?_ GE262.out | refine below_set ?_ GE288.out) | exact HB.out)⟩
     ·replace c51 := Bool.eq_false_iff.mpr c51
      subst c51
      have H1 : ((laws_toBlockCode.f kj14 a0_0 a0_1 l0_2 l0_3).bind fun bt299 => ((laws_eqBlockCode.f kj14 t280 t281 t282 t285 bt299.1 bt299.2.1 bt299.2.2.1 bt299.2.2.2).bind fun t307 => (if t307 = true then ((laws_markBlockCode.f kj14 t280 t281 t282 t285 1).bind fun bt308 => (if bt308.1 < 0 then (laws_FnExactDecodeBlocks.j1 kj14 a1 a2 t272 t275 t278 t279 t289 t292 true a0_0 a0_1 l0_2 l0_3) else ((laws_eqInt64S.f kj14 t289 t272).bind fun t311 => (if t311 = true then ((laws_eqInt64S.f kj14 t292 t275).bind fun t312 => (if t312 = true then (if t295 = t278 then (laws_FnExactDecodeBlocks.j1 kj14 a1 a2 t272 t275 t278 t279 t289 t292 (t296 != t279) a0_0 a0_1 l0_2 l0_3) else (laws_FnExactDecodeBlocks.j1 kj14 a1 a2 t272 t275 t278 t279 t289 t292 true a0_0 a0_1 l0_2 l0_3)) else (laws_FnExactDecodeBlocks.j1 kj14 a1 a2 t272 t275 t278 t279 t289 t292 true a0_0 a0_1 l0_2 l0_3))) else (laws_FnExactDecodeBlocks.j1 kj14 a1 a2 t272 t275 t278 t279 t289 t292 true a0_0 a0_1 l0_2 l0_3))))) else (some false)))) = some r := by rw [if_neg (show ¬ (false = true) by decide)] at H; exact H
      clear H
      have H := H1
      clear H1
      replace H := Option.bind_eq_some_iff.mp H
      obtain ⟨⟨t299,t300,t301,t304⟩,A520,H⟩ := H
      replace H : ((laws_eqBlockCode.f kj14 t280 t281 t282 t285 t299 t300 t301 t304).bind fun t307 => (if t307 = true then ((laws_markBlockCode.f kj14 t280 t281 t282 t285 1).bind fun bt308 => (if bt308.1 < 0 then (laws_FnExactDecodeBlocks.j1 kj14 a1 a2 t272 t275 t278 t279 t289 t292 true a0_0 a0_1 l0_2 l0_3) else ((laws_eqInt64S.f kj14 t289 t272).bind fun t311 => (if t311 = true then ((laws_eqInt64S.f kj14 t292 t275).bind fun t312 => (if t312 = true then (if t295 = t278 then (laws_FnExactDecodeBlocks.j1 kj14 a1 a2 t272 t275 t278 t279 t289 t292 (t296 != t279) a0_0 a0_1 l0_2 l0_3) else (laws_FnExactDecodeBlocks.j1 kj14 a1 a2 t272 t275 t278 t279 t289 t292 true a0_0 a0_1 l0_2 l0_3)) else (laws_FnExactDecodeBlocks.j1 kj14 a1 a2 t272 t275 t278 t279 t289 t292 true a0_0 a0_1 l0_2 l0_3))) else (laws_FnExactDecodeBlocks.j1 kj14 a1 a2 t272 t275 t278 t279 t289 t292 true a0_0 a0_1 l0_2 l0_3))))) else (some false))) = some r := H
      have A52 := Aside0.mk A520
      clear A520
      replace H := Option.bind_eq_some_iff.mp H
      obtain ⟨t307,A530,H⟩ := H
      replace H : (if t307 = true then ((laws_markBlockCode.f kj14 t280 t281 t282 t285 1).bind fun bt308 => (if bt308.1 < 0 then (laws_FnExactDecodeBlocks.j1 kj14 a1 a2 t272 t275 t278 t279 t289 t292 true a0_0 a0_1 l0_2 l0_3) else ((laws_eqInt64S.f kj14 t289 t272).bind fun t311 => (if t311 = true then ((laws_eqInt64S.f kj14 t292 t275).bind fun t312 => (if t312 = true then (if t295 = t278 then (laws_FnExactDecodeBlocks.j1 kj14 a1 a2 t272 t275 t278 t279 t289 t292 (t296 != t279) a0_0 a0_1 l0_2 l0_3) else (laws_FnExactDecodeBlocks.j1 kj14 a1 a2 t272 t275 t278 t279 t289 t292 true a0_0 a0_1 l0_2 l0_3)) else (laws_FnExactDecodeBlocks.j1 kj14 a1 a2 t272 t275 t278 t279 t289 t292 true a0_0 a0_1 l0_2 l0_3))) else (laws_FnExactDecodeBlocks.j1 kj14 a1 a2 t272 t275 t278 t279 t289 t292 true a0_0 a0_1 l0_2 l0_3))))) else (some false)) = some r := H
      have A53 := Aside0.mk A530
      clear A530
      by_cases c54 : t307 = true
      ·subst c54
       have H1 : ((laws_markBlockCode.f kj14 t280 t281 t282 t285 1).bind fun bt308 => (if bt308.1 < 0 then (laws_FnExactDecodeBlocks.j1 kj14 a1 a2 t272 t275 t278 t279 t289 t292 true a0_0 a0_1 l0_2 l0_3) else ((laws_eqInt64S.f kj14 t289 t272).bind fun t311 => (if t311 = true then ((laws_eqInt64S.f kj14 t292 t275).bind fun t312 => (if t312 = true then (if t295 = t278 then (laws_FnExactDecodeBlocks.j1 kj14 a1 a2 t272 t275 t278 t279 t289 t292 (t296 != t279) a0_0 a0_1 l0_2 l0_3) else (laws_FnExactDecodeBlocks.j1 kj14 a1 a2 t272 t275 t278 t279 t289 t292 true a0_0 a0_1 l0_2 l0_3)) else (laws_FnExactDecodeBlocks.j1 kj14 a1 a2 t272 t275 t278 t279 t289 t292 true a0_0 a0_1 l0_2 l0_3))) else (laws_FnExactDecodeBlocks.j1 kj14 a1 a2 t272 t275 t278 t279 t289 t292 true a0_0 a0_1 l0_2 l0_3))))) = some r := by rw [if_pos rfl] at H; exact H
       clear H
       have H := H1
       clear H1
       replace H := Option.bind_eq_some_iff.mp H
       obtain ⟨⟨t308,t309,t310⟩,A550,H⟩ := H
       replace H : (if t308 < 0 then (laws_FnExactDecodeBlocks.j1 kj14 a1 a2 t272 t275 t278 t279 t289 t292 true a0_0 a0_1 l0_2 l0_3) else ((laws_eqInt64S.f kj14 t289 t272).bind fun t311 => (if t311 = true then ((laws_eqInt64S.f kj14 t292 t275).bind fun t312 => (if t312 = true then (if t295 = t278 then (laws_FnExactDecodeBlocks.j1 kj14 a1 a2 t272 t275 t278 t279 t289 t292 (t296 != t279) a0_0 a0_1 l0_2 l0_3) else (laws_FnExactDecodeBlocks.j1 kj14 a1 a2 t272 t275 t278 t279 t289 t292 true a0_0 a0_1 l0_2 l0_3)) else (laws_FnExactDecodeBlocks.j1 kj14 a1 a2 t272 t275 t278 t279 t289 t292 true a0_0 a0_1 l0_2 l0_3))) else (laws_FnExactDecodeBlocks.j1 kj14 a1 a2 t272 t275 t278 t279 t289 t292 true a0_0 a0_1 l0_2 l0_3)))) = some r := H
       have A55 := Aside0.mk A550
       clear A550
       have HC56 := Aside0.mk H
       clear H
       try go_wp2
       have n0_ := Aside0.mk (Kd.R_drew HO_8.out)
       have n1_ := Aside0.mk (Kd.R_drew HO_9.out)
       have n2_ := Aside0.mk (Kd.R_drew HO_13.out)
       have n3_ := Aside0.mk (Kd.R_drew HO_14.out)
       have n4_ := Aside0.mk (Kd.R_drew HO_289002.out)
       have n5_ := Aside0.mk (Kd.R_drew HO_289003.out)
       have n6_ := Aside0.mk (blk_drew BK262.out)
       have n7_ := Aside0.mk (blk_drew BK288.out)
       have n8_ := Aside0.mk (below_drew1 HB.out)
       clear HO_8
       clear HO_9
       clear HO_13
       clear HO_14
       clear HO_289002
       clear HO_289003
       clear BK262
       clear BK288
       clear HB
       have HO_8 := n0_
       have HO_9 := n1_
       have HO_13 := n2_
       have HO_14 := n3_
       have HO_289002 := n4_
       have HO_289003 := n5_
       have BK262 := n6_
       have BK288 := n7_
       have HB := n8_
       clear n0_ n1_ n2_ n3_ n4_ n5_ n6_ n7_ n8_
       refine start_ (n := 5) (S := fun w' => w'.cell? ⟨gb288,0,none⟩ = some (.int .i64 t280) ∧ w'.cell? ⟨gb288,1,none⟩ = some (.int .i64 t281) ∧ w'.cell? ⟨gb288,2,none⟩ = some (.slice Ao29 t282.length co29) ∧ w'.cell? ⟨gb288,3,none⟩ = some (.slice Ao30 t285.length co30) ∧ w'.cell? ⟨gb262,0,none⟩ = some (.int .i64 a0_0) ∧ w'.cell? ⟨gb262,1,none⟩ = some (.int .i64 a0_1) ∧ w'.cell? ⟨gb262,2,none⟩ = some (.slice A0_2 l0_2.length c0_2) ∧ w'.cell? ⟨gb262,3,none⟩ = some (.slice A0_3 l0_3.length c0_3)) (ds := []) #[false,false,false,false,false] (by kernel_rfl) rfl rfl ⟨(blk_cell BK288.out 0).trans rfl,(blk_cell BK288.out 1).trans rfl,(blk_cell BK288.out 2).trans rfl,(blk_cell BK288.out 3).trans rfl,(blk_cell BK262.out 0).trans rfl,(blk_cell BK262.out 1).trans rfl,(blk_cell BK262.out 2).trans rfl,(blk_cell BK262.out 3).trans rfl⟩ (fun hHeld => ?_)
       generalize wc.drew = w57 at HO_8 HO_9 HO_13 HO_14 HO_289002 HO_289003 BK262 BK288 HB hHeld ⊢
       refine take_ (i := 0) (N := some 73) (v := ?_) (a' := ?_) #[true,false,false,false,false] rfl rfl (by kernel_rfl) (fun _ _ _ h => h) (Or.inl ⟨by rfl,?_⟩) hHeld ?_ ?_
       rotate_left
       ·rintro w' ⟨s0,s1,s2,s3,s4,s5,s6,s7⟩
        go_simp
        with_reducible rfl
       rotate_left
       ·simp only [Act.put,List.setIfInBounds_toArray,List.set_cons_zero,List.set_cons_succ,i64_w,i32_w]
        rfl
       refine take_ (i := 1) (N := some 74) (v := ?_) (a' := ?_) #[true,true,false,false,false] rfl rfl (by kernel_rfl) (fun _ _ _ h => h) (Or.inl ⟨by rfl,?_⟩) hHeld ?_ ?_
       rotate_left
       ·rintro w' ⟨s0,s1,s2,s3,s4,s5,s6,s7⟩
        go_simp
        with_reducible rfl
       rotate_left
       ·simp only [Act.put,List.setIfInBounds_toArray,List.set_cons_zero,List.set_cons_succ,i64_w,i32_w]
        rfl
       refine one_ (i := 2) (N := some 75) #[true,true,true,false,false] rfl rfl (by kernel_rfl) (by decide) (fun K hK => ?_)
       refine goes_ Tryd.func16 (by kernel_rfl) rfl #[.agg #[.int .i64 a0_0,.int .i64 a0_1,.slice A0_2 l0_2.length c0_2,.slice A0_3 l0_3.length c0_3]] (by rfl) rfl rfl (by (try simp only [List.map_toArray,List.map_cons,List.map_nil]); first | done | rfl | (simp only [List.length_drop,List.length_take]; rfl)) ?_
       with_reducible refine (laws_toBlockCode.calls kj14 a0_0 a0_1 _ _ l0_2 _ _ l0_3 t299 t300 t301 t304 _ ?side1 ?side2 ?side3 ?side4 A52.out).mono ?_
       (case side1 => repeat (first | exact (Kd.C_below HR0_2.out HB.out) | (with_reducible refine Kd.C_alloc ?_ _) | (with_reducible refine Kd.C_drewN ?_ _) | (with_reducible refine Kd.C_drew ?_)))
       (case side2 => exact HC0_2.out)
       (case side3 => repeat (first | exact (Kd.C_below HR0_3.out HB.out) | (with_reducible refine Kd.C_alloc ?_ _) | (with_reducible refine Kd.C_drewN ?_ _) | (with_reducible refine Kd.C_drew ?_)))
       (case side4 => exact HC0_3.out)
       rintro e w58 ⟨v302,v305,rfl,ho0,ho1,hb⟩
       refine ⟨_,rfl,?_⟩
       have n0_ := Aside0.mk (Kd.R_below (by (with_reducible repeat (first | apply Kd.R_alloc | apply Kd.R_drewN | apply Kd.R_drew)); exact HO_8.out) hb)
       have n1_ := Aside0.mk (Kd.R_below (by (with_reducible repeat (first | apply Kd.R_alloc | apply Kd.R_drewN | apply Kd.R_drew)); exact HO_9.out) hb)
       have n2_ := Aside0.mk (Kd.R_below (by (with_reducible repeat (first | apply Kd.R_alloc | apply Kd.R_drewN | apply Kd.R_drew)); exact HO_13.out) hb)
       have n3_ := Aside0.mk (Kd.R_below (by (with_reducible repeat (first | apply Kd.R_alloc | apply Kd.R_drewN | apply Kd.R_drew)); exact HO_14.out) hb)
       have n4_ := Aside0.mk (Kd.R_mono (Kd.R_told (Kd.R_told (Kd.R_old (by (with_reducible repeat (first | apply Kd.R_alloc | apply Kd.R_drewN | apply Kd.R_drew)); exact HO_289002.out) hb) (Kd.R_base ho0)) (Kd.R_base ho1)) (fun _ h_ => h_.1))
       have n5_ := Aside0.mk (Kd.R_mono (Kd.R_told (Kd.R_told (Kd.R_old (by (with_reducible repeat (first | apply Kd.R_alloc | apply Kd.R_drewN | apply Kd.R_drew)); exact HO_289003.out) hb) (Kd.R_base ho0)) (Kd.R_base ho1)) (fun _ h_ => h_.1))
       have n6_ := Aside0.mk (Kd.R_lower (Kd.R_new' (Kd.R_new' ho0 (Kd.R_lt (by (with_reducible repeat (first | apply Kd.R_alloc | apply Kd.R_drewN | apply Kd.R_drew)); exact HO_289002.out))) (Kd.R_lt (by (with_reducible repeat (first | apply Kd.R_alloc | apply Kd.R_drewN | apply Kd.R_drew)); exact HO_289003.out))) (below_size (by repeat (first | (with_reducible first | exact HB.out | apply below_alloc | apply pw_below_drewN | apply below_drew1 | refine below_set ?_ GE262.out | refine below_set ?_ GE288.out) | exact HB.out))))
       have n7_ := Aside0.mk (Kd.R_lower (Kd.R_new' (Kd.R_new' ho1 (Kd.R_lt (by (with_reducible repeat (first | apply Kd.R_alloc | apply Kd.R_drewN | apply Kd.R_drew)); exact HO_289002.out))) (Kd.R_lt (by (with_reducible repeat (first | apply Kd.R_alloc | apply Kd.R_drewN | apply Kd.R_drew)); exact HO_289003.out))) (below_size (by repeat (first | (with_reducible first | exact HB.out | apply below_alloc | apply pw_below_drewN | apply below_drew1 | refine below_set ?_ GE262.out | refine below_set ?_ GE288.out) | exact HB.out))))
       have n8_ := Aside0.mk (blk_below (g := gb262) (o := .cells #[.int .i64 a0_0,.int .i64 a0_1,.slice A0_2 l0_2.length c0_2,.slice A0_3 l0_3.length c0_3] 27 (0,0)) (by (with_reducible repeat (first | refine blk_drewN ?_ _ | refine blk_drew ?_ | refine blk_alloc ?_ _)); exact BK262.out) hb)
       have n9_ := Aside0.mk (blk_below (g := gb288) (o := .cells #[.int .i64 t280,.int .i64 t281,.slice Ao29 t282.length co29,.slice Ao30 t285.length co30] 30 (0,0)) (by (with_reducible repeat (first | refine blk_drewN ?_ _ | refine blk_drew ?_ | refine blk_alloc ?_ _)); exact BK288.out) hb)
       have n10_ := Aside0.mk (below_step (by repeat (first | (with_reducible first | exact HB.out | apply below_alloc | apply pw_below_drewN | apply below_drew1 | refine below_set ?_ GE262.out | refine below_set ?_ GE288.out) | exact HB.out)) hb)
       clear HO_8
       clear HO_9
       clear HO_13
       clear HO_14
       clear HO_289002
       clear HO_289003
       clear BK262
       clear BK288
       clear HB
       have HO_8 := n0_
       have HO_9 := n1_
       have HO_13 := n2_
       have HO_14 := n3_
       have HO_289002 := n4_
       have HO_289003 := n5_
       have HO303 := n6_
       have HO306 := n7_
       have BK262 := n8_
       have BK288 := n9_
       have HB := n10_
       clear n0_ n1_ n2_ n3_ n4_ n5_ n6_ n7_ n8_ n9_ n10_
       (try clear hb)
       (try clear hb2)
       (try clear hk)
       (try clear hi)
       (try clear ho0)
       (try clear ho1)
       obtain ⟨Ao59,co59,eo59⟩ := Kd.R_slice HO303.out
       (first | subst eo59 | (injection eo59 with f1_ f2_ f3_; have f4_ := f1_.symm; have f5_ := f3_.symm; clear f1_ f2_ f3_; subst f4_; subst f5_))
       obtain ⟨Ao60,co60,eo60⟩ := Kd.R_slice HO306.out
       (first | subst eo60 | (injection eo60 with f1_ f2_ f3_; have f4_ := f1_.symm; have f5_ := f3_.symm; clear f1_ f2_ f3_; subst f4_; subst f5_))
       refine hK.out _ _ ⟨(blk_cell BK288.out 0).trans rfl,(blk_cell BK288.out 1).trans rfl,(blk_cell BK288.out 2).trans rfl,(blk_cell BK288.out 3).trans rfl,(blk_cell BK262.out 0).trans rfl,(blk_cell BK262.out 1).trans rfl,(blk_cell BK262.out 2).trans rfl,(blk_cell BK262.out 3).trans rfl⟩ (fun hHeld => ?_)
       clear hK K
       refine norm_ (a' := ?_) ?_ ?_
       rotate_left
       ·show Act.put _ (some 75) _ = _
        simp only [Act.put,List.setIfInBounds_toArray,List.set_cons_zero,List.set_cons_succ,i64_w,i32_w]
        rfl
       refine one_ (i := 3) (N := some 76) #[true,true,true,true,false] rfl rfl (by kernel_rfl) (by decide) (fun K hK => ?_)
       refine goes_ Tryd.func18 (by kernel_rfl) rfl #[.agg #[.int .i64 t280,.int .i64 t281,.slice Ao29 t282.length co29,.slice Ao30 t285.length co30],.agg #[.int .i64 t299,.int .i64 t300,.slice Ao59 t301.length co59,.slice Ao60 t304.length co60]] (by rfl) rfl rfl (by (try simp only [List.map_toArray,List.map_cons,List.map_nil]); first | done | rfl | (simp only [List.length_drop,List.length_take]; rfl)) ?_
       with_reducible refine (laws_eqBlockCode.calls kj14 t280 t281 _ _ t282 _ _ t285 t299 t300 _ _ t301 _ _ t304 true _ ?side1 ?side2 ?side3 ?side4 ?side5 ?side6 ?side7 ?side8 A53.out).mono ?_
       (case side1 => repeat (first | exact (Kd.R_reads' HO_289002.out).2.2 | (with_reducible refine Kd.C_alloc ?_ _) | (with_reducible refine Kd.C_drewN ?_ _) | (with_reducible refine Kd.C_drew ?_)))
       (case side2 => exact (Kd.R_reads' HO_289002.out).2.1)
       (case side3 => repeat (first | exact (Kd.R_reads' HO_289003.out).2.2 | (with_reducible refine Kd.C_alloc ?_ _) | (with_reducible refine Kd.C_drewN ?_ _) | (with_reducible refine Kd.C_drew ?_)))
       (case side4 => exact (Kd.R_reads' HO_289003.out).2.1)
       (case side5 => repeat (first | exact (Kd.R_reads' HO303.out).2.2 | (with_reducible refine Kd.C_alloc ?_ _) | (with_reducible refine Kd.C_drewN ?_ _) | (with_reducible refine Kd.C_drew ?_)))
       (case side6 => exact (Kd.R_reads' HO303.out).2.1)
       (case side7 => repeat (first | exact (Kd.R_reads' HO306.out).2.2 | (with_reducible refine Kd.C_alloc ?_ _) | (with_reducible refine Kd.C_drewN ?_ _) | (with_reducible refine Kd.C_drew ?_)))
       (case side8 => exact (Kd.R_reads' HO306.out).2.1)
       rintro e w61 ⟨rfl,hb⟩
       refine ⟨_,rfl,?_⟩
       have n0_ := Aside0.mk (Kd.R_below (by (with_reducible repeat (first | apply Kd.R_alloc | apply Kd.R_drewN | apply Kd.R_drew)); exact HO_8.out) hb)
       have n1_ := Aside0.mk (Kd.R_below (by (with_reducible repeat (first | apply Kd.R_alloc | apply Kd.R_drewN | apply Kd.R_drew)); exact HO_9.out) hb)
       have n2_ := Aside0.mk (Kd.R_below (by (with_reducible repeat (first | apply Kd.R_alloc | apply Kd.R_drewN | apply Kd.R_drew)); exact HO_13.out) hb)
       have n3_ := Aside0.mk (Kd.R_below (by (with_reducible repeat (first | apply Kd.R_alloc | apply Kd.R_drewN | apply Kd.R_drew)); exact HO_14.out) hb)
       have n4_ := Aside0.mk (Kd.R_below (by (with_reducible repeat (first | apply Kd.R_alloc | apply Kd.R_drewN | apply Kd.R_drew)); exact HO_289002.out) hb)
       have n5_ := Aside0.mk (Kd.R_below (by (with_reducible repeat (first | apply Kd.R_alloc | apply Kd.R_drewN | apply Kd.R_drew)); exact HO_289003.out) hb)
       have n6_ := Aside0.mk (Kd.R_below (by (with_reducible repeat (first | apply Kd.R_alloc | apply Kd.R_drewN | apply Kd.R_drew)); exact HO303.out) hb)
       have n7_ := Aside0.mk (Kd.R_below (by (with_reducible repeat (first | apply Kd.R_alloc | apply Kd.R_drewN | apply Kd.R_drew)); exact HO306.out) hb)
       have n8_ := Aside0.mk (blk_below (g := gb262) (o := .cells #[.int .i64 a0_0,.int .i64 a0_1,.slice A0_2 l0_2.length c0_2,.slice A0_3 l0_3.length c0_3] 27 (0,0)) (by (with_reducible repeat (first | refine blk_drewN ?_ _ | refine blk_drew ?_ | refine blk_alloc ?_ _)); exact BK262.out) hb)
       have n9_ := Aside0.mk (blk_below (g := gb288) (o := .cells #[.int .i64 t280,.int .i64 t281,.slice Ao29 t282.length co29,.slice Ao30 t285.length co30] 30 (0,0)) (by (with_reducible repeat (first | refine blk_drewN ?_ _ | refine blk_drew ?_ | refine blk_alloc ?_ _)); exact BK288.out) hb)
       have n10_ := Aside0.mk (below_step (by repeat (first | (with_reducible first | exact HB.out | apply below_alloc | apply pw_below_drewN | apply below_drew1 | refine below_set ?_ GE262.out | refine below_set ?_ GE288.out) | exact HB.out)) hb)
       clear HO_8
       clear HO_9
       clear HO_13
       clear HO_14
       clear HO_289002
       clear HO_289003
       clear HO303
       clear HO306
       clear BK262
       clear BK288
       clear HB
       have HO_8 := n0_
       have HO_9 := n1_
       have HO_13 := n2_
       have HO_14 := n3_
       have HO_289002 := n4_
       have HO_289003 := n5_
       have HO303 := n6_
       have HO306 := n7_
       have BK262 := n8_
       have BK288 := n9_
       have HB := n10_
       clear n0_ n1_ n2_ n3_ n4_ n5_ n6_ n7_ n8_ n9_ n10_
       (try clear hb)
       (try clear hb2)
       (try clear hk)
       (try clear hi)
       refine hK.out _ _ ⟨(blk_cell BK288.out 0).trans rfl,(blk_cell BK288.out 1).trans rfl,(blk_cell BK288.out 2).trans rfl,(blk_cell BK288.out 3).trans rfl,(blk_cell BK262.out 0).trans rfl,(blk_cell BK262.out 1).trans rfl,(blk_cell BK262.out 2).trans rfl,(blk_cell BK262.out 3).trans rfl⟩ (fun hHeld => ?_)
       clear hK K
       refine norm_ (a' := ?_) ?_ ?_
       rotate_left
       ·show Act.put _ (some 76) _ = _
        simp only [Act.put,List.setIfInBounds_toArray,List.set_cons_zero,List.set_cons_succ,i64_w,i32_w]
        rfl
       refine pure_ (i := 4) (N := some 77) (v := ?_) (a' := ?_) #[true,true,true,true,true] rfl rfl (by kernel_rfl) (fun _ _ _ h => h) (Or.inl ⟨by rfl,?_⟩) ?_ ?_
       rotate_left
       ·intro w'
        go_simp
        with_reducible rfl
       rotate_left
       ·simp only [Act.put,List.setIfInBounds_toArray,List.set_cons_zero,List.set_cons_succ,i64_w,i32_w]
        rfl
       refine done_ (by kernel_rfl) ?_
       have hnb62 := NB288_262.out
       have hnc62 := NB262_288.out
       have hcz63_0 : w61.cell? ⟨gb288,0,none⟩ = some (.int .i64 t280) := (blk_cell BK288.out 0).trans rfl
       have hcz63_1 : w61.cell? ⟨gb288,1,none⟩ = some (.int .i64 t281) := (blk_cell BK288.out 1).trans rfl
       have hcz63_2 : w61.cell? ⟨gb288,2,none⟩ = some (.slice Ao29 t282.length co29) := (blk_cell BK288.out 2).trans rfl
       have hcz63_3 : w61.cell? ⟨gb288,3,none⟩ = some (.slice Ao30 t285.length co30) := (blk_cell BK288.out 3).trans rfl
       have hfz63_0 := blk_frozen BK288.out 0
       have hfz63_1 := blk_frozen BK288.out 1
       have hfz63_2 := blk_frozen BK288.out 2
       have hfz63_3 := blk_frozen BK288.out 3
       go_upto_region 16 with (first | ((with_reducible refine gate_callee (f := 29) rfl ?_); refine goesL_ (some 80) rfl rfl Tryd.func29 (by kernel_rfl) rfl #[.agg #[.int .i64 t280,.int .i64 t281,.slice Ao29 t282.length co29,.slice Ao30 t285.length co30],.int .i64 1] rfl (by (try simp only [List.map_toArray,List.map_cons,List.map_nil]); first | done | rfl | (simp only [List.length_drop,List.length_take]; rfl)) ?_; (with_reducible refine (laws_markBlockCode.calls kj14 t280 t281 (fun k_ => some k_ = (.slice Ao29 t282.length co29 : Value).ownBlock) (.slice Ao29 t282.length co29) t282 (fun k_ => some k_ = (.slice Ao30 t285.length co30 : Value).ownBlock) (.slice Ao30 t285.length co30) t285 1 t308 t309 t310 w _ ?side1 ?side2 ?side3 ?side4 ?side5 A55.out).mono ?_); (case side1 => repeat (first | (with_reducible first | exact HB.out | apply below_alloc | apply pw_below_drewN | apply below_drew1 | refine below_set ?_ GE262.out | refine below_set ?_ GE288.out) | exact HB.out)); (case side2 => exact Kd.R_tight rfl HO_289002.out); (case side3 => exact fun k_ e_ => (HO_289002.out.1 k_ e_.symm).1.1); (case side4 => exact Kd.R_tight rfl HO_289003.out); (case side5 => exact fun k_ e_ => (HO_289003.out.1 k_ e_.symm).1.1); rintro e w64 ⟨rfl,hy0,hy1,hb,hkp⟩; refine ⟨_,rfl,?_⟩; have n0_ := Aside0.mk (Kd.R_mono (ok' := fun k_ => some k_ ≠ (v276 : Value).ownBlock ∧ some k_ ≠ (v290 : Value).ownBlock ∧ some k_ ≠ (v293 : Value).ownBlock) (Kd.R_keptB ((Kd.R_apart' (Kd.R_apart' HO_8.out (Kd.R_typed HO_289002.out) (by decide)) (Kd.R_typed HO_289003.out) (by decide))) hkp (fun k_ hk_ hs_ => Or.elim hs_ (fun e_ => (hk_.1.2) e_) (fun e_ => (hk_.2) e_))) (fun k_ hk_ => ⟨hk_.1.1.1.1,hk_.1.1.1.2.1,hk_.1.1.1.2.2⟩)); have n1_ := Aside0.mk (Kd.R_mono (ok' := fun k_ => some k_ ≠ (v273 : Value).ownBlock ∧ some k_ ≠ (v290 : Value).ownBlock ∧ some k_ ≠ (v293 : Value).ownBlock) (Kd.R_keptB ((Kd.R_apart' (Kd.R_apart' HO_9.out (Kd.R_typed HO_289002.out) (by decide)) (Kd.R_typed HO_289003.out) (by decide))) hkp (fun k_ hk_ hs_ => Or.elim hs_ (fun e_ => (hk_.1.2) e_) (fun e_ => (hk_.2) e_))) (fun k_ hk_ => ⟨hk_.1.1.1.1,hk_.1.1.1.2.1,hk_.1.1.1.2.2⟩)); have n2_ := Aside0.mk (Kd.R_mono (ok' := fun k_ => some k_ ≠ (v273 : Value).ownBlock ∧ some k_ ≠ (v276 : Value).ownBlock ∧ some k_ ≠ (v293 : Value).ownBlock) (Kd.R_keptB ((Kd.R_apart' (Kd.R_apart' HO_13.out (Kd.R_typed HO_289002.out) (by decide)) (Kd.R_typed HO_289003.out) (by decide))) hkp (fun k_ hk_ hs_ => Or.elim hs_ (fun e_ => (hk_.1.2) e_) (fun e_ => (hk_.2) e_))) (fun k_ hk_ => ⟨hk_.1.1.1.1,hk_.1.1.1.2.1,hk_.1.1.1.2.2⟩)); have n3_ := Aside0.mk (Kd.R_mono (ok' := fun k_ => some k_ ≠ (v273 : Value).ownBlock ∧ some k_ ≠ (v276 : Value).ownBlock ∧ some k_ ≠ (v290 : Value).ownBlock) (Kd.R_keptB ((Kd.R_apart' (Kd.R_apart' HO_14.out (Kd.R_typed HO_289002.out) (by decide)) (Kd.R_typed HO_289003.out) (by decide))) hkp (fun k_ hk_ hs_ => Or.elim hs_ (fun e_ => (hk_.1.2) e_) (fun e_ => (hk_.2) e_))) (fun k_ hk_ => ⟨hk_.1.1.1.1,hk_.1.1.1.2.1,hk_.1.1.1.2.2⟩)); have n4_ := Aside0.mk (Kd.R_reok rfl hy0 (fun k_ e_ => HO_289002.out.1 k_ e_)); have n5_ := Aside0.mk (Kd.R_reok rfl hy1 (fun k_ e_ => HO_289003.out.1 k_ e_)); have n6_ := Aside0.mk (blk_kept (by (with_reducible repeat (first | refine blk_drewN ?_ _ | refine blk_drew ?_ | refine blk_alloc ?_ _)); exact BK262.out) hkp (fun hs_ => Or.elim hs_ (fun e_ => (fun e_ => (Kd.R_ne HO_289002.out BK262.out (by decide)) e_) e_) (fun e_ => (fun e_ => (Kd.R_ne HO_289003.out BK262.out (by decide)) e_) e_))); have n7_ := Aside0.mk (blk_kept (by (with_reducible repeat (first | refine blk_drewN ?_ _ | refine blk_drew ?_ | refine blk_alloc ?_ _)); exact BK288.out) hkp (fun hs_ => Or.elim hs_ (fun e_ => (fun e_ => (Kd.R_ne HO_289002.out BK288.out (by decide)) e_) e_) (fun e_ => (fun e_ => (Kd.R_ne HO_289003.out BK288.out (by decide)) e_) e_))); have n8_ := Aside0.mk (Kd.R_mono (ok' := fun k_ => some k_ ≠ (.slice Ao29 t282.length co29 : Value).ownBlock ∧ some k_ ≠ (.slice Ao30 t285.length co30 : Value).ownBlock ∧ some k_ ≠ (.slice Ao60 t304.length co60 : Value).ownBlock) (Kd.R_keptB (HO303.out) hkp (fun k_ hk_ hs_ => Or.elim hs_ (fun e_ => (hk_.1.2) e_) (fun e_ => (hk_.2) e_))) (fun k_ hk_ => ⟨hk_.1.1.2,hk_.1.2,hk_.1.1.1⟩)); have n9_ := Aside0.mk (Kd.R_mono (ok' := fun k_ => some k_ ≠ (.slice Ao29 t282.length co29 : Value).ownBlock ∧ some k_ ≠ (.slice Ao30 t285.length co30 : Value).ownBlock ∧ some k_ ≠ (.slice Ao59 t301.length co59 : Value).ownBlock) (Kd.R_keptB (HO306.out) hkp (fun k_ hk_ hs_ => Or.elim hs_ (fun e_ => (hk_.1.2) e_) (fun e_ => (hk_.2) e_))) (fun k_ hk_ => ⟨hk_.1.1.2,hk_.1.2,hk_.1.1.1⟩)); have n10_ := Aside0.mk (hb); clear HO_8; clear HO_9; clear HO_13; clear HO_14; clear HO_289002; clear HO_289003; clear BK262; clear BK288; clear HO303; clear HO306; clear HB; have HO_8 := n0_; have HO_9 := n1_; have HO_13 := n2_; have HO_14 := n3_; have HO_289002 := n4_; have HO_289003 := n5_; have BK262 := n6_; have BK288 := n7_; have HO303 := n8_; have HO306 := n9_; have HB := n10_; clear n0_ n1_ n2_ n3_ n4_ n5_ n6_ n7_ n8_ n9_ n10_; (try clear hb); (try clear hkp); (try clear hy0); (try clear hy1)))
       (try simp only [Act.put,List.setIfInBounds_toArray,List.set_cons_zero,List.set_cons_succ])
       go_cut [104] (fun v104 wc => ∃ (kq : Nat) (x104_55 : Bool),v104 = .bool x104_55 ∧ Aside0 (laws_FnExactDecodeBlocks.j1 kq a1 a2 t272 t275 t278 t279 t289 t292 x104_55 a0_0 a0_1 l0_2 l0_3 = some r) ∧ Aside0 (kq ≤ kj14) ∧ Aside0 (Kd.R (Kd.int .i64) 2 wc w.heap.size (fun k_ => some k_ ≠ (v276 : Value).ownBlock ∧ some k_ ≠ (v290 : Value).ownBlock ∧ some k_ ≠ (v293 : Value).ownBlock) v273 t272) ∧ Aside0 (Kd.R (Kd.int .i64) 2 wc w.heap.size (fun k_ => some k_ ≠ (v273 : Value).ownBlock ∧ some k_ ≠ (v290 : Value).ownBlock ∧ some k_ ≠ (v293 : Value).ownBlock) v276 t275) ∧ Aside0 (Kd.R (Kd.int .i64) 2 wc w.heap.size (fun k_ => some k_ ≠ (v273 : Value).ownBlock ∧ some k_ ≠ (v276 : Value).ownBlock ∧ some k_ ≠ (v293 : Value).ownBlock) v290 t289) ∧ Aside0 (Kd.R (Kd.int .i64) 2 wc w.heap.size (fun k_ => some k_ ≠ (v273 : Value).ownBlock ∧ some k_ ≠ (v276 : Value).ownBlock ∧ some k_ ≠ (v290 : Value).ownBlock) v293 t292) ∧ Aside0 (Kd.R Kd.string 9 wc w.heap.size (fun k_ => some k_ ≠ ((.slice Ao30 t285.length co30) : Value).ownBlock) (.slice Ao29 t282.length co29) t309) ∧ Aside0 (Kd.R Kd.string 9 wc w.heap.size (fun k_ => some k_ ≠ ((.slice Ao29 t282.length co29) : Value).ownBlock) (.slice Ao30 t285.length co30) t310) ∧ Aside0 (wc.heap[gb262]? = some (.cells #[.int .i64 a0_0,.int .i64 a0_1,(.slice A0_2 l0_2.length c0_2),(.slice A0_3 l0_3.length c0_3)] 27 (0,0))) ∧ Aside0 (wc.heap[gb288]? = some (.cells #[.int .i64 t280,.int .i64 t281,(.slice Ao29 t282.length co29),(.slice Ao30 t285.length co30)] 30 (0,0))) ∧ Aside0 (Below w.heap.size w wc))
       case first =>
        have H := HC56.out
        clear HC56
        by_cases c65 : t308 < 0
        ·rw [if_pos c65] at H
         have c65b0 : decide (t308 < 0) = true := decide_eq_true c65
         clear c65
         (first | rw [c65b0] | (simp only [i64_w,i32_w]; rw [c65b0]) | skip)
         have H' := Aside0.mk H
         clear H
         go_wp2
         go_meet
         case rel => exact ⟨_,(true),(by first | rfl | (simp; done) | (simp [*]; done)),H',⟨by have := HJ14.out; first | omega | exact Nat.le_refl _⟩,⟨by (with_reducible repeat (first | apply Kd.R_alloc | apply Kd.R_drewN | apply Kd.R_drew)); exact HO_8.out⟩,⟨by (with_reducible repeat (first | apply Kd.R_alloc | apply Kd.R_drewN | apply Kd.R_drew)); exact HO_9.out⟩,⟨by (with_reducible repeat (first | apply Kd.R_alloc | apply Kd.R_drewN | apply Kd.R_drew)); exact HO_13.out⟩,⟨by (with_reducible repeat (first | apply Kd.R_alloc | apply Kd.R_drewN | apply Kd.R_drew)); exact HO_14.out⟩,⟨by (with_reducible repeat (first | apply Kd.R_alloc | apply Kd.R_drewN | apply Kd.R_drew)); exact Kd.R_mono HO_289002.out (fun _ hk => hk.1.1)⟩,⟨by (with_reducible repeat (first | apply Kd.R_alloc | apply Kd.R_drewN | apply Kd.R_drew)); exact Kd.R_mono HO_289003.out (fun _ hk => hk.1.1)⟩,⟨by (with_reducible repeat (first | refine blk_drewN ?_ _ | refine blk_drew ?_ | refine blk_alloc ?_ _)); exact BK262.out⟩,⟨by (with_reducible repeat (first | refine blk_drewN ?_ _ | refine blk_drew ?_ | refine blk_alloc ?_ _)); exact BK288.out⟩,⟨by repeat (first | (with_reducible first | exact HB.out | apply below_alloc | apply pw_below_drewN | apply below_drew1 | refine below_set ?_ GE262.out | refine below_set ?_ GE288.out) | exact HB.out)⟩⟩
        ·rw [if_neg c65] at H
         have c65b0 : decide (t308 < 0) = false := decide_eq_false c65
         clear c65
         (first | rw [c65b0] | (simp only [i64_w,i32_w]; rw [c65b0]) | skip)
         replace H := Option.bind_eq_some_iff.mp H
         obtain ⟨t311,A660,H⟩ := H
         replace H : (if t311 = true then ((laws_eqInt64S.f kj14 t292 t275).bind fun t312 => (if t312 = true then (if t295 = t278 then (laws_FnExactDecodeBlocks.j1 kj14 a1 a2 t272 t275 t278 t279 t289 t292 (t296 != t279) a0_0 a0_1 l0_2 l0_3) else (laws_FnExactDecodeBlocks.j1 kj14 a1 a2 t272 t275 t278 t279 t289 t292 true a0_0 a0_1 l0_2 l0_3)) else (laws_FnExactDecodeBlocks.j1 kj14 a1 a2 t272 t275 t278 t279 t289 t292 true a0_0 a0_1 l0_2 l0_3))) else (laws_FnExactDecodeBlocks.j1 kj14 a1 a2 t272 t275 t278 t279 t289 t292 true a0_0 a0_1 l0_2 l0_3)) = some r := H
         have A66 := Aside0.mk A660
         clear A660
         by_cases c67 : t311 = true
         ·subst c67
          have H1 : ((laws_eqInt64S.f kj14 t292 t275).bind fun t312 => (if t312 = true then (if t295 = t278 then (laws_FnExactDecodeBlocks.j1 kj14 a1 a2 t272 t275 t278 t279 t289 t292 (t296 != t279) a0_0 a0_1 l0_2 l0_3) else (laws_FnExactDecodeBlocks.j1 kj14 a1 a2 t272 t275 t278 t279 t289 t292 true a0_0 a0_1 l0_2 l0_3)) else (laws_FnExactDecodeBlocks.j1 kj14 a1 a2 t272 t275 t278 t279 t289 t292 true a0_0 a0_1 l0_2 l0_3))) = some r := by rw [if_pos rfl] at H; exact H
          clear H
          have H := H1
          clear H1
          replace H := Option.bind_eq_some_iff.mp H
          obtain ⟨t312,A680,H⟩ := H
          replace H : (if t312 = true then (if t295 = t278 then (laws_FnExactDecodeBlocks.j1 kj14 a1 a2 t272 t275 t278 t279 t289 t292 (t296 != t279) a0_0 a0_1 l0_2 l0_3) else (laws_FnExactDecodeBlocks.j1 kj14 a1 a2 t272 t275 t278 t279 t289 t292 true a0_0 a0_1 l0_2 l0_3)) else (laws_FnExactDecodeBlocks.j1 kj14 a1 a2 t272 t275 t278 t279 t289 t292 true a0_0 a0_1 l0_2 l0_3)) = some r := H
          have A68 := Aside0.mk A680
          clear A680
          by_cases c69 : t312 = true
          ·subst c69
           have H1 : (if t295 = t278 then (laws_FnExactDecodeBlocks.j1 kj14 a1 a2 t272 t275 t278 t279 t289 t292 (t296 != t279) a0_0 a0_1 l0_2 l0_3) else (laws_FnExactDecodeBlocks.j1 kj14 a1 a2 t272 t275 t278 t279 t289 t292 true a0_0 a0_1 l0_2 l0_3)) = some r := by rw [if_pos rfl] at H; exact H
           clear H
           have H := H1
           clear H1
           by_cases c70 : t295 = t278
           ·rw [if_pos c70] at H
            have c70b0 : (t295 == t278) = true := beq_iff_eq.mpr c70
            have c70b1 : (t295 != t278) = false := bne_eq_false_iff_eq.mpr c70
            clear c70
            have H' := Aside0.mk H
            clear H
            obtain ⟨Ao71,co71,eo71⟩ := Kd.R_slice HO_13.out
            subst eo71
            obtain ⟨Ao72,co72,eo72⟩ := Kd.R_slice HO_8.out
            subst eo72
            go_wp2_with (first | (go_at_call 26; (with_reducible refine (laws_eqInt64S.calls kj14 _ _ t289 _ _ t272 true _ ?side1 ?side2 ?side3 ?side4 A66.out).mono ?_); (case side1 => repeat (first | exact (Kd.R_reads' HO_13.out).2.2 | (with_reducible refine Kd.C_alloc ?_ _) | (with_reducible refine Kd.C_drewN ?_ _) | (with_reducible refine Kd.C_drew ?_))); (case side2 => exact (Kd.R_reads' HO_13.out).2.1); (case side3 => repeat (first | exact (Kd.R_reads' HO_8.out).2.2 | (with_reducible refine Kd.C_alloc ?_ _) | (with_reducible refine Kd.C_drewN ?_ _) | (with_reducible refine Kd.C_drew ?_))); (case side4 => exact (Kd.R_reads' HO_8.out).2.1); rintro e w' ⟨rfl,⟨nd,rfl⟩⟩; obtain ⟨Ao73,co73,eo73⟩ := Kd.R_slice HO_14.out; subst eo73; obtain ⟨Ao74,co74,eo74⟩ := Kd.R_slice HO_9.out; subst eo74) | (go_at_call 26; (with_reducible refine (laws_eqInt64S.calls kj14 _ _ t292 _ _ t275 true _ ?side1 ?side2 ?side3 ?side4 A68.out).mono ?_); (case side1 => repeat (first | exact (Kd.R_reads' HO_14.out).2.2 | (with_reducible refine Kd.C_alloc ?_ _) | (with_reducible refine Kd.C_drewN ?_ _) | (with_reducible refine Kd.C_drew ?_))); (case side2 => exact (Kd.R_reads' HO_14.out).2.1); (case side3 => repeat (first | exact (Kd.R_reads' HO_9.out).2.2 | (with_reducible refine Kd.C_alloc ?_ _) | (with_reducible refine Kd.C_drewN ?_ _) | (with_reducible refine Kd.C_drew ?_))); (case side4 => exact (Kd.R_reads' HO_9.out).2.1); rintro e w' ⟨rfl,⟨nd,rfl⟩⟩))
            go_meet
            case rel => exact ⟨_,((t296 != t279)),(by first | rfl | (simp; done) | (simp [*]; done)),H',⟨by have := HJ14.out; first | omega | exact Nat.le_refl _⟩,⟨by (with_reducible repeat (first | apply Kd.R_alloc | apply Kd.R_drewN | apply Kd.R_drew)); exact HO_8.out⟩,⟨by (with_reducible repeat (first | apply Kd.R_alloc | apply Kd.R_drewN | apply Kd.R_drew)); exact HO_9.out⟩,⟨by (with_reducible repeat (first | apply Kd.R_alloc | apply Kd.R_drewN | apply Kd.R_drew)); exact HO_13.out⟩,⟨by (with_reducible repeat (first | apply Kd.R_alloc | apply Kd.R_drewN | apply Kd.R_drew)); exact HO_14.out⟩,⟨by (with_reducible repeat (first | apply Kd.R_alloc | apply Kd.R_drewN | apply Kd.R_drew)); exact Kd.R_mono HO_289002.out (fun _ hk => hk.1.1)⟩,⟨by (with_reducible repeat (first | apply Kd.R_alloc | apply Kd.R_drewN | apply Kd.R_drew)); exact Kd.R_mono HO_289003.out (fun _ hk => hk.1.1)⟩,⟨by (with_reducible repeat (first | refine blk_drewN ?_ _ | refine blk_drew ?_ | refine blk_alloc ?_ _)); exact BK262.out⟩,⟨by (with_reducible repeat (first | refine blk_drewN ?_ _ | refine blk_drew ?_ | refine blk_alloc ?_ _)); exact BK288.out⟩,⟨by repeat (first | (with_reducible first | exact HB.out | apply below_alloc | apply pw_below_drewN | apply below_drew1 | refine below_set ?_ GE262.out | refine below_set ?_ GE288.out) | exact HB.out)⟩⟩
           ·rw [if_neg c70] at H
            have c70b0 : (t295 == t278) = false := beq_eq_false_iff_ne.mpr c70
            have c70b1 : (t295 != t278) = true := bne_iff_ne.mpr c70
            have H' := Aside0.mk H
            clear H
            obtain ⟨Ao75,co75,eo75⟩ := Kd.R_slice HO_13.out
            subst eo75
            obtain ⟨Ao76,co76,eo76⟩ := Kd.R_slice HO_8.out
            subst eo76
            go_wp2_with (first | (go_at_call 26; (with_reducible refine (laws_eqInt64S.calls kj14 _ _ t289 _ _ t272 true _ ?side1 ?side2 ?side3 ?side4 A66.out).mono ?_); (case side1 => repeat (first | exact (Kd.R_reads' HO_13.out).2.2 | (with_reducible refine Kd.C_alloc ?_ _) | (with_reducible refine Kd.C_drewN ?_ _) | (with_reducible refine Kd.C_drew ?_))); (case side2 => exact (Kd.R_reads' HO_13.out).2.1); (case side3 => repeat (first | exact (Kd.R_reads' HO_8.out).2.2 | (with_reducible refine Kd.C_alloc ?_ _) | (with_reducible refine Kd.C_drewN ?_ _) | (with_reducible refine Kd.C_drew ?_))); (case side4 => exact (Kd.R_reads' HO_8.out).2.1); rintro e w' ⟨rfl,⟨nd,rfl⟩⟩; obtain ⟨Ao77,co77,eo77⟩ := Kd.R_slice HO_14.out; subst eo77; obtain ⟨Ao78,co78,eo78⟩ := Kd.R_slice HO_9.out; subst eo78) | (go_at_call 26; (with_reducible refine (laws_eqInt64S.calls kj14 _ _ t292 _ _ t275 true _ ?side1 ?side2 ?side3 ?side4 A68.out).mono ?_); (case side1 => repeat (first | exact (Kd.R_reads' HO_14.out).2.2 | (with_reducible refine Kd.C_alloc ?_ _) | (with_reducible refine Kd.C_drewN ?_ _) | (with_reducible refine Kd.C_drew ?_))); (case side2 => exact (Kd.R_reads' HO_14.out).2.1); (case side3 => repeat (first | exact (Kd.R_reads' HO_9.out).2.2 | (with_reducible refine Kd.C_alloc ?_ _) | (with_reducible refine Kd.C_drewN ?_ _) | (with_reducible refine Kd.C_drew ?_))); (case side4 => exact (Kd.R_reads' HO_9.out).2.1); rintro e w' ⟨rfl,⟨nd,rfl⟩⟩))
            go_meet
            case rel => exact ⟨_,(true),(by first | rfl | (simp; done) | (simp [*]; done)),H',⟨by have := HJ14.out; first | omega | exact Nat.le_refl _⟩,⟨by (with_reducible repeat (first | apply Kd.R_alloc | apply Kd.R_drewN | apply Kd.R_drew)); exact HO_8.out⟩,⟨by (with_reducible repeat (first | apply Kd.R_alloc | apply Kd.R_drewN | apply Kd.R_drew)); exact HO_9.out⟩,⟨by (with_reducible repeat (first | apply Kd.R_alloc | apply Kd.R_drewN | apply Kd.R_drew)); exact HO_13.out⟩,⟨by (with_reducible repeat (first | apply Kd.R_alloc | apply Kd.R_drewN | apply Kd.R_drew)); exact HO_14.out⟩,⟨by (with_reducible repeat (first | apply Kd.R_alloc | apply Kd.R_drewN | apply Kd.R_drew)); exact Kd.R_mono HO_289002.out (fun _ hk => hk.1.1)⟩,⟨by (with_reducible repeat (first | apply Kd.R_alloc | apply Kd.R_drewN | apply Kd.R_drew)); exact Kd.R_mono HO_289003.out (fun _ hk => hk.1.1)⟩,⟨by (with_reducible repeat (first | refine blk_drewN ?_ _ | refine blk_drew ?_ | refine blk_alloc ?_ _)); exact BK262.out⟩,⟨by (with_reducible repeat (first | refine blk_drewN ?_ _ | refine blk_drew ?_ | refine blk_alloc ?_ _)); exact BK288.out⟩,⟨by repeat (first | (with_reducible first | exact HB.out | apply below_alloc | apply pw_below_drewN | apply below_drew1 | refine below_set ?_ GE262.out | refine below_set ?_ GE288.out) | exact HB.out)⟩⟩
          ·replace c69 := Bool.eq_false_iff.mpr c69
           subst c69
           have H1 : (laws_FnExactDecodeBlocks.j1 kj14 a1 a2 t272 t275 t278 t279 t289 t292 true a0_0 a0_1 l0_2 l0_3) = some r := by rw [if_neg (show ¬ (false = true) by decide)] at H; exact H
           clear H
           have H := H1
           clear H1
           have H' := Aside0.mk H
           clear H
           obtain ⟨Ao79,co79,eo79⟩ := Kd.R_slice HO_13.out
           subst eo79
           obtain ⟨Ao80,co80,eo80⟩ := Kd.R_slice HO_8.out
           subst eo80
           go_wp2_with (first | (go_at_call 26; (with_reducible refine (laws_eqInt64S.calls kj14 _ _ t289 _ _ t272 true _ ?side1 ?side2 ?side3 ?side4 A66.out).mono ?_); (case side1 => repeat (first | exact (Kd.R_reads' HO_13.out).2.2 | (with_reducible refine Kd.C_alloc ?_ _) | (with_reducible refine Kd.C_drewN ?_ _) | (with_reducible refine Kd.C_drew ?_))); (case side2 => exact (Kd.R_reads' HO_13.out).2.1); (case side3 => repeat (first | exact (Kd.R_reads' HO_8.out).2.2 | (with_reducible refine Kd.C_alloc ?_ _) | (with_reducible refine Kd.C_drewN ?_ _) | (with_reducible refine Kd.C_drew ?_))); (case side4 => exact (Kd.R_reads' HO_8.out).2.1); rintro e w' ⟨rfl,⟨nd,rfl⟩⟩; obtain ⟨Ao81,co81,eo81⟩ := Kd.R_slice HO_14.out; subst eo81; obtain ⟨Ao82,co82,eo82⟩ := Kd.R_slice HO_9.out; subst eo82) | (go_at_call 26; (with_reducible refine (laws_eqInt64S.calls kj14 _ _ t292 _ _ t275 false _ ?side1 ?side2 ?side3 ?side4 A68.out).mono ?_); (case side1 => repeat (first | exact (Kd.R_reads' HO_14.out).2.2 | (with_reducible refine Kd.C_alloc ?_ _) | (with_reducible refine Kd.C_drewN ?_ _) | (with_reducible refine Kd.C_drew ?_))); (case side2 => exact (Kd.R_reads' HO_14.out).2.1); (case side3 => repeat (first | exact (Kd.R_reads' HO_9.out).2.2 | (with_reducible refine Kd.C_alloc ?_ _) | (with_reducible refine Kd.C_drewN ?_ _) | (with_reducible refine Kd.C_drew ?_))); (case side4 => exact (Kd.R_reads' HO_9.out).2.1); rintro e w' ⟨rfl,⟨nd,rfl⟩⟩))
           go_meet
           case rel => exact ⟨_,(true),(by first | rfl | (simp; done) | (simp [*]; done)),H',⟨by have := HJ14.out; first | omega | exact Nat.le_refl _⟩,⟨by (with_reducible repeat (first | apply Kd.R_alloc | apply Kd.R_drewN | apply Kd.R_drew)); exact HO_8.out⟩,⟨by (with_reducible repeat (first | apply Kd.R_alloc | apply Kd.R_drewN | apply Kd.R_drew)); exact HO_9.out⟩,⟨by (with_reducible repeat (first | apply Kd.R_alloc | apply Kd.R_drewN | apply Kd.R_drew)); exact HO_13.out⟩,⟨by (with_reducible repeat (first | apply Kd.R_alloc | apply Kd.R_drewN | apply Kd.R_drew)); exact HO_14.out⟩,⟨by (with_reducible repeat (first | apply Kd.R_alloc | apply Kd.R_drewN | apply Kd.R_drew)); exact Kd.R_mono HO_289002.out (fun _ hk => hk.1.1)⟩,⟨by (with_reducible repeat (first | apply Kd.R_alloc | apply Kd.R_drewN | apply Kd.R_drew)); exact Kd.R_mono HO_289003.out (fun _ hk => hk.1.1)⟩,⟨by (with_reducible repeat (first | refine blk_drewN ?_ _ | refine blk_drew ?_ | refine blk_alloc ?_ _)); exact BK262.out⟩,⟨by (with_reducible repeat (first | refine blk_drewN ?_ _ | refine blk_drew ?_ | refine blk_alloc ?_ _)); exact BK288.out⟩,⟨by repeat (first | (with_reducible first | exact HB.out | apply below_alloc | apply pw_below_drewN | apply below_drew1 | refine below_set ?_ GE262.out | refine below_set ?_ GE288.out) | exact HB.out)⟩⟩
         ·replace c67 := Bool.eq_false_iff.mpr c67
          subst c67
          have H1 : (laws_FnExactDecodeBlocks.j1 kj14 a1 a2 t272 t275 t278 t279 t289 t292 true a0_0 a0_1 l0_2 l0_3) = some r := by rw [if_neg (show ¬ (false = true) by decide)] at H; exact H
          clear H
          have H := H1
          clear H1
          have H' := Aside0.mk H
          clear H
          obtain ⟨Ao83,co83,eo83⟩ := Kd.R_slice HO_13.out
          subst eo83
          obtain ⟨Ao84,co84,eo84⟩ := Kd.R_slice HO_8.out
          subst eo84
          go_wp2_with (first | (go_at_call 26; (with_reducible refine (laws_eqInt64S.calls kj14 _ _ t289 _ _ t272 false _ ?side1 ?side2 ?side3 ?side4 A66.out).mono ?_); (case side1 => repeat (first | exact (Kd.R_reads' HO_13.out).2.2 | (with_reducible refine Kd.C_alloc ?_ _) | (with_reducible refine Kd.C_drewN ?_ _) | (with_reducible refine Kd.C_drew ?_))); (case side2 => exact (Kd.R_reads' HO_13.out).2.1); (case side3 => repeat (first | exact (Kd.R_reads' HO_8.out).2.2 | (with_reducible refine Kd.C_alloc ?_ _) | (with_reducible refine Kd.C_drewN ?_ _) | (with_reducible refine Kd.C_drew ?_))); (case side4 => exact (Kd.R_reads' HO_8.out).2.1); rintro e w' ⟨rfl,⟨nd,rfl⟩⟩))
          go_meet
          case rel => exact ⟨_,(true),(by first | rfl | (simp; done) | (simp [*]; done)),H',⟨by have := HJ14.out; first | omega | exact Nat.le_refl _⟩,⟨by (with_reducible repeat (first | apply Kd.R_alloc | apply Kd.R_drewN | apply Kd.R_drew)); exact HO_8.out⟩,⟨by (with_reducible repeat (first | apply Kd.R_alloc | apply Kd.R_drewN | apply Kd.R_drew)); exact HO_9.out⟩,⟨by (with_reducible repeat (first | apply Kd.R_alloc | apply Kd.R_drewN | apply Kd.R_drew)); exact HO_13.out⟩,⟨by (with_reducible repeat (first | apply Kd.R_alloc | apply Kd.R_drewN | apply Kd.R_drew)); exact HO_14.out⟩,⟨by (with_reducible repeat (first | apply Kd.R_alloc | apply Kd.R_drewN | apply Kd.R_drew)); exact Kd.R_mono HO_289002.out (fun _ hk => hk.1.1)⟩,⟨by (with_reducible repeat (first | apply Kd.R_alloc | apply Kd.R_drewN | apply Kd.R_drew)); exact Kd.R_mono HO_289003.out (fun _ hk => hk.1.1)⟩,⟨by (with_reducible repeat (first | refine blk_drewN ?_ _ | refine blk_drew ?_ | refine blk_alloc ?_ _)); exact BK262.out⟩,⟨by (with_reducible repeat (first | refine blk_drewN ?_ _ | refine blk_drew ?_ | refine blk_alloc ?_ _)); exact BK288.out⟩,⟨by repeat (first | (with_reducible first | exact HB.out | apply below_alloc | apply pw_below_drewN | apply below_drew1 | refine below_set ?_ GE262.out | refine below_set ?_ GE288.out) | exact HB.out)⟩⟩
       case rest =>
        clear HC56
        try clear c1
        try clear c2
        try clear p2
        try clear c3
        try clear c4
        try clear c4b0
        try clear c4b1
        try clear c5
        try clear c6
        try clear c7
        try clear c7b0
        try clear c8
        try clear c14
        try clear c16
        try clear c18
        try clear c26
        try clear c27
        try clear c28
        try clear c29
        try clear c33
        try clear c35
        try clear c36
        try clear c36b0
        try clear c36b1
        try clear c51
        try clear c54
        try clear c62
        try clear c65
        try clear c65b0
        try clear c67
        try clear c69
        try clear c70
        try clear c70b0
        try clear c70b1
        try clear hcz17_0
        try clear hcz17_1
        try clear hcz17_2
        try clear hcz17_3
        try clear hcz19_0
        try clear hcz19_1
        try clear hcz19_2
        try clear hcz19_3
        try clear hcz24_0
        try clear hcz24_1
        try clear hcz24_2
        try clear hcz24_3
        try clear hcz28_0
        try clear hcz28_1
        try clear hcz28_2
        try clear hcz28_3
        try clear hcz63_0
        try clear hcz63_1
        try clear hcz63_2
        try clear hcz63_3
        try clear hcz9_0
        try clear hcz9_1
        try clear hcz9_2
        try clear hcz9_3
        try clear hfz17_0
        try clear hfz17_1
        try clear hfz17_2
        try clear hfz17_3
        try clear hfz19_0
        try clear hfz19_1
        try clear hfz19_2
        try clear hfz19_3
        try clear hfz24_0
        try clear hfz24_1
        try clear hfz24_2
        try clear hfz24_3
        try clear hfz28_0
        try clear hfz28_1
        try clear hfz28_2
        try clear hfz28_3
        try clear hfz63_0
        try clear hfz63_1
        try clear hfz63_2
        try clear hfz63_3
        try clear hfz9_0
        try clear hfz9_1
        try clear hfz9_2
        try clear hfz9_3
        try clear p2
        obtain ⟨kq,x104_55,rfl,HA,HJ55,HO_8,HO_9,HO_13,HO_14,HO_289002,HO_289003,BK262,BK288,HB⟩ := hcut
        have hl289002_55 := (Kd.R_reads' HO_289002.out).1
        rw [hl289002_55] at HO_289002
        (try simp only [hl289002_55])
        (try simp only [hl289002_55] at BK262)
        (try simp only [hl289002_55] at BK288)
        (try simp only [hl289002_55] at HO_8)
        (try simp only [hl289002_55] at HO_9)
        (try simp only [hl289002_55] at HO_13)
        (try simp only [hl289002_55] at HO_14)
        (try simp only [hl289002_55] at HO_289003)
        have hl289003_55 := (Kd.R_reads' HO_289003.out).1
        rw [hl289003_55] at HO_289003
        (try simp only [hl289003_55])
        (try simp only [hl289003_55] at BK262)
        (try simp only [hl289003_55] at BK288)
        (try simp only [hl289003_55] at HO_8)
        (try simp only [hl289003_55] at HO_9)
        (try simp only [hl289003_55] at HO_13)
        (try simp only [hl289003_55] at HO_14)
        (try simp only [hl289003_55] at HO_289002)
        cases kq with
        | zero => exact absurd HA.out (by simp [laws_FnExactDecodeBlocks.j1])
        | succ kj55 =>
         have H := HA.out
         clear HA
         simp only [laws_FnExactDecodeBlocks.j1] at H
         by_cases c85 : x104_55 = true
         ·subst c85
          have H1 : (some false) = some r := by rw [if_pos rfl] at H; exact H
          clear H
          have H := H1
          clear H1
          obtain rfl := Option.some.inj H
          go_wp2
          go_ret
          exact ⟨by first | rfl | (simp [errW_none,errW_some] <;> rfl) | (simp [*,errW_none,errW_some] <;> rfl),by repeat (first | (with_reducible first | exact HB.out | apply below_alloc | apply pw_below_drewN | apply below_drew1 | refine below_set ?_ GE262.out | refine below_set ?_ GE288.out) | exact HB.out)⟩
         ·replace c85 := Bool.eq_false_iff.mpr c85
          subst c85
          have H1 : ((laws_markInt64S.f kj55 t289 1).bind fun bt313 => ((laws_markInt64S.f kj55 t292 bt313.1).bind fun bt315 => ((laws_heldInt64S.f kj55 bt313.2 1).bind fun t317 => (if t317 < 0 then (some false) else ((laws_heldInt64S.f kj55 bt315.2 t317).bind fun t318 => (if t318 < 0 then (some false) else (if t318 = bt315.1 then ((laws_toBlockCode.f kj55 a0_0 a0_1 l0_2 l0_3).bind fun bt319 => ((impl_DecodeBlocks.f kj55 bt319.1 bt319.2.1 bt319.2.2.1 bt319.2.2.2 a1 a2).bind fun bt327 => ((laws_eqInt64S.f kj55 bt327.1 t272).bind fun t335 => (if t335 = true then ((laws_eqInt64S.f kj55 bt327.2.1 t275).bind fun t336 => (if t336 = true then (if bt327.2.2.1 = t278 then (laws_FnExactDecodeBlocks.j2 kj55 bt313.2 bt315.2 bt315.1 (bt327.2.2.2 != t279)) else (laws_FnExactDecodeBlocks.j2 kj55 bt313.2 bt315.2 bt315.1 true)) else (laws_FnExactDecodeBlocks.j2 kj55 bt313.2 bt315.2 bt315.1 true))) else (laws_FnExactDecodeBlocks.j2 kj55 bt313.2 bt315.2 bt315.1 true))))) else (some false)))))))) = some r := by rw [if_neg (show ¬ (false = true) by decide)] at H; exact H
          clear H
          have H := H1
          clear H1
          replace H := Option.bind_eq_some_iff.mp H
          obtain ⟨⟨t313,t314⟩,A860,H⟩ := H
          replace H : ((laws_markInt64S.f kj55 t292 t313).bind fun bt315 => ((laws_heldInt64S.f kj55 t314 1).bind fun t317 => (if t317 < 0 then (some false) else ((laws_heldInt64S.f kj55 bt315.2 t317).bind fun t318 => (if t318 < 0 then (some false) else (if t318 = bt315.1 then ((laws_toBlockCode.f kj55 a0_0 a0_1 l0_2 l0_3).bind fun bt319 => ((impl_DecodeBlocks.f kj55 bt319.1 bt319.2.1 bt319.2.2.1 bt319.2.2.2 a1 a2).bind fun bt327 => ((laws_eqInt64S.f kj55 bt327.1 t272).bind fun t335 => (if t335 = true then ((laws_eqInt64S.f kj55 bt327.2.1 t275).bind fun t336 => (if t336 = true then (if bt327.2.2.1 = t278 then (laws_FnExactDecodeBlocks.j2 kj55 t314 bt315.2 bt315.1 (bt327.2.2.2 != t279)) else (laws_FnExactDecodeBlocks.j2 kj55 t314 bt315.2 bt315.1 true)) else (laws_FnExactDecodeBlocks.j2 kj55 t314 bt315.2 bt315.1 true))) else (laws_FnExactDecodeBlocks.j2 kj55 t314 bt315.2 bt315.1 true))))) else (some false))))))) = some r := H
          have A86 := Aside0.mk A860
          clear A860
          replace H := Option.bind_eq_some_iff.mp H
          obtain ⟨⟨t315,t316⟩,A870,H⟩ := H
          replace H : ((laws_heldInt64S.f kj55 t314 1).bind fun t317 => (if t317 < 0 then (some false) else ((laws_heldInt64S.f kj55 t316 t317).bind fun t318 => (if t318 < 0 then (some false) else (if t318 = t315 then ((laws_toBlockCode.f kj55 a0_0 a0_1 l0_2 l0_3).bind fun bt319 => ((impl_DecodeBlocks.f kj55 bt319.1 bt319.2.1 bt319.2.2.1 bt319.2.2.2 a1 a2).bind fun bt327 => ((laws_eqInt64S.f kj55 bt327.1 t272).bind fun t335 => (if t335 = true then ((laws_eqInt64S.f kj55 bt327.2.1 t275).bind fun t336 => (if t336 = true then (if bt327.2.2.1 = t278 then (laws_FnExactDecodeBlocks.j2 kj55 t314 t316 t315 (bt327.2.2.2 != t279)) else (laws_FnExactDecodeBlocks.j2 kj55 t314 t316 t315 true)) else (laws_FnExactDecodeBlocks.j2 kj55 t314 t316 t315 true))) else (laws_FnExactDecodeBlocks.j2 kj55 t314 t316 t315 true))))) else (some false)))))) = some r := H
          have A87 := Aside0.mk A870
          clear A870
          replace H := Option.bind_eq_some_iff.mp H
          obtain ⟨t317,A880,H⟩ := H
          replace H : (if t317 < 0 then (some false) else ((laws_heldInt64S.f kj55 t316 t317).bind fun t318 => (if t318 < 0 then (some false) else (if t318 = t315 then ((laws_toBlockCode.f kj55 a0_0 a0_1 l0_2 l0_3).bind fun bt319 => ((impl_DecodeBlocks.f kj55 bt319.1 bt319.2.1 bt319.2.2.1 bt319.2.2.2 a1 a2).bind fun bt327 => ((laws_eqInt64S.f kj55 bt327.1 t272).bind fun t335 => (if t335 = true then ((laws_eqInt64S.f kj55 bt327.2.1 t275).bind fun t336 => (if t336 = true then (if bt327.2.2.1 = t278 then (laws_FnExactDecodeBlocks.j2 kj55 t314 t316 t315 (bt327.2.2.2 != t279)) else (laws_FnExactDecodeBlocks.j2 kj55 t314 t316 t315 true)) else (laws_FnExactDecodeBlocks.j2 kj55 t314 t316 t315 true))) else (laws_FnExactDecodeBlocks.j2 kj55 t314 t316 t315 true))))) else (some false))))) = some r := H
          have A88 := Aside0.mk A880
          clear A880
          by_cases c89 : t317 < 0
          ·rw [if_pos c89] at H
           have c89b0 : decide (t317 < 0) = true := decide_eq_true c89
           clear c89
           obtain rfl := Option.some.inj H
           obtain ⟨Ao90,co90,eo90⟩ := Kd.R_slice HO_13.out
           subst eo90
           go_wp2_with (first | ((with_reducible refine gate_callee (f := 30) rfl ?_); refine goesL_ (some 107) rfl rfl Tryd.func30 (by kernel_rfl) rfl #[.slice Ao90 t289.length co90,.int .i64 1] rfl (by (try simp only [List.map_toArray,List.map_cons,List.map_nil]); first | done | rfl | (simp only [List.length_drop,List.length_take]; rfl)) ?_; (with_reducible refine (laws_markInt64S.calls kj55 (fun k_ => some k_ = (.slice Ao90 t289.length co90 : Value).ownBlock) (.slice Ao90 t289.length co90) t289 1 t313 t314 w _ ?side1 ?side2 A86.out).mono ?_); (case side1 => repeat (first | (with_reducible first | exact HB.out | apply below_alloc | apply pw_below_drewN | apply below_drew1 | refine below_set ?_ GE262.out | refine below_set ?_ GE288.out) | exact HB.out)); (case side2 => exact Kd.R_tight rfl HO_13.out); rintro e w91 ⟨rfl,hy0,hb,hkp⟩; refine ⟨_,rfl,?_⟩; have n0_ := Aside0.mk (Kd.R_mono (ok' := fun k_ => some k_ ≠ (v276 : Value).ownBlock ∧ some k_ ≠ (.slice Ao90 t289.length co90 : Value).ownBlock ∧ some k_ ≠ (v293 : Value).ownBlock) (Kd.R_keptB (HO_8.out) hkp (fun k_ hk_ hs_ => (hk_.2.1) hs_)) (fun k_ hk_ => ⟨hk_.1.1,hk_.1.2.1,hk_.1.2.2⟩)); have n1_ := Aside0.mk (Kd.R_mono (ok' := fun k_ => some k_ ≠ (v273 : Value).ownBlock ∧ some k_ ≠ (.slice Ao90 t289.length co90 : Value).ownBlock ∧ some k_ ≠ (v293 : Value).ownBlock) (Kd.R_keptB (HO_9.out) hkp (fun k_ hk_ hs_ => (hk_.2.1) hs_)) (fun k_ hk_ => ⟨hk_.1.1,hk_.1.2.1,hk_.1.2.2⟩)); have n2_ := Aside0.mk (Kd.R_reok rfl hy0 (fun k_ e_ => HO_13.out.1 k_ e_)); have n3_ := Aside0.mk (Kd.R_mono (ok' := fun k_ => some k_ ≠ (v273 : Value).ownBlock ∧ some k_ ≠ (v276 : Value).ownBlock ∧ some k_ ≠ (.slice Ao90 t289.length co90 : Value).ownBlock) (Kd.R_keptB (HO_14.out) hkp (fun k_ hk_ hs_ => (hk_.2.2) hs_)) (fun k_ hk_ => ⟨hk_.1.1,hk_.1.2.1,hk_.1.2.2⟩)); have n4_ := Aside0.mk (Kd.R_mono (ok' := fun k_ => some k_ ≠ (.slice Ao30 t310.length co30 : Value).ownBlock) (Kd.R_keptB ((Kd.R_apart' HO_289002.out (Kd.R_typed HO_13.out) (by decide))) hkp (fun k_ hk_ hs_ => (hk_.2) hs_)) (fun k_ hk_ => hk_.1.1)); have n5_ := Aside0.mk (Kd.R_mono (ok' := fun k_ => some k_ ≠ (.slice Ao29 t309.length co29 : Value).ownBlock) (Kd.R_keptB ((Kd.R_apart' HO_289003.out (Kd.R_typed HO_13.out) (by decide))) hkp (fun k_ hk_ hs_ => (hk_.2) hs_)) (fun k_ hk_ => hk_.1.1)); have n6_ := Aside0.mk (blk_kept (by (with_reducible repeat (first | refine blk_drewN ?_ _ | refine blk_drew ?_ | refine blk_alloc ?_ _)); exact BK262.out) hkp (fun hs_ => (fun e_ => (Kd.R_ne HO_13.out BK262.out (by decide)) e_) hs_)); have n7_ := Aside0.mk (blk_kept (by (with_reducible repeat (first | refine blk_drewN ?_ _ | refine blk_drew ?_ | refine blk_alloc ?_ _)); exact BK288.out) hkp (fun hs_ => (fun e_ => (Kd.R_ne HO_13.out BK288.out (by decide)) e_) hs_)); have n8_ := Aside0.mk (hb); clear HO_8; clear HO_9; clear HO_13; clear HO_14; clear HO_289002; clear HO_289003; clear BK262; clear BK288; clear HB; have HO_8 := n0_; have HO_9 := n1_; have HO_13 := n2_; have HO_14 := n3_; have HO_289002 := n4_; have HO_289003 := n5_; have BK262 := n6_; have BK288 := n7_; have HB := n8_; clear n0_ n1_ n2_ n3_ n4_ n5_ n6_ n7_ n8_; (try clear hb); (try clear hkp); (try clear hy0); obtain ⟨Ao92,co92,eo92⟩ := Kd.R_slice HO_14.out; subst eo92) | ((with_reducible refine gate_callee (f := 30) rfl ?_); refine goesL_ (some 110) rfl rfl Tryd.func30 (by kernel_rfl) rfl #[.slice Ao92 t292.length co92,.int .i64 t313] rfl (by (try simp only [List.map_toArray,List.map_cons,List.map_nil]); first | done | rfl | (simp only [List.length_drop,List.length_take]; rfl)) ?_; (with_reducible refine (laws_markInt64S.calls kj55 (fun k_ => some k_ = (.slice Ao92 t292.length co92 : Value).ownBlock) (.slice Ao92 t292.length co92) t292 t313 t315 t316 w _ ?side1 ?side2 A87.out).mono ?_); (case side1 => repeat (first | (with_reducible first | exact HB.out | apply below_alloc | apply pw_below_drewN | apply below_drew1 | refine below_set ?_ GE262.out | refine below_set ?_ GE288.out) | exact HB.out)); (case side2 => exact Kd.R_tight rfl HO_14.out); rintro e w93 ⟨rfl,hy0,hb,hkp⟩; refine ⟨_,rfl,?_⟩; have n0_ := Aside0.mk (Kd.R_mono (ok' := fun k_ => some k_ ≠ (v276 : Value).ownBlock ∧ some k_ ≠ (.slice Ao90 t289.length co90 : Value).ownBlock ∧ some k_ ≠ (.slice Ao92 t292.length co92 : Value).ownBlock) (Kd.R_keptB (HO_8.out) hkp (fun k_ hk_ hs_ => (hk_.2.2) hs_)) (fun k_ hk_ => ⟨hk_.1.1,hk_.1.2.1,hk_.1.2.2⟩)); have n1_ := Aside0.mk (Kd.R_mono (ok' := fun k_ => some k_ ≠ (v273 : Value).ownBlock ∧ some k_ ≠ (.slice Ao90 t289.length co90 : Value).ownBlock ∧ some k_ ≠ (.slice Ao92 t292.length co92 : Value).ownBlock) (Kd.R_keptB (HO_9.out) hkp (fun k_ hk_ hs_ => (hk_.2.2) hs_)) (fun k_ hk_ => ⟨hk_.1.1,hk_.1.2.1,hk_.1.2.2⟩)); have n2_ := Aside0.mk (Kd.R_mono (ok' := fun k_ => some k_ ≠ (v273 : Value).ownBlock ∧ some k_ ≠ (v276 : Value).ownBlock ∧ some k_ ≠ (.slice Ao92 t292.length co92 : Value).ownBlock) (Kd.R_keptB (HO_13.out) hkp (fun k_ hk_ hs_ => (hk_.2.2) hs_)) (fun k_ hk_ => ⟨hk_.1.1,hk_.1.2.1,hk_.1.2.2⟩)); have n3_ := Aside0.mk (Kd.R_reok rfl hy0 (fun k_ e_ => HO_14.out.1 k_ e_)); have n4_ := Aside0.mk (Kd.R_mono (ok' := fun k_ => some k_ ≠ (.slice Ao30 t310.length co30 : Value).ownBlock) (Kd.R_keptB ((Kd.R_apart' HO_289002.out (Kd.R_typed HO_14.out) (by decide))) hkp (fun k_ hk_ hs_ => (hk_.2) hs_)) (fun k_ hk_ => hk_.1.1)); have n5_ := Aside0.mk (Kd.R_mono (ok' := fun k_ => some k_ ≠ (.slice Ao29 t309.length co29 : Value).ownBlock) (Kd.R_keptB ((Kd.R_apart' HO_289003.out (Kd.R_typed HO_14.out) (by decide))) hkp (fun k_ hk_ hs_ => (hk_.2) hs_)) (fun k_ hk_ => hk_.1.1)); have n6_ := Aside0.mk (blk_kept (by (with_reducible repeat (first | refine blk_drewN ?_ _ | refine blk_drew ?_ | refine blk_alloc ?_ _)); exact BK262.out) hkp (fun hs_ => (fun e_ => (Kd.R_ne HO_14.out BK262.out (by decide)) e_) hs_)); have n7_ := Aside0.mk (blk_kept (by (with_reducible repeat (first | refine blk_drewN ?_ _ | refine blk_drew ?_ | refine blk_alloc ?_ _)); exact BK288.out) hkp (fun hs_ => (fun e_ => (Kd.R_ne HO_14.out BK288.out (by decide)) e_) hs_)); have n8_ := Aside0.mk (hb); clear HO_8; clear HO_9; clear HO_13; clear HO_14; clear HO_289002; clear HO_289003; clear BK262; clear BK288; clear HB; have HO_8 := n0_; have HO_9 := n1_; have HO_13 := n2_; have HO_14 := n3_; have HO_289002 := n4_; have HO_289003 := n5_; have BK262 := n6_; have BK288 := n7_; have HB := n8_; clear n0_ n1_ n2_ n3_ n4_ n5_ n6_ n7_ n8_; (try clear hb); (try clear hkp); (try clear hy0)) | ((with_reducible refine gate_callee (f := 31) rfl ?_); refine goesL_ (some 113) rfl rfl Tryd.func31 (by kernel_rfl) rfl #[.slice Ao90 t314.length co90,.int .i64 1] rfl (by (try simp only [List.map_toArray,List.map_cons,List.map_nil]); first | done | (rw [show t314.length = t289.length from (Kd.R_reads' HO_13.out).1.symm] <;> rfl) | rfl | (simp only [List.length_drop,List.length_take]; rfl)) ?_; (with_reducible refine (laws_heldInt64S.calls kj55 _ _ t314 1 t317 _ ?side1 ?side2 A88.out).mono ?_); (case side1 => repeat (first | exact (Kd.R_reads' HO_13.out).2.2 | (with_reducible refine Kd.C_alloc ?_ _) | (with_reducible refine Kd.C_drewN ?_ _) | (with_reducible refine Kd.C_drew ?_))); (case side2 => rw [show t314.length = t289.length from (Kd.R_reads' HO_13.out).1.symm]; exact (Kd.R_reads' HO_13.out).2.1); rintro e w' ⟨rfl,⟨nd,rfl⟩⟩; refine ⟨_,rfl,?_⟩))
           go_ret
           exact ⟨by first | rfl | (simp [errW_none,errW_some] <;> rfl) | (simp [*,errW_none,errW_some] <;> rfl),by repeat (first | (with_reducible first | exact HB.out | apply below_alloc | apply pw_below_drewN | apply below_drew1 | refine below_set ?_ GE262.out | refine below_set ?_ GE288.out) | exact HB.out)⟩
          ·rw [if_neg c89] at H
           have c89b0 : decide (t317 < 0) = false := decide_eq_false c89
           clear c89
           replace H := Option.bind_eq_some_iff.mp H
           obtain ⟨t318,A940,H⟩ := H
           replace H : (if t318 < 0 then (some false) else (if t318 = t315 then ((laws_toBlockCode.f kj55 a0_0 a0_1 l0_2 l0_3).bind fun bt319 => ((impl_DecodeBlocks.f kj55 bt319.1 bt319.2.1 bt319.2.2.1 bt319.2.2.2 a1 a2).bind fun bt327 => ((laws_eqInt64S.f kj55 bt327.1 t272).bind fun t335 => (if t335 = true then ((laws_eqInt64S.f kj55 bt327.2.1 t275).bind fun t336 => (if t336 = true then (if bt327.2.2.1 = t278 then (laws_FnExactDecodeBlocks.j2 kj55 t314 t316 t315 (bt327.2.2.2 != t279)) else (laws_FnExactDecodeBlocks.j2 kj55 t314 t316 t315 true)) else (laws_FnExactDecodeBlocks.j2 kj55 t314 t316 t315 true))) else (laws_FnExactDecodeBlocks.j2 kj55 t314 t316 t315 true))))) else (some false))) = some r := H
           have A94 := Aside0.mk A940
           clear A940
           by_cases c95 : t318 < 0
           ·rw [if_pos c95] at H
            have c95b0 : decide (t318 < 0) = true := decide_eq_true c95
            clear c95
            obtain rfl := Option.some.inj H
            obtain ⟨Ao96,co96,eo96⟩ := Kd.R_slice HO_13.out
            subst eo96
            go_wp2_with (first | ((with_reducible refine gate_callee (f := 30) rfl ?_); refine goesL_ (some 107) rfl rfl Tryd.func30 (by kernel_rfl) rfl #[.slice Ao96 t289.length co96,.int .i64 1] rfl (by (try simp only [List.map_toArray,List.map_cons,List.map_nil]); first | done | rfl | (simp only [List.length_drop,List.length_take]; rfl)) ?_; (with_reducible refine (laws_markInt64S.calls kj55 (fun k_ => some k_ = (.slice Ao96 t289.length co96 : Value).ownBlock) (.slice Ao96 t289.length co96) t289 1 t313 t314 w _ ?side1 ?side2 A86.out).mono ?_); (case side1 => repeat (first | (with_reducible first | exact HB.out | apply below_alloc | apply pw_below_drewN | apply below_drew1 | refine below_set ?_ GE262.out | refine below_set ?_ GE288.out) | exact HB.out)); (case side2 => exact Kd.R_tight rfl HO_13.out); rintro e w97 ⟨rfl,hy0,hb,hkp⟩; refine ⟨_,rfl,?_⟩; have n0_ := Aside0.mk (Kd.R_mono (ok' := fun k_ => some k_ ≠ (v276 : Value).ownBlock ∧ some k_ ≠ (.slice Ao96 t289.length co96 : Value).ownBlock ∧ some k_ ≠ (v293 : Value).ownBlock) (Kd.R_keptB (HO_8.out) hkp (fun k_ hk_ hs_ => (hk_.2.1) hs_)) (fun k_ hk_ => ⟨hk_.1.1,hk_.1.2.1,hk_.1.2.2⟩)); have n1_ := Aside0.mk (Kd.R_mono (ok' := fun k_ => some k_ ≠ (v273 : Value).ownBlock ∧ some k_ ≠ (.slice Ao96 t289.length co96 : Value).ownBlock ∧ some k_ ≠ (v293 : Value).ownBlock) (Kd.R_keptB (HO_9.out) hkp (fun k_ hk_ hs_ => (hk_.2.1) hs_)) (fun k_ hk_ => ⟨hk_.1.1,hk_.1.2.1,hk_.1.2.2⟩)); have n2_ := Aside0.mk (Kd.R_reok rfl hy0 (fun k_ e_ => HO_13.out.1 k_ e_)); have n3_ := Aside0.mk (Kd.R_mono (ok' := fun k_ => some k_ ≠ (v273 : Value).ownBlock ∧ some k_ ≠ (v276 : Value).ownBlock ∧ some k_ ≠ (.slice Ao96 t289.length co96 : Value).ownBlock) (Kd.R_keptB (HO_14.out) hkp (fun k_ hk_ hs_ => (hk_.2.2) hs_)) (fun k_ hk_ => ⟨hk_.1.1,hk_.1.2.1,hk_.1.2.2⟩)); have n4_ := Aside0.mk (Kd.R_mono (ok' := fun k_ => some k_ ≠ (.slice Ao30 t310.length co30 : Value).ownBlock) (Kd.R_keptB ((Kd.R_apart' HO_289002.out (Kd.R_typed HO_13.out) (by decide))) hkp (fun k_ hk_ hs_ => (hk_.2) hs_)) (fun k_ hk_ => hk_.1.1)); have n5_ := Aside0.mk (Kd.R_mono (ok' := fun k_ => some k_ ≠ (.slice Ao29 t309.length co29 : Value).ownBlock) (Kd.R_keptB ((Kd.R_apart' HO_289003.out (Kd.R_typed HO_13.out) (by decide))) hkp (fun k_ hk_ hs_ => (hk_.2) hs_)) (fun k_ hk_ => hk_.1.1)); have n6_ := Aside0.mk (blk_kept (by (with_reducible repeat (first | refine blk_drewN ?_ _ | refine blk_drew ?_ | refine blk_alloc ?_ _)); exact BK262.out) hkp (fun hs_ => (fun e_ => (Kd.R_ne HO_13.out BK262.out (by decide)) e_) hs_)); have n7_ := Aside0.mk (blk_kept (by (with_reducible repeat (first | refine blk_drewN ?_ _ | refine blk_drew ?_ | refine blk_alloc ?_ _)); exact BK288.out) hkp (fun hs_ => (fun e_ => (Kd.R_ne HO_13.out BK288.out (by decide)) e_) hs_)); have n8_ := Aside0.mk (hb); clear HO_8; clear HO_9; clear HO_13; clear HO_14; clear HO_289002; clear HO_289003; clear BK262; clear BK288; clear HB; have HO_8 := n0_; have HO_9 := n1_; have HO_13 := n2_; have HO_14 := n3_; have HO_289002 := n4_; have HO_289003 := n5_; have BK262 := n6_; have BK288 := n7_; have HB := n8_; clear n0_ n1_ n2_ n3_ n4_ n5_ n6_ n7_ n8_; (try clear hb); (try clear hkp); (try clear hy0); obtain ⟨Ao98,co98,eo98⟩ := Kd.R_slice HO_14.out; subst eo98) | ((with_reducible refine gate_callee (f := 30) rfl ?_); refine goesL_ (some 110) rfl rfl Tryd.func30 (by kernel_rfl) rfl #[.slice Ao98 t292.length co98,.int .i64 t313] rfl (by (try simp only [List.map_toArray,List.map_cons,List.map_nil]); first | done | rfl | (simp only [List.length_drop,List.length_take]; rfl)) ?_; (with_reducible refine (laws_markInt64S.calls kj55 (fun k_ => some k_ = (.slice Ao98 t292.length co98 : Value).ownBlock) (.slice Ao98 t292.length co98) t292 t313 t315 t316 w _ ?side1 ?side2 A87.out).mono ?_); (case side1 => repeat (first | (with_reducible first | exact HB.out | apply below_alloc | apply pw_below_drewN | apply below_drew1 | refine below_set ?_ GE262.out | refine below_set ?_ GE288.out) | exact HB.out)); (case side2 => exact Kd.R_tight rfl HO_14.out); rintro e w99 ⟨rfl,hy0,hb,hkp⟩; refine ⟨_,rfl,?_⟩; have n0_ := Aside0.mk (Kd.R_mono (ok' := fun k_ => some k_ ≠ (v276 : Value).ownBlock ∧ some k_ ≠ (.slice Ao96 t289.length co96 : Value).ownBlock ∧ some k_ ≠ (.slice Ao98 t292.length co98 : Value).ownBlock) (Kd.R_keptB (HO_8.out) hkp (fun k_ hk_ hs_ => (hk_.2.2) hs_)) (fun k_ hk_ => ⟨hk_.1.1,hk_.1.2.1,hk_.1.2.2⟩)); have n1_ := Aside0.mk (Kd.R_mono (ok' := fun k_ => some k_ ≠ (v273 : Value).ownBlock ∧ some k_ ≠ (.slice Ao96 t289.length co96 : Value).ownBlock ∧ some k_ ≠ (.slice Ao98 t292.length co98 : Value).ownBlock) (Kd.R_keptB (HO_9.out) hkp (fun k_ hk_ hs_ => (hk_.2.2) hs_)) (fun k_ hk_ => ⟨hk_.1.1,hk_.1.2.1,hk_.1.2.2⟩)); have n2_ := Aside0.mk (Kd.R_mono (ok' := fun k_ => some k_ ≠ (v273 : Value).ownBlock ∧ some k_ ≠ (v276 : Value).ownBlock ∧ some k_ ≠ (.slice Ao98 t292.length co98 : Value).ownBlock) (Kd.R_keptB (HO_13.out) hkp (fun k_ hk_ hs_ => (hk_.2.2) hs_)) (fun k_ hk_ => ⟨hk_.1.1,hk_.1.2.1,hk_.1.2.2⟩)); have n3_ := Aside0.mk (Kd.R_reok rfl hy0 (fun k_ e_ => HO_14.out.1 k_ e_)); have n4_ := Aside0.mk (Kd.R_mono (ok' := fun k_ => some k_ ≠ (.slice Ao30 t310.length co30 : Value).ownBlock) (Kd.R_keptB ((Kd.R_apart' HO_289002.out (Kd.R_typed HO_14.out) (by decide))) hkp (fun k_ hk_ hs_ => (hk_.2) hs_)) (fun k_ hk_ => hk_.1.1)); have n5_ := Aside0.mk (Kd.R_mono (ok' := fun k_ => some k_ ≠ (.slice Ao29 t309.length co29 : Value).ownBlock) (Kd.R_keptB ((Kd.R_apart' HO_289003.out (Kd.R_typed HO_14.out) (by decide))) hkp (fun k_ hk_ hs_ => (hk_.2) hs_)) (fun k_ hk_ => hk_.1.1)); have n6_ := Aside0.mk (blk_kept (by (with_reducible repeat (first | refine blk_drewN ?_ _ | refine blk_drew ?_ | refine blk_alloc ?_ _)); exact BK262.out) hkp (fun hs_ => (fun e_ => (Kd.R_ne HO_14.out BK262.out (by decide)) e_) hs_)); have n7_ := Aside0.mk (blk_kept (by (with_reducible repeat (first | refine blk_drewN ?_ _ | refine blk_drew ?_ | refine blk_alloc ?_ _)); exact BK288.out) hkp (fun hs_ => (fun e_ => (Kd.R_ne HO_14.out BK288.out (by decide)) e_) hs_)); have n8_ := Aside0.mk (hb); clear HO_8; clear HO_9; clear HO_13; clear HO_14; clear HO_289002; clear HO_289003; clear BK262; clear BK288; clear HB; have HO_8 := n0_; have HO_9 := n1_; have HO_13 := n2_; have HO_14 := n3_; have HO_289002 := n4_; have HO_289003 := n5_; have BK262 := n6_; have BK288 := n7_; have HB := n8_; clear n0_ n1_ n2_ n3_ n4_ n5_ n6_ n7_ n8_; (try clear hb); (try clear hkp); (try clear hy0)) | ((with_reducible refine gate_callee (f := 31) rfl ?_); refine goesL_ (some 113) rfl rfl Tryd.func31 (by kernel_rfl) rfl #[.slice Ao96 t314.length co96,.int .i64 1] rfl (by (try simp only [List.map_toArray,List.map_cons,List.map_nil]); first | done | (rw [show t314.length = t289.length from (Kd.R_reads' HO_13.out).1.symm] <;> rfl) | rfl | (simp only [List.length_drop,List.length_take]; rfl)) ?_; (with_reducible refine (laws_heldInt64S.calls kj55 _ _ t314 1 t317 _ ?side1 ?side2 A88.out).mono ?_); (case side1 => repeat (first | exact (Kd.R_reads' HO_13.out).2.2 | (with_reducible refine Kd.C_alloc ?_ _) | (with_reducible refine Kd.C_drewN ?_ _) | (with_reducible refine Kd.C_drew ?_))); (case side2 => rw [show t314.length = t289.length from (Kd.R_reads' HO_13.out).1.symm]; exact (Kd.R_reads' HO_13.out).2.1); rintro e w' ⟨rfl,⟨nd,rfl⟩⟩; refine ⟨_,rfl,?_⟩) | ((with_reducible refine gate_callee (f := 31) rfl ?_); refine goesL_ (some 118) rfl rfl Tryd.func31 (by kernel_rfl) rfl #[.slice Ao98 t316.length co98,.int .i64 t317] rfl (by (try simp only [List.map_toArray,List.map_cons,List.map_nil]); first | done | (rw [show t316.length = t292.length from (Kd.R_reads' HO_14.out).1.symm] <;> rfl) | rfl | (simp only [List.length_drop,List.length_take]; rfl)) ?_; (with_reducible refine (laws_heldInt64S.calls kj55 _ _ t316 t317 t318 _ ?side1 ?side2 A94.out).mono ?_); (case side1 => repeat (first | exact (Kd.R_reads' HO_14.out).2.2 | (with_reducible refine Kd.C_alloc ?_ _) | (with_reducible refine Kd.C_drewN ?_ _) | (with_reducible refine Kd.C_drew ?_))); (case side2 => rw [show t316.length = t292.length from (Kd.R_reads' HO_14.out).1.symm]; exact (Kd.R_reads' HO_14.out).2.1); rintro e w' ⟨rfl,⟨nd,rfl⟩⟩; refine ⟨_,rfl,?_⟩))
            go_ret
            exact ⟨by first | rfl | (simp [errW_none,errW_some] <;> rfl) | (simp [*,errW_none,errW_some] <;> rfl),by repeat (first | (with_reducible first | exact HB.out | apply below_alloc | apply pw_below_drewN | apply below_drew1 | refine below_set ?_ GE262.out | refine below_set ?_ GE288.out) | exact HB.out)⟩
           ·rw [if_neg c95] at H
            have c95b0 : decide (t318 < 0) = false := decide_eq_false c95
            clear c95
            by_cases c100 : t318 = t315
            ·rw [if_pos c100] at H
             have c100b0 : (t318 == t315) = true := beq_iff_eq.mpr c100
             have c100b1 : (t318 != t315) = false := bne_eq_false_iff_eq.mpr c100
             clear c100
             replace H := Option.bind_eq_some_iff.mp H
             obtain ⟨⟨t319,t320,t321,t324⟩,A1010,H⟩ := H
             replace H : ((impl_DecodeBlocks.f kj55 t319 t320 t321 t324 a1 a2).bind fun bt327 => ((laws_eqInt64S.f kj55 bt327.1 t272).bind fun t335 => (if t335 = true then ((laws_eqInt64S.f kj55 bt327.2.1 t275).bind fun t336 => (if t336 = true then (if bt327.2.2.1 = t278 then (laws_FnExactDecodeBlocks.j2 kj55 t314 t316 t315 (bt327.2.2.2 != t279)) else (laws_FnExactDecodeBlocks.j2 kj55 t314 t316 t315 true)) else (laws_FnExactDecodeBlocks.j2 kj55 t314 t316 t315 true))) else (laws_FnExactDecodeBlocks.j2 kj55 t314 t316 t315 true)))) = some r := H
             have A101 := Aside0.mk A1010
             clear A1010
             replace H := Option.bind_eq_some_iff.mp H
             obtain ⟨⟨t327,t330,t333,t334⟩,A1020,H⟩ := H
             replace H : ((laws_eqInt64S.f kj55 t327 t272).bind fun t335 => (if t335 = true then ((laws_eqInt64S.f kj55 t330 t275).bind fun t336 => (if t336 = true then (if t333 = t278 then (laws_FnExactDecodeBlocks.j2 kj55 t314 t316 t315 (t334 != t279)) else (laws_FnExactDecodeBlocks.j2 kj55 t314 t316 t315 true)) else (laws_FnExactDecodeBlocks.j2 kj55 t314 t316 t315 true))) else (laws_FnExactDecodeBlocks.j2 kj55 t314 t316 t315 true))) = some r := H
             have A102 := Aside0.mk A1020
             clear A1020
             have HC103 := Aside0.mk H
             clear H
             obtain ⟨Ao104,co104,eo104⟩ := Kd.R_slice HO_13.out
             subst eo104
             go_upto_region 31 with (first | ((with_reducible refine gate_callee (f := 30) rfl ?_); refine goesL_ (some 107) rfl rfl Tryd.func30 (by kernel_rfl) rfl #[.slice Ao104 t289.length co104,.int .i64 1] rfl (by (try simp only [List.map_toArray,List.map_cons,List.map_nil]); first | done | rfl | (simp only [List.length_drop,List.length_take]; rfl)) ?_; (with_reducible refine (laws_markInt64S.calls kj55 (fun k_ => some k_ = (.slice Ao104 t289.length co104 : Value).ownBlock) (.slice Ao104 t289.length co104) t289 1 t313 t314 w _ ?side1 ?side2 A86.out).mono ?_); (case side1 => repeat (first | (with_reducible first | exact HB.out | apply below_alloc | apply pw_below_drewN | apply below_drew1 | refine below_set ?_ GE262.out | refine below_set ?_ GE288.out) | exact HB.out)); (case side2 => exact Kd.R_tight rfl HO_13.out); rintro e w105 ⟨rfl,hy0,hb,hkp⟩; refine ⟨_,rfl,?_⟩; have n0_ := Aside0.mk (Kd.R_mono (ok' := fun k_ => some k_ ≠ (v276 : Value).ownBlock ∧ some k_ ≠ (.slice Ao104 t289.length co104 : Value).ownBlock ∧ some k_ ≠ (v293 : Value).ownBlock) (Kd.R_keptB (HO_8.out) hkp (fun k_ hk_ hs_ => (hk_.2.1) hs_)) (fun k_ hk_ => ⟨hk_.1.1,hk_.1.2.1,hk_.1.2.2⟩)); have n1_ := Aside0.mk (Kd.R_mono (ok' := fun k_ => some k_ ≠ (v273 : Value).ownBlock ∧ some k_ ≠ (.slice Ao104 t289.length co104 : Value).ownBlock ∧ some k_ ≠ (v293 : Value).ownBlock) (Kd.R_keptB (HO_9.out) hkp (fun k_ hk_ hs_ => (hk_.2.1) hs_)) (fun k_ hk_ => ⟨hk_.1.1,hk_.1.2.1,hk_.1.2.2⟩)); have n2_ := Aside0.mk (Kd.R_reok rfl hy0 (fun k_ e_ => HO_13.out.1 k_ e_)); have n3_ := Aside0.mk (Kd.R_mono (ok' := fun k_ => some k_ ≠ (v273 : Value).ownBlock ∧ some k_ ≠ (v276 : Value).ownBlock ∧ some k_ ≠ (.slice Ao104 t289.length co104 : Value).ownBlock) (Kd.R_keptB (HO_14.out) hkp (fun k_ hk_ hs_ => (hk_.2.2) hs_)) (fun k_ hk_ => ⟨hk_.1.1,hk_.1.2.1,hk_.1.2.2⟩)); have n4_ := Aside0.mk (Kd.R_mono (ok' := fun k_ => some k_ ≠ (.slice Ao30 t310.length co30 : Value).ownBlock) (Kd.R_keptB ((Kd.R_apart' HO_289002.out (Kd.R_typed HO_13.out) (by decide))) hkp (fun k_ hk_ hs_ => (hk_.2) hs_)) (fun k_ hk_ => hk_.1.1)); have n5_ := Aside0.mk (Kd.R_mono (ok' := fun k_ => some k_ ≠ (.slice Ao29 t309.length co29 : Value).ownBlock) (Kd.R_keptB ((Kd.R_apart' HO_289003.out (Kd.R_typed HO_13.out) (by decide))) hkp (fun k_ hk_ hs_ => (hk_.2) hs_)) (fun k_ hk_ => hk_.1.1)); have n6_ := Aside0.mk (blk_kept (by (with_reducible repeat (first | refine blk_drewN ?_ _ | refine blk_drew ?_ | refine blk_alloc ?_ _)); exact BK262.out) hkp (fun hs_ => (fun e_ => (Kd.R_ne HO_13.out BK262.out (by decide)) e_) hs_)); have n7_ := Aside0.mk (blk_kept (by (with_reducible repeat (first | refine blk_drewN ?_ _ | refine blk_drew ?_ | refine blk_alloc ?_ _)); exact BK288.out) hkp (fun hs_ => (fun e_ => (Kd.R_ne HO_13.out BK288.out (by decide)) e_) hs_)); have n8_ := Aside0.mk (hb); clear HO_8; clear HO_9; clear HO_13; clear HO_14; clear HO_289002; clear HO_289003; clear BK262; clear BK288; clear HB; have HO_8 := n0_; have HO_9 := n1_; have HO_13 := n2_; have HO_14 := n3_; have HO_289002 := n4_; have HO_289003 := n5_; have BK262 := n6_; have BK288 := n7_; have HB := n8_; clear n0_ n1_ n2_ n3_ n4_ n5_ n6_ n7_ n8_; (try clear hb); (try clear hkp); (try clear hy0); obtain ⟨Ao106,co106,eo106⟩ := Kd.R_slice HO_14.out; subst eo106) | ((with_reducible refine gate_callee (f := 30) rfl ?_); refine goesL_ (some 110) rfl rfl Tryd.func30 (by kernel_rfl) rfl #[.slice Ao106 t292.length co106,.int .i64 t313] rfl (by (try simp only [List.map_toArray,List.map_cons,List.map_nil]); first | done | rfl | (simp only [List.length_drop,List.length_take]; rfl)) ?_; (with_reducible refine (laws_markInt64S.calls kj55 (fun k_ => some k_ = (.slice Ao106 t292.length co106 : Value).ownBlock) (.slice Ao106 t292.length co106) t292 t313 t315 t316 w _ ?side1 ?side2 A87.out).mono ?_); (case side1 => repeat (first | (with_reducible first | exact HB.out | apply below_alloc | apply pw_below_drewN | apply below_drew1 | refine below_set ?_ GE262.out | refine below_set ?_ GE288.out) | exact HB.out)); (case side2 => exact Kd.R_tight rfl HO_14.out); rintro e w107 ⟨rfl,hy0,hb,hkp⟩; refine ⟨_,rfl,?_⟩; have n0_ := Aside0.mk (Kd.R_mono (ok' := fun k_ => some k_ ≠ (v276 : Value).ownBlock ∧ some k_ ≠ (.slice Ao104 t289.length co104 : Value).ownBlock ∧ some k_ ≠ (.slice Ao106 t292.length co106 : Value).ownBlock) (Kd.R_keptB (HO_8.out) hkp (fun k_ hk_ hs_ => (hk_.2.2) hs_)) (fun k_ hk_ => ⟨hk_.1.1,hk_.1.2.1,hk_.1.2.2⟩)); have n1_ := Aside0.mk (Kd.R_mono (ok' := fun k_ => some k_ ≠ (v273 : Value).ownBlock ∧ some k_ ≠ (.slice Ao104 t289.length co104 : Value).ownBlock ∧ some k_ ≠ (.slice Ao106 t292.length co106 : Value).ownBlock) (Kd.R_keptB (HO_9.out) hkp (fun k_ hk_ hs_ => (hk_.2.2) hs_)) (fun k_ hk_ => ⟨hk_.1.1,hk_.1.2.1,hk_.1.2.2⟩)); have n2_ := Aside0.mk (Kd.R_mono (ok' := fun k_ => some k_ ≠ (v273 : Value).ownBlock ∧ some k_ ≠ (v276 : Value).ownBlock ∧ some k_ ≠ (.slice Ao106 t292.length co106 : Value).ownBlock) (Kd.R_keptB (HO_13.out) hkp (fun k_ hk_ hs_ => (hk_.2.2) hs_)) (fun k_ hk_ => ⟨hk_.1.1,hk_.1.2.1,hk_.1.2.2⟩)); have n3_ := Aside0.mk (Kd.R_reok rfl hy0 (fun k_ e_ => HO_14.out.1 k_ e_)); have n4_ := Aside0.mk (Kd.R_mono (ok' := fun k_ => some k_ ≠ (.slice Ao30 t310.length co30 : Value).ownBlock) (Kd.R_keptB ((Kd.R_apart' HO_289002.out (Kd.R_typed HO_14.out) (by decide))) hkp (fun k_ hk_ hs_ => (hk_.2) hs_)) (fun k_ hk_ => hk_.1.1)); have n5_ := Aside0.mk (Kd.R_mono (ok' := fun k_ => some k_ ≠ (.slice Ao29 t309.length co29 : Value).ownBlock) (Kd.R_keptB ((Kd.R_apart' HO_289003.out (Kd.R_typed HO_14.out) (by decide))) hkp (fun k_ hk_ hs_ => (hk_.2) hs_)) (fun k_ hk_ => hk_.1.1)); have n6_ := Aside0.mk (blk_kept (by (with_reducible repeat (first | refine blk_drewN ?_ _ | refine blk_drew ?_ | refine blk_alloc ?_ _)); exact BK262.out) hkp (fun hs_ => (fun e_ => (Kd.R_ne HO_14.out BK262.out (by decide)) e_) hs_)); have n7_ := Aside0.mk (blk_kept (by (with_reducible repeat (first | refine blk_drewN ?_ _ | refine blk_drew ?_ | refine blk_alloc ?_ _)); exact BK288.out) hkp (fun hs_ => (fun e_ => (Kd.R_ne HO_14.out BK288.out (by decide)) e_) hs_)); have n8_ := Aside0.mk (hb); clear HO_8; clear HO_9; clear HO_13; clear HO_14; clear HO_289002; clear HO_289003; clear BK262; clear BK288; clear HB; have HO_8 := n0_; have HO_9 := n1_; have HO_13 := n2_; have HO_14 := n3_; have HO_289002 := n4_; have HO_289003 := n5_; have BK262 := n6_; have BK288 := n7_; have HB := n8_; clear n0_ n1_ n2_ n3_ n4_ n5_ n6_ n7_ n8_; (try clear hb); (try clear hkp); (try clear hy0)) | ((with_reducible refine gate_callee (f := 31) rfl ?_); refine goesL_ (some 113) rfl rfl Tryd.func31 (by kernel_rfl) rfl #[.slice Ao104 t314.length co104,.int .i64 1] rfl (by (try simp only [List.map_toArray,List.map_cons,List.map_nil]); first | done | (rw [show t314.length = t289.length from (Kd.R_reads' HO_13.out).1.symm] <;> rfl) | rfl | (simp only [List.length_drop,List.length_take]; rfl)) ?_; (with_reducible refine (laws_heldInt64S.calls kj55 _ _ t314 1 t317 _ ?side1 ?side2 A88.out).mono ?_); (case side1 => repeat (first | exact (Kd.R_reads' HO_13.out).2.2 | (with_reducible refine Kd.C_alloc ?_ _) | (with_reducible refine Kd.C_drewN ?_ _) | (with_reducible refine Kd.C_drew ?_))); (case side2 => rw [show t314.length = t289.length from (Kd.R_reads' HO_13.out).1.symm]; exact (Kd.R_reads' HO_13.out).2.1); rintro e w' ⟨rfl,⟨nd,rfl⟩⟩; refine ⟨_,rfl,?_⟩) | ((with_reducible refine gate_callee (f := 31) rfl ?_); refine goesL_ (some 118) rfl rfl Tryd.func31 (by kernel_rfl) rfl #[.slice Ao106 t316.length co106,.int .i64 t317] rfl (by (try simp only [List.map_toArray,List.map_cons,List.map_nil]); first | done | (rw [show t316.length = t292.length from (Kd.R_reads' HO_14.out).1.symm] <;> rfl) | rfl | (simp only [List.length_drop,List.length_take]; rfl)) ?_; (with_reducible refine (laws_heldInt64S.calls kj55 _ _ t316 t317 t318 _ ?side1 ?side2 A94.out).mono ?_); (case side1 => repeat (first | exact (Kd.R_reads' HO_14.out).2.2 | (with_reducible refine Kd.C_alloc ?_ _) | (with_reducible refine Kd.C_drewN ?_ _) | (with_reducible refine Kd.C_drew ?_))); (case side2 => rw [show t316.length = t292.length from (Kd.R_reads' HO_14.out).1.symm]; exact (Kd.R_reads' HO_14.out).2.1); rintro e w' ⟨rfl,⟨nd,rfl⟩⟩; refine ⟨_,rfl,?_⟩; have hnb108 := NB262_288.out; have hnc108 := NB288_262.out; have hcz109_0 : w107.cell? ⟨gb262,0,none⟩ = some (.int .i64 a0_0) := (blk_cell BK262.out 0).trans rfl; have hcz109_1 : w107.cell? ⟨gb262,1,none⟩ = some (.int .i64 a0_1) := (blk_cell BK262.out 1).trans rfl; have hcz109_2 : w107.cell? ⟨gb262,2,none⟩ = some (.slice A0_2 l0_2.length c0_2) := (blk_cell BK262.out 2).trans rfl; have hcz109_3 : w107.cell? ⟨gb262,3,none⟩ = some (.slice A0_3 l0_3.length c0_3) := (blk_cell BK262.out 3).trans rfl; have hfz109_0 := blk_frozen BK262.out 0; have hfz109_1 := blk_frozen BK262.out 1; have hfz109_2 := blk_frozen BK262.out 2; have hfz109_3 := blk_frozen BK262.out 3) | ((with_reducible refine gate_callee (f := 16) rfl ?_); refine goesL_ (some 126) rfl rfl Tryd.func16 (by kernel_rfl) rfl #[.agg #[.int .i64 a0_0,.int .i64 a0_1,.slice A0_2 l0_2.length c0_2,.slice A0_3 l0_3.length c0_3]] rfl (by (try simp only [List.map_toArray,List.map_cons,List.map_nil]); first | done | rfl | (simp only [List.length_drop,List.length_take]; rfl)) ?_; (with_reducible refine (laws_toBlockCode.calls kj55 a0_0 a0_1 _ _ l0_2 _ _ l0_3 t319 t320 t321 t324 _ ?side1 ?side2 ?side3 ?side4 A101.out).mono ?_); (case side1 => repeat (first | exact (Kd.C_below HR0_2.out (by repeat (first | (with_reducible first | exact HB.out | apply below_alloc | apply pw_below_drewN | apply below_drew1 | refine below_set ?_ GE262.out | refine below_set ?_ GE288.out) | exact HB.out))) | (with_reducible refine Kd.C_alloc ?_ _) | (with_reducible refine Kd.C_drewN ?_ _) | (with_reducible refine Kd.C_drew ?_))); (case side2 => exact HC0_2.out); (case side3 => repeat (first | exact (Kd.C_below HR0_3.out (by repeat (first | (with_reducible first | exact HB.out | apply below_alloc | apply pw_below_drewN | apply below_drew1 | refine below_set ?_ GE262.out | refine below_set ?_ GE288.out) | exact HB.out))) | (with_reducible refine Kd.C_alloc ?_ _) | (with_reducible refine Kd.C_drewN ?_ _) | (with_reducible refine Kd.C_drew ?_))); (case side4 => exact HC0_3.out); rintro e w110 ⟨v322,v325,rfl,ho0,ho1,hb⟩; refine ⟨_,rfl,?_⟩; have n0_ := Aside0.mk (Kd.R_below (by (with_reducible repeat (first | apply Kd.R_alloc | apply Kd.R_drewN | apply Kd.R_drew)); exact HO_8.out) hb); have n1_ := Aside0.mk (Kd.R_below (by (with_reducible repeat (first | apply Kd.R_alloc | apply Kd.R_drewN | apply Kd.R_drew)); exact HO_9.out) hb); have n2_ := Aside0.mk (Kd.R_below (by (with_reducible repeat (first | apply Kd.R_alloc | apply Kd.R_drewN | apply Kd.R_drew)); exact HO_13.out) hb); have n3_ := Aside0.mk (Kd.R_below (by (with_reducible repeat (first | apply Kd.R_alloc | apply Kd.R_drewN | apply Kd.R_drew)); exact HO_14.out) hb); have n4_ := Aside0.mk (Kd.R_mono (Kd.R_told (Kd.R_told (Kd.R_old (by (with_reducible repeat (first | apply Kd.R_alloc | apply Kd.R_drewN | apply Kd.R_drew)); exact HO_289002.out) hb) (Kd.R_base ho0)) (Kd.R_base ho1)) (fun _ h_ => h_.1)); have n5_ := Aside0.mk (Kd.R_mono (Kd.R_told (Kd.R_told (Kd.R_old (by (with_reducible repeat (first | apply Kd.R_alloc | apply Kd.R_drewN | apply Kd.R_drew)); exact HO_289003.out) hb) (Kd.R_base ho0)) (Kd.R_base ho1)) (fun _ h_ => h_.1)); have n6_ := Aside0.mk (Kd.R_lower (Kd.R_new' (Kd.R_new' ho0 (Kd.R_lt (by (with_reducible repeat (first | apply Kd.R_alloc | apply Kd.R_drewN | apply Kd.R_drew)); exact HO_289002.out))) (Kd.R_lt (by (with_reducible repeat (first | apply Kd.R_alloc | apply Kd.R_drewN | apply Kd.R_drew)); exact HO_289003.out))) (below_size (by repeat (first | (with_reducible first | exact HB.out | apply below_alloc | apply pw_below_drewN | apply below_drew1 | refine below_set ?_ GE262.out | refine below_set ?_ GE288.out) | exact HB.out)))); have n7_ := Aside0.mk (Kd.R_lower (Kd.R_new' (Kd.R_new' ho1 (Kd.R_lt (by (with_reducible repeat (first | apply Kd.R_alloc | apply Kd.R_drewN | apply Kd.R_drew)); exact HO_289002.out))) (Kd.R_lt (by (with_reducible repeat (first | apply Kd.R_alloc | apply Kd.R_drewN | apply Kd.R_drew)); exact HO_289003.out))) (below_size (by repeat (first | (with_reducible first | exact HB.out | apply below_alloc | apply pw_below_drewN | apply below_drew1 | refine below_set ?_ GE262.out | refine below_set ?_ GE288.out) | exact HB.out)))); have n8_ := Aside0.mk (blk_below (g := gb262) (o := .cells #[.int .i64 a0_0,.int .i64 a0_1,.slice A0_2 l0_2.length c0_2,.slice A0_3 l0_3.length c0_3] 27 (0,0)) (by (with_reducible repeat (first | refine blk_drewN ?_ _ | refine blk_drew ?_ | refine blk_alloc ?_ _)); exact BK262.out) hb); have n9_ := Aside0.mk (blk_below (g := gb288) (o := .cells #[.int .i64 t280,.int .i64 t281,.slice Ao29 t309.length co29,.slice Ao30 t310.length co30] 30 (0,0)) (by (with_reducible repeat (first | refine blk_drewN ?_ _ | refine blk_drew ?_ | refine blk_alloc ?_ _)); exact BK288.out) hb); have n10_ := Aside0.mk (below_step (by repeat (first | (with_reducible first | exact HB.out | apply below_alloc | apply pw_below_drewN | apply below_drew1 | refine below_set ?_ GE262.out | refine below_set ?_ GE288.out) | exact HB.out)) hb); clear HO_8; clear HO_9; clear HO_13; clear HO_14; clear HO_289002; clear HO_289003; clear BK262; clear BK288; clear HB; have HO_8 := n0_; have HO_9 := n1_; have HO_13 := n2_; have HO_14 := n3_; have HO_289002 := n4_; have HO_289003 := n5_; have HO323 := n6_; have HO326 := n7_; have BK262 := n8_; have BK288 := n9_; have HB := n10_; clear n0_ n1_ n2_ n3_ n4_ n5_ n6_ n7_ n8_ n9_ n10_; (try clear hb); (try clear hb2); (try clear hk); (try clear hi); (try clear ho0); (try clear ho1); obtain ⟨Ao111,co111,eo111⟩ := Kd.R_slice HO323.out; subst eo111; obtain ⟨Ao112,co112,eo112⟩ := Kd.R_slice HO326.out; subst eo112) | ((with_reducible refine gate_callee (f := 28) rfl ?_); refine goesL_ (some 129) rfl rfl Tryd.func28 (by kernel_rfl) rfl #[.agg #[.int .i64 t319,.int .i64 t320,.slice Ao111 t321.length co111,.slice Ao112 t324.length co112],.int .i64 a1,.string a2] rfl (by (try simp only [List.map_toArray,List.map_cons,List.map_nil]); first | done | rfl | (simp only [List.length_drop,List.length_take]; rfl)) ?_; (with_reducible refine (impl_DecodeBlocks.calls kj55 t319 t320 _ _ t321 _ _ t324 a1 a2 t327 t330 t333 t334 _ ?side1 ?side2 ?side3 ?side4 A102.out).mono ?_); (case side1 => repeat (first | exact (Kd.R_reads' HO323.out).2.2 | (with_reducible refine Kd.C_alloc ?_ _) | (with_reducible refine Kd.C_drewN ?_ _) | (with_reducible refine Kd.C_drew ?_))); (case side2 => exact (Kd.R_reads' HO323.out).2.1); (case side3 => repeat (first | exact (Kd.R_reads' HO326.out).2.2 | (with_reducible refine Kd.C_alloc ?_ _) | (with_reducible refine Kd.C_drewN ?_ _) | (with_reducible refine Kd.C_drew ?_))); (case side4 => exact (Kd.R_reads' HO326.out).2.1); rintro e w113 ⟨v328,v331,rfl,ho0,ho1,hb⟩; refine ⟨_,rfl,?_⟩; have n0_ := Aside0.mk (Kd.R_mono (Kd.R_told (Kd.R_told (Kd.R_old (by (with_reducible repeat (first | apply Kd.R_alloc | apply Kd.R_drewN | apply Kd.R_drew)); exact HO_8.out) hb) (Kd.R_base ho0)) (Kd.R_base ho1)) (fun _ h_ => h_.1)); have n1_ := Aside0.mk (Kd.R_mono (Kd.R_told (Kd.R_told (Kd.R_old (by (with_reducible repeat (first | apply Kd.R_alloc | apply Kd.R_drewN | apply Kd.R_drew)); exact HO_9.out) hb) (Kd.R_base ho0)) (Kd.R_base ho1)) (fun _ h_ => h_.1)); have n2_ := Aside0.mk (Kd.R_mono (Kd.R_told (Kd.R_told (Kd.R_old (by (with_reducible repeat (first | apply Kd.R_alloc | apply Kd.R_drewN | apply Kd.R_drew)); exact HO_13.out) hb) (Kd.R_base ho0)) (Kd.R_base ho1)) (fun _ h_ => h_.1)); have n3_ := Aside0.mk (Kd.R_mono (Kd.R_told (Kd.R_told (Kd.R_old (by (with_reducible repeat (first | apply Kd.R_alloc | apply Kd.R_drewN | apply Kd.R_drew)); exact HO_14.out) hb) (Kd.R_base ho0)) (Kd.R_base ho1)) (fun _ h_ => h_.1)); have n4_ := Aside0.mk (Kd.R_below (by (with_reducible repeat (first | apply Kd.R_alloc | apply Kd.R_drewN | apply Kd.R_drew)); exact HO_289002.out) hb); have n5_ := Aside0.mk (Kd.R_below (by (with_reducible repeat (first | apply Kd.R_alloc | apply Kd.R_drewN | apply Kd.R_drew)); exact HO_289003.out) hb); have n6_ := Aside0.mk (Kd.R_below (by (with_reducible repeat (first | apply Kd.R_alloc | apply Kd.R_drewN | apply Kd.R_drew)); exact HO323.out) hb); have n7_ := Aside0.mk (Kd.R_below (by (with_reducible repeat (first | apply Kd.R_alloc | apply Kd.R_drewN | apply Kd.R_drew)); exact HO326.out) hb); have n8_ := Aside0.mk (Kd.R_lower (Kd.R_new' (Kd.R_new' (Kd.R_new' (Kd.R_new' ho0 (Kd.R_lt (by (with_reducible repeat (first | apply Kd.R_alloc | apply Kd.R_drewN | apply Kd.R_drew)); exact HO_8.out))) (Kd.R_lt (by (with_reducible repeat (first | apply Kd.R_alloc | apply Kd.R_drewN | apply Kd.R_drew)); exact HO_9.out))) (Kd.R_lt (by (with_reducible repeat (first | apply Kd.R_alloc | apply Kd.R_drewN | apply Kd.R_drew)); exact HO_13.out))) (Kd.R_lt (by (with_reducible repeat (first | apply Kd.R_alloc | apply Kd.R_drewN | apply Kd.R_drew)); exact HO_14.out))) (below_size (by repeat (first | (with_reducible first | exact HB.out | apply below_alloc | apply pw_below_drewN | apply below_drew1 | refine below_set ?_ GE262.out | refine below_set ?_ GE288.out) | exact HB.out)))); have n9_ := Aside0.mk (Kd.R_lower (Kd.R_new' (Kd.R_new' (Kd.R_new' (Kd.R_new' ho1 (Kd.R_lt (by (with_reducible repeat (first | apply Kd.R_alloc | apply Kd.R_drewN | apply Kd.R_drew)); exact HO_8.out))) (Kd.R_lt (by (with_reducible repeat (first | apply Kd.R_alloc | apply Kd.R_drewN | apply Kd.R_drew)); exact HO_9.out))) (Kd.R_lt (by (with_reducible repeat (first | apply Kd.R_alloc | apply Kd.R_drewN | apply Kd.R_drew)); exact HO_13.out))) (Kd.R_lt (by (with_reducible repeat (first | apply Kd.R_alloc | apply Kd.R_drewN | apply Kd.R_drew)); exact HO_14.out))) (below_size (by repeat (first | (with_reducible first | exact HB.out | apply below_alloc | apply pw_below_drewN | apply below_drew1 | refine below_set ?_ GE262.out | refine below_set ?_ GE288.out) | exact HB.out)))); have n10_ := Aside0.mk (blk_below (g := gb262) (o := .cells #[.int .i64 a0_0,.int .i64 a0_1,.slice A0_2 l0_2.length c0_2,.slice A0_3 l0_3.length c0_3] 27 (0,0)) (by (with_reducible repeat (first | refine blk_drewN ?_ _ | refine blk_drew ?_ | refine blk_alloc ?_ _)); exact BK262.out) hb); have n11_ := Aside0.mk (blk_below (g := gb288) (o := .cells #[.int .i64 t280,.int .i64 t281,.slice Ao29 t309.length co29,.slice Ao30 t310.length co30] 30 (0,0)) (by (with_reducible repeat (first | refine blk_drewN ?_ _ | refine blk_drew ?_ | refine blk_alloc ?_ _)); exact BK288.out) hb); have n12_ := Aside0.mk (below_step (by repeat (first | (with_reducible first | exact HB.out | apply below_alloc | apply pw_below_drewN | apply below_drew1 | refine below_set ?_ GE262.out | refine below_set ?_ GE288.out) | exact HB.out)) hb); clear HO_8; clear HO_9; clear HO_13; clear HO_14; clear HO_289002; clear HO_289003; clear HO323; clear HO326; clear BK262; clear BK288; clear HB; have HO_8 := n0_; have HO_9 := n1_; have HO_13 := n2_; have HO_14 := n3_; have HO_289002 := n4_; have HO_289003 := n5_; have HO323 := n6_; have HO326 := n7_; have HO329 := n8_; have HO332 := n9_; have BK262 := n10_; have BK288 := n11_; have HB := n12_; clear n0_ n1_ n2_ n3_ n4_ n5_ n6_ n7_ n8_ n9_ n10_ n11_ n12_; (try clear hb); (try clear hb2); (try clear hk); (try clear hi); (try clear ho0); (try clear ho1)))
             (try simp only [Act.put,List.setIfInBounds_toArray,List.set_cons_zero,List.set_cons_succ])
             go_cut [153] (fun v153 wc => ∃ (kq : Nat) (x153_102 : Bool),v153 = .bool x153_102 ∧ Aside0 (laws_FnExactDecodeBlocks.j2 kq t314 t316 t315 x153_102 = some r) ∧ Aside0 (kq ≤ kj55) ∧ Aside0 (Kd.R (Kd.int .i64) 2 wc w.heap.size (fun k_ => some k_ ≠ ((.slice Ao106 t292.length co106) : Value).ownBlock) (.slice Ao104 t289.length co104) t314) ∧ Aside0 (Kd.R (Kd.int .i64) 2 wc w.heap.size (fun k_ => some k_ ≠ ((.slice Ao104 t289.length co104) : Value).ownBlock) (.slice Ao106 t292.length co106) t316) ∧ Aside0 (Kd.R Kd.string 9 wc w.heap.size (fun k_ => some k_ ≠ ((.slice Ao30 t310.length co30) : Value).ownBlock) (.slice Ao29 t309.length co29) t309) ∧ Aside0 (Kd.R Kd.string 9 wc w.heap.size (fun k_ => some k_ ≠ ((.slice Ao29 t309.length co29) : Value).ownBlock) (.slice Ao30 t310.length co30) t310) ∧ Aside0 (wc.heap[gb262]? = some (.cells #[.int .i64 a0_0,.int .i64 a0_1,(.slice A0_2 l0_2.length c0_2),(.slice A0_3 l0_3.length c0_3)] 27 (0,0))) ∧ Aside0 (wc.heap[gb288]? = some (.cells #[.int .i64 t280,.int .i64 t281,(.slice Ao29 t309.length co29),(.slice Ao30 t310.length co30)] 30 (0,0))) ∧ Aside0 (Below w.heap.size w wc))
             case first =>
              have H := HC103.out
              clear HC103
              replace H := Option.bind_eq_some_iff.mp H
              obtain ⟨t335,A1140,H⟩ := H
              replace H : (if t335 = true then ((laws_eqInt64S.f kj55 t330 t275).bind fun t336 => (if t336 = true then (if t333 = t278 then (laws_FnExactDecodeBlocks.j2 kj55 t314 t316 t315 (t334 != t279)) else (laws_FnExactDecodeBlocks.j2 kj55 t314 t316 t315 true)) else (laws_FnExactDecodeBlocks.j2 kj55 t314 t316 t315 true))) else (laws_FnExactDecodeBlocks.j2 kj55 t314 t316 t315 true)) = some r := H
              have A114 := Aside0.mk A1140
              clear A1140
              by_cases c115 : t335 = true
              ·subst c115
               have H1 : ((laws_eqInt64S.f kj55 t330 t275).bind fun t336 => (if t336 = true then (if t333 = t278 then (laws_FnExactDecodeBlocks.j2 kj55 t314 t316 t315 (t334 != t279)) else (laws_FnExactDecodeBlocks.j2 kj55 t314 t316 t315 true)) else (laws_FnExactDecodeBlocks.j2 kj55 t314 t316 t315 true))) = some r := by rw [if_pos rfl] at H; exact H
               clear H
               have H := H1
               clear H1
               replace H := Option.bind_eq_some_iff.mp H
               obtain ⟨t336,A1160,H⟩ := H
               replace H : (if t336 = true then (if t333 = t278 then (laws_FnExactDecodeBlocks.j2 kj55 t314 t316 t315 (t334 != t279)) else (laws_FnExactDecodeBlocks.j2 kj55 t314 t316 t315 true)) else (laws_FnExactDecodeBlocks.j2 kj55 t314 t316 t315 true)) = some r := H
               have A116 := Aside0.mk A1160
               clear A1160
               by_cases c117 : t336 = true
               ·subst c117
                have H1 : (if t333 = t278 then (laws_FnExactDecodeBlocks.j2 kj55 t314 t316 t315 (t334 != t279)) else (laws_FnExactDecodeBlocks.j2 kj55 t314 t316 t315 true)) = some r := by rw [if_pos rfl] at H; exact H
                clear H
                have H := H1
                clear H1
                by_cases c118 : t333 = t278
                ·rw [if_pos c118] at H
                 have c118b0 : (t333 == t278) = true := beq_iff_eq.mpr c118
                 have c118b1 : (t333 != t278) = false := bne_eq_false_iff_eq.mpr c118
                 clear c118
                 (first | rw [c118b0] | (simp only [i64_w,i32_w]; rw [c118b0]) | skip)
                 have H' := Aside0.mk H
                 clear H
                 obtain ⟨Ao119,co119,eo119⟩ := Kd.R_slice HO329.out
                 subst eo119
                 obtain ⟨Ao120,co120,eo120⟩ := Kd.R_slice HO_8.out
                 subst eo120
                 go_wp2_with (first | ((with_reducible refine gate_callee (f := 26) rfl ?_); refine goesL_ (some 136) rfl rfl Tryd.func26 (by kernel_rfl) rfl #[.slice Ao119 t327.length co119,.slice Ao120 t272.length co120] rfl (by (try simp only [List.map_toArray,List.map_cons,List.map_nil]); first | done | rfl | (simp only [List.length_drop,List.length_take]; rfl)) ?_; (with_reducible refine (laws_eqInt64S.calls kj55 _ _ t327 _ _ t272 true _ ?side1 ?side2 ?side3 ?side4 A114.out).mono ?_); (case side1 => repeat (first | exact (Kd.R_reads' HO329.out).2.2 | (with_reducible refine Kd.C_alloc ?_ _) | (with_reducible refine Kd.C_drewN ?_ _) | (with_reducible refine Kd.C_drew ?_))); (case side2 => exact (Kd.R_reads' HO329.out).2.1); (case side3 => repeat (first | exact (Kd.R_reads' HO_8.out).2.2 | (with_reducible refine Kd.C_alloc ?_ _) | (with_reducible refine Kd.C_drewN ?_ _) | (with_reducible refine Kd.C_drew ?_))); (case side4 => exact (Kd.R_reads' HO_8.out).2.1); rintro e w' ⟨rfl,⟨nd,rfl⟩⟩; refine ⟨_,rfl,?_⟩; obtain ⟨Ao121,co121,eo121⟩ := Kd.R_slice HO332.out; subst eo121; obtain ⟨Ao122,co122,eo122⟩ := Kd.R_slice HO_9.out; subst eo122) | (go_at_call 26; (with_reducible refine (laws_eqInt64S.calls kj55 _ _ t330 _ _ t275 true _ ?side1 ?side2 ?side3 ?side4 A116.out).mono ?_); (case side1 => repeat (first | exact (Kd.R_reads' HO332.out).2.2 | (with_reducible refine Kd.C_alloc ?_ _) | (with_reducible refine Kd.C_drewN ?_ _) | (with_reducible refine Kd.C_drew ?_))); (case side2 => exact (Kd.R_reads' HO332.out).2.1); (case side3 => repeat (first | exact (Kd.R_reads' HO_9.out).2.2 | (with_reducible refine Kd.C_alloc ?_ _) | (with_reducible refine Kd.C_drewN ?_ _) | (with_reducible refine Kd.C_drew ?_))); (case side4 => exact (Kd.R_reads' HO_9.out).2.1); rintro e w' ⟨rfl,⟨nd,rfl⟩⟩))
                 go_meet
                 case rel => exact ⟨_,((t334 != t279)),(by first | rfl | (simp; done) | (simp [*]; done)),H',⟨by have := HJ14.out; have := HJ55.out; first | omega | exact Nat.le_refl _⟩,⟨by (try simp only [hl289002_55]); (try simp only [hl289003_55]); (with_reducible repeat (first | apply Kd.R_alloc | apply Kd.R_drewN | apply Kd.R_drew)); exact Kd.R_mono HO_13.out (fun _ hk => hk.1.1.2.2)⟩,⟨by (try simp only [hl289002_55]); (try simp only [hl289003_55]); (with_reducible repeat (first | apply Kd.R_alloc | apply Kd.R_drewN | apply Kd.R_drew)); exact Kd.R_mono HO_14.out (fun _ hk => hk.1.1.2.2)⟩,⟨by (try simp only [hl289002_55]); (try simp only [hl289003_55]); (with_reducible repeat (first | apply Kd.R_alloc | apply Kd.R_drewN | apply Kd.R_drew)); exact Kd.R_mono HO_289002.out (fun _ hk => hk.1.1)⟩,⟨by (try simp only [hl289002_55]); (try simp only [hl289003_55]); (with_reducible repeat (first | apply Kd.R_alloc | apply Kd.R_drewN | apply Kd.R_drew)); exact Kd.R_mono HO_289003.out (fun _ hk => hk.1.1)⟩,⟨by (try simp only [hl289002_55]); (try simp only [hl289003_55]); (with_reducible repeat (first | refine blk_drewN ?_ _ | refine blk_drew ?_ | refine blk_alloc ?_ _)); exact BK262.out⟩,⟨by (try simp only [hl289002_55]); (try simp only [hl289003_55]); (with_reducible repeat (first | refine blk_drewN ?_ _ | refine blk_drew ?_ | refine blk_alloc ?_ _)); exact BK288.out⟩,⟨by repeat (first | (with_reducible first | exact HB.out | apply below_alloc | apply pw_below_drewN | apply below_drew1 | refine below_set ?_ GE262.out | refine below_set ?_ GE288.out) | exact HB.out)⟩⟩
                ·rw [if_neg c118] at H
                 have c118b0 : (t333 == t278) = false := beq_eq_false_iff_ne.mpr c118
                 have c118b1 : (t333 != t278) = true := bne_iff_ne.mpr c118
                 (first | rw [c118b0] | (simp only [i64_w,i32_w]; rw [c118b0]) | skip)
                 have H' := Aside0.mk H
                 clear H
                 obtain ⟨Ao123,co123,eo123⟩ := Kd.R_slice HO329.out
                 subst eo123
                 obtain ⟨Ao124,co124,eo124⟩ := Kd.R_slice HO_8.out
                 subst eo124
                 go_wp2_with (first | ((with_reducible refine gate_callee (f := 26) rfl ?_); refine goesL_ (some 136) rfl rfl Tryd.func26 (by kernel_rfl) rfl #[.slice Ao123 t327.length co123,.slice Ao124 t272.length co124] rfl (by (try simp only [List.map_toArray,List.map_cons,List.map_nil]); first | done | rfl | (simp only [List.length_drop,List.length_take]; rfl)) ?_; (with_reducible refine (laws_eqInt64S.calls kj55 _ _ t327 _ _ t272 true _ ?side1 ?side2 ?side3 ?side4 A114.out).mono ?_); (case side1 => repeat (first | exact (Kd.R_reads' HO329.out).2.2 | (with_reducible refine Kd.C_alloc ?_ _) | (with_reducible refine Kd.C_drewN ?_ _) | (with_reducible refine Kd.C_drew ?_))); (case side2 => exact (Kd.R_reads' HO329.out).2.1); (case side3 => repeat (first | exact (Kd.R_reads' HO_8.out).2.2 | (with_reducible refine Kd.C_alloc ?_ _) | (with_reducible refine Kd.C_drewN ?_ _) | (with_reducible refine Kd.C_drew ?_))); (case side4 => exact (Kd.R_reads' HO_8.out).2.1); rintro e w' ⟨rfl,⟨nd,rfl⟩⟩; refine ⟨_,rfl,?_⟩; obtain ⟨Ao125,co125,eo125⟩ := Kd.R_slice HO332.out; subst eo125; obtain ⟨Ao126,co126,eo126⟩ := Kd.R_slice HO_9.out; subst eo126) | (go_at_call 26; (with_reducible refine (laws_eqInt64S.calls kj55 _ _ t330 _ _ t275 true _ ?side1 ?side2 ?side3 ?side4 A116.out).mono ?_); (case side1 => repeat (first | exact (Kd.R_reads' HO332.out).2.2 | (with_reducible refine Kd.C_alloc ?_ _) | (with_reducible refine Kd.C_drewN ?_ _) | (with_reducible refine Kd.C_drew ?_))); (case side2 => exact (Kd.R_reads' HO332.out).2.1); (case side3 => repeat (first | exact (Kd.R_reads' HO_9.out).2.2 | (with_reducible refine Kd.C_alloc ?_ _) | (with_reducible refine Kd.C_drewN ?_ _) | (with_reducible refine Kd.C_drew ?_))); (case side4 => exact (Kd.R_reads' HO_9.out).2.1); rintro e w' ⟨rfl,⟨nd,rfl⟩⟩))
                 go_meet
                 case rel => exact ⟨_,(true),(by first | rfl | (simp; done) | (simp [*]; done)),H',⟨by have := HJ14.out; have := HJ55.out; first | omega | exact Nat.le_refl _⟩,⟨by (try simp only [hl289002_55]); (try simp only [hl289003_55]); (with_reducible repeat (first | apply Kd.R_alloc | apply Kd.R_drewN | apply Kd.R_drew)); exact Kd.R_mono HO_13.out (fun _ hk => hk.1.1.2.2)⟩,⟨by (try simp only [hl289002_55]); (try simp only [hl289003_55]); (with_reducible repeat (first | apply Kd.R_alloc | apply Kd.R_drewN | apply Kd.R_drew)); exact Kd.R_mono HO_14.out (fun _ hk => hk.1.1.2.2)⟩,⟨by (try simp only [hl289002_55]); (try simp only [hl289003_55]); (with_reducible repeat (first | apply Kd.R_alloc | apply Kd.R_drewN | apply Kd.R_drew)); exact Kd.R_mono HO_289002.out (fun _ hk => hk.1.1)⟩,⟨by (try simp only [hl289002_55]); (try simp only [hl289003_55]); (with_reducible repeat (first | apply Kd.R_alloc | apply Kd.R_drewN | apply Kd.R_drew)); exact Kd.R_mono HO_289003.out (fun _ hk => hk.1.1)⟩,⟨by (try simp only [hl289002_55]); (try simp only [hl289003_55]); (with_reducible repeat (first | refine blk_drewN ?_ _ | refine blk_drew ?_ | refine blk_alloc ?_ _)); exact BK262.out⟩,⟨by (try simp only [hl289002_55]); (try simp only [hl289003_55]); (with_reducible repeat (first | refine blk_drewN ?_ _ | refine blk_drew ?_ | refine blk_alloc ?_ _)); exact BK288.out⟩,⟨by repeat (first | (with_reducible first | exact HB.out | apply below_alloc | apply pw_below_drewN | apply below_drew1 | refine below_set ?_ GE262.out | refine below_set ?_ GE288.out) | exact HB.out)⟩⟩
               ·replace c117 := Bool.eq_false_iff.mpr c117
                subst c117
                have H1 : (laws_FnExactDecodeBlocks.j2 kj55 t314 t316 t315 true) = some r := by rw [if_neg (show ¬ (false = true) by decide)] at H; exact H
                clear H
                have H := H1
                clear H1
                have H' := Aside0.mk H
                clear H
                obtain ⟨Ao127,co127,eo127⟩ := Kd.R_slice HO329.out
                subst eo127
                obtain ⟨Ao128,co128,eo128⟩ := Kd.R_slice HO_8.out
                subst eo128
                go_wp2_with (first | ((with_reducible refine gate_callee (f := 26) rfl ?_); refine goesL_ (some 136) rfl rfl Tryd.func26 (by kernel_rfl) rfl #[.slice Ao127 t327.length co127,.slice Ao128 t272.length co128] rfl (by (try simp only [List.map_toArray,List.map_cons,List.map_nil]); first | done | rfl | (simp only [List.length_drop,List.length_take]; rfl)) ?_; (with_reducible refine (laws_eqInt64S.calls kj55 _ _ t327 _ _ t272 true _ ?side1 ?side2 ?side3 ?side4 A114.out).mono ?_); (case side1 => repeat (first | exact (Kd.R_reads' HO329.out).2.2 | (with_reducible refine Kd.C_alloc ?_ _) | (with_reducible refine Kd.C_drewN ?_ _) | (with_reducible refine Kd.C_drew ?_))); (case side2 => exact (Kd.R_reads' HO329.out).2.1); (case side3 => repeat (first | exact (Kd.R_reads' HO_8.out).2.2 | (with_reducible refine Kd.C_alloc ?_ _) | (with_reducible refine Kd.C_drewN ?_ _) | (with_reducible refine Kd.C_drew ?_))); (case side4 => exact (Kd.R_reads' HO_8.out).2.1); rintro e w' ⟨rfl,⟨nd,rfl⟩⟩; refine ⟨_,rfl,?_⟩; obtain ⟨Ao129,co129,eo129⟩ := Kd.R_slice HO332.out; subst eo129; obtain ⟨Ao130,co130,eo130⟩ := Kd.R_slice HO_9.out; subst eo130) | (go_at_call 26; (with_reducible refine (laws_eqInt64S.calls kj55 _ _ t330 _ _ t275 false _ ?side1 ?side2 ?side3 ?side4 A116.out).mono ?_); (case side1 => repeat (first | exact (Kd.R_reads' HO332.out).2.2 | (with_reducible refine Kd.C_alloc ?_ _) | (with_reducible refine Kd.C_drewN ?_ _) | (with_reducible refine Kd.C_drew ?_))); (case side2 => exact (Kd.R_reads' HO332.out).2.1); (case side3 => repeat (first | exact (Kd.R_reads' HO_9.out).2.2 | (with_reducible refine Kd.C_alloc ?_ _) | (with_reducible refine Kd.C_drewN ?_ _) | (with_reducible refine Kd.C_drew ?_))); (case side4 => exact (Kd.R_reads' HO_9.out).2.1); rintro e w' ⟨rfl,⟨nd,rfl⟩⟩))
                go_meet
                case rel => exact ⟨_,(true),(by first | rfl | (simp; done) | (simp [*]; done)),H',⟨by have := HJ14.out; have := HJ55.out; first | omega | exact Nat.le_refl _⟩,⟨by (try simp only [hl289002_55]); (try simp only [hl289003_55]); (with_reducible repeat (first | apply Kd.R_alloc | apply Kd.R_drewN | apply Kd.R_drew)); exact Kd.R_mono HO_13.out (fun _ hk => hk.1.1.2.2)⟩,⟨by (try simp only [hl289002_55]); (try simp only [hl289003_55]); (with_reducible repeat (first | apply Kd.R_alloc | apply Kd.R_drewN | apply Kd.R_drew)); exact Kd.R_mono HO_14.out (fun _ hk => hk.1.1.2.2)⟩,⟨by (try simp only [hl289002_55]); (try simp only [hl289003_55]); (with_reducible repeat (first | apply Kd.R_alloc | apply Kd.R_drewN | apply Kd.R_drew)); exact Kd.R_mono HO_289002.out (fun _ hk => hk.1.1)⟩,⟨by (try simp only [hl289002_55]); (try simp only [hl289003_55]); (with_reducible repeat (first | apply Kd.R_alloc | apply Kd.R_drewN | apply Kd.R_drew)); exact Kd.R_mono HO_289003.out (fun _ hk => hk.1.1)⟩,⟨by (try simp only [hl289002_55]); (try simp only [hl289003_55]); (with_reducible repeat (first | refine blk_drewN ?_ _ | refine blk_drew ?_ | refine blk_alloc ?_ _)); exact BK262.out⟩,⟨by (try simp only [hl289002_55]); (try simp only [hl289003_55]); (with_reducible repeat (first | refine blk_drewN ?_ _ | refine blk_drew ?_ | refine blk_alloc ?_ _)); exact BK288.out⟩,⟨by repeat (first | (with_reducible first | exact HB.out | apply below_alloc | apply pw_below_drewN | apply below_drew1 | refine below_set ?_ GE262.out | refine below_set ?_ GE288.out) | exact HB.out)⟩⟩
              ·replace c115 := Bool.eq_false_iff.mpr c115
               subst c115
               have H1 : (laws_FnExactDecodeBlocks.j2 kj55 t314 t316 t315 true) = some r := by rw [if_neg (show ¬ (false = true) by decide)] at H; exact H
               clear H
               have H := H1
               clear H1
               have H' := Aside0.mk H
               clear H
               obtain ⟨Ao131,co131,eo131⟩ := Kd.R_slice HO329.out
               subst eo131
               obtain ⟨Ao132,co132,eo132⟩ := Kd.R_slice HO_8.out
               subst eo132
               go_wp2_with (first | ((with_reducible refine gate_callee (f := 26) rfl ?_); refine goesL_ (some 136) rfl rfl Tryd.func26 (by kernel_rfl) rfl #[.slice Ao131 t327.length co131,.slice Ao132 t272.length co132] rfl (by (try simp only [List.map_toArray,List.map_cons,List.map_nil]); first | done | rfl | (simp only [List.length_drop,List.length_take]; rfl)) ?_; (with_reducible refine (laws_eqInt64S.calls kj55 _ _ t327 _ _ t272 false _ ?side1 ?side2 ?side3 ?side4 A114.out).mono ?_); (case side1 => repeat (first | exact (Kd.R_reads' HO329.out).2.2 | (with_reducible refine Kd.C_alloc ?_ _) | (with_reducible refine Kd.C_drewN ?_ _) | (with_reducible refine Kd.C_drew ?_))); (case side2 => exact (Kd.R_reads' HO329.out).2.1); (case side3 => repeat (first | exact (Kd.R_reads' HO_8.out).2.2 | (with_reducible refine Kd.C_alloc ?_ _) | (with_reducible refine Kd.C_drewN ?_ _) | (with_reducible refine Kd.C_drew ?_))); (case side4 => exact (Kd.R_reads' HO_8.out).2.1); rintro e w' ⟨rfl,⟨nd,rfl⟩⟩; refine ⟨_,rfl,?_⟩))
               go_meet
               case rel => exact ⟨_,(true),(by first | rfl | (simp; done) | (simp [*]; done)),H',⟨by have := HJ14.out; have := HJ55.out; first | omega | exact Nat.le_refl _⟩,⟨by (try simp only [hl289002_55]); (try simp only [hl289003_55]); (with_reducible repeat (first | apply Kd.R_alloc | apply Kd.R_drewN | apply Kd.R_drew)); exact Kd.R_mono HO_13.out (fun _ hk => hk.1.1.2.2)⟩,⟨by (try simp only [hl289002_55]); (try simp only [hl289003_55]); (with_reducible repeat (first | apply Kd.R_alloc | apply Kd.R_drewN | apply Kd.R_drew)); exact Kd.R_mono HO_14.out (fun _ hk => hk.1.1.2.2)⟩,⟨by (try simp only [hl289002_55]); (try simp only [hl289003_55]); (with_reducible repeat (first | apply Kd.R_alloc | apply Kd.R_drewN | apply Kd.R_drew)); exact Kd.R_mono HO_289002.out (fun _ hk => hk.1.1)⟩,⟨by (try simp only [hl289002_55]); (try simp only [hl289003_55]); (with_reducible repeat (first | apply Kd.R_alloc | apply Kd.R_drewN | apply Kd.R_drew)); exact Kd.R_mono HO_289003.out (fun _ hk => hk.1.1)⟩,⟨by (try simp only [hl289002_55]); (try simp only [hl289003_55]); (with_reducible repeat (first | refine blk_drewN ?_ _ | refine blk_drew ?_ | refine blk_alloc ?_ _)); exact BK262.out⟩,⟨by (try simp only [hl289002_55]); (try simp only [hl289003_55]); (with_reducible repeat (first | refine blk_drewN ?_ _ | refine blk_drew ?_ | refine blk_alloc ?_ _)); exact BK288.out⟩,⟨by repeat (first | (with_reducible first | exact HB.out | apply below_alloc | apply pw_below_drewN | apply below_drew1 | refine below_set ?_ GE262.out | refine below_set ?_ GE288.out) | exact HB.out)⟩⟩
             case rest =>
              clear HC103
              try clear c1
              try clear c2
              try clear p2
              try clear c3
              try clear c4
              try clear c4b0
              try clear c4b1
              try clear c5
              try clear c6
              try clear c7
              try clear c7b0
              try clear c8
              try clear c9
              try clear c10
              try clear c11
              try clear c14
              try clear c16
              try clear c18
              try clear c26
              try clear c27
              try clear c28
              try clear c29
              try clear c30
              try clear c31
              try clear c33
              try clear c35
              try clear c36
              try clear c36b0
              try clear c36b1
              try clear c51
              try clear c54
              try clear c62
              try clear c65
              try clear c65b0
              try clear c67
              try clear c69
              try clear c70
              try clear c70b0
              try clear c70b1
              try clear c85
              try clear c89
              try clear c89b0
              try clear c95
              try clear c95b0
              try clear c100
              try clear c100b0
              try clear c100b1
              try clear c108
              try clear c115
              try clear c117
              try clear c118
              try clear c118b0
              try clear c118b1
              try clear hcz109_0
              try clear hcz109_1
              try clear hcz109_2
              try clear hcz109_3
              try clear hcz17_0
              try clear hcz17_1
              try clear hcz17_2
              try clear hcz17_3
              try clear hcz19_0
              try clear hcz19_1
              try clear hcz19_2
              try clear hcz19_3
              try clear hcz24_0
              try clear hcz24_1
              try clear hcz24_2
              try clear hcz24_3
              try clear hcz28_0
              try clear hcz28_1
              try clear hcz28_2
              try clear hcz28_3
              try clear hcz63_0
              try clear hcz63_1
              try clear hcz63_2
              try clear hcz63_3
              try clear hcz9_0
              try clear hcz9_1
              try clear hcz9_2
              try clear hcz9_3
              try clear hfz109_0
              try clear hfz109_1
              try clear hfz109_2
              try clear hfz109_3
              try clear hfz17_0
              try clear hfz17_1
              try clear hfz17_2
              try clear hfz17_3
              try clear hfz19_0
              try clear hfz19_1
              try clear hfz19_2
              try clear hfz19_3
              try clear hfz24_0
              try clear hfz24_1
              try clear hfz24_2
              try clear hfz24_3
              try clear hfz28_0
              try clear hfz28_1
              try clear hfz28_2
              try clear hfz28_3
              try clear hfz63_0
              try clear hfz63_1
              try clear hfz63_2
              try clear hfz63_3
              try clear hfz9_0
              try clear hfz9_1
              try clear hfz9_2
              try clear hfz9_3
              try clear p2
              obtain ⟨kq,x153_102,rfl,HA,HJ102,HO_13,HO_14,HO_289002,HO_289003,BK262,BK288,HB⟩ := hcut
              have hl13_102 := (Kd.R_reads' HO_13.out).1
              rw [hl13_102] at HO_13
              (try simp only [hl13_102])
              (try simp only [hl13_102] at BK262)
              (try simp only [hl13_102] at BK288)
              (try simp only [hl13_102] at HO_14)
              (try simp only [hl13_102] at HO_289002)
              (try simp only [hl13_102] at HO_289003)
              have hl14_102 := (Kd.R_reads' HO_14.out).1
              rw [hl14_102] at HO_14
              (try simp only [hl14_102])
              (try simp only [hl14_102] at BK262)
              (try simp only [hl14_102] at BK288)
              (try simp only [hl14_102] at HO_13)
              (try simp only [hl14_102] at HO_289002)
              (try simp only [hl14_102] at HO_289003)
              cases kq with
              | zero => exact absurd HA.out (by simp [laws_FnExactDecodeBlocks.j2])
              | succ kj102 =>
               have H := HA.out
               clear HA
               simp only [laws_FnExactDecodeBlocks.j2] at H
               by_cases c133 : x153_102 = true
               ·subst c133
                have H1 : (some false) = some r := by rw [if_pos rfl] at H; exact H
                clear H
                have H := H1
                clear H1
                obtain rfl := Option.some.inj H
                go_wp2
                go_ret
                exact ⟨by first | rfl | (simp [errW_none,errW_some] <;> rfl) | (simp [*,errW_none,errW_some] <;> rfl),by repeat (first | (with_reducible first | exact HB.out | apply below_alloc | apply pw_below_drewN | apply below_drew1 | refine below_set ?_ GE262.out | refine below_set ?_ GE288.out) | exact HB.out)⟩
               ·replace c133 := Bool.eq_false_iff.mpr c133
                subst c133
                have H1 : ((laws_heldInt64S.f kj102 t314 1).bind fun t337 => (if t337 < 0 then (some false) else ((laws_heldInt64S.f kj102 t316 t337).bind fun t338 => (if t338 < 0 then (some false) else (if t338 = t315 then (some true) else (some false)))))) = some r := by rw [if_neg (show ¬ (false = true) by decide)] at H; exact H
                clear H
                have H := H1
                clear H1
                replace H := Option.bind_eq_some_iff.mp H
                obtain ⟨t337,A1340,H⟩ := H
                replace H : (if t337 < 0 then (some false) else ((laws_heldInt64S.f kj102 t316 t337).bind fun t338 => (if t338 < 0 then (some false) else (if t338 = t315 then (some true) else (some false))))) = some r := H
                have A134 := Aside0.mk A1340
                clear A1340
                by_cases c135 : t337 < 0
                ·rw [if_pos c135] at H
                 have c135b0 : decide (t337 < 0) = true := decide_eq_true c135
                 clear c135
                 obtain rfl := Option.some.inj H
                 go_wp2_with (first | ((with_reducible refine gate_callee (f := 31) rfl ?_); refine goesL_ (some 156) rfl rfl Tryd.func31 (by kernel_rfl) rfl #[.slice Ao104 t314.length co104,.int .i64 1] rfl (by (try simp only [List.map_toArray,List.map_cons,List.map_nil]); first | done | rfl | (simp only [List.length_drop,List.length_take]; rfl)) ?_; (with_reducible refine (laws_heldInt64S.calls kj102 _ _ t314 1 t337 _ ?side1 ?side2 A134.out).mono ?_); (case side1 => repeat (first | exact (Kd.R_reads' HO_13.out).2.2 | (with_reducible refine Kd.C_alloc ?_ _) | (with_reducible refine Kd.C_drewN ?_ _) | (with_reducible refine Kd.C_drew ?_))); (case side2 => exact (Kd.R_reads' HO_13.out).2.1); rintro e w' ⟨rfl,⟨nd,rfl⟩⟩; refine ⟨_,rfl,?_⟩))
                 go_ret
                 exact ⟨by first | rfl | (simp [errW_none,errW_some] <;> rfl) | (simp [*,errW_none,errW_some] <;> rfl),by repeat (first | (with_reducible first | exact HB.out | apply below_alloc | apply pw_below_drewN | apply below_drew1 | refine below_set ?_ GE262.out | refine below_set ?_ GE288.out) | exact HB.out)⟩
                ·rw [if_neg c135] at H
                 have c135b0 : decide (t337 < 0) = false := decide_eq_false c135
                 clear c135
                 replace H := Option.bind_eq_some_iff.mp H
                 obtain ⟨t338,A1360,H⟩ := H
                 replace H : (if t338 < 0 then (some false) else (if t338 = t315 then (some true) else (some false))) = some r := H
                 have A136 := Aside0.mk A1360
                 clear A1360
                 by_cases c137 : t338 < 0
                 ·rw [if_pos c137] at H
                  have c137b0 : decide (t338 < 0) = true := decide_eq_true c137
                  clear c137
                  obtain rfl := Option.some.inj H
                  go_wp2_with (first | ((with_reducible refine gate_callee (f := 31) rfl ?_); refine goesL_ (some 156) rfl rfl Tryd.func31 (by kernel_rfl) rfl #[.slice Ao104 t314.length co104,.int .i64 1] rfl (by (try simp only [List.map_toArray,List.map_cons,List.map_nil]); first | done | rfl | (simp only [List.length_drop,List.length_take]; rfl)) ?_; (with_reducible refine (laws_heldInt64S.calls kj102 _ _ t314 1 t337 _ ?side1 ?side2 A134.out).mono ?_); (case side1 => repeat (first | exact (Kd.R_reads' HO_13.out).2.2 | (with_reducible refine Kd.C_alloc ?_ _) | (with_reducible refine Kd.C_drewN ?_ _) | (with_reducible refine Kd.C_drew ?_))); (case side2 => exact (Kd.R_reads' HO_13.out).2.1); rintro e w' ⟨rfl,⟨nd,rfl⟩⟩; refine ⟨_,rfl,?_⟩) | ((with_reducible refine gate_callee (f := 31) rfl ?_); refine goesL_ (some 161) rfl rfl Tryd.func31 (by kernel_rfl) rfl #[.slice Ao106 t316.length co106,.int .i64 t337] rfl (by (try simp only [List.map_toArray,List.map_cons,List.map_nil]); first | done | rfl | (simp only [List.length_drop,List.length_take]; rfl)) ?_; (with_reducible refine (laws_heldInt64S.calls kj102 _ _ t316 t337 t338 _ ?side1 ?side2 A136.out).mono ?_); (case side1 => repeat (first | exact (Kd.R_reads' HO_14.out).2.2 | (with_reducible refine Kd.C_alloc ?_ _) | (with_reducible refine Kd.C_drewN ?_ _) | (with_reducible refine Kd.C_drew ?_))); (case side2 => exact (Kd.R_reads' HO_14.out).2.1); rintro e w' ⟨rfl,⟨nd,rfl⟩⟩; refine ⟨_,rfl,?_⟩))
                  go_ret
                  exact ⟨by first | rfl | (simp [errW_none,errW_some] <;> rfl) | (simp [*,errW_none,errW_some] <;> rfl),by repeat (first | (with_reducible first | exact HB.out | apply below_alloc | apply pw_below_drewN | apply below_drew1 | refine below_set ?_ GE262.out | refine below_set ?_ GE288.out) | exact HB.out)⟩
                 ·rw [if_neg c137] at H
                  have c137b0 : decide (t338 < 0) = false := decide_eq_false c137
                  clear c137
                  by_cases c138 : t338 = t315
                  ·rw [if_pos c138] at H
                   have c138b0 : (t338 == t315) = true := beq_iff_eq.mpr c138
                   have c138b1 : (t338 != t315) = false := bne_eq_false_iff_eq.mpr c138
                   clear c138
                   obtain rfl := Option.some.inj H
                   go_wp2_with (first | ((with_reducible refine gate_callee (f := 31) rfl ?_); refine goesL_ (some 156) rfl rfl Tryd.func31 (by kernel_rfl) rfl #[.slice Ao104 t314.length co104,.int .i64 1] rfl (by (try simp only [List.map_toArray,List.map_cons,List.map_nil]); first | done | rfl | (simp only [List.length_drop,List.length_take]; rfl)) ?_; (with_reducible refine (laws_heldInt64S.calls kj102 _ _ t314 1 t337 _ ?side1 ?side2 A134.out).mono ?_); (case side1 => repeat (first | exact (Kd.R_reads' HO_13.out).2.2 | (with_reducible refine Kd.C_alloc ?_ _) | (with_reducible refine Kd.C_drewN ?_ _) | (with_reducible refine Kd.C_drew ?_))); (case side2 => exact (Kd.R_reads' HO_13.out).2.1); rintro e w' ⟨rfl,⟨nd,rfl⟩⟩; refine ⟨_,rfl,?_⟩) | ((with_reducible refine gate_callee (f := 31) rfl ?_); refine goesL_ (some 161) rfl rfl Tryd.func31 (by kernel_rfl) rfl #[.slice Ao106 t316.length co106,.int .i64 t337] rfl (by (try simp only [List.map_toArray,List.map_cons,List.map_nil]); first | done | rfl | (simp only [List.length_drop,List.length_take]; rfl)) ?_; (with_reducible refine (laws_heldInt64S.calls kj102 _ _ t316 t337 t338 _ ?side1 ?side2 A136.out).mono ?_); (case side1 => repeat (first | exact (Kd.R_reads' HO_14.out).2.2 | (with_reducible refine Kd.C_alloc ?_ _) | (with_reducible refine Kd.C_drewN ?_ _) | (with_reducible refine Kd.C_drew ?_))); (case side2 => exact (Kd.R_reads' HO_14.out).2.1); rintro e w' ⟨rfl,⟨nd,rfl⟩⟩; refine ⟨_,rfl,?_⟩))
                   go_ret
                   exact ⟨by first | rfl | (simp [errW_none,errW_some] <;> rfl) | (simp [*,errW_none,errW_some] <;> rfl),by repeat (first | (with_reducible first | exact HB.out | apply below_alloc | apply pw_below_drewN | apply below_drew1 | refine below_set ?_ GE262.out | refine below_set ?_ GE288.out) | exact HB.out)⟩
                  ·rw [if_neg c138] at H
                   have c138b0 : (t338 == t315) = false := beq_eq_false_iff_ne.mpr c138
                   have c138b1 : (t338 != t315) = true := bne_iff_ne.mpr c138
                   obtain rfl := Option.some.inj H
                   go_wp2_with (first | ((with_reducible refine gate_callee (f := 31) rfl ?_); refine goesL_ (some 156) rfl rfl Tryd.func31 (by kernel_rfl) rfl #[.slice Ao104 t314.length co104,.int .i64 1] rfl (by (try simp only [List.map_toArray,List.map_cons,List.map_nil]); first | done | rfl | (simp only [List.length_drop,List.length_take]; rfl)) ?_; (with_reducible refine (laws_heldInt64S.calls kj102 _ _ t314 1 t337 _ ?side1 ?side2 A134.out).mono ?_); (case side1 => repeat (first | exact (Kd.R_reads' HO_13.out).2.2 | (with_reducible refine Kd.C_alloc ?_ _) | (with_reducible refine Kd.C_drewN ?_ _) | (with_reducible refine Kd.C_drew ?_))); (case side2 => exact (Kd.R_reads' HO_13.out).2.1); rintro e w' ⟨rfl,⟨nd,rfl⟩⟩; refine ⟨_,rfl,?_⟩) | ((with_reducible refine gate_callee (f := 31) rfl ?_); refine goesL_ (some 161) rfl rfl Tryd.func31 (by kernel_rfl) rfl #[.slice Ao106 t316.length co106,.int .i64 t337] rfl (by (try simp only [List.map_toArray,List.map_cons,List.map_nil]); first | done | rfl | (simp only [List.length_drop,List.length_take]; rfl)) ?_; (with_reducible refine (laws_heldInt64S.calls kj102 _ _ t316 t337 t338 _ ?side1 ?side2 A136.out).mono ?_); (case side1 => repeat (first | exact (Kd.R_reads' HO_14.out).2.2 | (with_reducible refine Kd.C_alloc ?_ _) | (with_reducible refine Kd.C_drewN ?_ _) | (with_reducible refine Kd.C_drew ?_))); (case side2 => exact (Kd.R_reads' HO_14.out).2.1); rintro e w' ⟨rfl,⟨nd,rfl⟩⟩; refine ⟨_,rfl,?_⟩))
                   go_ret
                   exact ⟨by first | rfl | (simp [errW_none,errW_some] <;> rfl) | (simp [*,errW_none,errW_some] <;> rfl),by repeat (first | (with_reducible first | exact HB.out | apply below_alloc | apply pw_below_drewN | apply below_drew1 | refine below_set ?_ GE262.out | refine below_set ?_ GE288.out) | exact HB.out)⟩
            ·rw [if_neg c100] at H
             have c100b0 : (t318 == t315) = false := beq_eq_false_iff_ne.mpr c100
             have c100b1 : (t318 != t315) = true := bne_iff_ne.mpr c100
             obtain rfl := Option.some.inj H
             obtain ⟨Ao139,co139,eo139⟩ := Kd.R_slice HO_13.out
             subst eo139
             go_wp2_with (first | ((with_reducible refine gate_callee (f := 30) rfl ?_); refine goesL_ (some 107) rfl rfl Tryd.func30 (by kernel_rfl) rfl #[.slice Ao139 t289.length co139,.int .i64 1] rfl (by (try simp only [List.map_toArray,List.map_cons,List.map_nil]); first | done | rfl | (simp only [List.length_drop,List.length_take]; rfl)) ?_; (with_reducible refine (laws_markInt64S.calls kj55 (fun k_ => some k_ = (.slice Ao139 t289.length co139 : Value).ownBlock) (.slice Ao139 t289.length co139) t289 1 t313 t314 w _ ?side1 ?side2 A86.out).mono ?_); (case side1 => repeat (first | (with_reducible first | exact HB.out | apply below_alloc | apply pw_below_drewN | apply below_drew1 | refine below_set ?_ GE262.out | refine below_set ?_ GE288.out) | exact HB.out)); (case side2 => exact Kd.R_tight rfl HO_13.out); rintro e w140 ⟨rfl,hy0,hb,hkp⟩; refine ⟨_,rfl,?_⟩; have n0_ := Aside0.mk (Kd.R_mono (ok' := fun k_ => some k_ ≠ (v276 : Value).ownBlock ∧ some k_ ≠ (.slice Ao139 t289.length co139 : Value).ownBlock ∧ some k_ ≠ (v293 : Value).ownBlock) (Kd.R_keptB (HO_8.out) hkp (fun k_ hk_ hs_ => (hk_.2.1) hs_)) (fun k_ hk_ => ⟨hk_.1.1,hk_.1.2.1,hk_.1.2.2⟩)); have n1_ := Aside0.mk (Kd.R_mono (ok' := fun k_ => some k_ ≠ (v273 : Value).ownBlock ∧ some k_ ≠ (.slice Ao139 t289.length co139 : Value).ownBlock ∧ some k_ ≠ (v293 : Value).ownBlock) (Kd.R_keptB (HO_9.out) hkp (fun k_ hk_ hs_ => (hk_.2.1) hs_)) (fun k_ hk_ => ⟨hk_.1.1,hk_.1.2.1,hk_.1.2.2⟩)); have n2_ := Aside0.mk (Kd.R_reok rfl hy0 (fun k_ e_ => HO_13.out.1 k_ e_)); have n3_ := Aside0.mk (Kd.R_mono (ok' := fun k_ => some k_ ≠ (v273 : Value).ownBlock ∧ some k_ ≠ (v276 : Value).ownBlock ∧ some k_ ≠ (.slice Ao139 t289.length co139 : Value).ownBlock) (Kd.R_keptB (HO_14.out) hkp (fun k_ hk_ hs_ => (hk_.2.2) hs_)) (fun k_ hk_ => ⟨hk_.1.1,hk_.1.2.1,hk_.1.2.2⟩)); have n4_ := Aside0.mk (Kd.R_mono (ok' := fun k_ => some k_ ≠ (.slice Ao30 t310.length co30 : Value).ownBlock) (Kd.R_keptB ((Kd.R_apart' HO_289002.out (Kd.R_typed HO_13.out) (by decide))) hkp (fun k_ hk_ hs_ => (hk_.2) hs_)) (fun k_ hk_ => hk_.1.1)); have n5_ := Aside0.mk (Kd.R_mono (ok' := fun k_ => some k_ ≠ (.slice Ao29 t309.length co29 : Value).ownBlock) (Kd.R_keptB ((Kd.R_apart' HO_289003.out (Kd.R_typed HO_13.out) (by decide))) hkp (fun k_ hk_ hs_ => (hk_.2) hs_)) (fun k_ hk_ => hk_.1.1)); have n6_ := Aside0.mk (blk_kept (by (with_reducible repeat (first | refine blk_drewN ?_ _ | refine blk_drew ?_ | refine blk_alloc ?_ _)); exact BK262.out) hkp (fun hs_ => (fun e_ => (Kd.R_ne HO_13.out BK262.out (by decide)) e_) hs_)); have n7_ := Aside0.mk (blk_kept (by (with_reducible repeat (first | refine blk_drewN ?_ _ | refine blk_drew ?_ | refine blk_alloc ?_ _)); exact BK288.out) hkp (fun hs_ => (fun e_ => (Kd.R_ne HO_13.out BK288.out (by decide)) e_) hs_)); have n8_ := Aside0.mk (hb); clear HO_8; clear HO_9; clear HO_13; clear HO_14; clear HO_289002; clear HO_289003; clear BK262; clear BK288; clear HB; have HO_8 := n0_; have HO_9 := n1_; have HO_13 := n2_; have HO_14 := n3_; have HO_289002 := n4_; have HO_289003 := n5_; have BK262 := n6_; have BK288 := n7_; have HB := n8_; clear n0_ n1_ n2_ n3_ n4_ n5_ n6_ n7_ n8_; (try clear hb); (try clear hkp); (try clear hy0); obtain ⟨Ao141,co141,eo141⟩ := Kd.R_slice HO_14.out; subst eo141) | ((with_reducible refine gate_callee (f := 30) rfl ?_); refine goesL_ (some 110) rfl rfl Tryd.func30 (by kernel_rfl) rfl #[.slice Ao141 t292.length co141,.int .i64 t313] rfl (by (try simp only [List.map_toArray,List.map_cons,List.map_nil]); first | done | rfl | (simp only [List.length_drop,List.length_take]; rfl)) ?_; (with_reducible refine (laws_markInt64S.calls kj55 (fun k_ => some k_ = (.slice Ao141 t292.length co141 : Value).ownBlock) (.slice Ao141 t292.length co141) t292 t313 t315 t316 w _ ?side1 ?side2 A87.out).mono ?_); (case side1 => repeat (first | (with_reducible first | exact HB.out | apply below_alloc | apply pw_below_drewN | apply below_drew1 | refine below_set ?_ GE262.out | refine below_set ?_ GE288.out) | exact HB.out)); (case side2 => exact Kd.R_tight rfl HO_14.out); rintro e w142 ⟨rfl,hy0,hb,hkp⟩; refine ⟨_,rfl,?_⟩; have n0_ := Aside0.mk (Kd.R_mono (ok' := fun k_ => some k_ ≠ (v276 : Value).ownBlock ∧ some k_ ≠ (.slice Ao139 t289.length co139 : Value).ownBlock ∧ some k_ ≠ (.slice Ao141 t292.length co141 : Value).ownBlock) (Kd.R_keptB (HO_8.out) hkp (fun k_ hk_ hs_ => (hk_.2.2) hs_)) (fun k_ hk_ => ⟨hk_.1.1,hk_.1.2.1,hk_.1.2.2⟩)); have n1_ := Aside0.mk (Kd.R_mono (ok' := fun k_ => some k_ ≠ (v273 : Value).ownBlock ∧ some k_ ≠ (.slice Ao139 t289.length co139 : Value).ownBlock ∧ some k_ ≠ (.slice Ao141 t292.length co141 : Value).ownBlock) (Kd.R_keptB (HO_9.out) hkp (fun k_ hk_ hs_ => (hk_.2.2) hs_)) (fun k_ hk_ => ⟨hk_.1.1,hk_.1.2.1,hk_.1.2.2⟩)); have n2_ := Aside0.mk (Kd.R_mono (ok' := fun k_ => some k_ ≠ (v273 : Value).ownBlock ∧ some k_ ≠ (v276 : Value).ownBlock ∧ some k_ ≠ (.slice Ao141 t292.length co141 : Value).ownBlock) (Kd.R_keptB (HO_13.out) hkp (fun k_ hk_ hs_ => (hk_.2.2) hs_)) (fun k_ hk_ => ⟨hk_.1.1,hk_.1.2.1,hk_.1.2.2⟩)); have n3_ := Aside0.mk (Kd.R_reok rfl hy0 (fun k_ e_ => HO_14.out.1 k_ e_)); have n4_ := Aside0.mk (Kd.R_mono (ok' := fun k_ => some k_ ≠ (.slice Ao30 t310.length co30 : Value).ownBlock) (Kd.R_keptB ((Kd.R_apart' HO_289002.out (Kd.R_typed HO_14.out) (by decide))) hkp (fun k_ hk_ hs_ => (hk_.2) hs_)) (fun k_ hk_ => hk_.1.1)); have n5_ := Aside0.mk (Kd.R_mono (ok' := fun k_ => some k_ ≠ (.slice Ao29 t309.length co29 : Value).ownBlock) (Kd.R_keptB ((Kd.R_apart' HO_289003.out (Kd.R_typed HO_14.out) (by decide))) hkp (fun k_ hk_ hs_ => (hk_.2) hs_)) (fun k_ hk_ => hk_.1.1)); have n6_ := Aside0.mk (blk_kept (by (with_reducible repeat (first | refine blk_drewN ?_ _ | refine blk_drew ?_ | refine blk_alloc ?_ _)); exact BK262.out) hkp (fun hs_ => (fun e_ => (Kd.R_ne HO_14.out BK262.out (by decide)) e_) hs_)); have n7_ := Aside0.mk (blk_kept (by (with_reducible repeat (first | refine blk_drewN ?_ _ | refine blk_drew ?_ | refine blk_alloc ?_ _)); exact BK288.out) hkp (fun hs_ => (fun e_ => (Kd.R_ne HO_14.out BK288.out (by decide)) e_) hs_)); have n8_ := Aside0.mk (hb); clear HO_8; clear HO_9; clear HO_13; clear HO_14; clear HO_289002; clear HO_289003; clear BK262; clear BK288; clear HB; have HO_8 := n0_; have HO_9 := n1_; have HO_13 := n2_; have HO_14 := n3_; have HO_289002 := n4_; have HO_289003 := n5_; have BK262 := n6_; have BK288 := n7_; have HB := n8_; clear n0_ n1_ n2_ n3_ n4_ n5_ n6_ n7_ n8_; (try clear hb); (try clear hkp); (try clear hy0)) | ((with_reducible refine gate_callee (f := 31) rfl ?_); refine goesL_ (some 113) rfl rfl Tryd.func31 (by kernel_rfl) rfl #[.slice Ao139 t314.length co139,.int .i64 1] rfl (by (try simp only [List.map_toArray,List.map_cons,List.map_nil]); first | done | (rw [show t314.length = t289.length from (Kd.R_reads' HO_13.out).1.symm] <;> rfl) | rfl | (simp only [List.length_drop,List.length_take]; rfl)) ?_; (with_reducible refine (laws_heldInt64S.calls kj55 _ _ t314 1 t317 _ ?side1 ?side2 A88.out).mono ?_); (case side1 => repeat (first | exact (Kd.R_reads' HO_13.out).2.2 | (with_reducible refine Kd.C_alloc ?_ _) | (with_reducible refine Kd.C_drewN ?_ _) | (with_reducible refine Kd.C_drew ?_))); (case side2 => rw [show t314.length = t289.length from (Kd.R_reads' HO_13.out).1.symm]; exact (Kd.R_reads' HO_13.out).2.1); rintro e w' ⟨rfl,⟨nd,rfl⟩⟩; refine ⟨_,rfl,?_⟩) | ((with_reducible refine gate_callee (f := 31) rfl ?_); refine goesL_ (some 118) rfl rfl Tryd.func31 (by kernel_rfl) rfl #[.slice Ao141 t316.length co141,.int .i64 t317] rfl (by (try simp only [List.map_toArray,List.map_cons,List.map_nil]); first | done | (rw [show t316.length = t292.length from (Kd.R_reads' HO_14.out).1.symm] <;> rfl) | rfl | (simp only [List.length_drop,List.length_take]; rfl)) ?_; (with_reducible refine (laws_heldInt64S.calls kj55 _ _ t316 t317 t318 _ ?side1 ?side2 A94.out).mono ?_); (case side1 => repeat (first | exact (Kd.R_reads' HO_14.out).2.2 | (with_reducible refine Kd.C_alloc ?_ _) | (with_reducible refine Kd.C_drewN ?_ _) | (with_reducible refine Kd.C_drew ?_))); (case side2 => rw [show t316.length = t292.length from (Kd.R_reads' HO_14.out).1.symm]; exact (Kd.R_reads' HO_14.out).2.1); rintro e w' ⟨rfl,⟨nd,rfl⟩⟩; refine ⟨_,rfl,?_⟩))
             go_ret
             exact ⟨by first | rfl | (simp [errW_none,errW_some] <;> rfl) | (simp [*,errW_none,errW_some] <;> rfl),by repeat (first | (with_reducible first | exact HB.out | apply below_alloc | apply pw_below_drewN | apply below_drew1 | refine below_set ?_ GE262.out | refine below_set ?_ GE288.out) | exact HB.out)⟩
      ·replace c54 := Bool.eq_false_iff.mpr c54
       subst c54
       have H1 : (some false) = some r := by rw [if_neg (show ¬ (false = true) by decide)] at H; exact H
       clear H
       have H := H1
       clear H1
       obtain rfl := Option.some.inj H
       try go_wp2
       have n0_ := Aside0.mk (Kd.R_drew HO_8.out)
       have n1_ := Aside0.mk (Kd.R_drew HO_9.out)
       have n2_ := Aside0.mk (Kd.R_drew HO_13.out)
       have n3_ := Aside0.mk (Kd.R_drew HO_14.out)
       have n4_ := Aside0.mk (Kd.R_drew HO_289002.out)
       have n5_ := Aside0.mk (Kd.R_drew HO_289003.out)
       have n6_ := Aside0.mk (blk_drew BK262.out)
       have n7_ := Aside0.mk (blk_drew BK288.out)
       have n8_ := Aside0.mk (below_drew1 HB.out)
       clear HO_8
       clear HO_9
       clear HO_13
       clear HO_14
       clear HO_289002
       clear HO_289003
       clear BK262
       clear BK288
       clear HB
       have HO_8 := n0_
       have HO_9 := n1_
       have HO_13 := n2_
       have HO_14 := n3_
       have HO_289002 := n4_
       have HO_289003 := n5_
       have BK262 := n6_
       have BK288 := n7_
       have HB := n8_
       clear n0_ n1_ n2_ n3_ n4_ n5_ n6_ n7_ n8_
       refine start_ (n := 5) (S := fun w' => w'.cell? ⟨gb288,0,none⟩ = some (.int .i64 t280) ∧ w'.cell? ⟨gb288,1,none⟩ = some (.int .i64 t281) ∧ w'.cell? ⟨gb288,2,none⟩ = some (.slice Ao29 t282.length co29) ∧ w'.cell? ⟨gb288,3,none⟩ = some (.slice Ao30 t285.length co30) ∧ w'.cell? ⟨gb262,0,none⟩ = some (.int .i64 a0_0) ∧ w'.cell? ⟨gb262,1,none⟩ = some (.int .i64 a0_1) ∧ w'.cell? ⟨gb262,2,none⟩ = some (.slice A0_2 l0_2.length c0_2) ∧ w'.cell? ⟨gb262,3,none⟩ = some (.slice A0_3 l0_3.length c0_3)) (ds := []) #[false,false,false,false,false] (by kernel_rfl) rfl rfl ⟨(blk_cell BK288.out 0).trans rfl,(blk_cell BK288.out 1).trans rfl,(blk_cell BK288.out 2).trans rfl,(blk_cell BK288.out 3).trans rfl,(blk_cell BK262.out 0).trans rfl,(blk_cell BK262.out 1).trans rfl,(blk_cell BK262.out 2).trans rfl,(blk_cell BK262.out 3).trans rfl⟩ (fun hHeld => ?_)
       generalize wc.drew = w143 at HO_8 HO_9 HO_13 HO_14 HO_289002 HO_289003 BK262 BK288 HB hHeld ⊢
       refine take_ (i := 0) (N := some 73) (v := ?_) (a' := ?_) #[true,false,false,false,false] rfl rfl (by kernel_rfl) (fun _ _ _ h => h) (Or.inl ⟨by rfl,?_⟩) hHeld ?_ ?_
       rotate_left
       ·rintro w' ⟨s0,s1,s2,s3,s4,s5,s6,s7⟩
        go_simp
        with_reducible rfl
       rotate_left
       ·simp only [Act.put,List.setIfInBounds_toArray,List.set_cons_zero,List.set_cons_succ,i64_w,i32_w]
        rfl
       refine take_ (i := 1) (N := some 74) (v := ?_) (a' := ?_) #[true,true,false,false,false] rfl rfl (by kernel_rfl) (fun _ _ _ h => h) (Or.inl ⟨by rfl,?_⟩) hHeld ?_ ?_
       rotate_left
       ·rintro w' ⟨s0,s1,s2,s3,s4,s5,s6,s7⟩
        go_simp
        with_reducible rfl
       rotate_left
       ·simp only [Act.put,List.setIfInBounds_toArray,List.set_cons_zero,List.set_cons_succ,i64_w,i32_w]
        rfl
       refine one_ (i := 2) (N := some 75) #[true,true,true,false,false] rfl rfl (by kernel_rfl) (by decide) (fun K hK => ?_)
       refine goes_ Tryd.func16 (by kernel_rfl) rfl #[.agg #[.int .i64 a0_0,.int .i64 a0_1,.slice A0_2 l0_2.length c0_2,.slice A0_3 l0_3.length c0_3]] (by rfl) rfl rfl (by (try simp only [List.map_toArray,List.map_cons,List.map_nil]); first | done | rfl | (simp only [List.length_drop,List.length_take]; rfl)) ?_
       with_reducible refine (laws_toBlockCode.calls kj14 a0_0 a0_1 _ _ l0_2 _ _ l0_3 t299 t300 t301 t304 _ ?side1 ?side2 ?side3 ?side4 A52.out).mono ?_
       (case side1 => repeat (first | exact (Kd.C_below HR0_2.out HB.out) | (with_reducible refine Kd.C_alloc ?_ _) | (with_reducible refine Kd.C_drewN ?_ _) | (with_reducible refine Kd.C_drew ?_)))
       (case side2 => exact HC0_2.out)
       (case side3 => repeat (first | exact (Kd.C_below HR0_3.out HB.out) | (with_reducible refine Kd.C_alloc ?_ _) | (with_reducible refine Kd.C_drewN ?_ _) | (with_reducible refine Kd.C_drew ?_)))
       (case side4 => exact HC0_3.out)
       rintro e w144 ⟨v302,v305,rfl,ho0,ho1,hb⟩
       refine ⟨_,rfl,?_⟩
       have n0_ := Aside0.mk (Kd.R_below (by (with_reducible repeat (first | apply Kd.R_alloc | apply Kd.R_drewN | apply Kd.R_drew)); exact HO_8.out) hb)
       have n1_ := Aside0.mk (Kd.R_below (by (with_reducible repeat (first | apply Kd.R_alloc | apply Kd.R_drewN | apply Kd.R_drew)); exact HO_9.out) hb)
       have n2_ := Aside0.mk (Kd.R_below (by (with_reducible repeat (first | apply Kd.R_alloc | apply Kd.R_drewN | apply Kd.R_drew)); exact HO_13.out) hb)
       have n3_ := Aside0.mk (Kd.R_below (by (with_reducible repeat (first | apply Kd.R_alloc | apply Kd.R_drewN | apply Kd.R_drew)); exact HO_14.out) hb)
       have n4_ := Aside0.mk (Kd.R_mono (Kd.R_told (Kd.R_told (Kd.R_old (by (with_reducible repeat (first | apply Kd.R_alloc | apply Kd.R_drewN | apply Kd.R_drew)); exact HO_289002.out) hb) (Kd.R_base ho0)) (Kd.R_base ho1)) (fun _ h_ => h_.1))
       have n5_ := Aside0.mk (Kd.R_mono (Kd.R_told (Kd.R_told (Kd.R_old (by (with_reducible repeat (first | apply Kd.R_alloc | apply Kd.R_drewN | apply Kd.R_drew)); exact HO_289003.out) hb) (Kd.R_base ho0)) (Kd.R_base ho1)) (fun _ h_ => h_.1))
       have n6_ := Aside0.mk (Kd.R_lower (Kd.R_new' (Kd.R_new' ho0 (Kd.R_lt (by (with_reducible repeat (first | apply Kd.R_alloc | apply Kd.R_drewN | apply Kd.R_drew)); exact HO_289002.out))) (Kd.R_lt (by (with_reducible repeat (first | apply Kd.R_alloc | apply Kd.R_drewN | apply Kd.R_drew)); exact HO_289003.out))) (below_size (by repeat (first | (with_reducible first | exact HB.out | apply below_alloc | apply pw_below_drewN | apply below_drew1 | refine below_set ?_ GE262.out | refine below_set ?_ GE288.out) | exact HB.out))))
       have n7_ := Aside0.mk (Kd.R_lower (Kd.R_new' (Kd.R_new' ho1 (Kd.R_lt (by (with_reducible repeat (first | apply Kd.R_alloc | apply Kd.R_drewN | apply Kd.R_drew)); exact HO_289002.out))) (Kd.R_lt (by (with_reducible repeat (first | apply Kd.R_alloc | apply Kd.R_drewN | apply Kd.R_drew)); exact HO_289003.out))) (below_size (by repeat (first | (with_reducible first | exact HB.out | apply below_alloc | apply pw_below_drewN | apply below_drew1 | refine below_set ?_ GE262.out | refine below_set ?_ GE288.out) | exact HB.out))))
       have n8_ := Aside0.mk (blk_below (g := gb262) (o := .cells #[.int .i64 a0_0,.int .i64 a0_1,.slice A0_2 l0_2.length c0_2,.slice A0_3 l0_3.length c0_3] 27 (0,0)) (by (with_reducible repeat (first | refine blk_drewN ?_ _ | refine blk_drew ?_ | refine blk_alloc ?_ _)); exact BK262.out) hb)
       have n9_ := Aside0.mk (blk_below (g := gb288) (o := .cells #[.int .i64 t280,.int .i64 t281,.slice Ao29 t282.length co29,.slice Ao30 t285.length co30] 30 (0,0)) (by (with_reducible repeat (first | refine blk_drewN ?_ _ | refine blk_drew ?_ | refine blk_alloc ?_ _)); exact BK288.out) hb)
       have n10_ := Aside0.mk (below_step (by repeat (first | (with_reducible first | exact HB.out | apply below_alloc | apply pw_below_drewN | apply below_drew1 | refine below_set ?_ GE262.out | refine below_set ?_ GE288.out) | exact HB.out)) hb)
       clear HO_8
       clear HO_9
       clear HO_13
       clear HO_14
       clear HO_289002
       clear HO_289003
       clear BK262
       clear BK288
       clear HB
       have HO_8 := n0_
       have HO_9 := n1_
       have HO_13 := n2_
       have HO_14 := n3_
       have HO_289002 := n4_
       have HO_289003 := n5_
       have HO303 := n6_
       have HO306 := n7_
       have BK262 := n8_
       have BK288 := n9_
       have HB := n10_
       clear n0_ n1_ n2_ n3_ n4_ n5_ n6_ n7_ n8_ n9_ n10_
       (try clear hb)
       (try clear hb2)
       (try clear hk)
       (try clear hi)
       (try clear ho0)
       (try clear ho1)
       obtain ⟨Ao145,co145,eo145⟩ := Kd.R_slice HO303.out
       (first | subst eo145 | (injection eo145 with f1_ f2_ f3_; have f4_ := f1_.symm; have f5_ := f3_.symm; clear f1_ f2_ f3_; subst f4_; subst f5_))
       obtain ⟨Ao146,co146,eo146⟩ := Kd.R_slice HO306.out
       (first | subst eo146 | (injection eo146 with f1_ f2_ f3_; have f4_ := f1_.symm; have f5_ := f3_.symm; clear f1_ f2_ f3_; subst f4_; subst f5_))
       refine hK.out _ _ ⟨(blk_cell BK288.out 0).trans rfl,(blk_cell BK288.out 1).trans rfl,(blk_cell BK288.out 2).trans rfl,(blk_cell BK288.out 3).trans rfl,(blk_cell BK262.out 0).trans rfl,(blk_cell BK262.out 1).trans rfl,(blk_cell BK262.out 2).trans rfl,(blk_cell BK262.out 3).trans rfl⟩ (fun hHeld => ?_)
       clear hK K
       refine norm_ (a' := ?_) ?_ ?_
       rotate_left
       ·show Act.put _ (some 75) _ = _
        simp only [Act.put,List.setIfInBounds_toArray,List.set_cons_zero,List.set_cons_succ,i64_w,i32_w]
        rfl
       refine one_ (i := 3) (N := some 76) #[true,true,true,true,false] rfl rfl (by kernel_rfl) (by decide) (fun K hK => ?_)
       refine goes_ Tryd.func18 (by kernel_rfl) rfl #[.agg #[.int .i64 t280,.int .i64 t281,.slice Ao29 t282.length co29,.slice Ao30 t285.length co30],.agg #[.int .i64 t299,.int .i64 t300,.slice Ao145 t301.length co145,.slice Ao146 t304.length co146]] (by rfl) rfl rfl (by (try simp only [List.map_toArray,List.map_cons,List.map_nil]); first | done | rfl | (simp only [List.length_drop,List.length_take]; rfl)) ?_
       with_reducible refine (laws_eqBlockCode.calls kj14 t280 t281 _ _ t282 _ _ t285 t299 t300 _ _ t301 _ _ t304 false _ ?side1 ?side2 ?side3 ?side4 ?side5 ?side6 ?side7 ?side8 A53.out).mono ?_
       (case side1 => repeat (first | exact (Kd.R_reads' HO_289002.out).2.2 | (with_reducible refine Kd.C_alloc ?_ _) | (with_reducible refine Kd.C_drewN ?_ _) | (with_reducible refine Kd.C_drew ?_)))
       (case side2 => exact (Kd.R_reads' HO_289002.out).2.1)
       (case side3 => repeat (first | exact (Kd.R_reads' HO_289003.out).2.2 | (with_reducible refine Kd.C_alloc ?_ _) | (with_reducible refine Kd.C_drewN ?_ _) | (with_reducible refine Kd.C_drew ?_)))
       (case side4 => exact (Kd.R_reads' HO_289003.out).2.1)
       (case side5 => repeat (first | exact (Kd.R_reads' HO303.out).2.2 | (with_reducible refine Kd.C_alloc ?_ _) | (with_reducible refine Kd.C_drewN ?_ _) | (with_reducible refine Kd.C_drew ?_)))
       (case side6 => exact (Kd.R_reads' HO303.out).2.1)
       (case side7 => repeat (first | exact (Kd.R_reads' HO306.out).2.2 | (with_reducible refine Kd.C_alloc ?_ _) | (with_reducible refine Kd.C_drewN ?_ _) | (with_reducible refine Kd.C_drew ?_)))
       (case side8 => exact (Kd.R_reads' HO306.out).2.1)
       rintro e w147 ⟨rfl,hb⟩
       refine ⟨_,rfl,?_⟩
       have n0_ := Aside0.mk (Kd.R_below (by (with_reducible repeat (first | apply Kd.R_alloc | apply Kd.R_drewN | apply Kd.R_drew)); exact HO_8.out) hb)
       have n1_ := Aside0.mk (Kd.R_below (by (with_reducible repeat (first | apply Kd.R_alloc | apply Kd.R_drewN | apply Kd.R_drew)); exact HO_9.out) hb)
       have n2_ := Aside0.mk (Kd.R_below (by (with_reducible repeat (first | apply Kd.R_alloc | apply Kd.R_drewN | apply Kd.R_drew)); exact HO_13.out) hb)
       have n3_ := Aside0.mk (Kd.R_below (by (with_reducible repeat (first | apply Kd.R_alloc | apply Kd.R_drewN | apply Kd.R_drew)); exact HO_14.out) hb)
       have n4_ := Aside0.mk (Kd.R_below (by (with_reducible repeat (first | apply Kd.R_alloc | apply Kd.R_drewN | apply Kd.R_drew)); exact HO_289002.out) hb)
       have n5_ := Aside0.mk (Kd.R_below (by (with_reducible repeat (first | apply Kd.R_alloc | apply Kd.R_drewN | apply Kd.R_drew)); exact HO_289003.out) hb)
       have n6_ := Aside0.mk (Kd.R_below (by (with_reducible repeat (first | apply Kd.R_alloc | apply Kd.R_drewN | apply Kd.R_drew)); exact HO303.out) hb)
       have n7_ := Aside0.mk (Kd.R_below (by (with_reducible repeat (first | apply Kd.R_alloc | apply Kd.R_drewN | apply Kd.R_drew)); exact HO306.out) hb)
       have n8_ := Aside0.mk (blk_below (g := gb262) (o := .cells #[.int .i64 a0_0,.int .i64 a0_1,.slice A0_2 l0_2.length c0_2,.slice A0_3 l0_3.length c0_3] 27 (0,0)) (by (with_reducible repeat (first | refine blk_drewN ?_ _ | refine blk_drew ?_ | refine blk_alloc ?_ _)); exact BK262.out) hb)
       have n9_ := Aside0.mk (blk_below (g := gb288) (o := .cells #[.int .i64 t280,.int .i64 t281,.slice Ao29 t282.length co29,.slice Ao30 t285.length co30] 30 (0,0)) (by (with_reducible repeat (first | refine blk_drewN ?_ _ | refine blk_drew ?_ | refine blk_alloc ?_ _)); exact BK288.out) hb)
       have n10_ := Aside0.mk (below_step (by repeat (first | (with_reducible first | exact HB.out | apply below_alloc | apply pw_below_drewN | apply below_drew1 | refine below_set ?_ GE262.out | refine below_set ?_ GE288.out) | exact HB.out)) hb)
       clear HO_8
       clear HO_9
       clear HO_13
       clear HO_14
       clear HO_289002
       clear HO_289003
       clear HO303
       clear HO306
       clear BK262
       clear BK288
       clear HB
       have HO_8 := n0_
       have HO_9 := n1_
       have HO_13 := n2_
       have HO_14 := n3_
       have HO_289002 := n4_
       have HO_289003 := n5_
       have HO303 := n6_
       have HO306 := n7_
       have BK262 := n8_
       have BK288 := n9_
       have HB := n10_
       clear n0_ n1_ n2_ n3_ n4_ n5_ n6_ n7_ n8_ n9_ n10_
       (try clear hb)
       (try clear hb2)
       (try clear hk)
       (try clear hi)
       refine hK.out _ _ ⟨(blk_cell BK288.out 0).trans rfl,(blk_cell BK288.out 1).trans rfl,(blk_cell BK288.out 2).trans rfl,(blk_cell BK288.out 3).trans rfl,(blk_cell BK262.out 0).trans rfl,(blk_cell BK262.out 1).trans rfl,(blk_cell BK262.out 2).trans rfl,(blk_cell BK262.out 3).trans rfl⟩ (fun hHeld => ?_)
       clear hK K
       refine norm_ (a' := ?_) ?_ ?_
       rotate_left
       ·show Act.put _ (some 76) _ = _
        simp only [Act.put,List.setIfInBounds_toArray,List.set_cons_zero,List.set_cons_succ,i64_w,i32_w]
        rfl
       refine pure_ (i := 4) (N := some 77) (v := ?_) (a' := ?_) #[true,true,true,true,true] rfl rfl (by kernel_rfl) (fun _ _ _ h => h) (Or.inl ⟨by rfl,?_⟩) ?_ ?_
       rotate_left
       ·intro w'
        go_simp
        with_reducible rfl
       rotate_left
       ·simp only [Act.put,List.setIfInBounds_toArray,List.set_cons_zero,List.set_cons_succ,i64_w,i32_w]
        rfl
       refine done_ (by kernel_rfl) ?_
       try go_wp2
       go_ret
       exact ⟨by first | rfl | (simp [errW_none,errW_some] <;> rfl) | (simp [*,errW_none,errW_some] <;> rfl),by repeat (first | (with_reducible first | exact HB.out | apply below_alloc | apply pw_below_drewN | apply below_drew1 | refine below_set ?_ GE262.out | refine below_set ?_ GE288.out) | exact HB.out)⟩

/-- THE ONE PURE STATEMENT of laws_FnExactDecodeBlocks. -/
def laws_FnExactDecodeBlocks.Pure : Prop := ∀ (a0_0 : Int) (a0_1 : Int) (l0_2 : List ByteArray) (l0_3 : List ByteArray) (a1 : Int) (a2 : ByteArray),(Lit.int .i64 a0_0).wf = true → (Lit.int .i64 a0_1).wf = true → l0_2.length ≤ 9223372036854775807 → (∀ s ∈ l0_2,s.size ≤ 9223372036854775807) → l0_3.length ≤ 9223372036854775807 → (∀ s ∈ l0_3,s.size ≤ 9223372036854775807) → (Lit.int .i64 a1).wf = true → a2.size ≤ 9223372036854775807 → ∃ k,laws_FnExactDecodeBlocks.f k a0_0 a0_1 l0_2 l0_3 a1 a2 = some true

end Go.Proofs.YtegeaoiclepkkaaDoor.QFnExactDecodeBlocks
