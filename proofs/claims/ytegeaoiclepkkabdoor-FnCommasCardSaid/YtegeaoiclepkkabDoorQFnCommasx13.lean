/-
Each Go function that this text names answers as the Lean function beside it says,wherever that one answers; conditions: the arguments lie in memory as each theorem states it.
-/
import Derived.Test.YtegeaoiclepkkabDoorQFnCommasx0
import Derived.Test.YtegeaoiclepkkabDoorQFnCommasx1
import Derived.Test.YtegeaoiclepkkabDoorQFnCommasx7
import Derived.Test.YtegeaoiclepkkabDoorQFnCommasx9
import Derived.Test.YtegeaoiclepkkabDoorQFnCommasx11
import Derived.Test.YtegeaoiclepkkabDoorQFnCommasx12
namespace Go.Proofs.YtegeaoiclepkkabDoor.QFnCommas
open Go.RowKit Go.Proofs.YtegeaoiclepkkabDoorW.PrintWords Go.Proofs.YtegeaoiclepkkabDoorW.PrintLast Go.Proofs.YtegeaoiclepkkabDoorW.PrintMore
attribute [local go_sem] max2_int min2_int max_two min_two max_three min_three max_four min_four   -- for this text's walks alone
set_option linter.unusedVariables false
set_option linter.unusedSimpArgs false
theorem b13_0 {P : Prop} (h : P := by repeat (first | (with_reducible first | exact HB.out | apply below_alloc | apply pw_below_drewN | apply below_drew1 | refine below_set ?_ GE330.out) | exact HB.out)) : P := h
theorem b13_1 {P : Prop} (h : P := by (try simp only [List.map_toArray,List.map_cons,List.map_nil]); first | done | rfl | (simp only [List.length_drop,List.length_take]; rfl)) : P := h
theorem b13_2 {P : Prop} (h : P := by (with_reducible repeat (first | refine blk_drewN ?_ _ | refine blk_drew ?_ | refine blk_alloc ?_ _)); exact BK330.out) : P := h
theorem b13_3 {P : Prop} (h : P := by (with_reducible repeat (first | apply Kd.R_alloc | apply Kd.R_drewN | apply Kd.R_drew)); exact HO_331002.out) : P := h
theorem b13_4 {P : Prop} (h : P := by (with_reducible repeat (first | apply Kd.R_alloc | apply Kd.R_drewN | apply Kd.R_drew)); exact HO_331003.out) : P := h
theorem b13_5 {P : Prop} (h : P := by (with_reducible repeat (first | apply Kd.R_alloc | apply Kd.R_drewN | apply Kd.R_drew)); exact HO_12.out) : P := h
theorem b13_6 {P : Prop} (h : P := by first | rfl | (simp [errW_none,errW_some] <;> rfl) | (simp only [← hji29,← hji31]; first | rfl | (simp [errW_none,errW_some] <;> rfl)) | (simp [*,errW_none,errW_some] <;> rfl)) : P := h
theorem b13_7 {P : Prop} (h : P := by (with_reducible repeat (first | apply Kd.R_alloc | apply Kd.R_drewN | apply Kd.R_drew)); exact (Kd.R_mono (Kd.R_far (p := ⟨gb330,3,none⟩) (Kd.R_far (p := ⟨gb330,2,none⟩) (Kd.R_far (p := ⟨gb330,1,none⟩) (Kd.R_far (p := ⟨gb330,0,none⟩) (Kd.R_types HO326.out BK330.out (by decide)) (fun _ hk => hk.2) (.int .i64 t322)) (fun _ hk => hk.2) (.int .i64 t323)) (fun _ hk => hk.2) (.slice Ao13 t324.length co13)) (fun _ hk => hk.2) (.slice Ao14 t327.length co14)) (fun _ h_ => h_.1))) : P := h
theorem b13_8 {P : Prop} (h : P := by (with_reducible repeat (first | apply Kd.R_alloc | apply Kd.R_drewN | apply Kd.R_drew)); exact (Kd.R_mono (Kd.R_far (p := ⟨gb330,3,none⟩) (Kd.R_far (p := ⟨gb330,2,none⟩) (Kd.R_far (p := ⟨gb330,1,none⟩) (Kd.R_far (p := ⟨gb330,0,none⟩) (Kd.R_types HO329.out BK330.out (by decide)) (fun _ hk => hk.2) (.int .i64 t322)) (fun _ hk => hk.2) (.int .i64 t323)) (fun _ hk => hk.2) (.slice Ao13 t324.length co13)) (fun _ hk => hk.2) (.slice Ao14 t327.length co14)) (fun _ h_ => h_.1))) : P := h
theorem b13_9 {P : Prop} (h : P := by repeat (first | (with_reducible first | exact HB.out | apply below_alloc | apply pw_below_drewN | apply below_drew1) | exact HB.out)) : P := h
theorem b13_10 {P : Prop} (h : P := by first | rfl | (simp; done) | (simp [*]; done)) : P := h
theorem b13_11 {P : Prop} (h : P := by first | (with_reducible assumption) | assumption) : P := h
theorem b13_12 {P : Prop} (h : P := by (with_reducible repeat (first | apply Kd.R_alloc | apply Kd.R_drewN | apply Kd.R_drew)); exact HO326.out) : P := h
theorem b13_13 {P : Prop} (h : P := by (with_reducible repeat (first | apply Kd.R_alloc | apply Kd.R_drewN | apply Kd.R_drew)); exact HO329.out) : P := h
theorem b13_14 {P : Prop} (h : P := by (with_reducible repeat (first | apply Kd.R_alloc | apply Kd.R_drewN | apply Kd.R_drew)); exact Kd.R_mono HO_331002.out (fun _ hk => ⟨hk.2,hk.1⟩)) : P := h
theorem b13_15 {P : Prop} (h : P := by (with_reducible repeat (first | apply Kd.R_alloc | apply Kd.R_drewN | apply Kd.R_drew)); exact Kd.R_mono HO_331003.out (fun _ hk => ⟨hk.2,hk.1⟩)) : P := h
theorem b13_16 {P : Prop} (h : P := by (with_reducible repeat (first | apply Kd.R_alloc | apply Kd.R_drewN | apply Kd.R_drew)); exact Kd.R_mono HO341.out (fun _ hk => ⟨hk.1.2,hk.2⟩)) : P := h
theorem b13_17 {P : Prop} (h : P := by (with_reducible repeat (first | apply Kd.R_alloc | apply Kd.R_drewN | apply Kd.R_drew)); exact HO333.out) : P := h
theorem b13_18 {P : Prop} (h : P := by (with_reducible repeat (first | apply Kd.R_alloc | apply Kd.R_drewN | apply Kd.R_drew)); exact HO_6.out) : P := h
theorem b13_19 {P : Prop} (h : P := by first | rfl | (simp [errW_none,errW_some] <;> rfl) | (simp [*,errW_none,errW_some] <;> rfl)) : P := h

/-! ### laws_FnCommas: function 4 -/
mutual
def laws_FnCommas.j0 : Nat → List Int → Int → Int → Int → Int → List ByteArray → List ByteArray → Option (Bool)
 | 0,_,_,_,_,_,_,_ => none
 | k + 1,x6,x7,x8,x331000,x331001,x331002,x331003 => (spec_EncodeBlocks.f k x331000 x331001 x331002 x331003 x7 x6).bind fun bt336 => ((impl_CommasOf.f k x331000 x331001 x331002 x331003 x8).bind fun bt339 => (if bt336.2.2 = true then (laws_FnCommas.j1 k x8 bt336.1 bt339.1 (!bt339.2) x331000 x331001 x331002 x331003) else (laws_FnCommas.j1 k x8 bt336.1 bt339.1 true x331000 x331001 x331002 x331003)))
def laws_FnCommas.j1 : Nat → Int → ByteArray → List ByteArray → Bool → Int → Int → List ByteArray → List ByteArray → Option (Bool)
 | 0,_,_,_,_,_,_,_,_ => none
 | k + 1,x8,x9,x12,x62,x331000,x331001,x331002,x331003 => if x62 = true then (some false) else (laws_FnCommas.l0 k x8 x9 x12 0 0 x331000 x331001 x331002 x331003)
def laws_FnCommas.l0 : Nat → Int → ByteArray → List ByteArray → Int → Int → Int → Int → List ByteArray → List ByteArray → Option (Bool)
 | 0,_,_,_,_,_,_,_,_,_ => none
 | k + 1,x8,x9,x12,x14,x15,x331000,x331001,x331002,x331003 => if 0 ≤ (IntKind.u64.wrap (x8)) then (if x15 < (shl .i64 1 (IntKind.u64.wrap (x8))) then ((spec_BitsOf.f k x15 x8).bind fun bt343 => (if bt343.2 = true then ((impl_IsComma.f k x331000 x331001 x331002 x331003 bt343.1).bind fun t345 => (if t345 = true then ((impl_CountBits.f k x9 bt343.1).bind fun bt346 => (if x14 ≥ (x12.length : Int) then (some false) else (if 0 ≤ x14 then (if x14 < (x12.length : Int) then (if (rdOf ByteArray.empty x12 x14).toList = bt343.1.toList then (if bt346.2 = true then (if bt346.1 = 0 then (laws_FnCommas.l0 k x8 x9 x12 (wrap64 (x14 + 1)) (wrap64 (x15 + 1)) x331000 x331001 x331002 x331003) else (some false)) else (some false)) else (some false)) else (none)) else (none)))) else (laws_FnCommas.l0 k x8 x9 x12 x14 (wrap64 (x15 + 1)) x331000 x331001 x331002 x331003))) else (some false))) else (some (x14 == (x12.length : Int)))) else (none)
end
def laws_FnCommas.f (k : Nat) (l0 : List Int) (l1 : List Int) : Option (Bool) := (laws_b10Long.f l0 l1).bind fun t321 => (if t321 = true then (some true) else ((spec_B10Block.f k l0).bind fun bt322 => ((spec_B10Data.f k l1 bt322.1 bt322.2.1 bt322.2.2.1 bt322.2.2.2).bind fun t331 => ((laws_b10At.f l1 0 2).bind fun t334 => ((laws_b10At.f l1 1 5).bind fun t335 => (if (wrap64 (1 + t335)) > (wrap64 (bt322.2.1 + 1)) then (laws_FnCommas.j0 k t331 (wrap64 ((wrap64 (2 * t334)) - 1)) (wrap64 (bt322.2.1 + 1)) bt322.1 bt322.2.1 bt322.2.2.1 bt322.2.2.2) else (laws_FnCommas.j0 k t331 (wrap64 ((wrap64 (2 * t334)) - 1)) (wrap64 (1 + t335)) bt322.1 bt322.2.1 bt322.2.2.1 bt322.2.2.2)))))))
set_option maxHeartbeats 8000000 in
set_option maxRecDepth 100000 in
theorem laws_FnCommas.calls (k : Nat) (A0 : Option Addr) (c0 : Nat) (l0 : List Int) (A1 : Option Addr) (c1 : Nat) (l1 : List Int) (r : Bool) (w : World) (hr0 : Kd.C (Kd.int .u8) w A0 l0.length l0) (hc0 : l0.length ≤ c0) (hr1 : Kd.C (Kd.int .u8) w A1 l1.length l1) (hc1 : l1.length ≤ c1) (h : laws_FnCommas.f k l0 l1 = some r) :
  Calls Tryd.prog 4 #[.slice A0 l0.length c0,.slice A1 l1.length c1] w fun e w' => e = .returned (.bool r) ∧ Below w.heap.size w w' := by
 have hu26 := Tryd.underlying26
 have HR0 := Aside0.mk hr0
 have HC0 := Aside0.mk hc0
 clear hr0 hc0
 have HR1 := Aside0.mk hr1
 have HC1 := Aside0.mk hc1
 clear hr1 hc1
 have HB := Aside0.mk (Below.refl w.heap.size w)
 have H : ((laws_b10Long.f l0 l1).bind fun t321 => (if t321 = true then (some true) else ((spec_B10Block.f k l0).bind fun bt322 => ((spec_B10Data.f k l1 bt322.1 bt322.2.1 bt322.2.2.1 bt322.2.2.2).bind fun t331 => ((laws_b10At.f l1 0 2).bind fun t334 => ((laws_b10At.f l1 1 5).bind fun t335 => (if (wrap64 (1 + t335)) > (wrap64 (bt322.2.1 + 1)) then (laws_FnCommas.j0 k t331 (wrap64 ((wrap64 (2 * t334)) - 1)) (wrap64 (bt322.2.1 + 1)) bt322.1 bt322.2.1 bt322.2.2.1 bt322.2.2.2) else (laws_FnCommas.j0 k t331 (wrap64 ((wrap64 (2 * t334)) - 1)) (wrap64 (1 + t335)) bt322.1 bt322.2.1 bt322.2.2.1 bt322.2.2.2)))))))) = some r := h
 clear h
 replace H := Option.bind_eq_some_iff.mp H
 obtain ⟨t321,A30,H⟩ := H
 replace H : (if t321 = true then (some true) else ((spec_B10Block.f k l0).bind fun bt322 => ((spec_B10Data.f k l1 bt322.1 bt322.2.1 bt322.2.2.1 bt322.2.2.2).bind fun t331 => ((laws_b10At.f l1 0 2).bind fun t334 => ((laws_b10At.f l1 1 5).bind fun t335 => (if (wrap64 (1 + t335)) > (wrap64 (bt322.2.1 + 1)) then (laws_FnCommas.j0 k t331 (wrap64 ((wrap64 (2 * t334)) - 1)) (wrap64 (bt322.2.1 + 1)) bt322.1 bt322.2.1 bt322.2.2.1 bt322.2.2.2) else (laws_FnCommas.j0 k t331 (wrap64 ((wrap64 (2 * t334)) - 1)) (wrap64 (1 + t335)) bt322.1 bt322.2.1 bt322.2.2.1 bt322.2.2.2))))))) = some r := H
 have A3 := Aside0.mk A30
 clear A30
 by_cases c4 : t321 = true
 ·subst c4
  have H1 : (some true) = some r := by rw [if_pos rfl] at H; exact H
  clear H
  have H := H1
  clear H1
  obtain rfl := Option.some.inj H
  go_enter Tryd.func4,Tryd.ntmps4
  go_wp2_with (first | ((with_reducible refine gate_callee (f := 5) rfl ?_); refine goesL_ (some 22) rfl rfl Tryd.func5 (by kernel_rfl) rfl #[.slice A0 l0.length c0,.slice A1 l1.length c1] rfl b13_1 ?_; (with_reducible refine (laws_b10Long.calls _ _ l0 _ _ l1 true _ ?side1 ?side2 ?side3 ?side4 A3.out).mono ?_); (case side1 => repeat (first | exact HR0.out | (with_reducible refine Kd.C_alloc ?_ _) | (with_reducible refine Kd.C_drewN ?_ _) | (with_reducible refine Kd.C_drew ?_))); (case side2 => exact HC0.out); (case side3 => repeat (first | exact HR1.out | (with_reducible refine Kd.C_alloc ?_ _) | (with_reducible refine Kd.C_drewN ?_ _) | (with_reducible refine Kd.C_drew ?_))); (case side4 => exact HC1.out); rintro e w' ⟨rfl,⟨nd,rfl⟩⟩; refine ⟨_,rfl,?_⟩))
  go_ret
  exact ⟨b13_19,b13_9⟩
 ·replace c4 := Bool.eq_false_iff.mpr c4
  subst c4
  have H1 : ((spec_B10Block.f k l0).bind fun bt322 => ((spec_B10Data.f k l1 bt322.1 bt322.2.1 bt322.2.2.1 bt322.2.2.2).bind fun t331 => ((laws_b10At.f l1 0 2).bind fun t334 => ((laws_b10At.f l1 1 5).bind fun t335 => (if (wrap64 (1 + t335)) > (wrap64 (bt322.2.1 + 1)) then (laws_FnCommas.j0 k t331 (wrap64 ((wrap64 (2 * t334)) - 1)) (wrap64 (bt322.2.1 + 1)) bt322.1 bt322.2.1 bt322.2.2.1 bt322.2.2.2) else (laws_FnCommas.j0 k t331 (wrap64 ((wrap64 (2 * t334)) - 1)) (wrap64 (1 + t335)) bt322.1 bt322.2.1 bt322.2.2.1 bt322.2.2.2)))))) = some r := by rw [if_neg (show ¬ (false = true) by decide)] at H; exact H
  clear H
  have H := H1
  clear H1
  replace H := Option.bind_eq_some_iff.mp H
  obtain ⟨⟨t322,t323,t324,t327⟩,A50,H⟩ := H
  replace H : ((spec_B10Data.f k l1 t322 t323 t324 t327).bind fun t331 => ((laws_b10At.f l1 0 2).bind fun t334 => ((laws_b10At.f l1 1 5).bind fun t335 => (if (wrap64 (1 + t335)) > (wrap64 (t323 + 1)) then (laws_FnCommas.j0 k t331 (wrap64 ((wrap64 (2 * t334)) - 1)) (wrap64 (t323 + 1)) t322 t323 t324 t327) else (laws_FnCommas.j0 k t331 (wrap64 ((wrap64 (2 * t334)) - 1)) (wrap64 (1 + t335)) t322 t323 t324 t327))))) = some r := H
  have A5 := Aside0.mk A50
  clear A50
  replace H := Option.bind_eq_some_iff.mp H
  obtain ⟨t331,A60,H⟩ := H
  replace H : ((laws_b10At.f l1 0 2).bind fun t334 => ((laws_b10At.f l1 1 5).bind fun t335 => (if (wrap64 (1 + t335)) > (wrap64 (t323 + 1)) then (laws_FnCommas.j0 k t331 (wrap64 ((wrap64 (2 * t334)) - 1)) (wrap64 (t323 + 1)) t322 t323 t324 t327) else (laws_FnCommas.j0 k t331 (wrap64 ((wrap64 (2 * t334)) - 1)) (wrap64 (1 + t335)) t322 t323 t324 t327)))) = some r := H
  have A6 := Aside0.mk A60
  clear A60
  replace H := Option.bind_eq_some_iff.mp H
  obtain ⟨t334,A70,H⟩ := H
  replace H : ((laws_b10At.f l1 1 5).bind fun t335 => (if (wrap64 (1 + t335)) > (wrap64 (t323 + 1)) then (laws_FnCommas.j0 k t331 (wrap64 ((wrap64 (2 * t334)) - 1)) (wrap64 (t323 + 1)) t322 t323 t324 t327) else (laws_FnCommas.j0 k t331 (wrap64 ((wrap64 (2 * t334)) - 1)) (wrap64 (1 + t335)) t322 t323 t324 t327))) = some r := H
  have A7 := Aside0.mk A70
  clear A70
  replace H := Option.bind_eq_some_iff.mp H
  obtain ⟨t335,A80,H⟩ := H
  replace H : (if (wrap64 (1 + t335)) > (wrap64 (t323 + 1)) then (laws_FnCommas.j0 k t331 (wrap64 ((wrap64 (2 * t334)) - 1)) (wrap64 (t323 + 1)) t322 t323 t324 t327) else (laws_FnCommas.j0 k t331 (wrap64 ((wrap64 (2 * t334)) - 1)) (wrap64 (1 + t335)) t322 t323 t324 t327)) = some r := H
  have A8 := Aside0.mk A80
  clear A80
  have HC9 := Aside0.mk H
  clear H
  go_enter Tryd.func4,Tryd.ntmps4
  go_upto_if 39 with (first | ((with_reducible refine gate_callee (f := 5) rfl ?_); refine goesL_ (some 22) rfl rfl Tryd.func5 (by kernel_rfl) rfl #[.slice A0 l0.length c0,.slice A1 l1.length c1] rfl b13_1 ?_; (with_reducible refine (laws_b10Long.calls _ _ l0 _ _ l1 false _ ?side1 ?side2 ?side3 ?side4 A3.out).mono ?_); (case side1 => repeat (first | exact HR0.out | (with_reducible refine Kd.C_alloc ?_ _) | (with_reducible refine Kd.C_drewN ?_ _) | (with_reducible refine Kd.C_drew ?_))); (case side2 => exact HC0.out); (case side3 => repeat (first | exact HR1.out | (with_reducible refine Kd.C_alloc ?_ _) | (with_reducible refine Kd.C_drewN ?_ _) | (with_reducible refine Kd.C_drew ?_))); (case side4 => exact HC1.out); rintro e w' ⟨rfl,⟨nd,rfl⟩⟩; refine ⟨_,rfl,?_⟩) | ((with_reducible refine gate_callee (f := 6) rfl ?_); refine goesL_ (some 24) rfl rfl Tryd.func6 (by kernel_rfl) rfl #[.slice A0 l0.length c0] rfl b13_1 ?_; (with_reducible refine (spec_B10Block.calls k _ _ l0 t322 t323 t324 t327 _ ?side1 ?side2 A5.out).mono ?_); (case side1 => repeat (first | exact HR0.out | (with_reducible refine Kd.C_alloc ?_ _) | (with_reducible refine Kd.C_drewN ?_ _) | (with_reducible refine Kd.C_drew ?_))); (case side2 => exact HC0.out); rintro e w10 ⟨v325,v328,rfl,ho0,ho1,hb⟩; refine ⟨_,rfl,?_⟩; have n0_ := Aside0.mk (Kd.R_lower ho0 (below_size b13_9)); have n1_ := Aside0.mk (Kd.R_lower ho1 (below_size b13_9)); have n2_ := Aside0.mk (below_step b13_9 hb); clear HB; have HO326 := n0_; have HO329 := n1_; have HB := n2_; clear n0_ n1_ n2_; (try clear hb); (try clear hb2); (try clear hk); (try clear hi); (try clear ho0); (try clear ho1)) | ((with_reducible refine gate_dst (N := 5) rfl ?_); refine box_event ?hg (N := 5) ?hd (cs := #[.int .i64 0,.int .i64 0,.slice none 0 0,.slice none 0 0]) (t := 26) ?hr ?_; (case hd => rfl); (case hg => rfl); (case hr => first | (go_simp; done) | (go_simp; rfl)); intro gb330 hg w11 hbox hb; have n0_ := Aside0.mk (Kd.R_below b13_12 hb); have n1_ := Aside0.mk (Kd.R_below b13_13 hb); have n2_ := Aside0.mk (below_step b13_9 hb); have n3_ := Aside0.mk (hbox); have n4_ := Aside0.mk ((by rw [hg]; exact (below_size b13_9) : w.heap.size ≤ gb330)); have n5_ := Aside0.mk ((by rw [hg]; exact (below_size b13_9) : w.heap.size ≤ gb330)); clear HO326; clear HO329; clear HB; have HO326 := n0_; have HO329 := n1_; have HB := n2_; have BK330 := n3_; have GW330 := n4_; have GE330 := n5_; clear n0_ n1_ n2_ n3_ n4_ n5_; clear hb hbox hg; have hcz12_0 : w11.cell? ⟨gb330,0,none⟩ = some (.int .i64 0) := (blk_cell BK330.out 0).trans rfl; have hcz12_1 : w11.cell? ⟨gb330,1,none⟩ = some (.int .i64 0) := (blk_cell BK330.out 1).trans rfl; have hcz12_2 : w11.cell? ⟨gb330,2,none⟩ = some (.slice none 0 0) := (blk_cell BK330.out 2).trans rfl; have hcz12_3 : w11.cell? ⟨gb330,3,none⟩ = some (.slice none 0 0) := (blk_cell BK330.out 3).trans rfl; have hfz12_0 := blk_frozen BK330.out 0; have hfz12_1 := blk_frozen BK330.out 1; have hfz12_2 := blk_frozen BK330.out 2; have hfz12_3 := blk_frozen BK330.out 3; obtain ⟨Ao13,co13,eo13⟩ := Kd.R_slice HO326.out; subst eo13; obtain ⟨Ao14,co14,eo14⟩ := Kd.R_slice HO329.out; subst eo14) | ((with_reducible refine gate_callee (f := 7) rfl ?_); refine goesL_ (some 27) rfl rfl Tryd.func7 (by kernel_rfl) rfl #[.slice A1 l1.length c1,.agg #[.int .i64 t322,.int .i64 t323,.slice Ao13 t324.length co13,.slice Ao14 t327.length co14]] rfl b13_1 ?_; (with_reducible refine (spec_B10Data.calls k _ _ l1 t322 t323 _ _ t324 _ _ t327 t331 _ ?side1 ?side2 ?side3 ?side4 ?side5 ?side6 A6.out).mono ?_); (case side1 => exact Kd.C_below HR1.out b13_0); (case side2 => exact HC1.out); (case side3 => refine (Kd.R_reads' (e := 9) (base := w.heap.size) (ok := fun k_ => some k_ ≠ (.slice Ao14 t327.length co14 : Value).ownBlock) (n := t324.length) (c := co13) ?_).2.2; exact b13_7); (case side4 => exact (Kd.R_reads' HO326.out).2.1); (case side5 => refine (Kd.R_reads' (e := 9) (base := w.heap.size) (ok := fun k_ => some k_ ≠ (.slice Ao13 t324.length co13 : Value).ownBlock) (n := t327.length) (c := co14) ?_).2.2; exact b13_8); (case side6 => exact (Kd.R_reads' HO329.out).2.1); rintro e w15 ⟨v332,rfl,ho0,hb⟩; refine ⟨_,rfl,?_⟩; have n0_ := Aside0.mk (Kd.R_below b13_7 hb); have n1_ := Aside0.mk (Kd.R_below b13_8 hb); have n2_ := Aside0.mk (Kd.R_lower ho0 (below_size b13_0)); have n3_ := Aside0.mk (blk_below (g := gb330) (o := .cells #[.int .i64 t322,.int .i64 t323,.slice Ao13 t324.length co13,.slice Ao14 t327.length co14] 26 (0,0)) (by (with_reducible repeat (first | refine blk_drewN ?_ _ | refine blk_drew ?_ | refine blk_alloc ?_ _)); refine blk_put (cs := #[.int .i64 t322,.int .i64 t323,.slice Ao13 t324.length co13,.slice none 0 0]) ?_ 3 _ rfl; (with_reducible repeat (first | refine blk_drewN ?_ _ | refine blk_drew ?_ | refine blk_alloc ?_ _)); refine blk_put (cs := #[.int .i64 t322,.int .i64 t323,.slice none 0 0,.slice none 0 0]) ?_ 2 _ rfl; (with_reducible repeat (first | refine blk_drewN ?_ _ | refine blk_drew ?_ | refine blk_alloc ?_ _)); refine blk_put (cs := #[.int .i64 t322,.int .i64 0,.slice none 0 0,.slice none 0 0]) ?_ 1 _ rfl; (with_reducible repeat (first | refine blk_drewN ?_ _ | refine blk_drew ?_ | refine blk_alloc ?_ _)); refine blk_put (cs := #[.int .i64 0,.int .i64 0,.slice none 0 0,.slice none 0 0]) ?_ 0 _ rfl; (with_reducible repeat (first | refine blk_drewN ?_ _ | refine blk_drew ?_ | refine blk_alloc ?_ _)); exact BK330.out) hb); have n4_ := Aside0.mk (below_step b13_0 hb); clear HO326; clear HO329; clear BK330; clear HB; have HO326 := n0_; have HO329 := n1_; have HO333 := n2_; have BK330 := n3_; have HB := n4_; clear n0_ n1_ n2_ n3_ n4_; (try clear hb); (try clear hb2); (try clear hk); (try clear hi); (try clear ho0)) | ((with_reducible refine gate_callee (f := 8) rfl ?_); refine goesL_ (some 29) rfl rfl Tryd.func8 (by kernel_rfl) rfl #[.slice A1 l1.length c1,.int .i64 0,.int .i64 2] rfl b13_1 ?_; (with_reducible refine (laws_b10At.calls _ _ l1 0 2 t334 _ ?side1 ?side2 A7.out).mono ?_); (case side1 => repeat (first | exact (Kd.C_below HR1.out HB.out) | (with_reducible refine Kd.C_alloc ?_ _) | (with_reducible refine Kd.C_drewN ?_ _) | (with_reducible refine Kd.C_drew ?_))); (case side2 => exact HC1.out); rintro e w' ⟨rfl,⟨nd,rfl⟩⟩; refine ⟨_,rfl,?_⟩) | ((with_reducible refine gate_callee (f := 8) rfl ?_); refine goesL_ (some 33) rfl rfl Tryd.func8 (by kernel_rfl) rfl #[.slice A1 l1.length c1,.int .i64 1,.int .i64 5] rfl b13_1 ?_; (with_reducible refine (laws_b10At.calls _ _ l1 1 5 t335 _ ?side1 ?side2 A8.out).mono ?_); (case side1 => repeat (first | exact (Kd.C_below HR1.out b13_0) | (with_reducible refine Kd.C_alloc ?_ _) | (with_reducible refine Kd.C_drewN ?_ _) | (with_reducible refine Kd.C_drew ?_))); (case side2 => exact HC1.out); rintro e w' ⟨rfl,⟨nd,rfl⟩⟩; refine ⟨_,rfl,?_⟩; have hcz16_0 : w15.cell? ⟨gb330,0,none⟩ = some (.int .i64 t322) := (blk_cell BK330.out 0).trans rfl; have hcz16_1 : w15.cell? ⟨gb330,1,none⟩ = some (.int .i64 t323) := (blk_cell BK330.out 1).trans rfl; have hcz16_2 : w15.cell? ⟨gb330,2,none⟩ = some (.slice Ao13 t324.length co13) := (blk_cell BK330.out 2).trans rfl; have hcz16_3 : w15.cell? ⟨gb330,3,none⟩ = some (.slice Ao14 t327.length co14) := (blk_cell BK330.out 3).trans rfl; have hfz16_0 := blk_frozen BK330.out 0; have hfz16_1 := blk_frozen BK330.out 1; have hfz16_2 := blk_frozen BK330.out 2; have hfz16_3 := blk_frozen BK330.out 3))
  (try simp only [Act.put,List.setIfInBounds_toArray,List.set_cons_zero,List.set_cons_succ])
  go_cut [8] (fun v8 wc => ∃ (kq : Nat) (x8_8 : Int),v8 = .int .i64 x8_8 ∧ Aside0 (laws_FnCommas.j0 kq t331 (wrap64 ((wrap64 (2 * t334)) - 1)) x8_8 t322 t323 t324 t327 = some r) ∧ Aside0 (kq ≤ k) ∧ Aside0 (Kd.R (Kd.int .i64) 2 wc w.heap.size (fun _ => True) v332 t331) ∧ Aside0 (Kd.R Kd.string 9 wc w.heap.size (fun k_ => some k_ ≠ ((.slice Ao14 t327.length co14) : Value).ownBlock) (.slice Ao13 t324.length co13) t324) ∧ Aside0 (Kd.R Kd.string 9 wc w.heap.size (fun k_ => some k_ ≠ ((.slice Ao13 t324.length co13) : Value).ownBlock) (.slice Ao14 t327.length co14) t327) ∧ Aside0 (wc.heap[gb330]? = some (.cells #[.int .i64 t322,.int .i64 t323,(.slice Ao13 t324.length co13),(.slice Ao14 t327.length co14)] 26 (0,0))) ∧ Aside0 (Below w.heap.size w wc))
  case first =>
   have H := HC9.out
   clear HC9
   by_cases c17 : (wrap64 (1 + t335)) > (wrap64 (t323 + 1))
   ·rw [if_pos c17] at H
    have c17b0 : decide ((wrap64 (t323 + 1)) < (wrap64 (1 + t335))) = true := decide_eq_true c17
    clear c17
    (first | rw [c17b0] | (simp only [i64_w,i32_w]; rw [c17b0]) | skip)
    have H' := Aside0.mk H
    clear H
    have hcz18_0 : w15.cell? ⟨gb330,0,none⟩ = some (.int .i64 t322) := (blk_cell BK330.out 0).trans rfl
    have hcz18_1 : w15.cell? ⟨gb330,1,none⟩ = some (.int .i64 t323) := (blk_cell BK330.out 1).trans rfl
    have hcz18_2 : w15.cell? ⟨gb330,2,none⟩ = some (.slice Ao13 t324.length co13) := (blk_cell BK330.out 2).trans rfl
    have hcz18_3 : w15.cell? ⟨gb330,3,none⟩ = some (.slice Ao14 t327.length co14) := (blk_cell BK330.out 3).trans rfl
    have hfz18_0 := blk_frozen BK330.out 0
    have hfz18_1 := blk_frozen BK330.out 1
    have hfz18_2 := blk_frozen BK330.out 2
    have hfz18_3 := blk_frozen BK330.out 3
    go_wp2
    go_meet
    case rel => exact ⟨_,(wrap64 (t323 + 1)),b13_10,H',⟨by first | omega | exact Nat.le_refl _⟩,⟨b13_17⟩,⟨b13_12⟩,⟨b13_13⟩,⟨b13_2⟩,⟨b13_0⟩⟩
   ·rw [if_neg c17] at H
    have c17b0 : decide ((wrap64 (t323 + 1)) < (wrap64 (1 + t335))) = false := decide_eq_false c17
    clear c17
    (first | rw [c17b0] | (simp only [i64_w,i32_w]; rw [c17b0]) | skip)
    have H' := Aside0.mk H
    clear H
    go_wp2
    go_meet
    case rel => exact ⟨_,(wrap64 (1 + t335)),b13_10,H',⟨by first | omega | exact Nat.le_refl _⟩,⟨b13_17⟩,⟨b13_12⟩,⟨b13_13⟩,⟨b13_2⟩,⟨b13_0⟩⟩
  case rest =>
   clear HC9
   (try clear c1);(try clear p2);(try clear c4);(try clear c5);(try clear c6);(try clear p6);(try clear c7);(try clear c8);(try clear c17);(try clear c17b0);(try clear hcz12_0);(try clear hcz12_1);(try clear hcz12_2);(try clear hcz12_3);(try clear hcz16_0);(try clear hcz16_1);(try clear hcz16_2);(try clear hcz16_3);(try clear hcz18_0);(try clear hcz18_1);(try clear hcz18_2);(try clear hcz18_3);(try clear hfz12_0);(try clear hfz12_1);(try clear hfz12_2);(try clear hfz12_3);(try clear hfz16_0);(try clear hfz16_1);(try clear hfz16_2);(try clear hfz16_3);(try clear hfz18_0);(try clear hfz18_1);(try clear hfz18_2);(try clear hfz18_3)
   obtain ⟨kq,x8_8,rfl,HA,HJ8,HO_6,HO_331002,HO_331003,BK330,HB⟩ := hcut
   cases kq with
   | zero => exact absurd HA.out (by simp [laws_FnCommas.j0])
   | succ kj8 =>
    have H := HA.out
    clear HA
    simp only [laws_FnCommas.j0] at H
    replace H := Option.bind_eq_some_iff.mp H
    obtain ⟨⟨t336,t337,t338⟩,A190,H⟩ := H
    replace H : ((impl_CommasOf.f kj8 t322 t323 t324 t327 x8_8).bind fun bt339 => (if t338 = true then (laws_FnCommas.j1 kj8 x8_8 t336 bt339.1 (!bt339.2) t322 t323 t324 t327) else (laws_FnCommas.j1 kj8 x8_8 t336 bt339.1 true t322 t323 t324 t327))) = some r := H
    have A19 := Aside0.mk A190
    clear A190
    replace H := Option.bind_eq_some_iff.mp H
    obtain ⟨⟨t339,t342⟩,A200,H⟩ := H
    replace H : (if t338 = true then (laws_FnCommas.j1 kj8 x8_8 t336 t339 (!t342) t322 t323 t324 t327) else (laws_FnCommas.j1 kj8 x8_8 t336 t339 true t322 t323 t324 t327)) = some r := H
    have A20 := Aside0.mk A200
    clear A200
    have HC21 := Aside0.mk H
    clear H
    have hcz22_0 : wc.cell? ⟨gb330,0,none⟩ = some (.int .i64 t322) := (blk_cell BK330.out 0).trans rfl
    have hcz22_1 : wc.cell? ⟨gb330,1,none⟩ = some (.int .i64 t323) := (blk_cell BK330.out 1).trans rfl
    have hcz22_2 : wc.cell? ⟨gb330,2,none⟩ = some (.slice Ao13 t324.length co13) := (blk_cell BK330.out 2).trans rfl
    have hcz22_3 : wc.cell? ⟨gb330,3,none⟩ = some (.slice Ao14 t327.length co14) := (blk_cell BK330.out 3).trans rfl
    have hfz22_0 := blk_frozen BK330.out 0
    have hfz22_1 := blk_frozen BK330.out 1
    have hfz22_2 := blk_frozen BK330.out 2
    have hfz22_3 := blk_frozen BK330.out 3
    obtain ⟨Ao23,co23,eo23⟩ := Kd.R_slice HO_6.out
    subst eo23
    go_upto_region 11 with (first | ((with_reducible refine gate_callee (f := 17) rfl ?_); refine goesL_ (some 47) rfl rfl Tryd.func17 (by kernel_rfl) rfl #[.agg #[.int .i64 t322,.int .i64 t323,.slice Ao13 t324.length co13,.slice Ao14 t327.length co14],.int .i64 (wrap64 ((wrap64 (2 * t334)) - 1)),.slice Ao23 t331.length co23] rfl b13_1 ?_; (with_reducible refine (spec_EncodeBlocks.calls kj8 t322 t323 _ _ t324 _ _ t327 (wrap64 ((wrap64 (2 * t334)) - 1)) _ _ t331 t336 t337 t338 _ ?side1 ?side2 ?side3 ?side4 ?side5 ?side6 A19.out).mono ?_); (case side1 => repeat (first | exact (Kd.R_reads' HO_331002.out).2.2 | (with_reducible refine Kd.C_alloc ?_ _) | (with_reducible refine Kd.C_drewN ?_ _) | (with_reducible refine Kd.C_drew ?_))); (case side2 => exact (Kd.R_reads' HO_331002.out).2.1); (case side3 => repeat (first | exact (Kd.R_reads' HO_331003.out).2.2 | (with_reducible refine Kd.C_alloc ?_ _) | (with_reducible refine Kd.C_drewN ?_ _) | (with_reducible refine Kd.C_drew ?_))); (case side4 => exact (Kd.R_reads' HO_331003.out).2.1); (case side5 => repeat (first | exact (Kd.R_reads' HO_6.out).2.2 | (with_reducible refine Kd.C_alloc ?_ _) | (with_reducible refine Kd.C_drewN ?_ _) | (with_reducible refine Kd.C_drew ?_))); (case side6 => exact (Kd.R_reads' HO_6.out).2.1); rintro e w24 ⟨rfl,hb⟩; refine ⟨_,rfl,?_⟩; have n0_ := Aside0.mk (Kd.R_below b13_18 hb); have n1_ := Aside0.mk (Kd.R_below b13_3 hb); have n2_ := Aside0.mk (Kd.R_below b13_4 hb); have n3_ := Aside0.mk (blk_below (g := gb330) (o := .cells #[.int .i64 t322,.int .i64 t323,.slice Ao13 t324.length co13,.slice Ao14 t327.length co14] 26 (0,0)) b13_2 hb); have n4_ := Aside0.mk (below_step b13_0 hb); clear HO_6; clear HO_331002; clear HO_331003; clear BK330; clear HB; have HO_6 := n0_; have HO_331002 := n1_; have HO_331003 := n2_; have BK330 := n3_; have HB := n4_; clear n0_ n1_ n2_ n3_ n4_; (try clear hb); (try clear hb2); (try clear hk); (try clear hi); have hcz25_0 : w24.cell? ⟨gb330,0,none⟩ = some (.int .i64 t322) := (blk_cell BK330.out 0).trans rfl; have hcz25_1 : w24.cell? ⟨gb330,1,none⟩ = some (.int .i64 t323) := (blk_cell BK330.out 1).trans rfl; have hcz25_2 : w24.cell? ⟨gb330,2,none⟩ = some (.slice Ao13 t324.length co13) := (blk_cell BK330.out 2).trans rfl; have hcz25_3 : w24.cell? ⟨gb330,3,none⟩ = some (.slice Ao14 t327.length co14) := (blk_cell BK330.out 3).trans rfl; have hfz25_0 := blk_frozen BK330.out 0; have hfz25_1 := blk_frozen BK330.out 1; have hfz25_2 := blk_frozen BK330.out 2; have hfz25_3 := blk_frozen BK330.out 3) | ((with_reducible refine gate_callee (f := 18) rfl ?_); refine goesL_ (some 54) rfl rfl Tryd.func18 (by kernel_rfl) rfl #[.agg #[.int .i64 t322,.int .i64 t323,.slice Ao13 t324.length co13,.slice Ao14 t327.length co14],.int .i64 x8_8] rfl b13_1 ?_; (with_reducible refine (impl_CommasOf.calls kj8 t322 t323 _ _ t324 _ _ t327 x8_8 t339 t342 _ ?side1 ?side2 ?side3 ?side4 A20.out).mono ?_); (case side1 => repeat (first | exact (Kd.R_reads' HO_331002.out).2.2 | (with_reducible refine Kd.C_alloc ?_ _) | (with_reducible refine Kd.C_drewN ?_ _) | (with_reducible refine Kd.C_drew ?_))); (case side2 => exact (Kd.R_reads' HO_331002.out).2.1); (case side3 => repeat (first | exact (Kd.R_reads' HO_331003.out).2.2 | (with_reducible refine Kd.C_alloc ?_ _) | (with_reducible refine Kd.C_drewN ?_ _) | (with_reducible refine Kd.C_drew ?_))); (case side4 => exact (Kd.R_reads' HO_331003.out).2.1); rintro e w26 ⟨v340,rfl,ho0,hb⟩; refine ⟨_,rfl,?_⟩; have n0_ := Aside0.mk (Kd.R_below b13_18 hb); have n1_ := Aside0.mk (Kd.R_elder' b13_3 (Kd.R_base ho0) hb); have n2_ := Aside0.mk (Kd.R_elder' b13_4 (Kd.R_base ho0) hb); have n3_ := Aside0.mk (Kd.R_lower (Kd.R_new' (Kd.R_new' ho0 (Kd.R_lt b13_3)) (Kd.R_lt b13_4)) (below_size b13_0)); have n4_ := Aside0.mk (blk_below (g := gb330) (o := .cells #[.int .i64 t322,.int .i64 t323,.slice Ao13 t324.length co13,.slice Ao14 t327.length co14] 26 (0,0)) b13_2 hb); have n5_ := Aside0.mk (below_step b13_0 hb); clear HO_6; clear HO_331002; clear HO_331003; clear BK330; clear HB; have HO_6 := n0_; have HO_331002 := n1_; have HO_331003 := n2_; have HO341 := n3_; have BK330 := n4_; have HB := n5_; clear n0_ n1_ n2_ n3_ n4_ n5_; (try clear hb); (try clear hb2); (try clear hk); (try clear hi); (try clear ho0)))
    (try simp only [Act.put,List.setIfInBounds_toArray,List.set_cons_zero,List.set_cons_succ])
    go_cut [62] (fun v62 wc => ∃ (kq : Nat) (x62_20 : Bool),v62 = .bool x62_20 ∧ Aside0 (laws_FnCommas.j1 kq x8_8 t336 t339 x62_20 t322 t323 t324 t327 = some r) ∧ Aside0 (kq ≤ kj8) ∧ Aside0 (Kd.R Kd.string 9 wc w.heap.size (fun k_ => some k_ ≠ ((.slice Ao13 t324.length co13) : Value).ownBlock ∧ some k_ ≠ ((.slice Ao14 t327.length co14) : Value).ownBlock) v340 t339) ∧ Aside0 (Kd.R Kd.string 9 wc w.heap.size (fun k_ => some k_ ≠ (v340 : Value).ownBlock ∧ some k_ ≠ ((.slice Ao14 t327.length co14) : Value).ownBlock) (.slice Ao13 t324.length co13) t324) ∧ Aside0 (Kd.R Kd.string 9 wc w.heap.size (fun k_ => some k_ ≠ (v340 : Value).ownBlock ∧ some k_ ≠ ((.slice Ao13 t324.length co13) : Value).ownBlock) (.slice Ao14 t327.length co14) t327) ∧ Aside0 (wc.heap[gb330]? = some (.cells #[.int .i64 t322,.int .i64 t323,(.slice Ao13 t324.length co13),(.slice Ao14 t327.length co14)] 26 (0,0))) ∧ Aside0 (Below w.heap.size w wc))
    case first =>
     have H := HC21.out
     clear HC21
     by_cases c27 : t338 = true
     ·subst c27
      have H1 : (laws_FnCommas.j1 kj8 x8_8 t336 t339 (!t342) t322 t323 t324 t327) = some r := by rw [if_pos rfl] at H; exact H
      clear H
      have H := H1
      clear H1
      have H' := Aside0.mk H
      clear H
      go_wp2
      go_meet
      case rel => exact ⟨_,(!t342),b13_10,H',⟨by have := HJ8.out; first | omega | exact Nat.le_refl _⟩,⟨b13_16⟩,⟨b13_14⟩,⟨b13_15⟩,⟨b13_2⟩,⟨b13_0⟩⟩
     ·replace c27 := Bool.eq_false_iff.mpr c27
      subst c27
      have H1 : (laws_FnCommas.j1 kj8 x8_8 t336 t339 true t322 t323 t324 t327) = some r := by rw [if_neg (show ¬ (false = true) by decide)] at H; exact H
      clear H
      have H := H1
      clear H1
      have H' := Aside0.mk H
      clear H
      go_wp2
      go_meet
      case rel => exact ⟨_,(true),b13_10,H',⟨by have := HJ8.out; first | omega | exact Nat.le_refl _⟩,⟨b13_16⟩,⟨b13_14⟩,⟨b13_15⟩,⟨b13_2⟩,⟨b13_0⟩⟩
    case rest =>
     clear HC21
     (try clear c1);(try clear c2);(try clear p2);(try clear c4);(try clear c5);(try clear c6);(try clear p6);(try clear c7);(try clear c8);(try clear c17);(try clear c17b0);(try clear c18);(try clear c27);(try clear hcz12_0);(try clear hcz12_1);(try clear hcz12_2);(try clear hcz12_3);(try clear hcz16_0);(try clear hcz16_1);(try clear hcz16_2);(try clear hcz16_3);(try clear hcz18_0);(try clear hcz18_1);(try clear hcz18_2);(try clear hcz18_3);(try clear hcz22_0);(try clear hcz22_1);(try clear hcz22_2);(try clear hcz22_3);(try clear hcz25_0);(try clear hcz25_1);(try clear hcz25_2);(try clear hcz25_3);(try clear hfz12_0);(try clear hfz12_1);(try clear hfz12_2);(try clear hfz12_3);(try clear hfz16_0);(try clear hfz16_1);(try clear hfz16_2);(try clear hfz16_3);(try clear hfz18_0);(try clear hfz18_1);(try clear hfz18_2);(try clear hfz18_3);(try clear hfz22_0);(try clear hfz22_1);(try clear hfz22_2);(try clear hfz22_3);(try clear hfz25_0);(try clear hfz25_1);(try clear hfz25_2);(try clear hfz25_3);(try clear p2);(try clear p6)
     obtain ⟨kq,x62_20,rfl,HA,HJ20,HO_12,HO_331002,HO_331003,BK330,HB⟩ := hcut
     cases kq with
     | zero => exact absurd HA.out (by simp [laws_FnCommas.j1])
     | succ kj20 =>
      have H := HA.out
      clear HA
      simp only [laws_FnCommas.j1] at H
      by_cases c28 : x62_20 = true
      ·subst c28
       have H1 : (some false) = some r := by rw [if_pos rfl] at H; exact H
       clear H
       have H := H1
       clear H1
       obtain rfl := Option.some.inj H
       go_wp2
       go_ret
       exact ⟨b13_19,b13_0⟩
      ·replace c28 := Bool.eq_false_iff.mpr c28
       subst c28
       have H1 : (laws_FnCommas.l0 kj20 x8_8 t336 t339 0 0 t322 t323 t324 t327) = some r := by rw [if_neg (show ¬ (false = true) by decide)] at H; exact H
       clear H
       have H := H1
       clear H1
       have H' := Aside0.mk H
       clear H
       go_wp2
       go_loopg [14,15] kj20 (fun kq v14 v15 w' => ∃ (x14_3 : Int) (x15_3 : Int),v14 = .int .i64 x14_3 ∧ v15 = .int .i64 x15_3 ∧ Aside0 (laws_FnCommas.l0 kq x8_8 t336 t339 x14_3 x15_3 t322 t323 t324 t327 = some r) ∧ Aside0 (kq ≤ kj20) ∧ Aside0 (Kd.R Kd.string 9 w' w.heap.size (fun k_ => some k_ ≠ ((.slice Ao13 t324.length co13) : Value).ownBlock ∧ some k_ ≠ ((.slice Ao14 t327.length co14) : Value).ownBlock) v340 t339) ∧ Aside0 (Kd.R Kd.string 9 w' w.heap.size (fun k_ => some k_ ≠ (v340 : Value).ownBlock ∧ some k_ ≠ ((.slice Ao14 t327.length co14) : Value).ownBlock) (.slice Ao13 t324.length co13) t324) ∧ Aside0 (Kd.R Kd.string 9 w' w.heap.size (fun k_ => some k_ ≠ (v340 : Value).ownBlock ∧ some k_ ≠ ((.slice Ao13 t324.length co13) : Value).ownBlock) (.slice Ao14 t327.length co14) t327) ∧ Aside0 (w'.heap[gb330]? = some (.cells #[.int .i64 t322,.int .i64 t323,(.slice Ao13 t324.length co13),(.slice Ao14 t327.length co14)] 26 (0,0))) ∧ Aside0 (Below w.heap.size w w'))
       case atStart => exact ⟨(0),(0),b13_10,b13_10,H',⟨Nat.le_refl _⟩,⟨b13_5⟩,⟨b13_3⟩,⟨b13_4⟩,⟨b13_2⟩,⟨b13_0⟩⟩
       case round =>
        clear H'
        (try clear c1);(try clear c2);(try clear p2);(try clear c4);(try clear c5);(try clear c6);(try clear p6);(try clear c7);(try clear c8);(try clear c17);(try clear c17b0);(try clear c18);(try clear c27);(try clear c28);(try clear hcz12_0);(try clear hcz12_1);(try clear hcz12_2);(try clear hcz12_3);(try clear hcz16_0);(try clear hcz16_1);(try clear hcz16_2);(try clear hcz16_3);(try clear hcz18_0);(try clear hcz18_1);(try clear hcz18_2);(try clear hcz18_3);(try clear hcz22_0);(try clear hcz22_1);(try clear hcz22_2);(try clear hcz22_3);(try clear hcz25_0);(try clear hcz25_1);(try clear hcz25_2);(try clear hcz25_3);(try clear hfz12_0);(try clear hfz12_1);(try clear hfz12_2);(try clear hfz12_3);(try clear hfz16_0);(try clear hfz16_1);(try clear hfz16_2);(try clear hfz16_3);(try clear hfz18_0);(try clear hfz18_1);(try clear hfz18_2);(try clear hfz18_3);(try clear hfz22_0);(try clear hfz22_1);(try clear hfz22_2);(try clear hfz22_3);(try clear hfz25_0);(try clear hfz25_1);(try clear hfz25_2);(try clear hfz25_3);(try clear p2);(try clear p6)
        obtain ⟨x14_3,x15_3,rfl,rfl,HA,HK3,HO_12,HO_331002,HO_331003,BK330,HB⟩ := hrel
        cases gk with
        | zero => exact absurd HA.out (by simp [laws_FnCommas.l0])
        | succ k3 =>
         have H := HA.out
         clear HA
         simp only [laws_FnCommas.l0] at H
         obtain ⟨ji29,hji29⟩ : ∃ j_ : Int,(IntKind.u64.wrap (x8_8)) = j_ := ⟨_,rfl⟩
         replace H : (if 0 ≤ (ji29) then (if x15_3 < (shl .i64 1 (ji29)) then ((spec_BitsOf.f k3 x15_3 x8_8).bind fun bt343 => (if bt343.2 = true then ((impl_IsComma.f k3 t322 t323 t324 t327 bt343.1).bind fun t345 => (if t345 = true then ((impl_CountBits.f k3 t336 bt343.1).bind fun bt346 => (if x14_3 ≥ (t339.length : Int) then (some false) else (if 0 ≤ x14_3 then (if x14_3 < (t339.length : Int) then (if (rdOf ByteArray.empty t339 x14_3).toList = bt343.1.toList then (if bt346.2 = true then (if bt346.1 = 0 then (laws_FnCommas.l0 k3 x8_8 t336 t339 (wrap64 (x14_3 + 1)) (wrap64 (x15_3 + 1)) t322 t323 t324 t327) else (some false)) else (some false)) else (some false)) else (none)) else (none)))) else (laws_FnCommas.l0 k3 x8_8 t336 t339 x14_3 (wrap64 (x15_3 + 1)) t322 t323 t324 t327))) else (some false))) else (some (x14_3 == (t339.length : Int)))) else (none)) = some r := by first | (rw [hji29] at H; exact H) | (simp only [hji29] at H ⊢; exact H)
         by_cases c30 : 0 ≤ (ji29)
         ·rw [if_pos c30] at H
          have c30b0 := eq_true c30
          have c30b1 : decide (0 ≤ (ji29)) = true := decide_eq_true c30
          clear c30
          obtain ⟨ji31,hji31⟩ : ∃ j_ : Int,(shl .i64 1 (ji29)) = j_ := ⟨_,rfl⟩
          replace H : (if x15_3 < (ji31) then ((spec_BitsOf.f k3 x15_3 x8_8).bind fun bt343 => (if bt343.2 = true then ((impl_IsComma.f k3 t322 t323 t324 t327 bt343.1).bind fun t345 => (if t345 = true then ((impl_CountBits.f k3 t336 bt343.1).bind fun bt346 => (if x14_3 ≥ (t339.length : Int) then (some false) else (if 0 ≤ x14_3 then (if x14_3 < (t339.length : Int) then (if (rdOf ByteArray.empty t339 x14_3).toList = bt343.1.toList then (if bt346.2 = true then (if bt346.1 = 0 then (laws_FnCommas.l0 k3 x8_8 t336 t339 (wrap64 (x14_3 + 1)) (wrap64 (x15_3 + 1)) t322 t323 t324 t327) else (some false)) else (some false)) else (some false)) else (none)) else (none)))) else (laws_FnCommas.l0 k3 x8_8 t336 t339 x14_3 (wrap64 (x15_3 + 1)) t322 t323 t324 t327))) else (some false))) else (some (x14_3 == (t339.length : Int)))) = some r := by first | (rw [hji31] at H; exact H) | (simp only [hji31] at H ⊢; exact H)
          have hji31_ : (IntKind.i64.wrap (1 * 2 ^ min (ji29).toNat 64)) = ji31 := hji31
          have hji31z : (ji29) ≤ 64 → (IntKind.i64.wrap (1 * 2 ^ (ji29).toNat)) = ji31 := shl_small hji31
          have hji31u : (IntKind.i64.wrap (2 ^ min (ji29).toNat 64)) = ji31 := by have h_ := hji31_; rw [Int.one_mul] at h_; exact h_
          have hji31v : (ji29) ≤ 64 → (IntKind.i64.wrap (2 ^ (ji29).toNat)) = ji31 := fun hle_ => by have h_ := hji31z hle_; rw [Int.one_mul] at h_; exact h_
          have hji31y : (wrap64 (1 * 2 ^ min (ji29).toNat 64)) = ji31 := (i64_w _).symm.trans hji31_
          have hji31x : (ji29) ≤ 64 → (wrap64 (1 * 2 ^ (ji29).toNat)) = ji31 := fun h_ => (i64_w _).symm.trans (hji31z h_)
          by_cases c32 : x15_3 < (ji31)
          ·rw [if_pos c32] at H
           have c32b0 : decide (x15_3 < (ji31)) = true := decide_eq_true c32
           clear c32
           replace H := Option.bind_eq_some_iff.mp H
           obtain ⟨⟨t343,t344⟩,A330,H⟩ := H
           replace H : (if t344 = true then ((impl_IsComma.f k3 t322 t323 t324 t327 t343).bind fun t345 => (if t345 = true then ((impl_CountBits.f k3 t336 t343).bind fun bt346 => (if x14_3 ≥ (t339.length : Int) then (some false) else (if 0 ≤ x14_3 then (if x14_3 < (t339.length : Int) then (if (rdOf ByteArray.empty t339 x14_3).toList = t343.toList then (if bt346.2 = true then (if bt346.1 = 0 then (laws_FnCommas.l0 k3 x8_8 t336 t339 (wrap64 (x14_3 + 1)) (wrap64 (x15_3 + 1)) t322 t323 t324 t327) else (some false)) else (some false)) else (some false)) else (none)) else (none)))) else (laws_FnCommas.l0 k3 x8_8 t336 t339 x14_3 (wrap64 (x15_3 + 1)) t322 t323 t324 t327))) else (some false)) = some r := H
           have A33 := Aside0.mk A330
           clear A330
           by_cases c34 : t344 = true
           ·subst c34
            have H1 : ((impl_IsComma.f k3 t322 t323 t324 t327 t343).bind fun t345 => (if t345 = true then ((impl_CountBits.f k3 t336 t343).bind fun bt346 => (if x14_3 ≥ (t339.length : Int) then (some false) else (if 0 ≤ x14_3 then (if x14_3 < (t339.length : Int) then (if (rdOf ByteArray.empty t339 x14_3).toList = t343.toList then (if bt346.2 = true then (if bt346.1 = 0 then (laws_FnCommas.l0 k3 x8_8 t336 t339 (wrap64 (x14_3 + 1)) (wrap64 (x15_3 + 1)) t322 t323 t324 t327) else (some false)) else (some false)) else (some false)) else (none)) else (none)))) else (laws_FnCommas.l0 k3 x8_8 t336 t339 x14_3 (wrap64 (x15_3 + 1)) t322 t323 t324 t327))) = some r := by rw [if_pos rfl] at H; exact H
            clear H
            have H := H1
            clear H1
            replace H := Option.bind_eq_some_iff.mp H
            obtain ⟨t345,A350,H⟩ := H
            replace H : (if t345 = true then ((impl_CountBits.f k3 t336 t343).bind fun bt346 => (if x14_3 ≥ (t339.length : Int) then (some false) else (if 0 ≤ x14_3 then (if x14_3 < (t339.length : Int) then (if (rdOf ByteArray.empty t339 x14_3).toList = t343.toList then (if bt346.2 = true then (if bt346.1 = 0 then (laws_FnCommas.l0 k3 x8_8 t336 t339 (wrap64 (x14_3 + 1)) (wrap64 (x15_3 + 1)) t322 t323 t324 t327) else (some false)) else (some false)) else (some false)) else (none)) else (none)))) else (laws_FnCommas.l0 k3 x8_8 t336 t339 x14_3 (wrap64 (x15_3 + 1)) t322 t323 t324 t327)) = some r := H
            have A35 := Aside0.mk A350
            clear A350
            by_cases c36 : t345 = true
            ·subst c36
             have H1 : ((impl_CountBits.f k3 t336 t343).bind fun bt346 => (if x14_3 ≥ (t339.length : Int) then (some false) else (if 0 ≤ x14_3 then (if x14_3 < (t339.length : Int) then (if (rdOf ByteArray.empty t339 x14_3).toList = t343.toList then (if bt346.2 = true then (if bt346.1 = 0 then (laws_FnCommas.l0 k3 x8_8 t336 t339 (wrap64 (x14_3 + 1)) (wrap64 (x15_3 + 1)) t322 t323 t324 t327) else (some false)) else (some false)) else (some false)) else (none)) else (none)))) = some r := by rw [if_pos rfl] at H; exact H
             clear H
             have H := H1
             clear H1
             replace H := Option.bind_eq_some_iff.mp H
             obtain ⟨⟨t346,t347⟩,A370,H⟩ := H
             replace H : (if x14_3 ≥ (t339.length : Int) then (some false) else (if 0 ≤ x14_3 then (if x14_3 < (t339.length : Int) then (if (rdOf ByteArray.empty t339 x14_3).toList = t343.toList then (if t347 = true then (if t346 = 0 then (laws_FnCommas.l0 k3 x8_8 t336 t339 (wrap64 (x14_3 + 1)) (wrap64 (x15_3 + 1)) t322 t323 t324 t327) else (some false)) else (some false)) else (some false)) else (none)) else (none))) = some r := H
             have A37 := Aside0.mk A370
             clear A370
             by_cases c38 : x14_3 ≥ (t339.length : Int)
             ·rw [if_pos c38] at H
              have c38b0 : decide ((t339.length : Int) ≤ x14_3) = true := decide_eq_true c38
              clear c38
              obtain rfl := Option.some.inj H
              go_wp2_with (first | ((with_reducible refine gate_callee (f := 19) rfl ?_); refine goesL_ (some 73) rfl rfl Tryd.func19 (by kernel_rfl) rfl #[.int .i64 x15_3,.int .i64 x8_8] rfl b13_1 ?_; (with_reducible refine (spec_BitsOf.calls k3 x15_3 x8_8 t343 true _ A33.out).mono ?_); rintro e w39 ⟨rfl,hb⟩; refine ⟨_,rfl,?_⟩; have n0_ := Aside0.mk (Kd.R_below b13_5 hb); have n1_ := Aside0.mk (Kd.R_below b13_3 hb); have n2_ := Aside0.mk (Kd.R_below b13_4 hb); have n3_ := Aside0.mk (blk_below (g := gb330) (o := .cells #[.int .i64 t322,.int .i64 t323,.slice Ao13 t324.length co13,.slice Ao14 t327.length co14] 26 (0,0)) b13_2 hb); have n4_ := Aside0.mk (below_step b13_0 hb); clear HO_12; clear HO_331002; clear HO_331003; clear BK330; clear HB; have HO_12 := n0_; have HO_331002 := n1_; have HO_331003 := n2_; have BK330 := n3_; have HB := n4_; clear n0_ n1_ n2_ n3_ n4_; (try clear hb); (try clear hb2); (try clear hk); (try clear hi); have hcz40_0 : w39.cell? ⟨gb330,0,none⟩ = some (.int .i64 t322) := (blk_cell BK330.out 0).trans rfl; have hcz40_1 : w39.cell? ⟨gb330,1,none⟩ = some (.int .i64 t323) := (blk_cell BK330.out 1).trans rfl; have hcz40_2 : w39.cell? ⟨gb330,2,none⟩ = some (.slice Ao13 t324.length co13) := (blk_cell BK330.out 2).trans rfl; have hcz40_3 : w39.cell? ⟨gb330,3,none⟩ = some (.slice Ao14 t327.length co14) := (blk_cell BK330.out 3).trans rfl; have hfz40_0 := blk_frozen BK330.out 0; have hfz40_1 := blk_frozen BK330.out 1; have hfz40_2 := blk_frozen BK330.out 2; have hfz40_3 := blk_frozen BK330.out 3) | ((with_reducible refine gate_callee (f := 20) rfl ?_); refine goesL_ (some 80) rfl rfl Tryd.func20 (by kernel_rfl) rfl #[.agg #[.int .i64 t322,.int .i64 t323,.slice Ao13 t324.length co13,.slice Ao14 t327.length co14],.string t343] rfl b13_1 ?_; (with_reducible refine (impl_IsComma.calls k3 t322 t323 _ _ t324 _ _ t327 t343 true _ ?side1 ?side2 ?side3 ?side4 A35.out).mono ?_); (case side1 => repeat (first | exact (Kd.R_reads' HO_331002.out).2.2 | (with_reducible refine Kd.C_alloc ?_ _) | (with_reducible refine Kd.C_drewN ?_ _) | (with_reducible refine Kd.C_drew ?_))); (case side2 => exact (Kd.R_reads' HO_331002.out).2.1); (case side3 => repeat (first | exact (Kd.R_reads' HO_331003.out).2.2 | (with_reducible refine Kd.C_alloc ?_ _) | (with_reducible refine Kd.C_drewN ?_ _) | (with_reducible refine Kd.C_drew ?_))); (case side4 => exact (Kd.R_reads' HO_331003.out).2.1); rintro e w41 ⟨rfl,hb⟩; refine ⟨_,rfl,?_⟩; have n0_ := Aside0.mk (Kd.R_below b13_5 hb); have n1_ := Aside0.mk (Kd.R_below b13_3 hb); have n2_ := Aside0.mk (Kd.R_below b13_4 hb); have n3_ := Aside0.mk (blk_below (g := gb330) (o := .cells #[.int .i64 t322,.int .i64 t323,.slice Ao13 t324.length co13,.slice Ao14 t327.length co14] 26 (0,0)) b13_2 hb); have n4_ := Aside0.mk (below_step b13_0 hb); clear HO_12; clear HO_331002; clear HO_331003; clear BK330; clear HB; have HO_12 := n0_; have HO_331002 := n1_; have HO_331003 := n2_; have BK330 := n3_; have HB := n4_; clear n0_ n1_ n2_ n3_ n4_; (try clear hb); (try clear hb2); (try clear hk); (try clear hi)) | ((with_reducible refine gate_callee (f := 21) rfl ?_); refine goesL_ (some 85) rfl rfl Tryd.func21 (by kernel_rfl) rfl #[.string t336,.string t343] rfl b13_1 ?_; (with_reducible refine (impl_CountBits.calls k3 t336 t343 t346 t347 _ A37.out).mono ?_); rintro e w42 ⟨rfl,hb⟩; refine ⟨_,rfl,?_⟩; have n0_ := Aside0.mk (Kd.R_below b13_5 hb); have n1_ := Aside0.mk (Kd.R_below b13_3 hb); have n2_ := Aside0.mk (Kd.R_below b13_4 hb); have n3_ := Aside0.mk (blk_below (g := gb330) (o := .cells #[.int .i64 t322,.int .i64 t323,.slice Ao13 t324.length co13,.slice Ao14 t327.length co14] 26 (0,0)) b13_2 hb); have n4_ := Aside0.mk (below_step b13_0 hb); clear HO_12; clear HO_331002; clear HO_331003; clear BK330; clear HB; have HO_12 := n0_; have HO_331002 := n1_; have HO_331003 := n2_; have BK330 := n3_; have HB := n4_; clear n0_ n1_ n2_ n3_ n4_; (try clear hb); (try clear hb2); (try clear hk); (try clear hi); obtain ⟨Ao43,co43,eo43⟩ := Kd.R_slice HO_12.out; subst eo43))
              go_ret
              exact ⟨b13_6,b13_0⟩
             ·rw [if_neg c38] at H
              have c38b0 : decide ((t339.length : Int) ≤ x14_3) = false := decide_eq_false c38
              clear c38
              by_cases c44 : 0 ≤ x14_3
              ·rw [if_pos c44] at H
               have c44b0 : decide (0 ≤ x14_3) = true := decide_eq_true c44
               clear c44
               by_cases c45 : x14_3 < (t339.length : Int)
               ·rw [if_pos c45] at H
                have c45b0 : decide (x14_3 < (t339.length : Int)) = true := decide_eq_true c45
                clear c45
                by_cases c46 : (rdOf ByteArray.empty t339 x14_3).toList = t343.toList
                ·rw [if_pos c46] at H
                 have c46b0 : ((rdOf ByteArray.empty t339 x14_3).toList == t343.toList) = true := beq_iff_eq.mpr c46
                 have c46b1 : ((rdOf ByteArray.empty t339 x14_3).toList != t343.toList) = false := bne_eq_false_iff_eq.mpr c46
                 clear c46
                 by_cases c47 : t347 = true
                 ·subst c47
                  have H1 : (if t346 = 0 then (laws_FnCommas.l0 k3 x8_8 t336 t339 (wrap64 (x14_3 + 1)) (wrap64 (x15_3 + 1)) t322 t323 t324 t327) else (some false)) = some r := by rw [if_pos rfl] at H; exact H
                  clear H
                  have H := H1
                  clear H1
                  by_cases c48 : t346 = 0
                  ·rw [if_pos c48] at H
                   have c48b0 : (t346 == 0) = true := beq_iff_eq.mpr c48
                   have c48b1 : (t346 != 0) = false := bne_eq_false_iff_eq.mpr c48
                   clear c48
                   have H' := Aside0.mk H
                   clear H
                   go_wp2_with (first | ((with_reducible refine gate_callee (f := 19) rfl ?_); refine goesL_ (some 73) rfl rfl Tryd.func19 (by kernel_rfl) rfl #[.int .i64 x15_3,.int .i64 x8_8] rfl b13_1 ?_; (with_reducible refine (spec_BitsOf.calls k3 x15_3 x8_8 t343 true _ A33.out).mono ?_); rintro e w49 ⟨rfl,hb⟩; refine ⟨_,rfl,?_⟩; have n0_ := Aside0.mk (Kd.R_below b13_5 hb); have n1_ := Aside0.mk (Kd.R_below b13_3 hb); have n2_ := Aside0.mk (Kd.R_below b13_4 hb); have n3_ := Aside0.mk (blk_below (g := gb330) (o := .cells #[.int .i64 t322,.int .i64 t323,.slice Ao13 t324.length co13,.slice Ao14 t327.length co14] 26 (0,0)) b13_2 hb); have n4_ := Aside0.mk (below_step b13_0 hb); clear HO_12; clear HO_331002; clear HO_331003; clear BK330; clear HB; have HO_12 := n0_; have HO_331002 := n1_; have HO_331003 := n2_; have BK330 := n3_; have HB := n4_; clear n0_ n1_ n2_ n3_ n4_; (try clear hb); (try clear hb2); (try clear hk); (try clear hi); have hcz50_0 : w49.cell? ⟨gb330,0,none⟩ = some (.int .i64 t322) := (blk_cell BK330.out 0).trans rfl; have hcz50_1 : w49.cell? ⟨gb330,1,none⟩ = some (.int .i64 t323) := (blk_cell BK330.out 1).trans rfl; have hcz50_2 : w49.cell? ⟨gb330,2,none⟩ = some (.slice Ao13 t324.length co13) := (blk_cell BK330.out 2).trans rfl; have hcz50_3 : w49.cell? ⟨gb330,3,none⟩ = some (.slice Ao14 t327.length co14) := (blk_cell BK330.out 3).trans rfl; have hfz50_0 := blk_frozen BK330.out 0; have hfz50_1 := blk_frozen BK330.out 1; have hfz50_2 := blk_frozen BK330.out 2; have hfz50_3 := blk_frozen BK330.out 3) | ((with_reducible refine gate_callee (f := 20) rfl ?_); refine goesL_ (some 80) rfl rfl Tryd.func20 (by kernel_rfl) rfl #[.agg #[.int .i64 t322,.int .i64 t323,.slice Ao13 t324.length co13,.slice Ao14 t327.length co14],.string t343] rfl b13_1 ?_; (with_reducible refine (impl_IsComma.calls k3 t322 t323 _ _ t324 _ _ t327 t343 true _ ?side1 ?side2 ?side3 ?side4 A35.out).mono ?_); (case side1 => repeat (first | exact (Kd.R_reads' HO_331002.out).2.2 | (with_reducible refine Kd.C_alloc ?_ _) | (with_reducible refine Kd.C_drewN ?_ _) | (with_reducible refine Kd.C_drew ?_))); (case side2 => exact (Kd.R_reads' HO_331002.out).2.1); (case side3 => repeat (first | exact (Kd.R_reads' HO_331003.out).2.2 | (with_reducible refine Kd.C_alloc ?_ _) | (with_reducible refine Kd.C_drewN ?_ _) | (with_reducible refine Kd.C_drew ?_))); (case side4 => exact (Kd.R_reads' HO_331003.out).2.1); rintro e w51 ⟨rfl,hb⟩; refine ⟨_,rfl,?_⟩; have n0_ := Aside0.mk (Kd.R_below b13_5 hb); have n1_ := Aside0.mk (Kd.R_below b13_3 hb); have n2_ := Aside0.mk (Kd.R_below b13_4 hb); have n3_ := Aside0.mk (blk_below (g := gb330) (o := .cells #[.int .i64 t322,.int .i64 t323,.slice Ao13 t324.length co13,.slice Ao14 t327.length co14] 26 (0,0)) b13_2 hb); have n4_ := Aside0.mk (below_step b13_0 hb); clear HO_12; clear HO_331002; clear HO_331003; clear BK330; clear HB; have HO_12 := n0_; have HO_331002 := n1_; have HO_331003 := n2_; have BK330 := n3_; have HB := n4_; clear n0_ n1_ n2_ n3_ n4_; (try clear hb); (try clear hb2); (try clear hk); (try clear hi)) | ((with_reducible refine gate_callee (f := 21) rfl ?_); refine goesL_ (some 85) rfl rfl Tryd.func21 (by kernel_rfl) rfl #[.string t336,.string t343] rfl b13_1 ?_; (with_reducible refine (impl_CountBits.calls k3 t336 t343 t346 true _ A37.out).mono ?_); rintro e w52 ⟨rfl,hb⟩; refine ⟨_,rfl,?_⟩; have n0_ := Aside0.mk (Kd.R_below b13_5 hb); have n1_ := Aside0.mk (Kd.R_below b13_3 hb); have n2_ := Aside0.mk (Kd.R_below b13_4 hb); have n3_ := Aside0.mk (blk_below (g := gb330) (o := .cells #[.int .i64 t322,.int .i64 t323,.slice Ao13 t324.length co13,.slice Ao14 t327.length co14] 26 (0,0)) b13_2 hb); have n4_ := Aside0.mk (below_step b13_0 hb); clear HO_12; clear HO_331002; clear HO_331003; clear BK330; clear HB; have HO_12 := n0_; have HO_331002 := n1_; have HO_331003 := n2_; have BK330 := n3_; have HB := n4_; clear n0_ n1_ n2_ n3_ n4_; (try clear hb); (try clear hb2); (try clear hk); (try clear hi); obtain ⟨Ao53,co53,eo53⟩ := Kd.R_slice HO_12.out; subst eo53; have p348 : 0 ≤ (x14_3 : Int) := of_decide_eq_true b13_11; have q348 : x14_3 < (t339.length : Int) := of_decide_eq_true b13_11; obtain ⟨ad348,e348,hx348_0⟩ := Kd.at_string (Kd.R_reads' HO_12.out).2.2 x14_3 p348 q348; cases e348; replace p348 := eq_true p348; replace q348 := eq_true q348))
                   go_roundg k3
                   case measure => have := HJ8.out; have := HJ20.out; have := HK3.out; omega
                   case rel => exact ⟨(wrap64 (x14_3 + 1)),(wrap64 (x15_3 + 1)),b13_10,b13_10,H',⟨by have := HJ8.out; have := HJ20.out; have := HK3.out; omega⟩,⟨b13_5⟩,⟨b13_3⟩,⟨b13_4⟩,⟨b13_2⟩,⟨b13_0⟩⟩
                  ·rw [if_neg c48] at H
                   have c48b0 : (t346 == 0) = false := beq_eq_false_iff_ne.mpr c48
                   have c48b1 : (t346 != 0) = true := bne_iff_ne.mpr c48
                   obtain rfl := Option.some.inj H
                   go_wp2_with (first | ((with_reducible refine gate_callee (f := 19) rfl ?_); refine goesL_ (some 73) rfl rfl Tryd.func19 (by kernel_rfl) rfl #[.int .i64 x15_3,.int .i64 x8_8] rfl b13_1 ?_; (with_reducible refine (spec_BitsOf.calls k3 x15_3 x8_8 t343 true _ A33.out).mono ?_); rintro e w54 ⟨rfl,hb⟩; refine ⟨_,rfl,?_⟩; have n0_ := Aside0.mk (Kd.R_below b13_5 hb); have n1_ := Aside0.mk (Kd.R_below b13_3 hb); have n2_ := Aside0.mk (Kd.R_below b13_4 hb); have n3_ := Aside0.mk (blk_below (g := gb330) (o := .cells #[.int .i64 t322,.int .i64 t323,.slice Ao13 t324.length co13,.slice Ao14 t327.length co14] 26 (0,0)) b13_2 hb); have n4_ := Aside0.mk (below_step b13_0 hb); clear HO_12; clear HO_331002; clear HO_331003; clear BK330; clear HB; have HO_12 := n0_; have HO_331002 := n1_; have HO_331003 := n2_; have BK330 := n3_; have HB := n4_; clear n0_ n1_ n2_ n3_ n4_; (try clear hb); (try clear hb2); (try clear hk); (try clear hi); have hcz55_0 : w54.cell? ⟨gb330,0,none⟩ = some (.int .i64 t322) := (blk_cell BK330.out 0).trans rfl; have hcz55_1 : w54.cell? ⟨gb330,1,none⟩ = some (.int .i64 t323) := (blk_cell BK330.out 1).trans rfl; have hcz55_2 : w54.cell? ⟨gb330,2,none⟩ = some (.slice Ao13 t324.length co13) := (blk_cell BK330.out 2).trans rfl; have hcz55_3 : w54.cell? ⟨gb330,3,none⟩ = some (.slice Ao14 t327.length co14) := (blk_cell BK330.out 3).trans rfl; have hfz55_0 := blk_frozen BK330.out 0; have hfz55_1 := blk_frozen BK330.out 1; have hfz55_2 := blk_frozen BK330.out 2; have hfz55_3 := blk_frozen BK330.out 3) | ((with_reducible refine gate_callee (f := 20) rfl ?_); refine goesL_ (some 80) rfl rfl Tryd.func20 (by kernel_rfl) rfl #[.agg #[.int .i64 t322,.int .i64 t323,.slice Ao13 t324.length co13,.slice Ao14 t327.length co14],.string t343] rfl b13_1 ?_; (with_reducible refine (impl_IsComma.calls k3 t322 t323 _ _ t324 _ _ t327 t343 true _ ?side1 ?side2 ?side3 ?side4 A35.out).mono ?_); (case side1 => repeat (first | exact (Kd.R_reads' HO_331002.out).2.2 | (with_reducible refine Kd.C_alloc ?_ _) | (with_reducible refine Kd.C_drewN ?_ _) | (with_reducible refine Kd.C_drew ?_))); (case side2 => exact (Kd.R_reads' HO_331002.out).2.1); (case side3 => repeat (first | exact (Kd.R_reads' HO_331003.out).2.2 | (with_reducible refine Kd.C_alloc ?_ _) | (with_reducible refine Kd.C_drewN ?_ _) | (with_reducible refine Kd.C_drew ?_))); (case side4 => exact (Kd.R_reads' HO_331003.out).2.1); rintro e w56 ⟨rfl,hb⟩; refine ⟨_,rfl,?_⟩; have n0_ := Aside0.mk (Kd.R_below b13_5 hb); have n1_ := Aside0.mk (Kd.R_below b13_3 hb); have n2_ := Aside0.mk (Kd.R_below b13_4 hb); have n3_ := Aside0.mk (blk_below (g := gb330) (o := .cells #[.int .i64 t322,.int .i64 t323,.slice Ao13 t324.length co13,.slice Ao14 t327.length co14] 26 (0,0)) b13_2 hb); have n4_ := Aside0.mk (below_step b13_0 hb); clear HO_12; clear HO_331002; clear HO_331003; clear BK330; clear HB; have HO_12 := n0_; have HO_331002 := n1_; have HO_331003 := n2_; have BK330 := n3_; have HB := n4_; clear n0_ n1_ n2_ n3_ n4_; (try clear hb); (try clear hb2); (try clear hk); (try clear hi)) | ((with_reducible refine gate_callee (f := 21) rfl ?_); refine goesL_ (some 85) rfl rfl Tryd.func21 (by kernel_rfl) rfl #[.string t336,.string t343] rfl b13_1 ?_; (with_reducible refine (impl_CountBits.calls k3 t336 t343 t346 true _ A37.out).mono ?_); rintro e w57 ⟨rfl,hb⟩; refine ⟨_,rfl,?_⟩; have n0_ := Aside0.mk (Kd.R_below b13_5 hb); have n1_ := Aside0.mk (Kd.R_below b13_3 hb); have n2_ := Aside0.mk (Kd.R_below b13_4 hb); have n3_ := Aside0.mk (blk_below (g := gb330) (o := .cells #[.int .i64 t322,.int .i64 t323,.slice Ao13 t324.length co13,.slice Ao14 t327.length co14] 26 (0,0)) b13_2 hb); have n4_ := Aside0.mk (below_step b13_0 hb); clear HO_12; clear HO_331002; clear HO_331003; clear BK330; clear HB; have HO_12 := n0_; have HO_331002 := n1_; have HO_331003 := n2_; have BK330 := n3_; have HB := n4_; clear n0_ n1_ n2_ n3_ n4_; (try clear hb); (try clear hb2); (try clear hk); (try clear hi); obtain ⟨Ao58,co58,eo58⟩ := Kd.R_slice HO_12.out; subst eo58; have p348 : 0 ≤ (x14_3 : Int) := of_decide_eq_true b13_11; have q348 : x14_3 < (t339.length : Int) := of_decide_eq_true b13_11; obtain ⟨ad348,e348,hx348_0⟩ := Kd.at_string (Kd.R_reads' HO_12.out).2.2 x14_3 p348 q348; cases e348; replace p348 := eq_true p348; replace q348 := eq_true q348))
                   go_ret
                   exact ⟨b13_6,b13_0⟩
                 ·replace c47 := Bool.eq_false_iff.mpr c47
                  subst c47
                  have H1 : (some false) = some r := by rw [if_neg (show ¬ (false = true) by decide)] at H; exact H
                  clear H
                  have H := H1
                  clear H1
                  obtain rfl := Option.some.inj H
                  go_wp2_with (first | ((with_reducible refine gate_callee (f := 19) rfl ?_); refine goesL_ (some 73) rfl rfl Tryd.func19 (by kernel_rfl) rfl #[.int .i64 x15_3,.int .i64 x8_8] rfl b13_1 ?_; (with_reducible refine (spec_BitsOf.calls k3 x15_3 x8_8 t343 true _ A33.out).mono ?_); rintro e w59 ⟨rfl,hb⟩; refine ⟨_,rfl,?_⟩; have n0_ := Aside0.mk (Kd.R_below b13_5 hb); have n1_ := Aside0.mk (Kd.R_below b13_3 hb); have n2_ := Aside0.mk (Kd.R_below b13_4 hb); have n3_ := Aside0.mk (blk_below (g := gb330) (o := .cells #[.int .i64 t322,.int .i64 t323,.slice Ao13 t324.length co13,.slice Ao14 t327.length co14] 26 (0,0)) b13_2 hb); have n4_ := Aside0.mk (below_step b13_0 hb); clear HO_12; clear HO_331002; clear HO_331003; clear BK330; clear HB; have HO_12 := n0_; have HO_331002 := n1_; have HO_331003 := n2_; have BK330 := n3_; have HB := n4_; clear n0_ n1_ n2_ n3_ n4_; (try clear hb); (try clear hb2); (try clear hk); (try clear hi); have hcz60_0 : w59.cell? ⟨gb330,0,none⟩ = some (.int .i64 t322) := (blk_cell BK330.out 0).trans rfl; have hcz60_1 : w59.cell? ⟨gb330,1,none⟩ = some (.int .i64 t323) := (blk_cell BK330.out 1).trans rfl; have hcz60_2 : w59.cell? ⟨gb330,2,none⟩ = some (.slice Ao13 t324.length co13) := (blk_cell BK330.out 2).trans rfl; have hcz60_3 : w59.cell? ⟨gb330,3,none⟩ = some (.slice Ao14 t327.length co14) := (blk_cell BK330.out 3).trans rfl; have hfz60_0 := blk_frozen BK330.out 0; have hfz60_1 := blk_frozen BK330.out 1; have hfz60_2 := blk_frozen BK330.out 2; have hfz60_3 := blk_frozen BK330.out 3) | ((with_reducible refine gate_callee (f := 20) rfl ?_); refine goesL_ (some 80) rfl rfl Tryd.func20 (by kernel_rfl) rfl #[.agg #[.int .i64 t322,.int .i64 t323,.slice Ao13 t324.length co13,.slice Ao14 t327.length co14],.string t343] rfl b13_1 ?_; (with_reducible refine (impl_IsComma.calls k3 t322 t323 _ _ t324 _ _ t327 t343 true _ ?side1 ?side2 ?side3 ?side4 A35.out).mono ?_); (case side1 => repeat (first | exact (Kd.R_reads' HO_331002.out).2.2 | (with_reducible refine Kd.C_alloc ?_ _) | (with_reducible refine Kd.C_drewN ?_ _) | (with_reducible refine Kd.C_drew ?_))); (case side2 => exact (Kd.R_reads' HO_331002.out).2.1); (case side3 => repeat (first | exact (Kd.R_reads' HO_331003.out).2.2 | (with_reducible refine Kd.C_alloc ?_ _) | (with_reducible refine Kd.C_drewN ?_ _) | (with_reducible refine Kd.C_drew ?_))); (case side4 => exact (Kd.R_reads' HO_331003.out).2.1); rintro e w61 ⟨rfl,hb⟩; refine ⟨_,rfl,?_⟩; have n0_ := Aside0.mk (Kd.R_below b13_5 hb); have n1_ := Aside0.mk (Kd.R_below b13_3 hb); have n2_ := Aside0.mk (Kd.R_below b13_4 hb); have n3_ := Aside0.mk (blk_below (g := gb330) (o := .cells #[.int .i64 t322,.int .i64 t323,.slice Ao13 t324.length co13,.slice Ao14 t327.length co14] 26 (0,0)) b13_2 hb); have n4_ := Aside0.mk (below_step b13_0 hb); clear HO_12; clear HO_331002; clear HO_331003; clear BK330; clear HB; have HO_12 := n0_; have HO_331002 := n1_; have HO_331003 := n2_; have BK330 := n3_; have HB := n4_; clear n0_ n1_ n2_ n3_ n4_; (try clear hb); (try clear hb2); (try clear hk); (try clear hi)) | ((with_reducible refine gate_callee (f := 21) rfl ?_); refine goesL_ (some 85) rfl rfl Tryd.func21 (by kernel_rfl) rfl #[.string t336,.string t343] rfl b13_1 ?_; (with_reducible refine (impl_CountBits.calls k3 t336 t343 t346 false _ A37.out).mono ?_); rintro e w62 ⟨rfl,hb⟩; refine ⟨_,rfl,?_⟩; have n0_ := Aside0.mk (Kd.R_below b13_5 hb); have n1_ := Aside0.mk (Kd.R_below b13_3 hb); have n2_ := Aside0.mk (Kd.R_below b13_4 hb); have n3_ := Aside0.mk (blk_below (g := gb330) (o := .cells #[.int .i64 t322,.int .i64 t323,.slice Ao13 t324.length co13,.slice Ao14 t327.length co14] 26 (0,0)) b13_2 hb); have n4_ := Aside0.mk (below_step b13_0 hb); clear HO_12; clear HO_331002; clear HO_331003; clear BK330; clear HB; have HO_12 := n0_; have HO_331002 := n1_; have HO_331003 := n2_; have BK330 := n3_; have HB := n4_; clear n0_ n1_ n2_ n3_ n4_; (try clear hb); (try clear hb2); (try clear hk); (try clear hi); obtain ⟨Ao63,co63,eo63⟩ := Kd.R_slice HO_12.out; subst eo63; have p348 : 0 ≤ (x14_3 : Int) := of_decide_eq_true b13_11; have q348 : x14_3 < (t339.length : Int) := of_decide_eq_true b13_11; obtain ⟨ad348,e348,hx348_0⟩ := Kd.at_string (Kd.R_reads' HO_12.out).2.2 x14_3 p348 q348; cases e348; replace p348 := eq_true p348; replace q348 := eq_true q348))
                  go_ret
                  exact ⟨b13_6,b13_0⟩
                ·rw [if_neg c46] at H
                 have c46b0 : ((rdOf ByteArray.empty t339 x14_3).toList == t343.toList) = false := beq_eq_false_iff_ne.mpr c46
                 have c46b1 : ((rdOf ByteArray.empty t339 x14_3).toList != t343.toList) = true := bne_iff_ne.mpr c46
                 obtain rfl := Option.some.inj H
                 go_wp2_with (first | ((with_reducible refine gate_callee (f := 19) rfl ?_); refine goesL_ (some 73) rfl rfl Tryd.func19 (by kernel_rfl) rfl #[.int .i64 x15_3,.int .i64 x8_8] rfl b13_1 ?_; (with_reducible refine (spec_BitsOf.calls k3 x15_3 x8_8 t343 true _ A33.out).mono ?_); rintro e w64 ⟨rfl,hb⟩; refine ⟨_,rfl,?_⟩; have n0_ := Aside0.mk (Kd.R_below b13_5 hb); have n1_ := Aside0.mk (Kd.R_below b13_3 hb); have n2_ := Aside0.mk (Kd.R_below b13_4 hb); have n3_ := Aside0.mk (blk_below (g := gb330) (o := .cells #[.int .i64 t322,.int .i64 t323,.slice Ao13 t324.length co13,.slice Ao14 t327.length co14] 26 (0,0)) b13_2 hb); have n4_ := Aside0.mk (below_step b13_0 hb); clear HO_12; clear HO_331002; clear HO_331003; clear BK330; clear HB; have HO_12 := n0_; have HO_331002 := n1_; have HO_331003 := n2_; have BK330 := n3_; have HB := n4_; clear n0_ n1_ n2_ n3_ n4_; (try clear hb); (try clear hb2); (try clear hk); (try clear hi); have hcz65_0 : w64.cell? ⟨gb330,0,none⟩ = some (.int .i64 t322) := (blk_cell BK330.out 0).trans rfl; have hcz65_1 : w64.cell? ⟨gb330,1,none⟩ = some (.int .i64 t323) := (blk_cell BK330.out 1).trans rfl; have hcz65_2 : w64.cell? ⟨gb330,2,none⟩ = some (.slice Ao13 t324.length co13) := (blk_cell BK330.out 2).trans rfl; have hcz65_3 : w64.cell? ⟨gb330,3,none⟩ = some (.slice Ao14 t327.length co14) := (blk_cell BK330.out 3).trans rfl; have hfz65_0 := blk_frozen BK330.out 0; have hfz65_1 := blk_frozen BK330.out 1; have hfz65_2 := blk_frozen BK330.out 2; have hfz65_3 := blk_frozen BK330.out 3) | ((with_reducible refine gate_callee (f := 20) rfl ?_); refine goesL_ (some 80) rfl rfl Tryd.func20 (by kernel_rfl) rfl #[.agg #[.int .i64 t322,.int .i64 t323,.slice Ao13 t324.length co13,.slice Ao14 t327.length co14],.string t343] rfl b13_1 ?_; (with_reducible refine (impl_IsComma.calls k3 t322 t323 _ _ t324 _ _ t327 t343 true _ ?side1 ?side2 ?side3 ?side4 A35.out).mono ?_); (case side1 => repeat (first | exact (Kd.R_reads' HO_331002.out).2.2 | (with_reducible refine Kd.C_alloc ?_ _) | (with_reducible refine Kd.C_drewN ?_ _) | (with_reducible refine Kd.C_drew ?_))); (case side2 => exact (Kd.R_reads' HO_331002.out).2.1); (case side3 => repeat (first | exact (Kd.R_reads' HO_331003.out).2.2 | (with_reducible refine Kd.C_alloc ?_ _) | (with_reducible refine Kd.C_drewN ?_ _) | (with_reducible refine Kd.C_drew ?_))); (case side4 => exact (Kd.R_reads' HO_331003.out).2.1); rintro e w66 ⟨rfl,hb⟩; refine ⟨_,rfl,?_⟩; have n0_ := Aside0.mk (Kd.R_below b13_5 hb); have n1_ := Aside0.mk (Kd.R_below b13_3 hb); have n2_ := Aside0.mk (Kd.R_below b13_4 hb); have n3_ := Aside0.mk (blk_below (g := gb330) (o := .cells #[.int .i64 t322,.int .i64 t323,.slice Ao13 t324.length co13,.slice Ao14 t327.length co14] 26 (0,0)) b13_2 hb); have n4_ := Aside0.mk (below_step b13_0 hb); clear HO_12; clear HO_331002; clear HO_331003; clear BK330; clear HB; have HO_12 := n0_; have HO_331002 := n1_; have HO_331003 := n2_; have BK330 := n3_; have HB := n4_; clear n0_ n1_ n2_ n3_ n4_; (try clear hb); (try clear hb2); (try clear hk); (try clear hi)) | ((with_reducible refine gate_callee (f := 21) rfl ?_); refine goesL_ (some 85) rfl rfl Tryd.func21 (by kernel_rfl) rfl #[.string t336,.string t343] rfl b13_1 ?_; (with_reducible refine (impl_CountBits.calls k3 t336 t343 t346 t347 _ A37.out).mono ?_); rintro e w67 ⟨rfl,hb⟩; refine ⟨_,rfl,?_⟩; have n0_ := Aside0.mk (Kd.R_below b13_5 hb); have n1_ := Aside0.mk (Kd.R_below b13_3 hb); have n2_ := Aside0.mk (Kd.R_below b13_4 hb); have n3_ := Aside0.mk (blk_below (g := gb330) (o := .cells #[.int .i64 t322,.int .i64 t323,.slice Ao13 t324.length co13,.slice Ao14 t327.length co14] 26 (0,0)) b13_2 hb); have n4_ := Aside0.mk (below_step b13_0 hb); clear HO_12; clear HO_331002; clear HO_331003; clear BK330; clear HB; have HO_12 := n0_; have HO_331002 := n1_; have HO_331003 := n2_; have BK330 := n3_; have HB := n4_; clear n0_ n1_ n2_ n3_ n4_; (try clear hb); (try clear hb2); (try clear hk); (try clear hi); obtain ⟨Ao68,co68,eo68⟩ := Kd.R_slice HO_12.out; subst eo68; have p348 : 0 ≤ (x14_3 : Int) := of_decide_eq_true b13_11; have q348 : x14_3 < (t339.length : Int) := of_decide_eq_true b13_11; obtain ⟨ad348,e348,hx348_0⟩ := Kd.at_string (Kd.R_reads' HO_12.out).2.2 x14_3 p348 q348; cases e348; replace p348 := eq_true p348; replace q348 := eq_true q348))
                 go_ret
                 exact ⟨b13_6,b13_0⟩
               ·rw [if_neg c45] at H
                exact absurd H (by simp)
              ·rw [if_neg c44] at H
               exact absurd H (by simp)
            ·replace c36 := Bool.eq_false_iff.mpr c36
             subst c36
             have H1 : (laws_FnCommas.l0 k3 x8_8 t336 t339 x14_3 (wrap64 (x15_3 + 1)) t322 t323 t324 t327) = some r := by rw [if_neg (show ¬ (false = true) by decide)] at H; exact H
             clear H
             have H := H1
             clear H1
             have H' := Aside0.mk H
             clear H
             go_wp2_with (first | ((with_reducible refine gate_callee (f := 19) rfl ?_); refine goesL_ (some 73) rfl rfl Tryd.func19 (by kernel_rfl) rfl #[.int .i64 x15_3,.int .i64 x8_8] rfl b13_1 ?_; (with_reducible refine (spec_BitsOf.calls k3 x15_3 x8_8 t343 true _ A33.out).mono ?_); rintro e w69 ⟨rfl,hb⟩; refine ⟨_,rfl,?_⟩; have n0_ := Aside0.mk (Kd.R_below b13_5 hb); have n1_ := Aside0.mk (Kd.R_below b13_3 hb); have n2_ := Aside0.mk (Kd.R_below b13_4 hb); have n3_ := Aside0.mk (blk_below (g := gb330) (o := .cells #[.int .i64 t322,.int .i64 t323,.slice Ao13 t324.length co13,.slice Ao14 t327.length co14] 26 (0,0)) b13_2 hb); have n4_ := Aside0.mk (below_step b13_0 hb); clear HO_12; clear HO_331002; clear HO_331003; clear BK330; clear HB; have HO_12 := n0_; have HO_331002 := n1_; have HO_331003 := n2_; have BK330 := n3_; have HB := n4_; clear n0_ n1_ n2_ n3_ n4_; (try clear hb); (try clear hb2); (try clear hk); (try clear hi); have hcz70_0 : w69.cell? ⟨gb330,0,none⟩ = some (.int .i64 t322) := (blk_cell BK330.out 0).trans rfl; have hcz70_1 : w69.cell? ⟨gb330,1,none⟩ = some (.int .i64 t323) := (blk_cell BK330.out 1).trans rfl; have hcz70_2 : w69.cell? ⟨gb330,2,none⟩ = some (.slice Ao13 t324.length co13) := (blk_cell BK330.out 2).trans rfl; have hcz70_3 : w69.cell? ⟨gb330,3,none⟩ = some (.slice Ao14 t327.length co14) := (blk_cell BK330.out 3).trans rfl; have hfz70_0 := blk_frozen BK330.out 0; have hfz70_1 := blk_frozen BK330.out 1; have hfz70_2 := blk_frozen BK330.out 2; have hfz70_3 := blk_frozen BK330.out 3) | ((with_reducible refine gate_callee (f := 20) rfl ?_); refine goesL_ (some 80) rfl rfl Tryd.func20 (by kernel_rfl) rfl #[.agg #[.int .i64 t322,.int .i64 t323,.slice Ao13 t324.length co13,.slice Ao14 t327.length co14],.string t343] rfl b13_1 ?_; (with_reducible refine (impl_IsComma.calls k3 t322 t323 _ _ t324 _ _ t327 t343 false _ ?side1 ?side2 ?side3 ?side4 A35.out).mono ?_); (case side1 => repeat (first | exact (Kd.R_reads' HO_331002.out).2.2 | (with_reducible refine Kd.C_alloc ?_ _) | (with_reducible refine Kd.C_drewN ?_ _) | (with_reducible refine Kd.C_drew ?_))); (case side2 => exact (Kd.R_reads' HO_331002.out).2.1); (case side3 => repeat (first | exact (Kd.R_reads' HO_331003.out).2.2 | (with_reducible refine Kd.C_alloc ?_ _) | (with_reducible refine Kd.C_drewN ?_ _) | (with_reducible refine Kd.C_drew ?_))); (case side4 => exact (Kd.R_reads' HO_331003.out).2.1); rintro e w71 ⟨rfl,hb⟩; refine ⟨_,rfl,?_⟩; have n0_ := Aside0.mk (Kd.R_below b13_5 hb); have n1_ := Aside0.mk (Kd.R_below b13_3 hb); have n2_ := Aside0.mk (Kd.R_below b13_4 hb); have n3_ := Aside0.mk (blk_below (g := gb330) (o := .cells #[.int .i64 t322,.int .i64 t323,.slice Ao13 t324.length co13,.slice Ao14 t327.length co14] 26 (0,0)) b13_2 hb); have n4_ := Aside0.mk (below_step b13_0 hb); clear HO_12; clear HO_331002; clear HO_331003; clear BK330; clear HB; have HO_12 := n0_; have HO_331002 := n1_; have HO_331003 := n2_; have BK330 := n3_; have HB := n4_; clear n0_ n1_ n2_ n3_ n4_; (try clear hb); (try clear hb2); (try clear hk); (try clear hi)))
             go_roundg k3
             case measure => have := HJ8.out; have := HJ20.out; have := HK3.out; omega
             case rel => exact ⟨(x14_3),(wrap64 (x15_3 + 1)),b13_10,b13_10,H',⟨by have := HJ8.out; have := HJ20.out; have := HK3.out; omega⟩,⟨b13_5⟩,⟨b13_3⟩,⟨b13_4⟩,⟨b13_2⟩,⟨b13_0⟩⟩
           ·replace c34 := Bool.eq_false_iff.mpr c34
            subst c34
            have H1 : (some false) = some r := by rw [if_neg (show ¬ (false = true) by decide)] at H; exact H
            clear H
            have H := H1
            clear H1
            obtain rfl := Option.some.inj H
            go_wp2_with (first | ((with_reducible refine gate_callee (f := 19) rfl ?_); refine goesL_ (some 73) rfl rfl Tryd.func19 (by kernel_rfl) rfl #[.int .i64 x15_3,.int .i64 x8_8] rfl b13_1 ?_; (with_reducible refine (spec_BitsOf.calls k3 x15_3 x8_8 t343 false _ A33.out).mono ?_); rintro e w72 ⟨rfl,hb⟩; refine ⟨_,rfl,?_⟩; have n0_ := Aside0.mk (Kd.R_below b13_5 hb); have n1_ := Aside0.mk (Kd.R_below b13_3 hb); have n2_ := Aside0.mk (Kd.R_below b13_4 hb); have n3_ := Aside0.mk (blk_below (g := gb330) (o := .cells #[.int .i64 t322,.int .i64 t323,.slice Ao13 t324.length co13,.slice Ao14 t327.length co14] 26 (0,0)) b13_2 hb); have n4_ := Aside0.mk (below_step b13_0 hb); clear HO_12; clear HO_331002; clear HO_331003; clear BK330; clear HB; have HO_12 := n0_; have HO_331002 := n1_; have HO_331003 := n2_; have BK330 := n3_; have HB := n4_; clear n0_ n1_ n2_ n3_ n4_; (try clear hb); (try clear hb2); (try clear hk); (try clear hi)))
            go_ret
            exact ⟨b13_6,b13_0⟩
          ·rw [if_neg c32] at H
           have c32b0 : decide (x15_3 < (ji31)) = false := decide_eq_false c32
           clear c32
           obtain rfl := Option.some.inj H
           obtain ⟨Ao73,co73,eo73⟩ := Kd.R_slice HO_12.out
           subst eo73
           go_wp2
           go_ret
           exact ⟨b13_6,b13_0⟩
         ·rw [if_neg c30] at H
          exact absurd H (by simp)

/-- THE ONE PURE STATEMENT of laws_FnCommas. -/
def laws_FnCommas.Pure : Prop := ∀ (l0 : List Int) (l1 : List Int),l0.length ≤ 9223372036854775807 → (∀ x ∈ l0,(Lit.int .u8 x).wf = true) → l1.length ≤ 9223372036854775807 → (∀ x ∈ l1,(Lit.int .u8 x).wf = true) → ∃ k,laws_FnCommas.f k l0 l1 = some true

end Go.Proofs.YtegeaoiclepkkabDoor.QFnCommas
