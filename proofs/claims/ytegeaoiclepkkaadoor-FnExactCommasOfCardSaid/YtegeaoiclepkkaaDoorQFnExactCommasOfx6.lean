/-
Each Go function that this text names answers as the Lean function beside it says,wherever that one answers; conditions: the arguments lie in memory as each theorem states it.
-/
import Derived.Test.YtegeaoiclepkkaaDoorQFnExactCommasOfx0
import Derived.Test.YtegeaoiclepkkaaDoorQFnExactCommasOfx2
import Derived.Test.YtegeaoiclepkkaaDoorQFnExactCommasOfx4
import Derived.Test.YtegeaoiclepkkaaDoorQFnExactCommasOfx5
namespace Go.Proofs.YtegeaoiclepkkaaDoor.QFnExactCommasOf
open Go.RowKit Go.Proofs.YtegeaoiclepkkaaDoorW.PrintWords Go.Proofs.YtegeaoiclepkkaaDoorW.PrintLast Go.Proofs.YtegeaoiclepkkaaDoorW.PrintMore
attribute [local go_sem] max2_int min2_int max_two min_two max_three min_three max_four min_four   -- for this text's walks alone
set_option linter.unusedVariables false
set_option linter.unusedSimpArgs false

/-! ### spec_CommasOf: function 34 -/
mutual
def spec_CommasOf.j0 : Nat → Int → Bool → Int → Int → List ByteArray → List ByteArray → Option (List ByteArray × Bool)
 | 0,_,_,_,_,_,_ => none
 | k + 1,x1,x26,x162000,x162001,x162002,x162003 => if x26 = true then (some (([] : List ByteArray),false)) else (if 0 ≤ (IntKind.u64.wrap (x1)) then (if 0 ≤ (shl .i64 1 (IntKind.u64.wrap (x1))) then (if (shl .i64 1 (IntKind.u64.wrap (x1)) : Int).toNat ≤ 281474976710656 then (spec_CommasOf.l0 k x1 (List.replicate (shl .i64 1 (IntKind.u64.wrap (x1)) : Int).toNat false) (-1) x162000 x162001 x162002 x162003) else (none)) else (none)) else (none))
def spec_CommasOf.l0 : Nat → Int → List Bool → Int → Int → Int → List ByteArray → List ByteArray → Option (List ByteArray × Bool)
 | 0,_,_,_,_,_,_,_ => none
 | k + 1,x1,x6,x7,x162000,x162001,x162002,x162003 => if x7 ≤ 1 then (if x7 < 0 then ((spec_l03List_neg.f x162000 x162001 x162002 x162003 x7).bind fun _ => (spec_CommasOf.l1 k x1 x6 x7 x162002 0 x162000 x162001 x162002 x162003)) else ((spec_l03List_pos.f x162000 x162001 x162002 x162003 x7).bind fun _ => (spec_CommasOf.l101 k x1 x6 x7 x162003 0 x162000 x162001 x162002 x162003))) else (spec_CommasOf.l4 k x1 x6 (([] : List ByteArray)) 0)
def spec_CommasOf.l1 : Nat → Int → List Bool → Int → List ByteArray → Int → Int → Int → List ByteArray → List ByteArray → Option (List ByteArray × Bool)
 | 0,_,_,_,_,_,_,_,_,_ => none
 | k + 1,x1,x6,x7,x8,x9,x162000,x162001,x162002,x162003 => if x9 < (x8.length : Int) then (if 0 ≤ x9 then ((spec_l03Next.f k x7 (rdOf ByteArray.empty x8 x9)).bind fun t169 => (if t169 < 0 then ((spec_l03List_neg.f x162000 x162001 x162002 x162003 t169).bind fun _ => (spec_CommasOf.l2 k x1 x6 x7 x8 x9 x162002 0 x162000 x162001 x162002 x162003)) else ((spec_l03List_pos.f x162000 x162001 x162002 x162003 t169).bind fun _ => (spec_CommasOf.l102 k x1 x6 x7 x8 x9 x162003 0 x162000 x162001 x162002 x162003)))) else (none)) else (spec_CommasOf.l0 k x1 x6 (wrap64 (x7 + 2)) x162000 x162001 x162002 x162003)
def spec_CommasOf.l2 : Nat → Int → List Bool → Int → List ByteArray → Int → List ByteArray → Int → Int → Int → List ByteArray → List ByteArray → Option (List ByteArray × Bool)
 | 0,_,_,_,_,_,_,_,_,_,_,_ => none
 | k + 1,x1,x6,x7,x8,x9,x10,x11,x162000,x162001,x162002,x162003 => if x11 < (x10.length : Int) then (if 0 ≤ x9 then (if x9 < (x8.length : Int) then (if 0 ≤ x11 then (if (rdOf ByteArray.empty x8 x9).size + (rdOf ByteArray.empty x10 x11).size ≤ 9223372036854775807 then (spec_CommasOf.l3 k x1 x6 x7 x8 x9 x10 x11 ((rdOf ByteArray.empty x8 x9) ++ (rdOf ByteArray.empty x10 x11)) 0 x162000 x162001 x162002 x162003) else (none)) else (none)) else (none)) else (none)) else (spec_CommasOf.l1 k x1 x6 x7 x8 (wrap64 (x9 + 1)) x162000 x162001 x162002 x162003)
def spec_CommasOf.l3 : Nat → Int → List Bool → Int → List ByteArray → Int → List ByteArray → Int → ByteArray → Int → Int → Int → List ByteArray → List ByteArray → Option (List ByteArray × Bool)
 | 0,_,_,_,_,_,_,_,_,_,_,_,_,_ => none
 | k + 1,x1,x6,x7,x8,x9,x10,x11,x12,x13,x162000,x162001,x162002,x162003 => if (wrap64 (x13 + x1)) ≤ (wrap64 (2 * x162001)) then (if 0 ≤ x13 then (if x13 ≤ (wrap64 (x13 + x1)) then (if (wrap64 (x13 + x1)) ≤ (x12.size : Int) then ((spec_l01Number.f k (x12.extract (x13 : Int).toNat ((wrap64 (x13 + x1)) : Int).toNat)).bind fun t172 => (if 0 ≤ t172 then (if t172 < (x6.length : Int) then (spec_CommasOf.l3 k x1 (x6.set (t172 : Int).toNat true) x7 x8 x9 x10 x11 x12 (wrap64 (x13 + 1)) x162000 x162001 x162002 x162003) else (none)) else (none))) else (none)) else (none)) else (none)) else (spec_CommasOf.l2 k x1 x6 x7 x8 x9 x10 (wrap64 (x11 + 1)) x162000 x162001 x162002 x162003)
def spec_CommasOf.l102 : Nat → Int → List Bool → Int → List ByteArray → Int → List ByteArray → Int → Int → Int → List ByteArray → List ByteArray → Option (List ByteArray × Bool)
 | 0,_,_,_,_,_,_,_,_,_,_,_ => none
 | k + 1,x1,x6,x7,x8,x9,x10,x11,x162000,x162001,x162002,x162003 => if x11 < (x10.length : Int) then (if 0 ≤ x9 then (if x9 < (x8.length : Int) then (if 0 ≤ x11 then (if (rdOf ByteArray.empty x8 x9).size + (rdOf ByteArray.empty x10 x11).size ≤ 9223372036854775807 then (spec_CommasOf.l103 k x1 x6 x7 x8 x9 x10 x11 ((rdOf ByteArray.empty x8 x9) ++ (rdOf ByteArray.empty x10 x11)) 0 x162000 x162001 x162002 x162003) else (none)) else (none)) else (none)) else (none)) else (spec_CommasOf.l1 k x1 x6 x7 x8 (wrap64 (x9 + 1)) x162000 x162001 x162002 x162003)
def spec_CommasOf.l103 : Nat → Int → List Bool → Int → List ByteArray → Int → List ByteArray → Int → ByteArray → Int → Int → Int → List ByteArray → List ByteArray → Option (List ByteArray × Bool)
 | 0,_,_,_,_,_,_,_,_,_,_,_,_,_ => none
 | k + 1,x1,x6,x7,x8,x9,x10,x11,x12,x13,x162000,x162001,x162002,x162003 => if (wrap64 (x13 + x1)) ≤ (wrap64 (2 * x162001)) then (if 0 ≤ x13 then (if x13 ≤ (wrap64 (x13 + x1)) then (if (wrap64 (x13 + x1)) ≤ (x12.size : Int) then ((spec_l01Number.f k (x12.extract (x13 : Int).toNat ((wrap64 (x13 + x1)) : Int).toNat)).bind fun t176 => (if 0 ≤ t176 then (if t176 < (x6.length : Int) then (spec_CommasOf.l103 k x1 (x6.set (t176 : Int).toNat true) x7 x8 x9 x10 x11 x12 (wrap64 (x13 + 1)) x162000 x162001 x162002 x162003) else (none)) else (none))) else (none)) else (none)) else (none)) else (spec_CommasOf.l102 k x1 x6 x7 x8 x9 x10 (wrap64 (x11 + 1)) x162000 x162001 x162002 x162003)
def spec_CommasOf.l101 : Nat → Int → List Bool → Int → List ByteArray → Int → Int → Int → List ByteArray → List ByteArray → Option (List ByteArray × Bool)
 | 0,_,_,_,_,_,_,_,_,_ => none
 | k + 1,x1,x6,x7,x8,x9,x162000,x162001,x162002,x162003 => if x9 < (x8.length : Int) then (if 0 ≤ x9 then ((spec_l03Next.f k x7 (rdOf ByteArray.empty x8 x9)).bind fun t179 => (if t179 < 0 then ((spec_l03List_neg.f x162000 x162001 x162002 x162003 t179).bind fun _ => (spec_CommasOf.l202 k x1 x6 x7 x8 x9 x162002 0 x162000 x162001 x162002 x162003)) else ((spec_l03List_pos.f x162000 x162001 x162002 x162003 t179).bind fun _ => (spec_CommasOf.l302 k x1 x6 x7 x8 x9 x162003 0 x162000 x162001 x162002 x162003)))) else (none)) else (spec_CommasOf.l0 k x1 x6 (wrap64 (x7 + 2)) x162000 x162001 x162002 x162003)
def spec_CommasOf.l202 : Nat → Int → List Bool → Int → List ByteArray → Int → List ByteArray → Int → Int → Int → List ByteArray → List ByteArray → Option (List ByteArray × Bool)
 | 0,_,_,_,_,_,_,_,_,_,_,_ => none
 | k + 1,x1,x6,x7,x8,x9,x10,x11,x162000,x162001,x162002,x162003 => if x11 < (x10.length : Int) then (if 0 ≤ x9 then (if x9 < (x8.length : Int) then (if 0 ≤ x11 then (if (rdOf ByteArray.empty x8 x9).size + (rdOf ByteArray.empty x10 x11).size ≤ 9223372036854775807 then (spec_CommasOf.l203 k x1 x6 x7 x8 x9 x10 x11 ((rdOf ByteArray.empty x8 x9) ++ (rdOf ByteArray.empty x10 x11)) 0 x162000 x162001 x162002 x162003) else (none)) else (none)) else (none)) else (none)) else (spec_CommasOf.l101 k x1 x6 x7 x8 (wrap64 (x9 + 1)) x162000 x162001 x162002 x162003)
def spec_CommasOf.l203 : Nat → Int → List Bool → Int → List ByteArray → Int → List ByteArray → Int → ByteArray → Int → Int → Int → List ByteArray → List ByteArray → Option (List ByteArray × Bool)
 | 0,_,_,_,_,_,_,_,_,_,_,_,_,_ => none
 | k + 1,x1,x6,x7,x8,x9,x10,x11,x12,x13,x162000,x162001,x162002,x162003 => if (wrap64 (x13 + x1)) ≤ (wrap64 (2 * x162001)) then (if 0 ≤ x13 then (if x13 ≤ (wrap64 (x13 + x1)) then (if (wrap64 (x13 + x1)) ≤ (x12.size : Int) then ((spec_l01Number.f k (x12.extract (x13 : Int).toNat ((wrap64 (x13 + x1)) : Int).toNat)).bind fun t182 => (if 0 ≤ t182 then (if t182 < (x6.length : Int) then (spec_CommasOf.l203 k x1 (x6.set (t182 : Int).toNat true) x7 x8 x9 x10 x11 x12 (wrap64 (x13 + 1)) x162000 x162001 x162002 x162003) else (none)) else (none))) else (none)) else (none)) else (none)) else (spec_CommasOf.l202 k x1 x6 x7 x8 x9 x10 (wrap64 (x11 + 1)) x162000 x162001 x162002 x162003)
def spec_CommasOf.l302 : Nat → Int → List Bool → Int → List ByteArray → Int → List ByteArray → Int → Int → Int → List ByteArray → List ByteArray → Option (List ByteArray × Bool)
 | 0,_,_,_,_,_,_,_,_,_,_,_ => none
 | k + 1,x1,x6,x7,x8,x9,x10,x11,x162000,x162001,x162002,x162003 => if x11 < (x10.length : Int) then (if 0 ≤ x9 then (if x9 < (x8.length : Int) then (if 0 ≤ x11 then (if (rdOf ByteArray.empty x8 x9).size + (rdOf ByteArray.empty x10 x11).size ≤ 9223372036854775807 then (spec_CommasOf.l303 k x1 x6 x7 x8 x9 x10 x11 ((rdOf ByteArray.empty x8 x9) ++ (rdOf ByteArray.empty x10 x11)) 0 x162000 x162001 x162002 x162003) else (none)) else (none)) else (none)) else (none)) else (spec_CommasOf.l101 k x1 x6 x7 x8 (wrap64 (x9 + 1)) x162000 x162001 x162002 x162003)
def spec_CommasOf.l303 : Nat → Int → List Bool → Int → List ByteArray → Int → List ByteArray → Int → ByteArray → Int → Int → Int → List ByteArray → List ByteArray → Option (List ByteArray × Bool)
 | 0,_,_,_,_,_,_,_,_,_,_,_,_,_ => none
 | k + 1,x1,x6,x7,x8,x9,x10,x11,x12,x13,x162000,x162001,x162002,x162003 => if (wrap64 (x13 + x1)) ≤ (wrap64 (2 * x162001)) then (if 0 ≤ x13 then (if x13 ≤ (wrap64 (x13 + x1)) then (if (wrap64 (x13 + x1)) ≤ (x12.size : Int) then ((spec_l01Number.f k (x12.extract (x13 : Int).toNat ((wrap64 (x13 + x1)) : Int).toNat)).bind fun t186 => (if 0 ≤ t186 then (if t186 < (x6.length : Int) then (spec_CommasOf.l303 k x1 (x6.set (t186 : Int).toNat true) x7 x8 x9 x10 x11 x12 (wrap64 (x13 + 1)) x162000 x162001 x162002 x162003) else (none)) else (none))) else (none)) else (none)) else (none)) else (spec_CommasOf.l302 k x1 x6 x7 x8 x9 x10 (wrap64 (x11 + 1)) x162000 x162001 x162002 x162003)
def spec_CommasOf.l4 : Nat → Int → List Bool → List ByteArray → Int → Option (List ByteArray × Bool)
 | 0,_,_,_,_ => none
 | k + 1,x1,x6,x14,x15 => if x15 < (x6.length : Int) then (if 0 ≤ x15 then (if rdOf false x6 x15 = true then (spec_CommasOf.l4 k x1 x6 x14 (wrap64 (x15 + 1))) else ((spec_l01Digits.f k x15 x1).bind fun t192 => (if x14.length < 8796093022208 then (spec_CommasOf.l4 k x1 x6 (x14 ++ [t192]) (wrap64 (x15 + 1))) else (none)))) else (none)) else (some (x14,true))
end
def spec_CommasOf.f (k : Nat) (a0_0 : Int) (a0_1 : Int) (l0_2 : List ByteArray) (l0_3 : List ByteArray) (a1 : Int) : Option (List ByteArray × Bool) := (spec_l03Is.f k a0_0 a0_1 l0_2 l0_3).bind fun t162 => (if t162 = true then ((spec_l00Min.f 8 (wrap64 (a0_1 + 1))).bind fun t163 => ((spec_l00In.f a1 1 t163).bind fun t164 => (spec_CommasOf.j0 k a1 (!t164) a0_0 a0_1 l0_2 l0_3))) else (spec_CommasOf.j0 k a1 true a0_0 a0_1 l0_2 l0_3))
set_option maxHeartbeats 8000000 in
set_option maxRecDepth 100000 in
theorem spec_CommasOf.calls (k : Nat) (a0_0 : Int) (a0_1 : Int) (A0_2 : Option Addr) (c0_2 : Nat) (l0_2 : List ByteArray) (A0_3 : Option Addr) (c0_3 : Nat) (l0_3 : List ByteArray) (a1 : Int) (r1 : List ByteArray) (r2 : Bool) (w : World) (hr0_2 : Kd.C Kd.string w A0_2 l0_2.length l0_2) (hc0_2 : l0_2.length ≤ c0_2) (hr0_3 : Kd.C Kd.string w A0_3 l0_3.length l0_3) (hc0_3 : l0_3.length ≤ c0_3) (h : spec_CommasOf.f k a0_0 a0_1 l0_2 l0_3 a1 = some (r1,r2)) :
  Calls Tryd.prog 34 #[.agg #[.int .i64 a0_0,.int .i64 a0_1,.slice A0_2 l0_2.length c0_2,.slice A0_3 l0_3.length c0_3],.int .i64 a1] w fun e w' => ∃ v0_ : Value,e = .returned (.tuple #[v0_,.bool r2]) ∧ Kd.R Kd.string 9 w' w.heap.size (fun _ => True) v0_ r1 ∧ Below w.heap.size w w' := by
 have hu30 := Tryd.underlying30
 have HR0_2 := Aside0.mk hr0_2
 have HC0_2 := Aside0.mk hc0_2
 clear hr0_2 hc0_2
 have HR0_3 := Aside0.mk hr0_3
 have HC0_3 := Aside0.mk hc0_3
 clear hr0_3 hc0_3
 have HB := Aside0.mk (Below.refl w.heap.size w)
 have H : ((spec_l03Is.f k a0_0 a0_1 l0_2 l0_3).bind fun t162 => (if t162 = true then ((spec_l00Min.f 8 (wrap64 (a0_1 + 1))).bind fun t163 => ((spec_l00In.f a1 1 t163).bind fun t164 => (spec_CommasOf.j0 k a1 (!t164) a0_0 a0_1 l0_2 l0_3))) else (spec_CommasOf.j0 k a1 true a0_0 a0_1 l0_2 l0_3))) = some (r1,r2) := h
 clear h
 have HC3 := Aside0.mk H
 clear H
 go_enter Tryd.func34,Tryd.ntmps34
 go_upto_region 1 with (first | ((with_reducible refine gate_dst (N := 2) rfl ?_); refine box_event ?hg (N := 2) ?hd (cs := #[.int .i64 a0_0,.int .i64 a0_1,.slice A0_2 l0_2.length c0_2,.slice A0_3 l0_3.length c0_3]) (t := 30) ?hr ?_; (case hd => rfl); (case hg => rfl); (case hr => first | (go_simp; done) | (go_simp; rfl)); intro gb161 hg w4 hbox hb; have n0_ := Aside0.mk (below_step (by repeat (first | (with_reducible first | exact HB.out | apply below_alloc | apply pw_below_drewN | apply below_drew1) | exact HB.out)) hb); have n1_ := Aside0.mk (hbox); have n2_ := Aside0.mk ((by rw [hg]; exact (below_size (by repeat (first | (with_reducible first | exact HB.out | apply below_alloc | apply pw_below_drewN | apply below_drew1) | exact HB.out))) : w.heap.size ≤ gb161)); have n3_ := Aside0.mk ((by rw [hg]; exact (below_size (by repeat (first | (with_reducible first | exact HB.out | apply below_alloc | apply pw_below_drewN | apply below_drew1) | exact HB.out))) : w.heap.size ≤ gb161)); clear HB; have HB := n0_; have BK161 := n1_; have GW161 := n2_; have GE161 := n3_; clear n0_ n1_ n2_ n3_; clear hb hbox hg))
 repeat (go_quiet (first | ((with_reducible refine gate_dst (N := 2) rfl ?_); refine box_event ?hg (N := 2) ?hd (cs := #[.int .i64 a0_0,.int .i64 a0_1,.slice A0_2 l0_2.length c0_2,.slice A0_3 l0_3.length c0_3]) (t := 30) ?hr ?_; (case hd => rfl); (case hg => rfl); (case hr => first | (go_simp; done) | (go_simp; rfl)); intro gb161 hg w4 hbox hb; have n0_ := Aside0.mk (below_step (by repeat (first | (with_reducible first | exact HB.out | apply below_alloc | apply pw_below_drewN | apply below_drew1) | exact HB.out)) hb); have n1_ := Aside0.mk (hbox); have n2_ := Aside0.mk ((by rw [hg]; exact (below_size (by repeat (first | (with_reducible first | exact HB.out | apply below_alloc | apply pw_below_drewN | apply below_drew1) | exact HB.out))) : w.heap.size ≤ gb161)); have n3_ := Aside0.mk ((by rw [hg]; exact (below_size (by repeat (first | (with_reducible first | exact HB.out | apply below_alloc | apply pw_below_drewN | apply below_drew1) | exact HB.out))) : w.heap.size ≤ gb161)); clear HB; have HB := n0_; have BK161 := n1_; have GW161 := n2_; have GE161 := n3_; clear n0_ n1_ n2_ n3_; clear hb hbox hg)); go_upto_region 1 with (first | ((with_reducible refine gate_dst (N := 2) rfl ?_); refine box_event ?hg (N := 2) ?hd (cs := #[.int .i64 a0_0,.int .i64 a0_1,.slice A0_2 l0_2.length c0_2,.slice A0_3 l0_3.length c0_3]) (t := 30) ?hr ?_; (case hd => rfl); (case hg => rfl); (case hr => first | (go_simp; done) | (go_simp; rfl)); intro gb161 hg w4 hbox hb; have n0_ := Aside0.mk (below_step (by repeat (first | (with_reducible first | exact HB.out | apply below_alloc | apply pw_below_drewN | apply below_drew1) | exact HB.out)) hb); have n1_ := Aside0.mk (hbox); have n2_ := Aside0.mk ((by rw [hg]; exact (below_size (by repeat (first | (with_reducible first | exact HB.out | apply below_alloc | apply pw_below_drewN | apply below_drew1) | exact HB.out))) : w.heap.size ≤ gb161)); have n3_ := Aside0.mk ((by rw [hg]; exact (below_size (by repeat (first | (with_reducible first | exact HB.out | apply below_alloc | apply pw_below_drewN | apply below_drew1) | exact HB.out))) : w.heap.size ≤ gb161)); clear HB; have HB := n0_; have BK161 := n1_; have GW161 := n2_; have GE161 := n3_; clear n0_ n1_ n2_ n3_; clear hb hbox hg)))
 (try simp only [Act.put,List.setIfInBounds_toArray,List.set_cons_zero,List.set_cons_succ])
 go_cut [26] (fun v26 wc => ∃ (kq : Nat) (x26_2 : Bool),v26 = .bool x26_2 ∧ Aside0 (spec_CommasOf.j0 kq a1 x26_2 a0_0 a0_1 l0_2 l0_3 = some (r1,r2)) ∧ Aside0 (kq ≤ k) ∧ Aside0 (wc.heap[gb161]? = some (.cells #[.int .i64 a0_0,.int .i64 a0_1,(.slice A0_2 l0_2.length c0_2),(.slice A0_3 l0_3.length c0_3)] 30 (0,0))) ∧ Aside0 (Below w.heap.size w wc))
 case first =>
  have H := HC3.out
  clear HC3
  replace H := Option.bind_eq_some_iff.mp H
  obtain ⟨t162,A50,H⟩ := H
  replace H : (if t162 = true then ((spec_l00Min.f 8 (wrap64 (a0_1 + 1))).bind fun t163 => ((spec_l00In.f a1 1 t163).bind fun t164 => (spec_CommasOf.j0 k a1 (!t164) a0_0 a0_1 l0_2 l0_3))) else (spec_CommasOf.j0 k a1 true a0_0 a0_1 l0_2 l0_3)) = some (r1,r2) := H
  have A5 := Aside0.mk A50
  clear A50
  by_cases c6 : t162 = true
  ·subst c6
   have H1 : ((spec_l00Min.f 8 (wrap64 (a0_1 + 1))).bind fun t163 => ((spec_l00In.f a1 1 t163).bind fun t164 => (spec_CommasOf.j0 k a1 (!t164) a0_0 a0_1 l0_2 l0_3))) = some (r1,r2) := by rw [if_pos rfl] at H; exact H
   clear H
   have H := H1
   clear H1
   replace H := Option.bind_eq_some_iff.mp H
   obtain ⟨t163,A70,H⟩ := H
   replace H : ((spec_l00In.f a1 1 t163).bind fun t164 => (spec_CommasOf.j0 k a1 (!t164) a0_0 a0_1 l0_2 l0_3)) = some (r1,r2) := H
   have A7 := Aside0.mk A70
   clear A70
   replace H := Option.bind_eq_some_iff.mp H
   obtain ⟨t164,A80,H⟩ := H
   replace H : (spec_CommasOf.j0 k a1 (!t164) a0_0 a0_1 l0_2 l0_3) = some (r1,r2) := H
   have A8 := Aside0.mk A80
   clear A80
   have H' := Aside0.mk H
   clear H
   go_wp2_with (first | (go_at_call 46; (with_reducible refine (spec_l03Is.calls k gb161 a0_0 a0_1 A0_2 c0_2 l0_2 A0_3 c0_3 l0_3 true _ ?side1 ?side2 ?side3 ?side4 ?side5 A5.out).mono ?_); (case side1 => exact by (with_reducible repeat (first | refine blk_drewN ?_ _ | refine blk_drew ?_ | refine blk_alloc ?_ _)); exact BK161.out); (case side2 => repeat (first | exact (Kd.C_below HR0_2.out HB.out) | (with_reducible refine Kd.C_alloc ?_ _) | (with_reducible refine Kd.C_drewN ?_ _) | (with_reducible refine Kd.C_drew ?_))); (case side3 => exact HC0_2.out); (case side4 => repeat (first | exact (Kd.C_below HR0_3.out HB.out) | (with_reducible refine Kd.C_alloc ?_ _) | (with_reducible refine Kd.C_drewN ?_ _) | (with_reducible refine Kd.C_drew ?_))); (case side5 => exact HC0_3.out); rintro e w9 ⟨rfl,hb⟩; have n0_ := Aside0.mk (blk_below (g := gb161) (o := .cells #[.int .i64 a0_0,.int .i64 a0_1,.slice A0_2 l0_2.length c0_2,.slice A0_3 l0_3.length c0_3] 30 (0,0)) (by (with_reducible repeat (first | refine blk_drewN ?_ _ | refine blk_drew ?_ | refine blk_alloc ?_ _)); exact BK161.out) hb); have n1_ := Aside0.mk (below_step (by repeat (first | (with_reducible first | exact HB.out | apply below_alloc | apply pw_below_drewN | apply below_drew1 | refine below_set ?_ GE161.out) | exact HB.out)) hb); clear BK161; clear HB; have BK161 := n0_; have HB := n1_; clear n0_ n1_; (try clear hb); (try clear hb2); (try clear hk); (try clear hi); have hcz10_0 : w9.cell? ⟨gb161,0,none⟩ = some (.int .i64 a0_0) := (blk_cell BK161.out 0).trans rfl; have hcz10_1 : w9.cell? ⟨gb161,1,none⟩ = some (.int .i64 a0_1) := (blk_cell BK161.out 1).trans rfl; have hcz10_2 : w9.cell? ⟨gb161,2,none⟩ = some (.slice A0_2 l0_2.length c0_2) := (blk_cell BK161.out 2).trans rfl; have hcz10_3 : w9.cell? ⟨gb161,3,none⟩ = some (.slice A0_3 l0_3.length c0_3) := (blk_cell BK161.out 3).trans rfl; have hfz10_0 := blk_frozen BK161.out 0; have hfz10_1 := blk_frozen BK161.out 1; have hfz10_2 := blk_frozen BK161.out 2; have hfz10_3 := blk_frozen BK161.out 3) | (go_at_call 53; (with_reducible refine (spec_l00Min.calls 8 (wrap64 (a0_1 + 1)) t163 _ A7.out).mono ?_); rintro e w' ⟨rfl,⟨nd,rfl⟩⟩; (try first | exact ⟨rfl,_,World.drewN_drewN _ _ _⟩ | exact ⟨rfl,_,Eq.trans (World.drewN_drewN _ _ _) (congrArg (World.drewN _) (Nat.add_assoc _ _ _))⟩)) | (go_at_call 70; (with_reducible refine (spec_l00In.calls a1 1 t163 t164 _ A8.out).mono ?_); rintro e w' ⟨rfl,⟨nd,rfl⟩⟩; (try first | exact ⟨rfl,_,World.drewN_drewN _ _ _⟩ | exact ⟨rfl,_,Eq.trans (World.drewN_drewN _ _ _) (congrArg (World.drewN _) (Nat.add_assoc _ _ _))⟩)))
   repeat (go_quiet (first | (go_at_call 46; (with_reducible refine (spec_l03Is.calls k gb161 a0_0 a0_1 A0_2 c0_2 l0_2 A0_3 c0_3 l0_3 true _ ?side1 ?side2 ?side3 ?side4 ?side5 A5.out).mono ?_); (case side1 => exact by (with_reducible repeat (first | refine blk_drewN ?_ _ | refine blk_drew ?_ | refine blk_alloc ?_ _)); exact BK161.out); (case side2 => repeat (first | exact (Kd.C_below HR0_2.out HB.out) | (with_reducible refine Kd.C_alloc ?_ _) | (with_reducible refine Kd.C_drewN ?_ _) | (with_reducible refine Kd.C_drew ?_))); (case side3 => exact HC0_2.out); (case side4 => repeat (first | exact (Kd.C_below HR0_3.out HB.out) | (with_reducible refine Kd.C_alloc ?_ _) | (with_reducible refine Kd.C_drewN ?_ _) | (with_reducible refine Kd.C_drew ?_))); (case side5 => exact HC0_3.out); rintro e w9 ⟨rfl,hb⟩; have n0_ := Aside0.mk (blk_below (g := gb161) (o := .cells #[.int .i64 a0_0,.int .i64 a0_1,.slice A0_2 l0_2.length c0_2,.slice A0_3 l0_3.length c0_3] 30 (0,0)) (by (with_reducible repeat (first | refine blk_drewN ?_ _ | refine blk_drew ?_ | refine blk_alloc ?_ _)); exact BK161.out) hb); have n1_ := Aside0.mk (below_step (by repeat (first | (with_reducible first | exact HB.out | apply below_alloc | apply pw_below_drewN | apply below_drew1 | refine below_set ?_ GE161.out) | exact HB.out)) hb); clear BK161; clear HB; have BK161 := n0_; have HB := n1_; clear n0_ n1_; (try clear hb); (try clear hb2); (try clear hk); (try clear hi); have hcz10_0 : w9.cell? ⟨gb161,0,none⟩ = some (.int .i64 a0_0) := (blk_cell BK161.out 0).trans rfl; have hcz10_1 : w9.cell? ⟨gb161,1,none⟩ = some (.int .i64 a0_1) := (blk_cell BK161.out 1).trans rfl; have hcz10_2 : w9.cell? ⟨gb161,2,none⟩ = some (.slice A0_2 l0_2.length c0_2) := (blk_cell BK161.out 2).trans rfl; have hcz10_3 : w9.cell? ⟨gb161,3,none⟩ = some (.slice A0_3 l0_3.length c0_3) := (blk_cell BK161.out 3).trans rfl; have hfz10_0 := blk_frozen BK161.out 0; have hfz10_1 := blk_frozen BK161.out 1; have hfz10_2 := blk_frozen BK161.out 2; have hfz10_3 := blk_frozen BK161.out 3) | (go_at_call 53; (with_reducible refine (spec_l00Min.calls 8 (wrap64 (a0_1 + 1)) t163 _ A7.out).mono ?_); rintro e w' ⟨rfl,⟨nd,rfl⟩⟩; (try first | exact ⟨rfl,_,World.drewN_drewN _ _ _⟩ | exact ⟨rfl,_,Eq.trans (World.drewN_drewN _ _ _) (congrArg (World.drewN _) (Nat.add_assoc _ _ _))⟩)) | (go_at_call 70; (with_reducible refine (spec_l00In.calls a1 1 t163 t164 _ A8.out).mono ?_); rintro e w' ⟨rfl,⟨nd,rfl⟩⟩; (try first | exact ⟨rfl,_,World.drewN_drewN _ _ _⟩ | exact ⟨rfl,_,Eq.trans (World.drewN_drewN _ _ _) (congrArg (World.drewN _) (Nat.add_assoc _ _ _))⟩))); try go_wp2_with (first | (go_at_call 46; (with_reducible refine (spec_l03Is.calls k gb161 a0_0 a0_1 A0_2 c0_2 l0_2 A0_3 c0_3 l0_3 true _ ?side1 ?side2 ?side3 ?side4 ?side5 A5.out).mono ?_); (case side1 => exact by (with_reducible repeat (first | refine blk_drewN ?_ _ | refine blk_drew ?_ | refine blk_alloc ?_ _)); exact BK161.out); (case side2 => repeat (first | exact (Kd.C_below HR0_2.out HB.out) | (with_reducible refine Kd.C_alloc ?_ _) | (with_reducible refine Kd.C_drewN ?_ _) | (with_reducible refine Kd.C_drew ?_))); (case side3 => exact HC0_2.out); (case side4 => repeat (first | exact (Kd.C_below HR0_3.out HB.out) | (with_reducible refine Kd.C_alloc ?_ _) | (with_reducible refine Kd.C_drewN ?_ _) | (with_reducible refine Kd.C_drew ?_))); (case side5 => exact HC0_3.out); rintro e w9 ⟨rfl,hb⟩; have n0_ := Aside0.mk (blk_below (g := gb161) (o := .cells #[.int .i64 a0_0,.int .i64 a0_1,.slice A0_2 l0_2.length c0_2,.slice A0_3 l0_3.length c0_3] 30 (0,0)) (by (with_reducible repeat (first | refine blk_drewN ?_ _ | refine blk_drew ?_ | refine blk_alloc ?_ _)); exact BK161.out) hb); have n1_ := Aside0.mk (below_step (by repeat (first | (with_reducible first | exact HB.out | apply below_alloc | apply pw_below_drewN | apply below_drew1 | refine below_set ?_ GE161.out) | exact HB.out)) hb); clear BK161; clear HB; have BK161 := n0_; have HB := n1_; clear n0_ n1_; (try clear hb); (try clear hb2); (try clear hk); (try clear hi); have hcz10_0 : w9.cell? ⟨gb161,0,none⟩ = some (.int .i64 a0_0) := (blk_cell BK161.out 0).trans rfl; have hcz10_1 : w9.cell? ⟨gb161,1,none⟩ = some (.int .i64 a0_1) := (blk_cell BK161.out 1).trans rfl; have hcz10_2 : w9.cell? ⟨gb161,2,none⟩ = some (.slice A0_2 l0_2.length c0_2) := (blk_cell BK161.out 2).trans rfl; have hcz10_3 : w9.cell? ⟨gb161,3,none⟩ = some (.slice A0_3 l0_3.length c0_3) := (blk_cell BK161.out 3).trans rfl; have hfz10_0 := blk_frozen BK161.out 0; have hfz10_1 := blk_frozen BK161.out 1; have hfz10_2 := blk_frozen BK161.out 2; have hfz10_3 := blk_frozen BK161.out 3) | (go_at_call 53; (with_reducible refine (spec_l00Min.calls 8 (wrap64 (a0_1 + 1)) t163 _ A7.out).mono ?_); rintro e w' ⟨rfl,⟨nd,rfl⟩⟩; (try first | exact ⟨rfl,_,World.drewN_drewN _ _ _⟩ | exact ⟨rfl,_,Eq.trans (World.drewN_drewN _ _ _) (congrArg (World.drewN _) (Nat.add_assoc _ _ _))⟩)) | (go_at_call 70; (with_reducible refine (spec_l00In.calls a1 1 t163 t164 _ A8.out).mono ?_); rintro e w' ⟨rfl,⟨nd,rfl⟩⟩; (try first | exact ⟨rfl,_,World.drewN_drewN _ _ _⟩ | exact ⟨rfl,_,Eq.trans (World.drewN_drewN _ _ _) (congrArg (World.drewN _) (Nat.add_assoc _ _ _))⟩))))
   go_meet
   case rel => exact ⟨_,(!t164),(by first | rfl | (simp; done) | (simp [*]; done)),H',⟨by first | omega | exact Nat.le_refl _⟩,⟨by (with_reducible repeat (first | refine blk_drewN ?_ _ | refine blk_drew ?_ | refine blk_alloc ?_ _)); exact BK161.out⟩,⟨by repeat (first | (with_reducible first | exact HB.out | apply below_alloc | apply pw_below_drewN | apply below_drew1 | refine below_set ?_ GE161.out) | exact HB.out)⟩⟩
  ·replace c6 := Bool.eq_false_iff.mpr c6
   subst c6
   have H1 : (spec_CommasOf.j0 k a1 true a0_0 a0_1 l0_2 l0_3) = some (r1,r2) := by rw [if_neg (show ¬ (false = true) by decide)] at H; exact H
   clear H
   have H := H1
   clear H1
   have H' := Aside0.mk H
   clear H
   go_wp2_with (first | (go_at_call 46; (with_reducible refine (spec_l03Is.calls k gb161 a0_0 a0_1 A0_2 c0_2 l0_2 A0_3 c0_3 l0_3 false _ ?side1 ?side2 ?side3 ?side4 ?side5 A5.out).mono ?_); (case side1 => exact by (with_reducible repeat (first | refine blk_drewN ?_ _ | refine blk_drew ?_ | refine blk_alloc ?_ _)); exact BK161.out); (case side2 => repeat (first | exact (Kd.C_below HR0_2.out HB.out) | (with_reducible refine Kd.C_alloc ?_ _) | (with_reducible refine Kd.C_drewN ?_ _) | (with_reducible refine Kd.C_drew ?_))); (case side3 => exact HC0_2.out); (case side4 => repeat (first | exact (Kd.C_below HR0_3.out HB.out) | (with_reducible refine Kd.C_alloc ?_ _) | (with_reducible refine Kd.C_drewN ?_ _) | (with_reducible refine Kd.C_drew ?_))); (case side5 => exact HC0_3.out); rintro e w11 ⟨rfl,hb⟩; have n0_ := Aside0.mk (blk_below (g := gb161) (o := .cells #[.int .i64 a0_0,.int .i64 a0_1,.slice A0_2 l0_2.length c0_2,.slice A0_3 l0_3.length c0_3] 30 (0,0)) (by (with_reducible repeat (first | refine blk_drewN ?_ _ | refine blk_drew ?_ | refine blk_alloc ?_ _)); exact BK161.out) hb); have n1_ := Aside0.mk (below_step (by repeat (first | (with_reducible first | exact HB.out | apply below_alloc | apply pw_below_drewN | apply below_drew1 | refine below_set ?_ GE161.out) | exact HB.out)) hb); clear BK161; clear HB; have BK161 := n0_; have HB := n1_; clear n0_ n1_; (try clear hb); (try clear hb2); (try clear hk); (try clear hi)))
   repeat (go_quiet (first | (go_at_call 46; (with_reducible refine (spec_l03Is.calls k gb161 a0_0 a0_1 A0_2 c0_2 l0_2 A0_3 c0_3 l0_3 false _ ?side1 ?side2 ?side3 ?side4 ?side5 A5.out).mono ?_); (case side1 => exact by (with_reducible repeat (first | refine blk_drewN ?_ _ | refine blk_drew ?_ | refine blk_alloc ?_ _)); exact BK161.out); (case side2 => repeat (first | exact (Kd.C_below HR0_2.out HB.out) | (with_reducible refine Kd.C_alloc ?_ _) | (with_reducible refine Kd.C_drewN ?_ _) | (with_reducible refine Kd.C_drew ?_))); (case side3 => exact HC0_2.out); (case side4 => repeat (first | exact (Kd.C_below HR0_3.out HB.out) | (with_reducible refine Kd.C_alloc ?_ _) | (with_reducible refine Kd.C_drewN ?_ _) | (with_reducible refine Kd.C_drew ?_))); (case side5 => exact HC0_3.out); rintro e w11 ⟨rfl,hb⟩; have n0_ := Aside0.mk (blk_below (g := gb161) (o := .cells #[.int .i64 a0_0,.int .i64 a0_1,.slice A0_2 l0_2.length c0_2,.slice A0_3 l0_3.length c0_3] 30 (0,0)) (by (with_reducible repeat (first | refine blk_drewN ?_ _ | refine blk_drew ?_ | refine blk_alloc ?_ _)); exact BK161.out) hb); have n1_ := Aside0.mk (below_step (by repeat (first | (with_reducible first | exact HB.out | apply below_alloc | apply pw_below_drewN | apply below_drew1 | refine below_set ?_ GE161.out) | exact HB.out)) hb); clear BK161; clear HB; have BK161 := n0_; have HB := n1_; clear n0_ n1_; (try clear hb); (try clear hb2); (try clear hk); (try clear hi))); try go_wp2_with (first | (go_at_call 46; (with_reducible refine (spec_l03Is.calls k gb161 a0_0 a0_1 A0_2 c0_2 l0_2 A0_3 c0_3 l0_3 false _ ?side1 ?side2 ?side3 ?side4 ?side5 A5.out).mono ?_); (case side1 => exact by (with_reducible repeat (first | refine blk_drewN ?_ _ | refine blk_drew ?_ | refine blk_alloc ?_ _)); exact BK161.out); (case side2 => repeat (first | exact (Kd.C_below HR0_2.out HB.out) | (with_reducible refine Kd.C_alloc ?_ _) | (with_reducible refine Kd.C_drewN ?_ _) | (with_reducible refine Kd.C_drew ?_))); (case side3 => exact HC0_2.out); (case side4 => repeat (first | exact (Kd.C_below HR0_3.out HB.out) | (with_reducible refine Kd.C_alloc ?_ _) | (with_reducible refine Kd.C_drewN ?_ _) | (with_reducible refine Kd.C_drew ?_))); (case side5 => exact HC0_3.out); rintro e w11 ⟨rfl,hb⟩; have n0_ := Aside0.mk (blk_below (g := gb161) (o := .cells #[.int .i64 a0_0,.int .i64 a0_1,.slice A0_2 l0_2.length c0_2,.slice A0_3 l0_3.length c0_3] 30 (0,0)) (by (with_reducible repeat (first | refine blk_drewN ?_ _ | refine blk_drew ?_ | refine blk_alloc ?_ _)); exact BK161.out) hb); have n1_ := Aside0.mk (below_step (by repeat (first | (with_reducible first | exact HB.out | apply below_alloc | apply pw_below_drewN | apply below_drew1 | refine below_set ?_ GE161.out) | exact HB.out)) hb); clear BK161; clear HB; have BK161 := n0_; have HB := n1_; clear n0_ n1_; (try clear hb); (try clear hb2); (try clear hk); (try clear hi))))
   go_meet
   case rel => exact ⟨_,(true),(by first | rfl | (simp; done) | (simp [*]; done)),H',⟨by first | omega | exact Nat.le_refl _⟩,⟨by (with_reducible repeat (first | refine blk_drewN ?_ _ | refine blk_drew ?_ | refine blk_alloc ?_ _)); exact BK161.out⟩,⟨by repeat (first | (with_reducible first | exact HB.out | apply below_alloc | apply pw_below_drewN | apply below_drew1 | refine below_set ?_ GE161.out) | exact HB.out)⟩⟩
 case rest =>
  clear HC3
  try clear p2
  try clear c3
  try clear c6
  try clear p6
  try clear hcz10_0
  try clear hcz10_1
  try clear hcz10_2
  try clear hcz10_3
  try clear hfz10_0
  try clear hfz10_1
  try clear hfz10_2
  try clear hfz10_3
  obtain ⟨kq,x26_2,rfl,HA,HJ2,BK161,HB⟩ := hcut
  cases kq with
  | zero => exact absurd HA.out (by simp [spec_CommasOf.j0])
  | succ kj2 =>
   have H := HA.out
   clear HA
   simp only [spec_CommasOf.j0] at H
   by_cases c12 : x26_2 = true
   ·subst c12
    have H1 : (some (([] : List ByteArray),false)) = some (r1,r2) := by rw [if_pos rfl] at H; exact H
    clear H
    have H := H1
    clear H1
    simp only [Option.some.injEq,Prod.mk.injEq] at H
    obtain ⟨rfl,rfl⟩ := H
    go_wp2
    repeat (go_quiet (fail); try go_wp2)
    go_ret2
    exact ⟨_,by first | rfl | (simp [errW_none,errW_some] <;> rfl) | (simp [*,errW_none,errW_some] <;> rfl),by first | exact Kd.R_nil _ _ _ _ _ | exact Kd.N_nil _ _ _ _ _ | exact Kd.V_nil _ _ _ _ _ | exact Kd.Q_nil _ _ _ _ _ | exact Kd.S_nil _ _ _ _ _,by repeat (first | (with_reducible first | exact HB.out | apply below_alloc | apply pw_below_drewN | apply below_drew1 | refine below_set ?_ GE161.out) | exact HB.out)⟩
   ·replace c12 := Bool.eq_false_iff.mpr c12
    subst c12
    have H1 : (if 0 ≤ (IntKind.u64.wrap (a1)) then (if 0 ≤ (shl .i64 1 (IntKind.u64.wrap (a1))) then (if (shl .i64 1 (IntKind.u64.wrap (a1)) : Int).toNat ≤ 281474976710656 then (spec_CommasOf.l0 kj2 a1 (List.replicate (shl .i64 1 (IntKind.u64.wrap (a1)) : Int).toNat false) (-1) a0_0 a0_1 l0_2 l0_3) else (none)) else (none)) else (none)) = some (r1,r2) := by rw [if_neg (show ¬ (false = true) by decide)] at H; exact H
    clear H
    have H := H1
    clear H1
    obtain ⟨ji13,hji13⟩ : ∃ j_ : Int,(IntKind.u64.wrap (a1)) = j_ := ⟨_,rfl⟩
    replace H : (if 0 ≤ (ji13) then (if 0 ≤ (shl .i64 1 (ji13)) then (if (shl .i64 1 (ji13) : Int).toNat ≤ 281474976710656 then (spec_CommasOf.l0 kj2 a1 (List.replicate (shl .i64 1 (ji13) : Int).toNat false) (-1) a0_0 a0_1 l0_2 l0_3) else (none)) else (none)) else (none)) = some (r1,r2) := by first | (rw [hji13] at H; exact H) | (simp only [hji13] at H ⊢; exact H)
    by_cases c14 : 0 ≤ (ji13)
    ·rw [if_pos c14] at H
     have c14b0 := eq_true c14
     have c14b1 : decide (0 ≤ (ji13)) = true := decide_eq_true c14
     clear c14
     obtain ⟨ji15,hji15⟩ : ∃ j_ : Int,(shl .i64 1 (ji13)) = j_ := ⟨_,rfl⟩
     replace H : (if 0 ≤ (ji15) then (if (ji15 : Int).toNat ≤ 281474976710656 then (spec_CommasOf.l0 kj2 a1 (List.replicate (ji15 : Int).toNat false) (-1) a0_0 a0_1 l0_2 l0_3) else (none)) else (none)) = some (r1,r2) := by first | (rw [hji15] at H; exact H) | (simp only [hji15] at H ⊢; exact H)
     have hji15_ : (IntKind.i64.wrap (1 * 2 ^ min (ji13).toNat 64)) = ji15 := hji15
     have hji15z : (ji13) ≤ 64 → (IntKind.i64.wrap (1 * 2 ^ (ji13).toNat)) = ji15 := shl_small hji15
     have hji15u : (IntKind.i64.wrap (2 ^ min (ji13).toNat 64)) = ji15 := by have h_ := hji15_; rw [Int.one_mul] at h_; exact h_
     have hji15v : (ji13) ≤ 64 → (IntKind.i64.wrap (2 ^ (ji13).toNat)) = ji15 := fun hle_ => by have h_ := hji15z hle_; rw [Int.one_mul] at h_; exact h_
     have hji15y : (wrap64 (1 * 2 ^ min (ji13).toNat 64)) = ji15 := (i64_w _).symm.trans hji15_
     have hji15x : (ji13) ≤ 64 → (wrap64 (1 * 2 ^ (ji13).toNat)) = ji15 := fun h_ => (i64_w _).symm.trans (hji15z h_)
     by_cases c16 : 0 ≤ (ji15)
     ·rw [if_pos c16] at H
      have c16b0 := eq_true c16
      have c16b1 : decide (0 ≤ (ji15)) = true := decide_eq_true c16
      clear c16
      by_cases c17 : (ji15 : Int).toNat ≤ 281474976710656
      ·rw [if_pos c17] at H
       have c17b0 := eq_true c17
       have c17b1 : decide ((ji15 : Int).toNat ≤ 281474976710656) = true := decide_eq_true c17
       clear c17
       obtain ⟨y165,hy165⟩ : ∃ y_ : List Bool,y_ = (List.replicate (ji15 : Int).toNat false) := ⟨_,rfl⟩
       replace H : (spec_CommasOf.l0 kj2 a1 y165 (-1) a0_0 a0_1 l0_2 l0_3) = some (r1,r2) := by first | (rw [hy165]; with_reducible exact H) | (have H2_ := (Option.bind_some _ _).symm.trans H; rw [hy165]; with_reducible exact H2_) | (have H2_ := (Option.bind_some _ _).symm.trans H; with_reducible exact H2_) | with_reducible exact H | (rw [hy165]; exact H) | exact H
       have Ny165 := Aside0.mk hy165
       clear hy165
       have H' := Aside0.mk H
       clear H
       go_wp2_with (first | ((with_reducible refine gate_dst (N := 30) rfl ?_); refine Kd.R_make Kd.bool _ 4 rfl (N := 30) rfl 84 _ _ rfl ji15 rfl rfl Tryd.underlying84 (.bool false) 1 info4 rfl (by decide) (by omega) false (ok := fun _ => True) (okp := fun _ => True) rfl (fun _ hk => hk) trivial (of_decide_eq_true (by first | (with_reducible assumption) | assumption)) (Nat.le_trans (Nat.mul_le_mul_right _ (of_decide_eq_true (by first | (with_reducible assumption) | assumption) : ji15.toNat ≤ 281474976710656)) (by omega)) (Below.refl _ _) (Nat.le_refl _) ?_; intro v166 w18 ho19 hb hg_ hnew_; clear hg_ hnew_; (first | rw [← Ny165.out] at ho19 | (simp only [Int.reduceToNat] at ho19; rw [← Ny165.out] at ho19)); have n0_ := Aside0.mk (Kd.R_lower ho19 (below_size (by repeat (first | (with_reducible first | exact HB.out | apply below_alloc | apply pw_below_drewN | apply below_drew1 | refine below_set ?_ GE161.out) | exact HB.out)))); have n1_ := Aside0.mk (blk_below (g := gb161) (o := .cells #[.int .i64 a0_0,.int .i64 a0_1,.slice A0_2 l0_2.length c0_2,.slice A0_3 l0_3.length c0_3] 30 (0,0)) (by (with_reducible repeat (first | refine blk_drewN ?_ _ | refine blk_drew ?_ | refine blk_alloc ?_ _)); exact BK161.out) hb); have n2_ := Aside0.mk (below_step (by repeat (first | (with_reducible first | exact HB.out | apply below_alloc | apply pw_below_drewN | apply below_drew1 | refine below_set ?_ GE161.out) | exact HB.out)) hb); clear BK161; clear HB; have HO167 := n0_; have BK161 := n1_; have HB := n2_; clear n0_ n1_ n2_; clear hb ho19))
       repeat (go_quiet (first | ((with_reducible refine gate_dst (N := 30) rfl ?_); refine Kd.R_make Kd.bool _ 4 rfl (N := 30) rfl 84 _ _ rfl ji15 rfl rfl Tryd.underlying84 (.bool false) 1 info4 rfl (by decide) (by omega) false (ok := fun _ => True) (okp := fun _ => True) rfl (fun _ hk => hk) trivial (of_decide_eq_true (by first | (with_reducible assumption) | assumption)) (Nat.le_trans (Nat.mul_le_mul_right _ (of_decide_eq_true (by first | (with_reducible assumption) | assumption) : ji15.toNat ≤ 281474976710656)) (by omega)) (Below.refl _ _) (Nat.le_refl _) ?_; intro v166 w18 ho19 hb hg_ hnew_; clear hg_ hnew_; (first | rw [← Ny165.out] at ho19 | (simp only [Int.reduceToNat] at ho19; rw [← Ny165.out] at ho19)); have n0_ := Aside0.mk (Kd.R_lower ho19 (below_size (by repeat (first | (with_reducible first | exact HB.out | apply below_alloc | apply pw_below_drewN | apply below_drew1 | refine below_set ?_ GE161.out) | exact HB.out)))); have n1_ := Aside0.mk (blk_below (g := gb161) (o := .cells #[.int .i64 a0_0,.int .i64 a0_1,.slice A0_2 l0_2.length c0_2,.slice A0_3 l0_3.length c0_3] 30 (0,0)) (by (with_reducible repeat (first | refine blk_drewN ?_ _ | refine blk_drew ?_ | refine blk_alloc ?_ _)); exact BK161.out) hb); have n2_ := Aside0.mk (below_step (by repeat (first | (with_reducible first | exact HB.out | apply below_alloc | apply pw_below_drewN | apply below_drew1 | refine below_set ?_ GE161.out) | exact HB.out)) hb); clear BK161; clear HB; have HO167 := n0_; have BK161 := n1_; have HB := n2_; clear n0_ n1_ n2_; clear hb ho19)); try go_wp2_with (first | ((with_reducible refine gate_dst (N := 30) rfl ?_); refine Kd.R_make Kd.bool _ 4 rfl (N := 30) rfl 84 _ _ rfl ji15 rfl rfl Tryd.underlying84 (.bool false) 1 info4 rfl (by decide) (by omega) false (ok := fun _ => True) (okp := fun _ => True) rfl (fun _ hk => hk) trivial (of_decide_eq_true (by first | (with_reducible assumption) | assumption)) (Nat.le_trans (Nat.mul_le_mul_right _ (of_decide_eq_true (by first | (with_reducible assumption) | assumption) : ji15.toNat ≤ 281474976710656)) (by omega)) (Below.refl _ _) (Nat.le_refl _) ?_; intro v166 w18 ho19 hb hg_ hnew_; clear hg_ hnew_; (first | rw [← Ny165.out] at ho19 | (simp only [Int.reduceToNat] at ho19; rw [← Ny165.out] at ho19)); have n0_ := Aside0.mk (Kd.R_lower ho19 (below_size (by repeat (first | (with_reducible first | exact HB.out | apply below_alloc | apply pw_below_drewN | apply below_drew1 | refine below_set ?_ GE161.out) | exact HB.out)))); have n1_ := Aside0.mk (blk_below (g := gb161) (o := .cells #[.int .i64 a0_0,.int .i64 a0_1,.slice A0_2 l0_2.length c0_2,.slice A0_3 l0_3.length c0_3] 30 (0,0)) (by (with_reducible repeat (first | refine blk_drewN ?_ _ | refine blk_drew ?_ | refine blk_alloc ?_ _)); exact BK161.out) hb); have n2_ := Aside0.mk (below_step (by repeat (first | (with_reducible first | exact HB.out | apply below_alloc | apply pw_below_drewN | apply below_drew1 | refine below_set ?_ GE161.out) | exact HB.out)) hb); clear BK161; clear HB; have HO167 := n0_; have BK161 := n1_; have HB := n2_; clear n0_ n1_ n2_; clear hb ho19)))
       go_loopg [7] kj2 (fun kq v7 w' => ∃ (x6_2 : List Bool) (x7_2 : Int),v7 = .int .i64 x7_2 ∧ Aside0 (spec_CommasOf.l0 kq a1 x6_2 x7_2 a0_0 a0_1 l0_2 l0_3 = some (r1,r2)) ∧ Aside0 (kq ≤ kj2) ∧ Aside0 (Kd.R Kd.bool 4 w' w.heap.size (fun _ => True) v166 x6_2) ∧ Aside0 (w'.heap[gb161]? = some (.cells #[.int .i64 a0_0,.int .i64 a0_1,(.slice A0_2 l0_2.length c0_2),(.slice A0_3 l0_3.length c0_3)] 30 (0,0))) ∧ Aside0 (Below w.heap.size w w'))
       case atStart => exact ⟨(y165),((-1)),(by first | rfl | (simp; done) | (simp [*]; done)),H',⟨Nat.le_refl _⟩,⟨by (with_reducible repeat (first | apply Kd.R_alloc | apply Kd.R_drewN | apply Kd.R_drew)); exact HO167.out⟩,⟨by (with_reducible repeat (first | refine blk_drewN ?_ _ | refine blk_drew ?_ | refine blk_alloc ?_ _)); exact BK161.out⟩,⟨by repeat (first | (with_reducible first | exact HB.out | apply below_alloc | apply pw_below_drewN | apply below_drew1 | refine below_set ?_ GE161.out) | exact HB.out)⟩⟩
       case round =>
        clear H'
        try clear c1
        try clear p2
        try clear c3
        try clear c6
        try clear p6
        try clear c12
        try clear c14
        try clear c14b0
        try clear c14b1
        try clear c16
        try clear c16b0
        try clear c16b1
        try clear c17
        try clear c17b0
        try clear c17b1
        try clear hcz10_0
        try clear hcz10_1
        try clear hcz10_2
        try clear hcz10_3
        try clear hfz10_0
        try clear hfz10_1
        try clear hfz10_2
        try clear hfz10_3
        try clear p2
        try clear p6
        obtain ⟨x6_2,x7_2,rfl,HA,HK2,HO_6,BK161,HB⟩ := hrel
        cases gk with
        | zero => exact absurd HA.out (by simp [spec_CommasOf.l0])
        | succ k2 =>
         have H := HA.out
         clear HA
         simp only [spec_CommasOf.l0] at H
         by_cases c20 : x7_2 ≤ 1
         ·rw [if_pos c20] at H
          have c20b0 : decide (x7_2 ≤ 1) = true := decide_eq_true c20
          clear c20
          by_cases c21 : x7_2 < 0
          ·rw [if_pos c21] at H
           have c21b0 : decide (x7_2 < 0) = true := decide_eq_true c21
           clear c21
           replace H := Option.bind_eq_some_iff.mp H
           obtain ⟨_,A220,H⟩ := H
           replace H : (spec_CommasOf.l1 k2 a1 x6_2 x7_2 l0_2 0 a0_0 a0_1 l0_2 l0_3) = some (r1,r2) := H
           have A22 := Aside0.mk A220
           clear A220
           have H' := Aside0.mk H
           clear H
           go_wp2_with (first | (go_at_call 52; (with_reducible refine (spec_l03List_neg.calls gb161 a0_0 a0_1 A0_2 c0_2 l0_2 A0_3 c0_3 l0_3 x7_2  _ ?side1 ?side2 ?side3 ?side4 ?side5 A22.out).mono ?_); (case side1 => exact by (with_reducible repeat (first | refine blk_drewN ?_ _ | refine blk_drew ?_ | refine blk_alloc ?_ _)); exact BK161.out); (case side2 => repeat (first | exact (Kd.C_below HR0_2.out HB.out) | (with_reducible refine Kd.C_alloc ?_ _) | (with_reducible refine Kd.C_drewN ?_ _) | (with_reducible refine Kd.C_drew ?_))); (case side3 => exact HC0_2.out); (case side4 => repeat (first | exact (Kd.C_below HR0_3.out HB.out) | (with_reducible refine Kd.C_alloc ?_ _) | (with_reducible refine Kd.C_drewN ?_ _) | (with_reducible refine Kd.C_drew ?_))); (case side5 => exact HC0_3.out); rintro e w23 ⟨rfl,hb⟩; have n0_ := Aside0.mk (Kd.R_below (by (with_reducible repeat (first | apply Kd.R_alloc | apply Kd.R_drewN | apply Kd.R_drew)); exact HO_6.out) hb); have n1_ := Aside0.mk (blk_below (g := gb161) (o := .cells #[.int .i64 a0_0,.int .i64 a0_1,.slice A0_2 l0_2.length c0_2,.slice A0_3 l0_3.length c0_3] 30 (0,0)) (by (with_reducible repeat (first | refine blk_drewN ?_ _ | refine blk_drew ?_ | refine blk_alloc ?_ _)); exact BK161.out) hb); have n2_ := Aside0.mk (below_step (by repeat (first | (with_reducible first | exact HB.out | apply below_alloc | apply pw_below_drewN | apply below_drew1 | refine below_set ?_ GE161.out) | exact HB.out)) hb); clear HO_6; clear BK161; clear HB; have HO_6 := n0_; have BK161 := n1_; have HB := n2_; clear n0_ n1_ n2_; (try clear hb); (try clear hb2); (try clear hk); (try clear hi)))
           repeat (go_quiet (first | (go_at_call 52; (with_reducible refine (spec_l03List_neg.calls gb161 a0_0 a0_1 A0_2 c0_2 l0_2 A0_3 c0_3 l0_3 x7_2  _ ?side1 ?side2 ?side3 ?side4 ?side5 A22.out).mono ?_); (case side1 => exact by (with_reducible repeat (first | refine blk_drewN ?_ _ | refine blk_drew ?_ | refine blk_alloc ?_ _)); exact BK161.out); (case side2 => repeat (first | exact (Kd.C_below HR0_2.out HB.out) | (with_reducible refine Kd.C_alloc ?_ _) | (with_reducible refine Kd.C_drewN ?_ _) | (with_reducible refine Kd.C_drew ?_))); (case side3 => exact HC0_2.out); (case side4 => repeat (first | exact (Kd.C_below HR0_3.out HB.out) | (with_reducible refine Kd.C_alloc ?_ _) | (with_reducible refine Kd.C_drewN ?_ _) | (with_reducible refine Kd.C_drew ?_))); (case side5 => exact HC0_3.out); rintro e w23 ⟨rfl,hb⟩; have n0_ := Aside0.mk (Kd.R_below (by (with_reducible repeat (first | apply Kd.R_alloc | apply Kd.R_drewN | apply Kd.R_drew)); exact HO_6.out) hb); have n1_ := Aside0.mk (blk_below (g := gb161) (o := .cells #[.int .i64 a0_0,.int .i64 a0_1,.slice A0_2 l0_2.length c0_2,.slice A0_3 l0_3.length c0_3] 30 (0,0)) (by (with_reducible repeat (first | refine blk_drewN ?_ _ | refine blk_drew ?_ | refine blk_alloc ?_ _)); exact BK161.out) hb); have n2_ := Aside0.mk (below_step (by repeat (first | (with_reducible first | exact HB.out | apply below_alloc | apply pw_below_drewN | apply below_drew1 | refine below_set ?_ GE161.out) | exact HB.out)) hb); clear HO_6; clear BK161; clear HB; have HO_6 := n0_; have BK161 := n1_; have HB := n2_; clear n0_ n1_ n2_; (try clear hb); (try clear hb2); (try clear hk); (try clear hi))); try go_wp2_with (first | (go_at_call 52; (with_reducible refine (spec_l03List_neg.calls gb161 a0_0 a0_1 A0_2 c0_2 l0_2 A0_3 c0_3 l0_3 x7_2  _ ?side1 ?side2 ?side3 ?side4 ?side5 A22.out).mono ?_); (case side1 => exact by (with_reducible repeat (first | refine blk_drewN ?_ _ | refine blk_drew ?_ | refine blk_alloc ?_ _)); exact BK161.out); (case side2 => repeat (first | exact (Kd.C_below HR0_2.out HB.out) | (with_reducible refine Kd.C_alloc ?_ _) | (with_reducible refine Kd.C_drewN ?_ _) | (with_reducible refine Kd.C_drew ?_))); (case side3 => exact HC0_2.out); (case side4 => repeat (first | exact (Kd.C_below HR0_3.out HB.out) | (with_reducible refine Kd.C_alloc ?_ _) | (with_reducible refine Kd.C_drewN ?_ _) | (with_reducible refine Kd.C_drew ?_))); (case side5 => exact HC0_3.out); rintro e w23 ⟨rfl,hb⟩; have n0_ := Aside0.mk (Kd.R_below (by (with_reducible repeat (first | apply Kd.R_alloc | apply Kd.R_drewN | apply Kd.R_drew)); exact HO_6.out) hb); have n1_ := Aside0.mk (blk_below (g := gb161) (o := .cells #[.int .i64 a0_0,.int .i64 a0_1,.slice A0_2 l0_2.length c0_2,.slice A0_3 l0_3.length c0_3] 30 (0,0)) (by (with_reducible repeat (first | refine blk_drewN ?_ _ | refine blk_drew ?_ | refine blk_alloc ?_ _)); exact BK161.out) hb); have n2_ := Aside0.mk (below_step (by repeat (first | (with_reducible first | exact HB.out | apply below_alloc | apply pw_below_drewN | apply below_drew1 | refine below_set ?_ GE161.out) | exact HB.out)) hb); clear HO_6; clear BK161; clear HB; have HO_6 := n0_; have BK161 := n1_; have HB := n2_; clear n0_ n1_ n2_; (try clear hb); (try clear hb2); (try clear hk); (try clear hi))))
           go_loopg [9] k2 (fun kq v9 w' => ∃ (x6_3 : List Bool) (x9_3 : Int),v9 = .int .i64 x9_3 ∧ Aside0 (spec_CommasOf.l1 kq a1 x6_3 x7_2 l0_2 x9_3 a0_0 a0_1 l0_2 l0_3 = some (r1,r2)) ∧ Aside0 (kq ≤ k2) ∧ Aside0 (Kd.R Kd.bool 4 w' w.heap.size (fun _ => True) v166 x6_3) ∧ Aside0 (w'.heap[gb161]? = some (.cells #[.int .i64 a0_0,.int .i64 a0_1,(.slice A0_2 l0_2.length c0_2),(.slice A0_3 l0_3.length c0_3)] 30 (0,0))) ∧ Aside0 (Below w.heap.size w w'))
           case atStart => exact ⟨(x6_2),(0),(by first | rfl | (simp; done) | (simp [*]; done)),H',⟨Nat.le_refl _⟩,⟨by (with_reducible repeat (first | apply Kd.R_alloc | apply Kd.R_drewN | apply Kd.R_drew)); exact HO_6.out⟩,⟨by (with_reducible repeat (first | refine blk_drewN ?_ _ | refine blk_drew ?_ | refine blk_alloc ?_ _)); exact BK161.out⟩,⟨by repeat (first | (with_reducible first | exact HB.out | apply below_alloc | apply pw_below_drewN | apply below_drew1 | refine below_set ?_ GE161.out) | exact HB.out)⟩⟩
           case round =>
            clear H'
            try clear c1
            try clear c2
            try clear p2
            try clear c3
            try clear c6
            try clear p6
            try clear c12
            try clear c14
            try clear c14b0
            try clear c14b1
            try clear c16
            try clear c16b0
            try clear c16b1
            try clear c17
            try clear c17b0
            try clear c17b1
            try clear c20
            try clear c20b0
            try clear c21
            try clear c21b0
            try clear hcz10_0
            try clear hcz10_1
            try clear hcz10_2
            try clear hcz10_3
            try clear hfz10_0
            try clear hfz10_1
            try clear hfz10_2
            try clear hfz10_3
            try clear p2
            try clear p6
            obtain ⟨x6_3,x9_3,rfl,HA,HK3,HO_6,BK161,HB⟩ := hrel
            cases gk with
            | zero => exact absurd HA.out (by simp [spec_CommasOf.l1])
            | succ k3 =>
             have H := HA.out
             clear HA
             simp only [spec_CommasOf.l1] at H
             by_cases c24 : x9_3 < (l0_2.length : Int)
             ·rw [if_pos c24] at H
              have c24b0 : decide (x9_3 < (l0_2.length : Int)) = true := decide_eq_true c24
              clear c24
              by_cases c25 : 0 ≤ x9_3
              ·rw [if_pos c25] at H
               have c25b0 : decide (0 ≤ x9_3) = true := decide_eq_true c25
               clear c25
               replace H := Option.bind_eq_some_iff.mp H
               obtain ⟨t169,A260,H⟩ := H
               replace H : (if t169 < 0 then ((spec_l03List_neg.f a0_0 a0_1 l0_2 l0_3 t169).bind fun _ => (spec_CommasOf.l2 k3 a1 x6_3 x7_2 l0_2 x9_3 l0_2 0 a0_0 a0_1 l0_2 l0_3)) else ((spec_l03List_pos.f a0_0 a0_1 l0_2 l0_3 t169).bind fun _ => (spec_CommasOf.l102 k3 a1 x6_3 x7_2 l0_2 x9_3 l0_3 0 a0_0 a0_1 l0_2 l0_3))) = some (r1,r2) := H
               have A26 := Aside0.mk A260
               clear A260
               by_cases c27 : t169 < 0
               ·rw [if_pos c27] at H
                have c27b0 : decide (t169 < 0) = true := decide_eq_true c27
                clear c27
                replace H := Option.bind_eq_some_iff.mp H
                obtain ⟨_,A280,H⟩ := H
                replace H : (spec_CommasOf.l2 k3 a1 x6_3 x7_2 l0_2 x9_3 l0_2 0 a0_0 a0_1 l0_2 l0_3) = some (r1,r2) := H
                have A28 := Aside0.mk A280
                clear A280
                have H' := Aside0.mk H
                clear H
                have p168 : 0 ≤ (x9_3 : Int) := of_decide_eq_true (by first | (with_reducible assumption) | assumption)
                have q168 : x9_3 < (l0_2.length : Int) := of_decide_eq_true (by first | (with_reducible assumption) | assumption)
                obtain ⟨ad168,e168,hx168_0⟩ := Kd.at_string HR0_2.out x9_3 p168 q168
                cases e168
                replace hx168_0 := (HB.out.cell (World.block_lt_of_cell? w _ hx168_0)).trans hx168_0
                replace p168 := eq_true p168
                replace q168 := eq_true q168
                go_wp2_with (first | (go_at_call 67; (with_reducible refine (spec_l03Next.calls k3 x7_2 (rdOf ByteArray.empty l0_2 x9_3) t169 _ A26.out).mono ?_); rintro e w' ⟨rfl,⟨nd,rfl⟩⟩; (try first | exact ⟨rfl,_,World.drewN_drewN _ _ _⟩ | exact ⟨rfl,_,Eq.trans (World.drewN_drewN _ _ _) (congrArg (World.drewN _) (Nat.add_assoc _ _ _))⟩)) | (go_at_call 52; (with_reducible refine (spec_l03List_neg.calls gb161 a0_0 a0_1 (some ad168) c0_2 l0_2 A0_3 c0_3 l0_3 t169  _ ?side1 ?side2 ?side3 ?side4 ?side5 A28.out).mono ?_); (case side1 => exact by (with_reducible repeat (first | refine blk_drewN ?_ _ | refine blk_drew ?_ | refine blk_alloc ?_ _)); exact BK161.out); (case side2 => repeat (first | exact (Kd.C_below HR0_2.out (by repeat (first | (with_reducible first | exact HB.out | apply below_alloc | apply pw_below_drewN | apply below_drew1 | refine below_set ?_ GE161.out) | exact HB.out))) | (with_reducible refine Kd.C_alloc ?_ _) | (with_reducible refine Kd.C_drewN ?_ _) | (with_reducible refine Kd.C_drew ?_))); (case side3 => exact HC0_2.out); (case side4 => repeat (first | exact (Kd.C_below HR0_3.out (by repeat (first | (with_reducible first | exact HB.out | apply below_alloc | apply pw_below_drewN | apply below_drew1 | refine below_set ?_ GE161.out) | exact HB.out))) | (with_reducible refine Kd.C_alloc ?_ _) | (with_reducible refine Kd.C_drewN ?_ _) | (with_reducible refine Kd.C_drew ?_))); (case side5 => exact HC0_3.out); rintro e w29 ⟨rfl,hb⟩; have n0_ := Aside0.mk (Kd.R_below (by (with_reducible repeat (first | apply Kd.R_alloc | apply Kd.R_drewN | apply Kd.R_drew)); exact HO_6.out) hb); have n1_ := Aside0.mk (blk_below (g := gb161) (o := .cells #[.int .i64 a0_0,.int .i64 a0_1,.slice (some ad168) l0_2.length c0_2,.slice A0_3 l0_3.length c0_3] 30 (0,0)) (by (with_reducible repeat (first | refine blk_drewN ?_ _ | refine blk_drew ?_ | refine blk_alloc ?_ _)); exact BK161.out) hb); have n2_ := Aside0.mk (below_step (by repeat (first | (with_reducible first | exact HB.out | apply below_alloc | apply pw_below_drewN | apply below_drew1 | refine below_set ?_ GE161.out) | exact HB.out)) hb); clear HO_6; clear BK161; clear HB; have HO_6 := n0_; have BK161 := n1_; have HB := n2_; clear n0_ n1_ n2_; (try clear hb); (try clear hb2); (try clear hk); (try clear hi)))
                repeat (go_quiet (first | (go_at_call 67; (with_reducible refine (spec_l03Next.calls k3 x7_2 (rdOf ByteArray.empty l0_2 x9_3) t169 _ A26.out).mono ?_); rintro e w' ⟨rfl,⟨nd,rfl⟩⟩; (try first | exact ⟨rfl,_,World.drewN_drewN _ _ _⟩ | exact ⟨rfl,_,Eq.trans (World.drewN_drewN _ _ _) (congrArg (World.drewN _) (Nat.add_assoc _ _ _))⟩)) | (go_at_call 52; (with_reducible refine (spec_l03List_neg.calls gb161 a0_0 a0_1 (some ad168) c0_2 l0_2 A0_3 c0_3 l0_3 t169  _ ?side1 ?side2 ?side3 ?side4 ?side5 A28.out).mono ?_); (case side1 => exact by (with_reducible repeat (first | refine blk_drewN ?_ _ | refine blk_drew ?_ | refine blk_alloc ?_ _)); exact BK161.out); (case side2 => repeat (first | exact (Kd.C_below HR0_2.out (by repeat (first | (with_reducible first | exact HB.out | apply below_alloc | apply pw_below_drewN | apply below_drew1 | refine below_set ?_ GE161.out) | exact HB.out))) | (with_reducible refine Kd.C_alloc ?_ _) | (with_reducible refine Kd.C_drewN ?_ _) | (with_reducible refine Kd.C_drew ?_))); (case side3 => exact HC0_2.out); (case side4 => repeat (first | exact (Kd.C_below HR0_3.out (by repeat (first | (with_reducible first | exact HB.out | apply below_alloc | apply pw_below_drewN | apply below_drew1 | refine below_set ?_ GE161.out) | exact HB.out))) | (with_reducible refine Kd.C_alloc ?_ _) | (with_reducible refine Kd.C_drewN ?_ _) | (with_reducible refine Kd.C_drew ?_))); (case side5 => exact HC0_3.out); rintro e w29 ⟨rfl,hb⟩; have n0_ := Aside0.mk (Kd.R_below (by (with_reducible repeat (first | apply Kd.R_alloc | apply Kd.R_drewN | apply Kd.R_drew)); exact HO_6.out) hb); have n1_ := Aside0.mk (blk_below (g := gb161) (o := .cells #[.int .i64 a0_0,.int .i64 a0_1,.slice (some ad168) l0_2.length c0_2,.slice A0_3 l0_3.length c0_3] 30 (0,0)) (by (with_reducible repeat (first | refine blk_drewN ?_ _ | refine blk_drew ?_ | refine blk_alloc ?_ _)); exact BK161.out) hb); have n2_ := Aside0.mk (below_step (by repeat (first | (with_reducible first | exact HB.out | apply below_alloc | apply pw_below_drewN | apply below_drew1 | refine below_set ?_ GE161.out) | exact HB.out)) hb); clear HO_6; clear BK161; clear HB; have HO_6 := n0_; have BK161 := n1_; have HB := n2_; clear n0_ n1_ n2_; (try clear hb); (try clear hb2); (try clear hk); (try clear hi))); try go_wp2_with (first | (go_at_call 67; (with_reducible refine (spec_l03Next.calls k3 x7_2 (rdOf ByteArray.empty l0_2 x9_3) t169 _ A26.out).mono ?_); rintro e w' ⟨rfl,⟨nd,rfl⟩⟩; (try first | exact ⟨rfl,_,World.drewN_drewN _ _ _⟩ | exact ⟨rfl,_,Eq.trans (World.drewN_drewN _ _ _) (congrArg (World.drewN _) (Nat.add_assoc _ _ _))⟩)) | (go_at_call 52; (with_reducible refine (spec_l03List_neg.calls gb161 a0_0 a0_1 (some ad168) c0_2 l0_2 A0_3 c0_3 l0_3 t169  _ ?side1 ?side2 ?side3 ?side4 ?side5 A28.out).mono ?_); (case side1 => exact by (with_reducible repeat (first | refine blk_drewN ?_ _ | refine blk_drew ?_ | refine blk_alloc ?_ _)); exact BK161.out); (case side2 => repeat (first | exact (Kd.C_below HR0_2.out (by repeat (first | (with_reducible first | exact HB.out | apply below_alloc | apply pw_below_drewN | apply below_drew1 | refine below_set ?_ GE161.out) | exact HB.out))) | (with_reducible refine Kd.C_alloc ?_ _) | (with_reducible refine Kd.C_drewN ?_ _) | (with_reducible refine Kd.C_drew ?_))); (case side3 => exact HC0_2.out); (case side4 => repeat (first | exact (Kd.C_below HR0_3.out (by repeat (first | (with_reducible first | exact HB.out | apply below_alloc | apply pw_below_drewN | apply below_drew1 | refine below_set ?_ GE161.out) | exact HB.out))) | (with_reducible refine Kd.C_alloc ?_ _) | (with_reducible refine Kd.C_drewN ?_ _) | (with_reducible refine Kd.C_drew ?_))); (case side5 => exact HC0_3.out); rintro e w29 ⟨rfl,hb⟩; have n0_ := Aside0.mk (Kd.R_below (by (with_reducible repeat (first | apply Kd.R_alloc | apply Kd.R_drewN | apply Kd.R_drew)); exact HO_6.out) hb); have n1_ := Aside0.mk (blk_below (g := gb161) (o := .cells #[.int .i64 a0_0,.int .i64 a0_1,.slice (some ad168) l0_2.length c0_2,.slice A0_3 l0_3.length c0_3] 30 (0,0)) (by (with_reducible repeat (first | refine blk_drewN ?_ _ | refine blk_drew ?_ | refine blk_alloc ?_ _)); exact BK161.out) hb); have n2_ := Aside0.mk (below_step (by repeat (first | (with_reducible first | exact HB.out | apply below_alloc | apply pw_below_drewN | apply below_drew1 | refine below_set ?_ GE161.out) | exact HB.out)) hb); clear HO_6; clear BK161; clear HB; have HO_6 := n0_; have BK161 := n1_; have HB := n2_; clear n0_ n1_ n2_; (try clear hb); (try clear hb2); (try clear hk); (try clear hi))))
                go_loopg [11] k3 (fun kq v11 w' => ∃ (x6_4 : List Bool) (x11_4 : Int),v11 = .int .i64 x11_4 ∧ Aside0 (spec_CommasOf.l2 kq a1 x6_4 x7_2 l0_2 x9_3 l0_2 x11_4 a0_0 a0_1 l0_2 l0_3 = some (r1,r2)) ∧ Aside0 (kq ≤ k3) ∧ Aside0 (Kd.R Kd.bool 4 w' w.heap.size (fun _ => True) v166 x6_4) ∧ Aside0 (w'.heap[gb161]? = some (.cells #[.int .i64 a0_0,.int .i64 a0_1,(.slice (some ad168) l0_2.length c0_2),(.slice A0_3 l0_3.length c0_3)] 30 (0,0))) ∧ Aside0 (Below w.heap.size w w'))
                case atStart => exact ⟨(x6_3),(0),(by first | rfl | (simp; done) | (simp [*]; done)),H',⟨Nat.le_refl _⟩,⟨by (with_reducible repeat (first | apply Kd.R_alloc | apply Kd.R_drewN | apply Kd.R_drew)); exact HO_6.out⟩,⟨by (with_reducible repeat (first | refine blk_drewN ?_ _ | refine blk_drew ?_ | refine blk_alloc ?_ _)); exact BK161.out⟩,⟨by repeat (first | (with_reducible first | exact HB.out | apply below_alloc | apply pw_below_drewN | apply below_drew1 | refine below_set ?_ GE161.out) | exact HB.out)⟩⟩
                case round =>
                 clear H'
                 try clear c1
                 try clear p1
                 try clear q1
                 try clear hx1
                 try clear c2
                 try clear p2
                 try clear c3
                 try clear c6
                 try clear p6
                 try clear c12
                 try clear c14
                 try clear c14b0
                 try clear c14b1
                 try clear c16
                 try clear c16b0
                 try clear c16b1
                 try clear p16
                 try clear q16
                 try clear hx16
                 try clear c17
                 try clear c17b0
                 try clear c17b1
                 try clear c20
                 try clear c20b0
                 try clear c21
                 try clear c21b0
                 try clear c24
                 try clear c24b0
                 try clear c25
                 try clear c25b0
                 try clear c27
                 try clear c27b0
                 try clear hcz10_0
                 try clear hcz10_1
                 try clear hcz10_2
                 try clear hcz10_3
                 try clear hfz10_0
                 try clear hfz10_1
                 try clear hfz10_2
                 try clear hfz10_3
                 try clear hx168_0
                 try clear p168
                 try clear p2
                 try clear p6
                 try clear q168
                 obtain ⟨x6_4,x11_4,rfl,HA,HK4,HO_6,BK161,HB⟩ := hrel
                 cases gk with
                 | zero => exact absurd HA.out (by simp [spec_CommasOf.l2])
                 | succ k4 =>
                  have H := HA.out
                  clear HA
                  simp only [spec_CommasOf.l2] at H
                  by_cases c30 : x11_4 < (l0_2.length : Int)
                  ·rw [if_pos c30] at H
                   have c30b0 : decide (x11_4 < (l0_2.length : Int)) = true := decide_eq_true c30
                   clear c30
                   by_cases c31 : 0 ≤ x9_3
                   ·rw [if_pos c31] at H
                    have c31b0 : decide (0 ≤ x9_3) = true := decide_eq_true c31
                    clear c31
                    by_cases c32 : x9_3 < (l0_2.length : Int)
                    ·rw [if_pos c32] at H
                     have c32b0 : decide (x9_3 < (l0_2.length : Int)) = true := decide_eq_true c32
                     clear c32
                     by_cases c33 : 0 ≤ x11_4
                     ·rw [if_pos c33] at H
                      have c33b0 : decide (0 ≤ x11_4) = true := decide_eq_true c33
                      clear c33
                      by_cases c34 : (rdOf ByteArray.empty l0_2 x9_3).size + (rdOf ByteArray.empty l0_2 x11_4).size ≤ 9223372036854775807
                      ·rw [if_pos c34] at H
                       have c34b0 := eq_true c34
                       have c34b1 : decide ((rdOf ByteArray.empty l0_2 x9_3).size + (rdOf ByteArray.empty l0_2 x11_4).size ≤ 9223372036854775807) = true := decide_eq_true c34
                       try have c34b2 : (9223372036854775807 < (rdOf ByteArray.empty l0_2 x9_3).size + (rdOf ByteArray.empty l0_2 x11_4).size) = False := eq_false (Nat.not_lt.2 c34)
                       have H' := Aside0.mk H
                       clear H
                       have p170 : 0 ≤ (x9_3 : Int) := of_decide_eq_true (by first | (with_reducible assumption) | assumption)
                       have q170 : x9_3 < (l0_2.length : Int) := of_decide_eq_true (by first | (with_reducible assumption) | assumption)
                       obtain ⟨ad170,e170,hx170_0⟩ := Kd.at_string HR0_2.out x9_3 p170 q170
                       obtain rfl : ad168 = ad170 := (by injection e170)
                       replace hx170_0 := (HB.out.cell (World.block_lt_of_cell? w _ hx170_0)).trans hx170_0
                       replace p170 := eq_true p170
                       replace q170 := eq_true q170
                       have p171 : 0 ≤ (x11_4 : Int) := of_decide_eq_true (by first | (with_reducible assumption) | assumption)
                       have q171 : x11_4 < (l0_2.length : Int) := of_decide_eq_true (by first | (with_reducible assumption) | assumption)
                       obtain ⟨ad171,e171,hx171_0⟩ := Kd.at_string HR0_2.out x11_4 p171 q171
                       obtain rfl : ad168 = ad171 := (by injection e171)
                       replace hx171_0 := (HB.out.cell (World.block_lt_of_cell? w _ hx171_0)).trans hx171_0
                       replace p171 := eq_true p171
                       replace q171 := eq_true q171
                       go_wp2
                       repeat (go_quiet (fail); try go_wp2)
                       generalize ((rdOf ByteArray.empty l0_2 x9_3) ++ (rdOf ByteArray.empty l0_2 x11_4)) = tc at H' ⊢
                       go_loopg [13] k4 (fun kq v13 w' => ∃ (x6_5 : List Bool) (x13_5 : Int),v13 = .int .i64 x13_5 ∧ Aside0 (spec_CommasOf.l3 kq a1 x6_5 x7_2 l0_2 x9_3 l0_2 x11_4 tc x13_5 a0_0 a0_1 l0_2 l0_3 = some (r1,r2)) ∧ Aside0 (kq ≤ k4) ∧ Aside0 (Kd.R Kd.bool 4 w' w.heap.size (fun _ => True) v166 x6_5) ∧ Aside0 (w'.heap[gb161]? = some (.cells #[.int .i64 a0_0,.int .i64 a0_1,(.slice (some ad168) l0_2.length c0_2),(.slice A0_3 l0_3.length c0_3)] 30 (0,0))) ∧ Aside0 (Below w.heap.size w w'))
                       case atStart => exact ⟨(x6_4),(0),(by first | rfl | (simp; done) | (simp [*]; done)),H',⟨Nat.le_refl _⟩,⟨by (with_reducible repeat (first | apply Kd.R_alloc | apply Kd.R_drewN | apply Kd.R_drew)); exact HO_6.out⟩,⟨by (with_reducible repeat (first | refine blk_drewN ?_ _ | refine blk_drew ?_ | refine blk_alloc ?_ _)); exact BK161.out⟩,⟨by repeat (first | (with_reducible first | exact HB.out | apply below_alloc | apply pw_below_drewN | apply below_drew1 | refine below_set ?_ GE161.out) | exact HB.out)⟩⟩
                       case round =>
                        clear H'
                        try clear c1
                        try clear p1
                        try clear q1
                        try clear hx1
                        try clear c2
                        try clear p2
                        try clear c3
                        try clear c6
                        try clear p6
                        try clear c12
                        try clear c14
                        try clear c14b0
                        try clear c14b1
                        try clear c16
                        try clear c16b0
                        try clear c16b1
                        try clear p16
                        try clear q16
                        try clear hx16
                        try clear c17
                        try clear c17b0
                        try clear c17b1
                        try clear p17
                        try clear q17
                        try clear hx17
                        try clear c20
                        try clear c20b0
                        try clear c21
                        try clear c21b0
                        try clear c24
                        try clear c24b0
                        try clear c25
                        try clear c25b0
                        try clear c27
                        try clear c27b0
                        try clear c30
                        try clear c30b0
                        try clear c31
                        try clear c31b0
                        try clear c32
                        try clear c32b0
                        try clear c33
                        try clear c33b0
                        try clear c34
                        try clear c34b0
                        try clear c34b1
                        try clear c34b2
                        try clear hcz10_0
                        try clear hcz10_1
                        try clear hcz10_2
                        try clear hcz10_3
                        try clear hfz10_0
                        try clear hfz10_1
                        try clear hfz10_2
                        try clear hfz10_3
                        try clear hx168_0
                        try clear hx170_0
                        try clear hx171_0
                        try clear p1
                        try clear p16
                        try clear p168
                        try clear p170
                        try clear p171
                        try clear p2
                        try clear p6
                        try clear q1
                        try clear q16
                        try clear q168
                        try clear q170
                        try clear q171
                        obtain ⟨x6_5,x13_5,rfl,HA,HK5,HO_6,BK161,HB⟩ := hrel
                        cases gk with
                        | zero => exact absurd HA.out (by simp [spec_CommasOf.l3])
                        | succ k5 =>
                         have H := HA.out
                         clear HA
                         simp only [spec_CommasOf.l3] at H
                         by_cases c35 : (wrap64 (x13_5 + a1)) ≤ (wrap64 (2 * a0_1))
                         ·rw [if_pos c35] at H
                          have c35b0 : decide ((wrap64 (x13_5 + a1)) ≤ (wrap64 (2 * a0_1))) = true := decide_eq_true c35
                          clear c35
                          by_cases c36 : 0 ≤ x13_5
                          ·rw [if_pos c36] at H
                           have c36b0 := eq_true c36
                           have c36b1 : decide (0 ≤ x13_5) = true := decide_eq_true c36
                           clear c36
                           by_cases c37 : x13_5 ≤ (wrap64 (x13_5 + a1))
                           ·rw [if_pos c37] at H
                            have c37b0 := eq_true c37
                            have c37b1 : decide (x13_5 ≤ (wrap64 (x13_5 + a1))) = true := decide_eq_true c37
                            by_cases c38 : (wrap64 (x13_5 + a1)) ≤ (tc.size : Int)
                            ·rw [if_pos c38] at H
                             have c38b0 := eq_true c38
                             have c38b1 : decide ((wrap64 (x13_5 + a1)) ≤ (tc.size : Int)) = true := decide_eq_true c38
                             replace H := Option.bind_eq_some_iff.mp H
                             obtain ⟨t172,A390,H⟩ := H
                             replace H : (if 0 ≤ t172 then (if t172 < (x6_5.length : Int) then (spec_CommasOf.l3 k5 a1 (x6_5.set (t172 : Int).toNat true) x7_2 l0_2 x9_3 l0_2 x11_4 tc (wrap64 (x13_5 + 1)) a0_0 a0_1 l0_2 l0_3) else (none)) else (none)) = some (r1,r2) := H
                             have A39 := Aside0.mk A390
                             clear A390
                             by_cases c40 : 0 ≤ t172
                             ·rw [if_pos c40] at H
                              have c40b0 : decide (0 ≤ t172) = true := decide_eq_true c40
                              clear c40
                              by_cases c41 : t172 < (x6_5.length : Int)
                              ·rw [if_pos c41] at H
                               have c41b0 : decide (t172 < (x6_5.length : Int)) = true := decide_eq_true c41
                               clear c41
                               obtain ⟨y173,hy173⟩ : ∃ y_ : List Bool,y_ = (x6_5.set (t172 : Int).toNat true) := ⟨_,rfl⟩
                               replace H : (spec_CommasOf.l3 k5 a1 y173 x7_2 l0_2 x9_3 l0_2 x11_4 tc (wrap64 (x13_5 + 1)) a0_0 a0_1 l0_2 l0_3) = some (r1,r2) := by first | (rw [hy173]; with_reducible exact H) | (have H2_ := (Option.bind_some _ _).symm.trans H; rw [hy173]; with_reducible exact H2_) | (have H2_ := (Option.bind_some _ _).symm.trans H; with_reducible exact H2_) | with_reducible exact H | (rw [hy173]; exact H) | exact H
                               have Ny173 := Aside0.mk hy173
                               clear hy173
                               have H' := Aside0.mk H
                               clear H
                               have hcz43_0 : wr.cell? ⟨gb161,0,none⟩ = some (.int .i64 a0_0) := (blk_cell BK161.out 0).trans rfl
                               have hcz43_1 : wr.cell? ⟨gb161,1,none⟩ = some (.int .i64 a0_1) := (blk_cell BK161.out 1).trans rfl
                               have hcz43_2 : wr.cell? ⟨gb161,2,none⟩ = some (.slice (some ad168) l0_2.length c0_2) := (blk_cell BK161.out 2).trans rfl
                               have hcz43_3 : wr.cell? ⟨gb161,3,none⟩ = some (.slice A0_3 l0_3.length c0_3) := (blk_cell BK161.out 3).trans rfl
                               have hfz43_0 := blk_frozen BK161.out 0
                               have hfz43_1 := blk_frozen BK161.out 1
                               have hfz43_2 := blk_frozen BK161.out 2
                               have hfz43_3 := blk_frozen BK161.out 3
                               go_wp2_with (first | (go_at_call 71; (with_reducible refine (spec_l01Number.calls k5 (tc.extract (x13_5 : Int).toNat ((wrap64 (x13_5 + a1)) : Int).toNat) t172 _ A39.out).mono ?_); rintro e w' ⟨rfl,⟨nd,rfl⟩⟩; (try first | exact ⟨rfl,_,World.drewN_drewN _ _ _⟩ | exact ⟨rfl,_,Eq.trans (World.drewN_drewN _ _ _) (congrArg (World.drewN _) (Nat.add_assoc _ _ _))⟩); have p42 : 0 ≤ (t172 : Int) := of_decide_eq_true (by first | (with_reducible assumption) | assumption); have q42 : (t172 : Int) < ((x6_5.length : Int) : Int) := of_decide_eq_true (by first | (with_reducible assumption) | assumption); obtain ⟨go42,co42,eo42,gb42,gl42,cl42,HG42⟩ := Kd.R_form HO_6.out (by omega); (first | cases eo42 | (injection eo42 with ea_ en_ ec_; (first | subst ea_ | (injection ea_ with ea_; subst ea_)); subst ec_; clear en_)); have GB42 := Aside0.mk gb42; have GG42 := Aside0.mk HG42; clear gb42 gl42 HG42; obtain ⟨hx42_0,hf42_0⟩ := Kd.R_celln false HO_6.out (t172 : Int) p42 q42; replace p42 := eq_true p42; replace q42 := eq_true q42; obtain ⟨hy44_,hz44_⟩ := Kd.R_celln false HO_6.out (t172 : Int) (of_decide_eq_true (by first | (with_reducible assumption) | assumption)) (of_decide_eq_true (by first | (with_reducible assumption) | assumption)); have HP44 := Kd.R_putg HO_6.out (t172 : Int) true) | ((with_reducible refine gate_store (t := 4) (p := 82) rfl ?_); (try (rw [drewN_self wr]; generalize hq_ : World.drewN wr _ = wr; have n0_ := Aside0.mk (Kd.R_at hq_ HO_6.out); have n1_ := Aside0.mk (blk_at hq_ BK161.out); have n2_ := Aside0.mk (below_at hq_ HB.out); clear hq_ HO_6 BK161 HB; have HO_6 := n0_; have BK161 := n1_; have HB := n2_; clear n0_ n1_ n2_; (try (obtain ⟨hy44_,hz44_⟩ := Kd.R_celln false HO_6.out (t172 : Int) (of_decide_eq_true (by first | (with_reducible assumption) | assumption)) (of_decide_eq_true (by first | (with_reducible assumption) | assumption)))); (try (have HP44 := Kd.R_putg HO_6.out (t172 : Int) true)))); refine store_event (t := 4) (p := 82) (v := ?vo_w45) (w1 := (wr.setCell ⟨go42,(t172 : Int).toNat,none⟩ (.bool true))) ?hg ?ho ?hn ?hr ?_; (case ho => rfl); (case hg => rfl); (case hn => rfl); (case hr => first | (go_simp; done) | (go_simp; rfl)); intro w45 hw; have hg : wr.grownBy w45 (some go42) := (by rw [hw]; exact HP44.2); have hp_ : Kd.R Kd.bool 4 w45 w.heap.size (fun _ => True) (.slice (some ⟨go42,0,none⟩) x6_5.length co42) y173 := (by rw [hw,Ny173.out]; exact HP44.1); clear HP44; have n0_ := Aside0.mk (hp_); have n1_ := Aside0.mk (blk_grown (g := gb161) (o := .cells #[.int .i64 a0_0,.int .i64 a0_1,.slice (some ad168) l0_2.length c0_2,.slice A0_3 l0_3.length c0_3] 30 (0,0)) (by (with_reducible repeat (first | refine blk_drewN ?_ _ | refine blk_drew ?_ | refine blk_alloc ?_ _)); exact BK161.out) hg (Kd.R_ne HO_6.out BK161.out (by decide))); have n2_ := Aside0.mk ((by rw [hw]; exact below_set (HB.out) GB42.out : Below w.heap.size w w45)); clear HO_6; clear BK161; clear HB; have HO_6 := n0_; have BK161 := n1_; have HB := n2_; clear n0_ n1_ n2_; clear hg hw hp_))
                               repeat (go_quiet (first | (go_at_call 71; (with_reducible refine (spec_l01Number.calls k5 (tc.extract (x13_5 : Int).toNat ((wrap64 (x13_5 + a1)) : Int).toNat) t172 _ A39.out).mono ?_); rintro e w' ⟨rfl,⟨nd,rfl⟩⟩; (try first | exact ⟨rfl,_,World.drewN_drewN _ _ _⟩ | exact ⟨rfl,_,Eq.trans (World.drewN_drewN _ _ _) (congrArg (World.drewN _) (Nat.add_assoc _ _ _))⟩); have p42 : 0 ≤ (t172 : Int) := of_decide_eq_true (by first | (with_reducible assumption) | assumption); have q42 : (t172 : Int) < ((x6_5.length : Int) : Int) := of_decide_eq_true (by first | (with_reducible assumption) | assumption); obtain ⟨go42,co42,eo42,gb42,gl42,cl42,HG42⟩ := Kd.R_form HO_6.out (by omega); (first | cases eo42 | (injection eo42 with ea_ en_ ec_; (first | subst ea_ | (injection ea_ with ea_; subst ea_)); subst ec_; clear en_)); have GB42 := Aside0.mk gb42; have GG42 := Aside0.mk HG42; clear gb42 gl42 HG42; obtain ⟨hx42_0,hf42_0⟩ := Kd.R_celln false HO_6.out (t172 : Int) p42 q42; replace p42 := eq_true p42; replace q42 := eq_true q42; obtain ⟨hy44_,hz44_⟩ := Kd.R_celln false HO_6.out (t172 : Int) (of_decide_eq_true (by first | (with_reducible assumption) | assumption)) (of_decide_eq_true (by first | (with_reducible assumption) | assumption)); have HP44 := Kd.R_putg HO_6.out (t172 : Int) true) | ((with_reducible refine gate_store (t := 4) (p := 82) rfl ?_); (try (rw [drewN_self wr]; generalize hq_ : World.drewN wr _ = wr; have n0_ := Aside0.mk (Kd.R_at hq_ HO_6.out); have n1_ := Aside0.mk (blk_at hq_ BK161.out); have n2_ := Aside0.mk (below_at hq_ HB.out); clear hq_ HO_6 BK161 HB; have HO_6 := n0_; have BK161 := n1_; have HB := n2_; clear n0_ n1_ n2_; (try (obtain ⟨hy44_,hz44_⟩ := Kd.R_celln false HO_6.out (t172 : Int) (of_decide_eq_true (by first | (with_reducible assumption) | assumption)) (of_decide_eq_true (by first | (with_reducible assumption) | assumption)))); (try (have HP44 := Kd.R_putg HO_6.out (t172 : Int) true)))); refine store_event (t := 4) (p := 82) (v := ?vo_w45) (w1 := (wr.setCell ⟨go42,(t172 : Int).toNat,none⟩ (.bool true))) ?hg ?ho ?hn ?hr ?_; (case ho => rfl); (case hg => rfl); (case hn => rfl); (case hr => first | (go_simp; done) | (go_simp; rfl)); intro w45 hw; have hg : wr.grownBy w45 (some go42) := (by rw [hw]; exact HP44.2); have hp_ : Kd.R Kd.bool 4 w45 w.heap.size (fun _ => True) (.slice (some ⟨go42,0,none⟩) x6_5.length co42) y173 := (by rw [hw,Ny173.out]; exact HP44.1); clear HP44; have n0_ := Aside0.mk (hp_); have n1_ := Aside0.mk (blk_grown (g := gb161) (o := .cells #[.int .i64 a0_0,.int .i64 a0_1,.slice (some ad168) l0_2.length c0_2,.slice A0_3 l0_3.length c0_3] 30 (0,0)) (by (with_reducible repeat (first | refine blk_drewN ?_ _ | refine blk_drew ?_ | refine blk_alloc ?_ _)); exact BK161.out) hg (Kd.R_ne HO_6.out BK161.out (by decide))); have n2_ := Aside0.mk ((by rw [hw]; exact below_set (HB.out) GB42.out : Below w.heap.size w w45)); clear HO_6; clear BK161; clear HB; have HO_6 := n0_; have BK161 := n1_; have HB := n2_; clear n0_ n1_ n2_; clear hg hw hp_)); try go_wp2_with (first | (go_at_call 71; (with_reducible refine (spec_l01Number.calls k5 (tc.extract (x13_5 : Int).toNat ((wrap64 (x13_5 + a1)) : Int).toNat) t172 _ A39.out).mono ?_); rintro e w' ⟨rfl,⟨nd,rfl⟩⟩; (try first | exact ⟨rfl,_,World.drewN_drewN _ _ _⟩ | exact ⟨rfl,_,Eq.trans (World.drewN_drewN _ _ _) (congrArg (World.drewN _) (Nat.add_assoc _ _ _))⟩); have p42 : 0 ≤ (t172 : Int) := of_decide_eq_true (by first | (with_reducible assumption) | assumption); have q42 : (t172 : Int) < ((x6_5.length : Int) : Int) := of_decide_eq_true (by first | (with_reducible assumption) | assumption); obtain ⟨go42,co42,eo42,gb42,gl42,cl42,HG42⟩ := Kd.R_form HO_6.out (by omega); (first | cases eo42 | (injection eo42 with ea_ en_ ec_; (first | subst ea_ | (injection ea_ with ea_; subst ea_)); subst ec_; clear en_)); have GB42 := Aside0.mk gb42; have GG42 := Aside0.mk HG42; clear gb42 gl42 HG42; obtain ⟨hx42_0,hf42_0⟩ := Kd.R_celln false HO_6.out (t172 : Int) p42 q42; replace p42 := eq_true p42; replace q42 := eq_true q42; obtain ⟨hy44_,hz44_⟩ := Kd.R_celln false HO_6.out (t172 : Int) (of_decide_eq_true (by first | (with_reducible assumption) | assumption)) (of_decide_eq_true (by first | (with_reducible assumption) | assumption)); have HP44 := Kd.R_putg HO_6.out (t172 : Int) true) | ((with_reducible refine gate_store (t := 4) (p := 82) rfl ?_); (try (rw [drewN_self wr]; generalize hq_ : World.drewN wr _ = wr; have n0_ := Aside0.mk (Kd.R_at hq_ HO_6.out); have n1_ := Aside0.mk (blk_at hq_ BK161.out); have n2_ := Aside0.mk (below_at hq_ HB.out); clear hq_ HO_6 BK161 HB; have HO_6 := n0_; have BK161 := n1_; have HB := n2_; clear n0_ n1_ n2_; (try (obtain ⟨hy44_,hz44_⟩ := Kd.R_celln false HO_6.out (t172 : Int) (of_decide_eq_true (by first | (with_reducible assumption) | assumption)) (of_decide_eq_true (by first | (with_reducible assumption) | assumption)))); (try (have HP44 := Kd.R_putg HO_6.out (t172 : Int) true)))); refine store_event (t := 4) (p := 82) (v := ?vo_w45) (w1 := (wr.setCell ⟨go42,(t172 : Int).toNat,none⟩ (.bool true))) ?hg ?ho ?hn ?hr ?_; (case ho => rfl); (case hg => rfl); (case hn => rfl); (case hr => first | (go_simp; done) | (go_simp; rfl)); intro w45 hw; have hg : wr.grownBy w45 (some go42) := (by rw [hw]; exact HP44.2); have hp_ : Kd.R Kd.bool 4 w45 w.heap.size (fun _ => True) (.slice (some ⟨go42,0,none⟩) x6_5.length co42) y173 := (by rw [hw,Ny173.out]; exact HP44.1); clear HP44; have n0_ := Aside0.mk (hp_); have n1_ := Aside0.mk (blk_grown (g := gb161) (o := .cells #[.int .i64 a0_0,.int .i64 a0_1,.slice (some ad168) l0_2.length c0_2,.slice A0_3 l0_3.length c0_3] 30 (0,0)) (by (with_reducible repeat (first | refine blk_drewN ?_ _ | refine blk_drew ?_ | refine blk_alloc ?_ _)); exact BK161.out) hg (Kd.R_ne HO_6.out BK161.out (by decide))); have n2_ := Aside0.mk ((by rw [hw]; exact below_set (HB.out) GB42.out : Below w.heap.size w w45)); clear HO_6; clear BK161; clear HB; have HO_6 := n0_; have BK161 := n1_; have HB := n2_; clear n0_ n1_ n2_; clear hg hw hp_)))
                               go_roundg k5
                               case measure => have := HJ2.out; have := HK2.out; have := HK3.out; have := HK4.out; have := HK5.out; omega
                               case rel => exact ⟨(y173),(wrap64 (x13_5 + 1)),(by first | rfl | (simp; done) | (simp [*]; done)),H',⟨by have := HJ2.out; have := HK2.out; have := HK3.out; have := HK4.out; have := HK5.out; omega⟩,⟨by (with_reducible repeat (first | apply Kd.R_alloc | apply Kd.R_drewN | apply Kd.R_drew)); exact HO_6.out⟩,⟨by (with_reducible repeat (first | refine blk_drewN ?_ _ | refine blk_drew ?_ | refine blk_alloc ?_ _)); exact BK161.out⟩,⟨by repeat (first | (with_reducible first | exact HB.out | apply below_alloc | apply pw_below_drewN | apply below_drew1 | refine below_set ?_ GE161.out) | exact HB.out)⟩⟩
                              ·rw [if_neg c41] at H
                               exact absurd H (by simp)
                             ·rw [if_neg c40] at H
                              exact absurd H (by simp)
                            ·rw [if_neg c38] at H
                             exact absurd H (by simp)
                           ·rw [if_neg c37] at H
                            exact absurd H (by simp)
                          ·rw [if_neg c36] at H
                           exact absurd H (by simp)
                         ·rw [if_neg c35] at H
                          have c35b0 : decide ((wrap64 (x13_5 + a1)) ≤ (wrap64 (2 * a0_1))) = false := decide_eq_false c35
                          clear c35
                          have H' := Aside0.mk H
                          clear H
                          have hcz46_0 : wr.cell? ⟨gb161,0,none⟩ = some (.int .i64 a0_0) := (blk_cell BK161.out 0).trans rfl
                          have hcz46_1 : wr.cell? ⟨gb161,1,none⟩ = some (.int .i64 a0_1) := (blk_cell BK161.out 1).trans rfl
                          have hcz46_2 : wr.cell? ⟨gb161,2,none⟩ = some (.slice (some ad168) l0_2.length c0_2) := (blk_cell BK161.out 2).trans rfl
                          have hcz46_3 : wr.cell? ⟨gb161,3,none⟩ = some (.slice A0_3 l0_3.length c0_3) := (blk_cell BK161.out 3).trans rfl
                          have hfz46_0 := blk_frozen BK161.out 0
                          have hfz46_1 := blk_frozen BK161.out 1
                          have hfz46_2 := blk_frozen BK161.out 2
                          have hfz46_3 := blk_frozen BK161.out 3
                          go_wp2
                          repeat (go_quiet (fail); try go_wp2)
                          go_roundg k5
                          case measure => have := HJ2.out; have := HK2.out; have := HK3.out; have := HK4.out; have := HK5.out; omega
                          case rel => exact ⟨(x6_5),(wrap64 (x11_4 + 1)),(by first | rfl | (simp; done) | (simp [*]; done)),H',⟨by have := HJ2.out; have := HK2.out; have := HK3.out; have := HK4.out; have := HK5.out; omega⟩,⟨by (with_reducible repeat (first | apply Kd.R_alloc | apply Kd.R_drewN | apply Kd.R_drew)); exact HO_6.out⟩,⟨by (with_reducible repeat (first | refine blk_drewN ?_ _ | refine blk_drew ?_ | refine blk_alloc ?_ _)); exact BK161.out⟩,⟨by repeat (first | (with_reducible first | exact HB.out | apply below_alloc | apply pw_below_drewN | apply below_drew1 | refine below_set ?_ GE161.out) | exact HB.out)⟩⟩
                      ·rw [if_neg c34] at H
                       exact absurd H (by simp)
                     ·rw [if_neg c33] at H
                      exact absurd H (by simp)
                    ·rw [if_neg c32] at H
                     exact absurd H (by simp)
                   ·rw [if_neg c31] at H
                    exact absurd H (by simp)
                  ·rw [if_neg c30] at H
                   have c30b0 : decide (x11_4 < (l0_2.length : Int)) = false := decide_eq_false c30
                   clear c30
                   have H' := Aside0.mk H
                   clear H
                   go_wp2
                   repeat (go_quiet (fail); try go_wp2)
                   go_roundg k4
                   case measure => have := HJ2.out; have := HK2.out; have := HK3.out; have := HK4.out; omega
                   case rel => exact ⟨(x6_4),(wrap64 (x9_3 + 1)),(by first | rfl | (simp; done) | (simp [*]; done)),H',⟨by have := HJ2.out; have := HK2.out; have := HK3.out; have := HK4.out; omega⟩,⟨by (with_reducible repeat (first | apply Kd.R_alloc | apply Kd.R_drewN | apply Kd.R_drew)); exact HO_6.out⟩,⟨by (with_reducible repeat (first | refine blk_drewN ?_ _ | refine blk_drew ?_ | refine blk_alloc ?_ _)); exact BK161.out⟩,⟨by repeat (first | (with_reducible first | exact HB.out | apply below_alloc | apply pw_below_drewN | apply below_drew1 | refine below_set ?_ GE161.out) | exact HB.out)⟩⟩
               ·rw [if_neg c27] at H
                have c27b0 : decide (t169 < 0) = false := decide_eq_false c27
                clear c27
                replace H := Option.bind_eq_some_iff.mp H
                obtain ⟨_,A470,H⟩ := H
                replace H : (spec_CommasOf.l102 k3 a1 x6_3 x7_2 l0_2 x9_3 l0_3 0 a0_0 a0_1 l0_2 l0_3) = some (r1,r2) := H
                have A47 := Aside0.mk A470
                clear A470
                have H' := Aside0.mk H
                clear H
                have p168 : 0 ≤ (x9_3 : Int) := of_decide_eq_true (by first | (with_reducible assumption) | assumption)
                have q168 : x9_3 < (l0_2.length : Int) := of_decide_eq_true (by first | (with_reducible assumption) | assumption)
                obtain ⟨ad168,e168,hx168_0⟩ := Kd.at_string HR0_2.out x9_3 p168 q168
                cases e168
                replace hx168_0 := (HB.out.cell (World.block_lt_of_cell? w _ hx168_0)).trans hx168_0
                replace p168 := eq_true p168
                replace q168 := eq_true q168
                go_wp2_with (first | (go_at_call 67; (with_reducible refine (spec_l03Next.calls k3 x7_2 (rdOf ByteArray.empty l0_2 x9_3) t169 _ A26.out).mono ?_); rintro e w' ⟨rfl,⟨nd,rfl⟩⟩; (try first | exact ⟨rfl,_,World.drewN_drewN _ _ _⟩ | exact ⟨rfl,_,Eq.trans (World.drewN_drewN _ _ _) (congrArg (World.drewN _) (Nat.add_assoc _ _ _))⟩)) | (go_at_call 52; (with_reducible refine (spec_l03List_pos.calls gb161 a0_0 a0_1 (some ad168) c0_2 l0_2 A0_3 c0_3 l0_3 t169  _ ?side1 ?side2 ?side3 ?side4 ?side5 A47.out).mono ?_); (case side1 => exact by (with_reducible repeat (first | refine blk_drewN ?_ _ | refine blk_drew ?_ | refine blk_alloc ?_ _)); exact BK161.out); (case side2 => repeat (first | exact (Kd.C_below HR0_2.out (by repeat (first | (with_reducible first | exact HB.out | apply below_alloc | apply pw_below_drewN | apply below_drew1 | refine below_set ?_ GE161.out) | exact HB.out))) | (with_reducible refine Kd.C_alloc ?_ _) | (with_reducible refine Kd.C_drewN ?_ _) | (with_reducible refine Kd.C_drew ?_))); (case side3 => exact HC0_2.out); (case side4 => repeat (first | exact (Kd.C_below HR0_3.out (by repeat (first | (with_reducible first | exact HB.out | apply below_alloc | apply pw_below_drewN | apply below_drew1 | refine below_set ?_ GE161.out) | exact HB.out))) | (with_reducible refine Kd.C_alloc ?_ _) | (with_reducible refine Kd.C_drewN ?_ _) | (with_reducible refine Kd.C_drew ?_))); (case side5 => exact HC0_3.out); rintro e w48 ⟨rfl,hb⟩; have n0_ := Aside0.mk (Kd.R_below (by (with_reducible repeat (first | apply Kd.R_alloc | apply Kd.R_drewN | apply Kd.R_drew)); exact HO_6.out) hb); have n1_ := Aside0.mk (blk_below (g := gb161) (o := .cells #[.int .i64 a0_0,.int .i64 a0_1,.slice (some ad168) l0_2.length c0_2,.slice A0_3 l0_3.length c0_3] 30 (0,0)) (by (with_reducible repeat (first | refine blk_drewN ?_ _ | refine blk_drew ?_ | refine blk_alloc ?_ _)); exact BK161.out) hb); have n2_ := Aside0.mk (below_step (by repeat (first | (with_reducible first | exact HB.out | apply below_alloc | apply pw_below_drewN | apply below_drew1 | refine below_set ?_ GE161.out) | exact HB.out)) hb); clear HO_6; clear BK161; clear HB; have HO_6 := n0_; have BK161 := n1_; have HB := n2_; clear n0_ n1_ n2_; (try clear hb); (try clear hb2); (try clear hk); (try clear hi)))
                repeat (go_quiet (first | (go_at_call 67; (with_reducible refine (spec_l03Next.calls k3 x7_2 (rdOf ByteArray.empty l0_2 x9_3) t169 _ A26.out).mono ?_); rintro e w' ⟨rfl,⟨nd,rfl⟩⟩; (try first | exact ⟨rfl,_,World.drewN_drewN _ _ _⟩ | exact ⟨rfl,_,Eq.trans (World.drewN_drewN _ _ _) (congrArg (World.drewN _) (Nat.add_assoc _ _ _))⟩)) | (go_at_call 52; (with_reducible refine (spec_l03List_pos.calls gb161 a0_0 a0_1 (some ad168) c0_2 l0_2 A0_3 c0_3 l0_3 t169  _ ?side1 ?side2 ?side3 ?side4 ?side5 A47.out).mono ?_); (case side1 => exact by (with_reducible repeat (first | refine blk_drewN ?_ _ | refine blk_drew ?_ | refine blk_alloc ?_ _)); exact BK161.out); (case side2 => repeat (first | exact (Kd.C_below HR0_2.out (by repeat (first | (with_reducible first | exact HB.out | apply below_alloc | apply pw_below_drewN | apply below_drew1 | refine below_set ?_ GE161.out) | exact HB.out))) | (with_reducible refine Kd.C_alloc ?_ _) | (with_reducible refine Kd.C_drewN ?_ _) | (with_reducible refine Kd.C_drew ?_))); (case side3 => exact HC0_2.out); (case side4 => repeat (first | exact (Kd.C_below HR0_3.out (by repeat (first | (with_reducible first | exact HB.out | apply below_alloc | apply pw_below_drewN | apply below_drew1 | refine below_set ?_ GE161.out) | exact HB.out))) | (with_reducible refine Kd.C_alloc ?_ _) | (with_reducible refine Kd.C_drewN ?_ _) | (with_reducible refine Kd.C_drew ?_))); (case side5 => exact HC0_3.out); rintro e w48 ⟨rfl,hb⟩; have n0_ := Aside0.mk (Kd.R_below (by (with_reducible repeat (first | apply Kd.R_alloc | apply Kd.R_drewN | apply Kd.R_drew)); exact HO_6.out) hb); have n1_ := Aside0.mk (blk_below (g := gb161) (o := .cells #[.int .i64 a0_0,.int .i64 a0_1,.slice (some ad168) l0_2.length c0_2,.slice A0_3 l0_3.length c0_3] 30 (0,0)) (by (with_reducible repeat (first | refine blk_drewN ?_ _ | refine blk_drew ?_ | refine blk_alloc ?_ _)); exact BK161.out) hb); have n2_ := Aside0.mk (below_step (by repeat (first | (with_reducible first | exact HB.out | apply below_alloc | apply pw_below_drewN | apply below_drew1 | refine below_set ?_ GE161.out) | exact HB.out)) hb); clear HO_6; clear BK161; clear HB; have HO_6 := n0_; have BK161 := n1_; have HB := n2_; clear n0_ n1_ n2_; (try clear hb); (try clear hb2); (try clear hk); (try clear hi))); try go_wp2_with (first | (go_at_call 67; (with_reducible refine (spec_l03Next.calls k3 x7_2 (rdOf ByteArray.empty l0_2 x9_3) t169 _ A26.out).mono ?_); rintro e w' ⟨rfl,⟨nd,rfl⟩⟩; (try first | exact ⟨rfl,_,World.drewN_drewN _ _ _⟩ | exact ⟨rfl,_,Eq.trans (World.drewN_drewN _ _ _) (congrArg (World.drewN _) (Nat.add_assoc _ _ _))⟩)) | (go_at_call 52; (with_reducible refine (spec_l03List_pos.calls gb161 a0_0 a0_1 (some ad168) c0_2 l0_2 A0_3 c0_3 l0_3 t169  _ ?side1 ?side2 ?side3 ?side4 ?side5 A47.out).mono ?_); (case side1 => exact by (with_reducible repeat (first | refine blk_drewN ?_ _ | refine blk_drew ?_ | refine blk_alloc ?_ _)); exact BK161.out); (case side2 => repeat (first | exact (Kd.C_below HR0_2.out (by repeat (first | (with_reducible first | exact HB.out | apply below_alloc | apply pw_below_drewN | apply below_drew1 | refine below_set ?_ GE161.out) | exact HB.out))) | (with_reducible refine Kd.C_alloc ?_ _) | (with_reducible refine Kd.C_drewN ?_ _) | (with_reducible refine Kd.C_drew ?_))); (case side3 => exact HC0_2.out); (case side4 => repeat (first | exact (Kd.C_below HR0_3.out (by repeat (first | (with_reducible first | exact HB.out | apply below_alloc | apply pw_below_drewN | apply below_drew1 | refine below_set ?_ GE161.out) | exact HB.out))) | (with_reducible refine Kd.C_alloc ?_ _) | (with_reducible refine Kd.C_drewN ?_ _) | (with_reducible refine Kd.C_drew ?_))); (case side5 => exact HC0_3.out); rintro e w48 ⟨rfl,hb⟩; have n0_ := Aside0.mk (Kd.R_below (by (with_reducible repeat (first | apply Kd.R_alloc | apply Kd.R_drewN | apply Kd.R_drew)); exact HO_6.out) hb); have n1_ := Aside0.mk (blk_below (g := gb161) (o := .cells #[.int .i64 a0_0,.int .i64 a0_1,.slice (some ad168) l0_2.length c0_2,.slice A0_3 l0_3.length c0_3] 30 (0,0)) (by (with_reducible repeat (first | refine blk_drewN ?_ _ | refine blk_drew ?_ | refine blk_alloc ?_ _)); exact BK161.out) hb); have n2_ := Aside0.mk (below_step (by repeat (first | (with_reducible first | exact HB.out | apply below_alloc | apply pw_below_drewN | apply below_drew1 | refine below_set ?_ GE161.out) | exact HB.out)) hb); clear HO_6; clear BK161; clear HB; have HO_6 := n0_; have BK161 := n1_; have HB := n2_; clear n0_ n1_ n2_; (try clear hb); (try clear hb2); (try clear hk); (try clear hi))))
                go_loopg [11] k3 (fun kq v11 w' => ∃ (x6_4 : List Bool) (x11_4 : Int),v11 = .int .i64 x11_4 ∧ Aside0 (spec_CommasOf.l102 kq a1 x6_4 x7_2 l0_2 x9_3 l0_3 x11_4 a0_0 a0_1 l0_2 l0_3 = some (r1,r2)) ∧ Aside0 (kq ≤ k3) ∧ Aside0 (Kd.R Kd.bool 4 w' w.heap.size (fun _ => True) v166 x6_4) ∧ Aside0 (w'.heap[gb161]? = some (.cells #[.int .i64 a0_0,.int .i64 a0_1,(.slice (some ad168) l0_2.length c0_2),(.slice A0_3 l0_3.length c0_3)] 30 (0,0))) ∧ Aside0 (Below w.heap.size w w'))
                case atStart => exact ⟨(x6_3),(0),(by first | rfl | (simp; done) | (simp [*]; done)),H',⟨Nat.le_refl _⟩,⟨by (with_reducible repeat (first | apply Kd.R_alloc | apply Kd.R_drewN | apply Kd.R_drew)); exact HO_6.out⟩,⟨by (with_reducible repeat (first | refine blk_drewN ?_ _ | refine blk_drew ?_ | refine blk_alloc ?_ _)); exact BK161.out⟩,⟨by repeat (first | (with_reducible first | exact HB.out | apply below_alloc | apply pw_below_drewN | apply below_drew1 | refine below_set ?_ GE161.out) | exact HB.out)⟩⟩
                case round =>
                 clear H'
                 try clear c1
                 try clear p1
                 try clear q1
                 try clear hx1
                 try clear c2
                 try clear p2
                 try clear c3
                 try clear c4
                 try clear p4
                 try clear q4
                 try clear hx4
                 try clear hf4
                 try clear c6
                 try clear p6
                 try clear c12
                 try clear c14
                 try clear c14b0
                 try clear c14b1
                 try clear c16
                 try clear c16b0
                 try clear c16b1
                 try clear p16
                 try clear q16
                 try clear hx16
                 try clear c17
                 try clear c17b0
                 try clear c17b1
                 try clear p17
                 try clear q17
                 try clear hx17
                 try clear c20
                 try clear c20b0
                 try clear c21
                 try clear c21b0
                 try clear c24
                 try clear c24b0
                 try clear c25
                 try clear c25b0
                 try clear c27
                 try clear c27b0
                 try clear c30
                 try clear c30b0
                 try clear c31
                 try clear c31b0
                 try clear c32
                 try clear c32b0
                 try clear c33
                 try clear c33b0
                 try clear c34
                 try clear c34b0
                 try clear c34b1
                 try clear c34b2
                 try clear c35
                 try clear c35b0
                 try clear c36
                 try clear c36b0
                 try clear c36b1
                 try clear c37
                 try clear c37b0
                 try clear c37b1
                 try clear c38
                 try clear c38b0
                 try clear c38b1
                 try clear c40
                 try clear c40b0
                 try clear c41
                 try clear c41b0
                 try clear p42
                 try clear q42
                 try clear hx42
                 try clear hf42
                 try clear hcz10_0
                 try clear hcz10_1
                 try clear hcz10_2
                 try clear hcz10_3
                 try clear hcz43_0
                 try clear hcz43_1
                 try clear hcz43_2
                 try clear hcz43_3
                 try clear hcz46_0
                 try clear hcz46_1
                 try clear hcz46_2
                 try clear hcz46_3
                 try clear hfz10_0
                 try clear hfz10_1
                 try clear hfz10_2
                 try clear hfz10_3
                 try clear hfz43_0
                 try clear hfz43_1
                 try clear hfz43_2
                 try clear hfz43_3
                 try clear hfz46_0
                 try clear hfz46_1
                 try clear hfz46_2
                 try clear hfz46_3
                 try clear hx168_0
                 try clear hx170_0
                 try clear hx171_0
                 try clear hx42_0
                 try clear p1
                 try clear p16
                 try clear p168
                 try clear p17
                 try clear p170
                 try clear p171
                 try clear p2
                 try clear p42
                 try clear p6
                 try clear q1
                 try clear q16
                 try clear q168
                 try clear q17
                 try clear q170
                 try clear q171
                 try clear q42
                 obtain ⟨x6_4,x11_4,rfl,HA,HK4,HO_6,BK161,HB⟩ := hrel
                 cases gk with
                 | zero => exact absurd HA.out (by simp [spec_CommasOf.l102])
                 | succ k4 =>
                  have H := HA.out
                  clear HA
                  simp only [spec_CommasOf.l102] at H
                  by_cases c49 : x11_4 < (l0_3.length : Int)
                  ·rw [if_pos c49] at H
                   have c49b0 : decide (x11_4 < (l0_3.length : Int)) = true := decide_eq_true c49
                   clear c49
                   by_cases c50 : 0 ≤ x9_3
                   ·rw [if_pos c50] at H
                    have c50b0 : decide (0 ≤ x9_3) = true := decide_eq_true c50
                    clear c50
                    by_cases c51 : x9_3 < (l0_2.length : Int)
                    ·rw [if_pos c51] at H
                     have c51b0 : decide (x9_3 < (l0_2.length : Int)) = true := decide_eq_true c51
                     clear c51
                     by_cases c52 : 0 ≤ x11_4
                     ·rw [if_pos c52] at H
                      have c52b0 : decide (0 ≤ x11_4) = true := decide_eq_true c52
                      clear c52
                      by_cases c53 : (rdOf ByteArray.empty l0_2 x9_3).size + (rdOf ByteArray.empty l0_3 x11_4).size ≤ 9223372036854775807
                      ·rw [if_pos c53] at H
                       have c53b0 := eq_true c53
                       have c53b1 : decide ((rdOf ByteArray.empty l0_2 x9_3).size + (rdOf ByteArray.empty l0_3 x11_4).size ≤ 9223372036854775807) = true := decide_eq_true c53
                       try have c53b2 : (9223372036854775807 < (rdOf ByteArray.empty l0_2 x9_3).size + (rdOf ByteArray.empty l0_3 x11_4).size) = False := eq_false (Nat.not_lt.2 c53)
                       have H' := Aside0.mk H
                       clear H
                       have p174 : 0 ≤ (x9_3 : Int) := of_decide_eq_true (by first | (with_reducible assumption) | assumption)
                       have q174 : x9_3 < (l0_2.length : Int) := of_decide_eq_true (by first | (with_reducible assumption) | assumption)
                       obtain ⟨ad174,e174,hx174_0⟩ := Kd.at_string HR0_2.out x9_3 p174 q174
                       obtain rfl : ad168 = ad174 := (by injection e174)
                       replace hx174_0 := (HB.out.cell (World.block_lt_of_cell? w _ hx174_0)).trans hx174_0
                       replace p174 := eq_true p174
                       replace q174 := eq_true q174
                       have p175 : 0 ≤ (x11_4 : Int) := of_decide_eq_true (by first | (with_reducible assumption) | assumption)
                       have q175 : x11_4 < (l0_3.length : Int) := of_decide_eq_true (by first | (with_reducible assumption) | assumption)
                       obtain ⟨ad175,e175,hx175_0⟩ := Kd.at_string HR0_3.out x11_4 p175 q175
                       cases e175
                       replace hx175_0 := (HB.out.cell (World.block_lt_of_cell? w _ hx175_0)).trans hx175_0
                       replace p175 := eq_true p175
                       replace q175 := eq_true q175
                       go_wp2
                       repeat (go_quiet (fail); try go_wp2)
                       generalize ((rdOf ByteArray.empty l0_2 x9_3) ++ (rdOf ByteArray.empty l0_3 x11_4)) = tc at H' ⊢
                       go_loopg [13] k4 (fun kq v13 w' => ∃ (x6_5 : List Bool) (x13_5 : Int),v13 = .int .i64 x13_5 ∧ Aside0 (spec_CommasOf.l103 kq a1 x6_5 x7_2 l0_2 x9_3 l0_3 x11_4 tc x13_5 a0_0 a0_1 l0_2 l0_3 = some (r1,r2)) ∧ Aside0 (kq ≤ k4) ∧ Aside0 (Kd.R Kd.bool 4 w' w.heap.size (fun _ => True) v166 x6_5) ∧ Aside0 (w'.heap[gb161]? = some (.cells #[.int .i64 a0_0,.int .i64 a0_1,(.slice (some ad168) l0_2.length c0_2),(.slice (some ad175) l0_3.length c0_3)] 30 (0,0))) ∧ Aside0 (Below w.heap.size w w'))
                       case atStart => exact ⟨(x6_4),(0),(by first | rfl | (simp; done) | (simp [*]; done)),H',⟨Nat.le_refl _⟩,⟨by (with_reducible repeat (first | apply Kd.R_alloc | apply Kd.R_drewN | apply Kd.R_drew)); exact HO_6.out⟩,⟨by (with_reducible repeat (first | refine blk_drewN ?_ _ | refine blk_drew ?_ | refine blk_alloc ?_ _)); exact BK161.out⟩,⟨by repeat (first | (with_reducible first | exact HB.out | apply below_alloc | apply pw_below_drewN | apply below_drew1 | refine below_set ?_ GE161.out) | exact HB.out)⟩⟩
                       case round =>
                        clear H'
                        try clear c1
                        try clear p1
                        try clear q1
                        try clear hx1
                        try clear c2
                        try clear p2
                        try clear c3
                        try clear c4
                        try clear p4
                        try clear q4
                        try clear hx4
                        try clear hf4
                        try clear c5
                        try clear c6
                        try clear p6
                        try clear c12
                        try clear c14
                        try clear c14b0
                        try clear c14b1
                        try clear c16
                        try clear c16b0
                        try clear c16b1
                        try clear p16
                        try clear q16
                        try clear hx16
                        try clear c17
                        try clear c17b0
                        try clear c17b1
                        try clear p17
                        try clear q17
                        try clear hx17
                        try clear c20
                        try clear c20b0
                        try clear c21
                        try clear c21b0
                        try clear c24
                        try clear c24b0
                        try clear c25
                        try clear c25b0
                        try clear c27
                        try clear c27b0
                        try clear c30
                        try clear c30b0
                        try clear c31
                        try clear c31b0
                        try clear c32
                        try clear c32b0
                        try clear c33
                        try clear c33b0
                        try clear c34
                        try clear c34b0
                        try clear c34b1
                        try clear c34b2
                        try clear c35
                        try clear c35b0
                        try clear c36
                        try clear c36b0
                        try clear c36b1
                        try clear c37
                        try clear c37b0
                        try clear c37b1
                        try clear c38
                        try clear c38b0
                        try clear c38b1
                        try clear c40
                        try clear c40b0
                        try clear c41
                        try clear c41b0
                        try clear p42
                        try clear q42
                        try clear hx42
                        try clear hf42
                        try clear c49
                        try clear c49b0
                        try clear c50
                        try clear c50b0
                        try clear c51
                        try clear c51b0
                        try clear c52
                        try clear c52b0
                        try clear c53
                        try clear c53b0
                        try clear c53b1
                        try clear c53b2
                        try clear hcz10_0
                        try clear hcz10_1
                        try clear hcz10_2
                        try clear hcz10_3
                        try clear hcz43_0
                        try clear hcz43_1
                        try clear hcz43_2
                        try clear hcz43_3
                        try clear hcz46_0
                        try clear hcz46_1
                        try clear hcz46_2
                        try clear hcz46_3
                        try clear hfz10_0
                        try clear hfz10_1
                        try clear hfz10_2
                        try clear hfz10_3
                        try clear hfz43_0
                        try clear hfz43_1
                        try clear hfz43_2
                        try clear hfz43_3
                        try clear hfz46_0
                        try clear hfz46_1
                        try clear hfz46_2
                        try clear hfz46_3
                        try clear hx168_0
                        try clear hx170_0
                        try clear hx171_0
                        try clear hx174_0
                        try clear hx175_0
                        try clear hx42_0
                        try clear p1
                        try clear p16
                        try clear p168
                        try clear p17
                        try clear p170
                        try clear p171
                        try clear p174
                        try clear p175
                        try clear p2
                        try clear p4
                        try clear p42
                        try clear p6
                        try clear q1
                        try clear q16
                        try clear q168
                        try clear q17
                        try clear q170
                        try clear q171
                        try clear q174
                        try clear q175
                        try clear q4
                        try clear q42
                        obtain ⟨x6_5,x13_5,rfl,HA,HK5,HO_6,BK161,HB⟩ := hrel
                        cases gk with
                        | zero => exact absurd HA.out (by simp [spec_CommasOf.l103])
                        | succ k5 =>
                         have H := HA.out
                         clear HA
                         simp only [spec_CommasOf.l103] at H
                         by_cases c54 : (wrap64 (x13_5 + a1)) ≤ (wrap64 (2 * a0_1))
                         ·rw [if_pos c54] at H
                          have c54b0 : decide ((wrap64 (x13_5 + a1)) ≤ (wrap64 (2 * a0_1))) = true := decide_eq_true c54
                          clear c54
                          by_cases c55 : 0 ≤ x13_5
                          ·rw [if_pos c55] at H
                           have c55b0 := eq_true c55
                           have c55b1 : decide (0 ≤ x13_5) = true := decide_eq_true c55
                           clear c55
                           by_cases c56 : x13_5 ≤ (wrap64 (x13_5 + a1))
                           ·rw [if_pos c56] at H
                            have c56b0 := eq_true c56
                            have c56b1 : decide (x13_5 ≤ (wrap64 (x13_5 + a1))) = true := decide_eq_true c56
                            by_cases c57 : (wrap64 (x13_5 + a1)) ≤ (tc.size : Int)
                            ·rw [if_pos c57] at H
                             have c57b0 := eq_true c57
                             have c57b1 : decide ((wrap64 (x13_5 + a1)) ≤ (tc.size : Int)) = true := decide_eq_true c57
                             replace H := Option.bind_eq_some_iff.mp H
                             obtain ⟨t176,A580,H⟩ := H
                             replace H : (if 0 ≤ t176 then (if t176 < (x6_5.length : Int) then (spec_CommasOf.l103 k5 a1 (x6_5.set (t176 : Int).toNat true) x7_2 l0_2 x9_3 l0_3 x11_4 tc (wrap64 (x13_5 + 1)) a0_0 a0_1 l0_2 l0_3) else (none)) else (none)) = some (r1,r2) := H
                             have A58 := Aside0.mk A580
                             clear A580
                             by_cases c59 : 0 ≤ t176
                             ·rw [if_pos c59] at H
                              have c59b0 : decide (0 ≤ t176) = true := decide_eq_true c59
                              clear c59
                              by_cases c60 : t176 < (x6_5.length : Int)
                              ·rw [if_pos c60] at H
                               have c60b0 : decide (t176 < (x6_5.length : Int)) = true := decide_eq_true c60
                               clear c60
                               obtain ⟨y177,hy177⟩ : ∃ y_ : List Bool,y_ = (x6_5.set (t176 : Int).toNat true) := ⟨_,rfl⟩
                               replace H : (spec_CommasOf.l103 k5 a1 y177 x7_2 l0_2 x9_3 l0_3 x11_4 tc (wrap64 (x13_5 + 1)) a0_0 a0_1 l0_2 l0_3) = some (r1,r2) := by first | (rw [hy177]; with_reducible exact H) | (have H2_ := (Option.bind_some _ _).symm.trans H; rw [hy177]; with_reducible exact H2_) | (have H2_ := (Option.bind_some _ _).symm.trans H; with_reducible exact H2_) | with_reducible exact H | (rw [hy177]; exact H) | exact H
                               have Ny177 := Aside0.mk hy177
                               clear hy177
                               have H' := Aside0.mk H
                               clear H
                               have hcz62_0 : wr.cell? ⟨gb161,0,none⟩ = some (.int .i64 a0_0) := (blk_cell BK161.out 0).trans rfl
                               have hcz62_1 : wr.cell? ⟨gb161,1,none⟩ = some (.int .i64 a0_1) := (blk_cell BK161.out 1).trans rfl
                               have hcz62_2 : wr.cell? ⟨gb161,2,none⟩ = some (.slice (some ad168) l0_2.length c0_2) := (blk_cell BK161.out 2).trans rfl
                               have hcz62_3 : wr.cell? ⟨gb161,3,none⟩ = some (.slice (some ad175) l0_3.length c0_3) := (blk_cell BK161.out 3).trans rfl
                               have hfz62_0 := blk_frozen BK161.out 0
                               have hfz62_1 := blk_frozen BK161.out 1
                               have hfz62_2 := blk_frozen BK161.out 2
                               have hfz62_3 := blk_frozen BK161.out 3
                               go_wp2_with (first | (go_at_call 71; (with_reducible refine (spec_l01Number.calls k5 (tc.extract (x13_5 : Int).toNat ((wrap64 (x13_5 + a1)) : Int).toNat) t176 _ A58.out).mono ?_); rintro e w' ⟨rfl,⟨nd,rfl⟩⟩; (try first | exact ⟨rfl,_,World.drewN_drewN _ _ _⟩ | exact ⟨rfl,_,Eq.trans (World.drewN_drewN _ _ _) (congrArg (World.drewN _) (Nat.add_assoc _ _ _))⟩); have p61 : 0 ≤ (t176 : Int) := of_decide_eq_true (by first | (with_reducible assumption) | assumption); have q61 : (t176 : Int) < ((x6_5.length : Int) : Int) := of_decide_eq_true (by first | (with_reducible assumption) | assumption); obtain ⟨go61,co61,eo61,gb61,gl61,cl61,HG61⟩ := Kd.R_form HO_6.out (by omega); (first | cases eo61 | (injection eo61 with ea_ en_ ec_; (first | subst ea_ | (injection ea_ with ea_; subst ea_)); subst ec_; clear en_)); have GB61 := Aside0.mk gb61; have GG61 := Aside0.mk HG61; clear gb61 gl61 HG61; obtain ⟨hx61_0,hf61_0⟩ := Kd.R_celln false HO_6.out (t176 : Int) p61 q61; replace p61 := eq_true p61; replace q61 := eq_true q61; obtain ⟨hy63_,hz63_⟩ := Kd.R_celln false HO_6.out (t176 : Int) (of_decide_eq_true (by first | (with_reducible assumption) | assumption)) (of_decide_eq_true (by first | (with_reducible assumption) | assumption)); have HP63 := Kd.R_putg HO_6.out (t176 : Int) true) | ((with_reducible refine gate_store (t := 4) (p := 82) rfl ?_); (try (rw [drewN_self wr]; generalize hq_ : World.drewN wr _ = wr; have n0_ := Aside0.mk (Kd.R_at hq_ HO_6.out); have n1_ := Aside0.mk (blk_at hq_ BK161.out); have n2_ := Aside0.mk (below_at hq_ HB.out); clear hq_ HO_6 BK161 HB; have HO_6 := n0_; have BK161 := n1_; have HB := n2_; clear n0_ n1_ n2_; (try (obtain ⟨hy63_,hz63_⟩ := Kd.R_celln false HO_6.out (t176 : Int) (of_decide_eq_true (by first | (with_reducible assumption) | assumption)) (of_decide_eq_true (by first | (with_reducible assumption) | assumption)))); (try (have HP63 := Kd.R_putg HO_6.out (t176 : Int) true)))); refine store_event (t := 4) (p := 82) (v := ?vo_w64) (w1 := (wr.setCell ⟨go61,(t176 : Int).toNat,none⟩ (.bool true))) ?hg ?ho ?hn ?hr ?_; (case ho => rfl); (case hg => rfl); (case hn => rfl); (case hr => first | (go_simp; done) | (go_simp; rfl)); intro w64 hw; have hg : wr.grownBy w64 (some go61) := (by rw [hw]; exact HP63.2); have hp_ : Kd.R Kd.bool 4 w64 w.heap.size (fun _ => True) (.slice (some ⟨go61,0,none⟩) x6_5.length co61) y177 := (by rw [hw,Ny177.out]; exact HP63.1); clear HP63; have n0_ := Aside0.mk (hp_); have n1_ := Aside0.mk (blk_grown (g := gb161) (o := .cells #[.int .i64 a0_0,.int .i64 a0_1,.slice (some ad168) l0_2.length c0_2,.slice (some ad175) l0_3.length c0_3] 30 (0,0)) (by (with_reducible repeat (first | refine blk_drewN ?_ _ | refine blk_drew ?_ | refine blk_alloc ?_ _)); exact BK161.out) hg (Kd.R_ne HO_6.out BK161.out (by decide))); have n2_ := Aside0.mk ((by rw [hw]; exact below_set (HB.out) GB61.out : Below w.heap.size w w64)); clear HO_6; clear BK161; clear HB; have HO_6 := n0_; have BK161 := n1_; have HB := n2_; clear n0_ n1_ n2_; clear hg hw hp_))
                               repeat (go_quiet (first | (go_at_call 71; (with_reducible refine (spec_l01Number.calls k5 (tc.extract (x13_5 : Int).toNat ((wrap64 (x13_5 + a1)) : Int).toNat) t176 _ A58.out).mono ?_); rintro e w' ⟨rfl,⟨nd,rfl⟩⟩; (try first | exact ⟨rfl,_,World.drewN_drewN _ _ _⟩ | exact ⟨rfl,_,Eq.trans (World.drewN_drewN _ _ _) (congrArg (World.drewN _) (Nat.add_assoc _ _ _))⟩); have p61 : 0 ≤ (t176 : Int) := of_decide_eq_true (by first | (with_reducible assumption) | assumption); have q61 : (t176 : Int) < ((x6_5.length : Int) : Int) := of_decide_eq_true (by first | (with_reducible assumption) | assumption); obtain ⟨go61,co61,eo61,gb61,gl61,cl61,HG61⟩ := Kd.R_form HO_6.out (by omega); (first | cases eo61 | (injection eo61 with ea_ en_ ec_; (first | subst ea_ | (injection ea_ with ea_; subst ea_)); subst ec_; clear en_)); have GB61 := Aside0.mk gb61; have GG61 := Aside0.mk HG61; clear gb61 gl61 HG61; obtain ⟨hx61_0,hf61_0⟩ := Kd.R_celln false HO_6.out (t176 : Int) p61 q61; replace p61 := eq_true p61; replace q61 := eq_true q61; obtain ⟨hy63_,hz63_⟩ := Kd.R_celln false HO_6.out (t176 : Int) (of_decide_eq_true (by first | (with_reducible assumption) | assumption)) (of_decide_eq_true (by first | (with_reducible assumption) | assumption)); have HP63 := Kd.R_putg HO_6.out (t176 : Int) true) | ((with_reducible refine gate_store (t := 4) (p := 82) rfl ?_); (try (rw [drewN_self wr]; generalize hq_ : World.drewN wr _ = wr; have n0_ := Aside0.mk (Kd.R_at hq_ HO_6.out); have n1_ := Aside0.mk (blk_at hq_ BK161.out); have n2_ := Aside0.mk (below_at hq_ HB.out); clear hq_ HO_6 BK161 HB; have HO_6 := n0_; have BK161 := n1_; have HB := n2_; clear n0_ n1_ n2_; (try (obtain ⟨hy63_,hz63_⟩ := Kd.R_celln false HO_6.out (t176 : Int) (of_decide_eq_true (by first | (with_reducible assumption) | assumption)) (of_decide_eq_true (by first | (with_reducible assumption) | assumption)))); (try (have HP63 := Kd.R_putg HO_6.out (t176 : Int) true)))); refine store_event (t := 4) (p := 82) (v := ?vo_w64) (w1 := (wr.setCell ⟨go61,(t176 : Int).toNat,none⟩ (.bool true))) ?hg ?ho ?hn ?hr ?_; (case ho => rfl); (case hg => rfl); (case hn => rfl); (case hr => first | (go_simp; done) | (go_simp; rfl)); intro w64 hw; have hg : wr.grownBy w64 (some go61) := (by rw [hw]; exact HP63.2); have hp_ : Kd.R Kd.bool 4 w64 w.heap.size (fun _ => True) (.slice (some ⟨go61,0,none⟩) x6_5.length co61) y177 := (by rw [hw,Ny177.out]; exact HP63.1); clear HP63; have n0_ := Aside0.mk (hp_); have n1_ := Aside0.mk (blk_grown (g := gb161) (o := .cells #[.int .i64 a0_0,.int .i64 a0_1,.slice (some ad168) l0_2.length c0_2,.slice (some ad175) l0_3.length c0_3] 30 (0,0)) (by (with_reducible repeat (first | refine blk_drewN ?_ _ | refine blk_drew ?_ | refine blk_alloc ?_ _)); exact BK161.out) hg (Kd.R_ne HO_6.out BK161.out (by decide))); have n2_ := Aside0.mk ((by rw [hw]; exact below_set (HB.out) GB61.out : Below w.heap.size w w64)); clear HO_6; clear BK161; clear HB; have HO_6 := n0_; have BK161 := n1_; have HB := n2_; clear n0_ n1_ n2_; clear hg hw hp_)); try go_wp2_with (first | (go_at_call 71; (with_reducible refine (spec_l01Number.calls k5 (tc.extract (x13_5 : Int).toNat ((wrap64 (x13_5 + a1)) : Int).toNat) t176 _ A58.out).mono ?_); rintro e w' ⟨rfl,⟨nd,rfl⟩⟩; (try first | exact ⟨rfl,_,World.drewN_drewN _ _ _⟩ | exact ⟨rfl,_,Eq.trans (World.drewN_drewN _ _ _) (congrArg (World.drewN _) (Nat.add_assoc _ _ _))⟩); have p61 : 0 ≤ (t176 : Int) := of_decide_eq_true (by first | (with_reducible assumption) | assumption); have q61 : (t176 : Int) < ((x6_5.length : Int) : Int) := of_decide_eq_true (by first | (with_reducible assumption) | assumption); obtain ⟨go61,co61,eo61,gb61,gl61,cl61,HG61⟩ := Kd.R_form HO_6.out (by omega); (first | cases eo61 | (injection eo61 with ea_ en_ ec_; (first | subst ea_ | (injection ea_ with ea_; subst ea_)); subst ec_; clear en_)); have GB61 := Aside0.mk gb61; have GG61 := Aside0.mk HG61; clear gb61 gl61 HG61; obtain ⟨hx61_0,hf61_0⟩ := Kd.R_celln false HO_6.out (t176 : Int) p61 q61; replace p61 := eq_true p61; replace q61 := eq_true q61; obtain ⟨hy63_,hz63_⟩ := Kd.R_celln false HO_6.out (t176 : Int) (of_decide_eq_true (by first | (with_reducible assumption) | assumption)) (of_decide_eq_true (by first | (with_reducible assumption) | assumption)); have HP63 := Kd.R_putg HO_6.out (t176 : Int) true) | ((with_reducible refine gate_store (t := 4) (p := 82) rfl ?_); (try (rw [drewN_self wr]; generalize hq_ : World.drewN wr _ = wr; have n0_ := Aside0.mk (Kd.R_at hq_ HO_6.out); have n1_ := Aside0.mk (blk_at hq_ BK161.out); have n2_ := Aside0.mk (below_at hq_ HB.out); clear hq_ HO_6 BK161 HB; have HO_6 := n0_; have BK161 := n1_; have HB := n2_; clear n0_ n1_ n2_; (try (obtain ⟨hy63_,hz63_⟩ := Kd.R_celln false HO_6.out (t176 : Int) (of_decide_eq_true (by first | (with_reducible assumption) | assumption)) (of_decide_eq_true (by first | (with_reducible assumption) | assumption)))); (try (have HP63 := Kd.R_putg HO_6.out (t176 : Int) true)))); refine store_event (t := 4) (p := 82) (v := ?vo_w64) (w1 := (wr.setCell ⟨go61,(t176 : Int).toNat,none⟩ (.bool true))) ?hg ?ho ?hn ?hr ?_; (case ho => rfl); (case hg => rfl); (case hn => rfl); (case hr => first | (go_simp; done) | (go_simp; rfl)); intro w64 hw; have hg : wr.grownBy w64 (some go61) := (by rw [hw]; exact HP63.2); have hp_ : Kd.R Kd.bool 4 w64 w.heap.size (fun _ => True) (.slice (some ⟨go61,0,none⟩) x6_5.length co61) y177 := (by rw [hw,Ny177.out]; exact HP63.1); clear HP63; have n0_ := Aside0.mk (hp_); have n1_ := Aside0.mk (blk_grown (g := gb161) (o := .cells #[.int .i64 a0_0,.int .i64 a0_1,.slice (some ad168) l0_2.length c0_2,.slice (some ad175) l0_3.length c0_3] 30 (0,0)) (by (with_reducible repeat (first | refine blk_drewN ?_ _ | refine blk_drew ?_ | refine blk_alloc ?_ _)); exact BK161.out) hg (Kd.R_ne HO_6.out BK161.out (by decide))); have n2_ := Aside0.mk ((by rw [hw]; exact below_set (HB.out) GB61.out : Below w.heap.size w w64)); clear HO_6; clear BK161; clear HB; have HO_6 := n0_; have BK161 := n1_; have HB := n2_; clear n0_ n1_ n2_; clear hg hw hp_)))
                               go_roundg k5
                               case measure => have := HJ2.out; have := HK2.out; have := HK3.out; have := HK4.out; have := HK5.out; omega
                               case rel => exact ⟨(y177),(wrap64 (x13_5 + 1)),(by first | rfl | (simp; done) | (simp [*]; done)),H',⟨by have := HJ2.out; have := HK2.out; have := HK3.out; have := HK4.out; have := HK5.out; omega⟩,⟨by (with_reducible repeat (first | apply Kd.R_alloc | apply Kd.R_drewN | apply Kd.R_drew)); exact HO_6.out⟩,⟨by (with_reducible repeat (first | refine blk_drewN ?_ _ | refine blk_drew ?_ | refine blk_alloc ?_ _)); exact BK161.out⟩,⟨by repeat (first | (with_reducible first | exact HB.out | apply below_alloc | apply pw_below_drewN | apply below_drew1 | refine below_set ?_ GE161.out) | exact HB.out)⟩⟩
                              ·rw [if_neg c60] at H
                               exact absurd H (by simp)
                             ·rw [if_neg c59] at H
                              exact absurd H (by simp)
                            ·rw [if_neg c57] at H
                             exact absurd H (by simp)
                           ·rw [if_neg c56] at H
                            exact absurd H (by simp)
                          ·rw [if_neg c55] at H
                           exact absurd H (by simp)
                         ·rw [if_neg c54] at H
                          have c54b0 : decide ((wrap64 (x13_5 + a1)) ≤ (wrap64 (2 * a0_1))) = false := decide_eq_false c54
                          clear c54
                          have H' := Aside0.mk H
                          clear H
                          have hcz65_0 : wr.cell? ⟨gb161,0,none⟩ = some (.int .i64 a0_0) := (blk_cell BK161.out 0).trans rfl
                          have hcz65_1 : wr.cell? ⟨gb161,1,none⟩ = some (.int .i64 a0_1) := (blk_cell BK161.out 1).trans rfl
                          have hcz65_2 : wr.cell? ⟨gb161,2,none⟩ = some (.slice (some ad168) l0_2.length c0_2) := (blk_cell BK161.out 2).trans rfl
                          have hcz65_3 : wr.cell? ⟨gb161,3,none⟩ = some (.slice (some ad175) l0_3.length c0_3) := (blk_cell BK161.out 3).trans rfl
                          have hfz65_0 := blk_frozen BK161.out 0
                          have hfz65_1 := blk_frozen BK161.out 1
                          have hfz65_2 := blk_frozen BK161.out 2
                          have hfz65_3 := blk_frozen BK161.out 3
                          go_wp2
                          repeat (go_quiet (fail); try go_wp2)
                          go_roundg k5
                          case measure => have := HJ2.out; have := HK2.out; have := HK3.out; have := HK4.out; have := HK5.out; omega
                          case rel => exact ⟨(x6_5),(wrap64 (x11_4 + 1)),(by first | rfl | (simp; done) | (simp [*]; done)),H',⟨by have := HJ2.out; have := HK2.out; have := HK3.out; have := HK4.out; have := HK5.out; omega⟩,⟨by (with_reducible repeat (first | apply Kd.R_alloc | apply Kd.R_drewN | apply Kd.R_drew)); exact HO_6.out⟩,⟨by (with_reducible repeat (first | refine blk_drewN ?_ _ | refine blk_drew ?_ | refine blk_alloc ?_ _)); exact BK161.out⟩,⟨by repeat (first | (with_reducible first | exact HB.out | apply below_alloc | apply pw_below_drewN | apply below_drew1 | refine below_set ?_ GE161.out) | exact HB.out)⟩⟩
                      ·rw [if_neg c53] at H
                       exact absurd H (by simp)
                     ·rw [if_neg c52] at H
                      exact absurd H (by simp)
                    ·rw [if_neg c51] at H
                     exact absurd H (by simp)
                   ·rw [if_neg c50] at H
                    exact absurd H (by simp)
                  ·rw [if_neg c49] at H
                   have c49b0 : decide (x11_4 < (l0_3.length : Int)) = false := decide_eq_false c49
                   clear c49
                   have H' := Aside0.mk H
                   clear H
                   go_wp2
                   repeat (go_quiet (fail); try go_wp2)
                   go_roundg k4
                   case measure => have := HJ2.out; have := HK2.out; have := HK3.out; have := HK4.out; omega
                   case rel => exact ⟨(x6_4),(wrap64 (x9_3 + 1)),(by first | rfl | (simp; done) | (simp [*]; done)),H',⟨by have := HJ2.out; have := HK2.out; have := HK3.out; have := HK4.out; omega⟩,⟨by (with_reducible repeat (first | apply Kd.R_alloc | apply Kd.R_drewN | apply Kd.R_drew)); exact HO_6.out⟩,⟨by (with_reducible repeat (first | refine blk_drewN ?_ _ | refine blk_drew ?_ | refine blk_alloc ?_ _)); exact BK161.out⟩,⟨by repeat (first | (with_reducible first | exact HB.out | apply below_alloc | apply pw_below_drewN | apply below_drew1 | refine below_set ?_ GE161.out) | exact HB.out)⟩⟩
              ·rw [if_neg c25] at H
               exact absurd H (by simp)
             ·rw [if_neg c24] at H
              have c24b0 : decide (x9_3 < (l0_2.length : Int)) = false := decide_eq_false c24
              clear c24
              have H' := Aside0.mk H
              clear H
              go_wp2
              repeat (go_quiet (fail); try go_wp2)
              go_roundg k3
              case measure => have := HJ2.out; have := HK2.out; have := HK3.out; omega
              case rel => exact ⟨(x6_3),(wrap64 (x7_2 + 2)),(by first | rfl | (simp; done) | (simp [*]; done)),H',⟨by have := HJ2.out; have := HK2.out; have := HK3.out; omega⟩,⟨by (with_reducible repeat (first | apply Kd.R_alloc | apply Kd.R_drewN | apply Kd.R_drew)); exact HO_6.out⟩,⟨by (with_reducible repeat (first | refine blk_drewN ?_ _ | refine blk_drew ?_ | refine blk_alloc ?_ _)); exact BK161.out⟩,⟨by repeat (first | (with_reducible first | exact HB.out | apply below_alloc | apply pw_below_drewN | apply below_drew1 | refine below_set ?_ GE161.out) | exact HB.out)⟩⟩
          ·rw [if_neg c21] at H
           have c21b0 : decide (x7_2 < 0) = false := decide_eq_false c21
           clear c21
           replace H := Option.bind_eq_some_iff.mp H
           obtain ⟨_,A660,H⟩ := H
           replace H : (spec_CommasOf.l101 k2 a1 x6_2 x7_2 l0_3 0 a0_0 a0_1 l0_2 l0_3) = some (r1,r2) := H
           have A66 := Aside0.mk A660
           clear A660
           have H' := Aside0.mk H
           clear H
           go_wp2_with (first | (go_at_call 52; (with_reducible refine (spec_l03List_pos.calls gb161 a0_0 a0_1 A0_2 c0_2 l0_2 A0_3 c0_3 l0_3 x7_2  _ ?side1 ?side2 ?side3 ?side4 ?side5 A66.out).mono ?_); (case side1 => exact by (with_reducible repeat (first | refine blk_drewN ?_ _ | refine blk_drew ?_ | refine blk_alloc ?_ _)); exact BK161.out); (case side2 => repeat (first | exact (Kd.C_below HR0_2.out HB.out) | (with_reducible refine Kd.C_alloc ?_ _) | (with_reducible refine Kd.C_drewN ?_ _) | (with_reducible refine Kd.C_drew ?_))); (case side3 => exact HC0_2.out); (case side4 => repeat (first | exact (Kd.C_below HR0_3.out HB.out) | (with_reducible refine Kd.C_alloc ?_ _) | (with_reducible refine Kd.C_drewN ?_ _) | (with_reducible refine Kd.C_drew ?_))); (case side5 => exact HC0_3.out); rintro e w67 ⟨rfl,hb⟩; have n0_ := Aside0.mk (Kd.R_below (by (with_reducible repeat (first | apply Kd.R_alloc | apply Kd.R_drewN | apply Kd.R_drew)); exact HO_6.out) hb); have n1_ := Aside0.mk (blk_below (g := gb161) (o := .cells #[.int .i64 a0_0,.int .i64 a0_1,.slice A0_2 l0_2.length c0_2,.slice A0_3 l0_3.length c0_3] 30 (0,0)) (by (with_reducible repeat (first | refine blk_drewN ?_ _ | refine blk_drew ?_ | refine blk_alloc ?_ _)); exact BK161.out) hb); have n2_ := Aside0.mk (below_step (by repeat (first | (with_reducible first | exact HB.out | apply below_alloc | apply pw_below_drewN | apply below_drew1 | refine below_set ?_ GE161.out) | exact HB.out)) hb); clear HO_6; clear BK161; clear HB; have HO_6 := n0_; have BK161 := n1_; have HB := n2_; clear n0_ n1_ n2_; (try clear hb); (try clear hb2); (try clear hk); (try clear hi)))
           repeat (go_quiet (first | (go_at_call 52; (with_reducible refine (spec_l03List_pos.calls gb161 a0_0 a0_1 A0_2 c0_2 l0_2 A0_3 c0_3 l0_3 x7_2  _ ?side1 ?side2 ?side3 ?side4 ?side5 A66.out).mono ?_); (case side1 => exact by (with_reducible repeat (first | refine blk_drewN ?_ _ | refine blk_drew ?_ | refine blk_alloc ?_ _)); exact BK161.out); (case side2 => repeat (first | exact (Kd.C_below HR0_2.out HB.out) | (with_reducible refine Kd.C_alloc ?_ _) | (with_reducible refine Kd.C_drewN ?_ _) | (with_reducible refine Kd.C_drew ?_))); (case side3 => exact HC0_2.out); (case side4 => repeat (first | exact (Kd.C_below HR0_3.out HB.out) | (with_reducible refine Kd.C_alloc ?_ _) | (with_reducible refine Kd.C_drewN ?_ _) | (with_reducible refine Kd.C_drew ?_))); (case side5 => exact HC0_3.out); rintro e w67 ⟨rfl,hb⟩; have n0_ := Aside0.mk (Kd.R_below (by (with_reducible repeat (first | apply Kd.R_alloc | apply Kd.R_drewN | apply Kd.R_drew)); exact HO_6.out) hb); have n1_ := Aside0.mk (blk_below (g := gb161) (o := .cells #[.int .i64 a0_0,.int .i64 a0_1,.slice A0_2 l0_2.length c0_2,.slice A0_3 l0_3.length c0_3] 30 (0,0)) (by (with_reducible repeat (first | refine blk_drewN ?_ _ | refine blk_drew ?_ | refine blk_alloc ?_ _)); exact BK161.out) hb); have n2_ := Aside0.mk (below_step (by repeat (first | (with_reducible first | exact HB.out | apply below_alloc | apply pw_below_drewN | apply below_drew1 | refine below_set ?_ GE161.out) | exact HB.out)) hb); clear HO_6; clear BK161; clear HB; have HO_6 := n0_; have BK161 := n1_; have HB := n2_; clear n0_ n1_ n2_; (try clear hb); (try clear hb2); (try clear hk); (try clear hi))); try go_wp2_with (first | (go_at_call 52; (with_reducible refine (spec_l03List_pos.calls gb161 a0_0 a0_1 A0_2 c0_2 l0_2 A0_3 c0_3 l0_3 x7_2  _ ?side1 ?side2 ?side3 ?side4 ?side5 A66.out).mono ?_); (case side1 => exact by (with_reducible repeat (first | refine blk_drewN ?_ _ | refine blk_drew ?_ | refine blk_alloc ?_ _)); exact BK161.out); (case side2 => repeat (first | exact (Kd.C_below HR0_2.out HB.out) | (with_reducible refine Kd.C_alloc ?_ _) | (with_reducible refine Kd.C_drewN ?_ _) | (with_reducible refine Kd.C_drew ?_))); (case side3 => exact HC0_2.out); (case side4 => repeat (first | exact (Kd.C_below HR0_3.out HB.out) | (with_reducible refine Kd.C_alloc ?_ _) | (with_reducible refine Kd.C_drewN ?_ _) | (with_reducible refine Kd.C_drew ?_))); (case side5 => exact HC0_3.out); rintro e w67 ⟨rfl,hb⟩; have n0_ := Aside0.mk (Kd.R_below (by (with_reducible repeat (first | apply Kd.R_alloc | apply Kd.R_drewN | apply Kd.R_drew)); exact HO_6.out) hb); have n1_ := Aside0.mk (blk_below (g := gb161) (o := .cells #[.int .i64 a0_0,.int .i64 a0_1,.slice A0_2 l0_2.length c0_2,.slice A0_3 l0_3.length c0_3] 30 (0,0)) (by (with_reducible repeat (first | refine blk_drewN ?_ _ | refine blk_drew ?_ | refine blk_alloc ?_ _)); exact BK161.out) hb); have n2_ := Aside0.mk (below_step (by repeat (first | (with_reducible first | exact HB.out | apply below_alloc | apply pw_below_drewN | apply below_drew1 | refine below_set ?_ GE161.out) | exact HB.out)) hb); clear HO_6; clear BK161; clear HB; have HO_6 := n0_; have BK161 := n1_; have HB := n2_; clear n0_ n1_ n2_; (try clear hb); (try clear hb2); (try clear hk); (try clear hi))))
           go_loopg [9] k2 (fun kq v9 w' => ∃ (x6_3 : List Bool) (x9_3 : Int),v9 = .int .i64 x9_3 ∧ Aside0 (spec_CommasOf.l101 kq a1 x6_3 x7_2 l0_3 x9_3 a0_0 a0_1 l0_2 l0_3 = some (r1,r2)) ∧ Aside0 (kq ≤ k2) ∧ Aside0 (Kd.R Kd.bool 4 w' w.heap.size (fun _ => True) v166 x6_3) ∧ Aside0 (w'.heap[gb161]? = some (.cells #[.int .i64 a0_0,.int .i64 a0_1,(.slice A0_2 l0_2.length c0_2),(.slice A0_3 l0_3.length c0_3)] 30 (0,0))) ∧ Aside0 (Below w.heap.size w w'))
           case atStart => exact ⟨(x6_2),(0),(by first | rfl | (simp; done) | (simp [*]; done)),H',⟨Nat.le_refl _⟩,⟨by (with_reducible repeat (first | apply Kd.R_alloc | apply Kd.R_drewN | apply Kd.R_drew)); exact HO_6.out⟩,⟨by (with_reducible repeat (first | refine blk_drewN ?_ _ | refine blk_drew ?_ | refine blk_alloc ?_ _)); exact BK161.out⟩,⟨by repeat (first | (with_reducible first | exact HB.out | apply below_alloc | apply pw_below_drewN | apply below_drew1 | refine below_set ?_ GE161.out) | exact HB.out)⟩⟩
           case round =>
            clear H'
            try clear c1
            try clear p1
            try clear q1
            try clear hx1
            try clear c2
            try clear p2
            try clear c3
            try clear c4
            try clear p4
            try clear q4
            try clear hx4
            try clear hf4
            try clear c5
            try clear c6
            try clear p6
            try clear q6
            try clear hx6
            try clear hf6
            try clear c12
            try clear c14
            try clear c14b0
            try clear c14b1
            try clear c16
            try clear c16b0
            try clear c16b1
            try clear p16
            try clear q16
            try clear hx16
            try clear c17
            try clear c17b0
            try clear c17b1
            try clear p17
            try clear q17
            try clear hx17
            try clear c20
            try clear c20b0
            try clear c21
            try clear c21b0
            try clear c24
            try clear c24b0
            try clear c25
            try clear c25b0
            try clear c27
            try clear c27b0
            try clear c30
            try clear c30b0
            try clear c31
            try clear c31b0
            try clear c32
            try clear c32b0
            try clear c33
            try clear c33b0
            try clear c34
            try clear c34b0
            try clear c34b1
            try clear c34b2
            try clear c35
            try clear c35b0
            try clear c36
            try clear c36b0
            try clear c36b1
            try clear c37
            try clear c37b0
            try clear c37b1
            try clear c38
            try clear c38b0
            try clear c38b1
            try clear c40
            try clear c40b0
            try clear c41
            try clear c41b0
            try clear p42
            try clear q42
            try clear hx42
            try clear hf42
            try clear c49
            try clear c49b0
            try clear c50
            try clear c50b0
            try clear c51
            try clear c51b0
            try clear c52
            try clear c52b0
            try clear c53
            try clear c53b0
            try clear c53b1
            try clear c53b2
            try clear c54
            try clear c54b0
            try clear c55
            try clear c55b0
            try clear c55b1
            try clear c56
            try clear c56b0
            try clear c56b1
            try clear c57
            try clear c57b0
            try clear c57b1
            try clear c59
            try clear c59b0
            try clear c60
            try clear c60b0
            try clear p61
            try clear q61
            try clear hx61
            try clear hf61
            try clear p64
            try clear hcz10_0
            try clear hcz10_1
            try clear hcz10_2
            try clear hcz10_3
            try clear hcz43_0
            try clear hcz43_1
            try clear hcz43_2
            try clear hcz43_3
            try clear hcz46_0
            try clear hcz46_1
            try clear hcz46_2
            try clear hcz46_3
            try clear hcz62_0
            try clear hcz62_1
            try clear hcz62_2
            try clear hcz62_3
            try clear hcz65_0
            try clear hcz65_1
            try clear hcz65_2
            try clear hcz65_3
            try clear hfz10_0
            try clear hfz10_1
            try clear hfz10_2
            try clear hfz10_3
            try clear hfz43_0
            try clear hfz43_1
            try clear hfz43_2
            try clear hfz43_3
            try clear hfz46_0
            try clear hfz46_1
            try clear hfz46_2
            try clear hfz46_3
            try clear hfz62_0
            try clear hfz62_1
            try clear hfz62_2
            try clear hfz62_3
            try clear hfz65_0
            try clear hfz65_1
            try clear hfz65_2
            try clear hfz65_3
            try clear hx168_0
            try clear hx170_0
            try clear hx171_0
            try clear hx174_0
            try clear hx175_0
            try clear hx42_0
            try clear hx61_0
            try clear p1
            try clear p16
            try clear p168
            try clear p17
            try clear p170
            try clear p171
            try clear p174
            try clear p175
            try clear p2
            try clear p4
            try clear p42
            try clear p6
            try clear p61
            try clear q1
            try clear q16
            try clear q168
            try clear q17
            try clear q170
            try clear q171
            try clear q174
            try clear q175
            try clear q4
            try clear q42
            try clear q61
            obtain ⟨x6_3,x9_3,rfl,HA,HK3,HO_6,BK161,HB⟩ := hrel
            cases gk with
            | zero => exact absurd HA.out (by simp [spec_CommasOf.l101])
            | succ k3 =>
             have H := HA.out
             clear HA
             simp only [spec_CommasOf.l101] at H
             by_cases c68 : x9_3 < (l0_3.length : Int)
             ·rw [if_pos c68] at H
              have c68b0 : decide (x9_3 < (l0_3.length : Int)) = true := decide_eq_true c68
              clear c68
              by_cases c69 : 0 ≤ x9_3
              ·rw [if_pos c69] at H
               have c69b0 : decide (0 ≤ x9_3) = true := decide_eq_true c69
               clear c69
               replace H := Option.bind_eq_some_iff.mp H
               obtain ⟨t179,A700,H⟩ := H
               replace H : (if t179 < 0 then ((spec_l03List_neg.f a0_0 a0_1 l0_2 l0_3 t179).bind fun _ => (spec_CommasOf.l202 k3 a1 x6_3 x7_2 l0_3 x9_3 l0_2 0 a0_0 a0_1 l0_2 l0_3)) else ((spec_l03List_pos.f a0_0 a0_1 l0_2 l0_3 t179).bind fun _ => (spec_CommasOf.l302 k3 a1 x6_3 x7_2 l0_3 x9_3 l0_3 0 a0_0 a0_1 l0_2 l0_3))) = some (r1,r2) := H
               have A70 := Aside0.mk A700
               clear A700
               by_cases c71 : t179 < 0
               ·rw [if_pos c71] at H
                have c71b0 : decide (t179 < 0) = true := decide_eq_true c71
                clear c71
                replace H := Option.bind_eq_some_iff.mp H
                obtain ⟨_,A720,H⟩ := H
                replace H : (spec_CommasOf.l202 k3 a1 x6_3 x7_2 l0_3 x9_3 l0_2 0 a0_0 a0_1 l0_2 l0_3) = some (r1,r2) := H
                have A72 := Aside0.mk A720
                clear A720
                have H' := Aside0.mk H
                clear H
                have p178 : 0 ≤ (x9_3 : Int) := of_decide_eq_true (by first | (with_reducible assumption) | assumption)
                have q178 : x9_3 < (l0_3.length : Int) := of_decide_eq_true (by first | (with_reducible assumption) | assumption)
                obtain ⟨ad178,e178,hx178_0⟩ := Kd.at_string HR0_3.out x9_3 p178 q178
                cases e178
                replace hx178_0 := (HB.out.cell (World.block_lt_of_cell? w _ hx178_0)).trans hx178_0
                replace p178 := eq_true p178
                replace q178 := eq_true q178
                go_wp2_with (first | (go_at_call 67; (with_reducible refine (spec_l03Next.calls k3 x7_2 (rdOf ByteArray.empty l0_3 x9_3) t179 _ A70.out).mono ?_); rintro e w' ⟨rfl,⟨nd,rfl⟩⟩; (try first | exact ⟨rfl,_,World.drewN_drewN _ _ _⟩ | exact ⟨rfl,_,Eq.trans (World.drewN_drewN _ _ _) (congrArg (World.drewN _) (Nat.add_assoc _ _ _))⟩)) | (go_at_call 52; (with_reducible refine (spec_l03List_neg.calls gb161 a0_0 a0_1 A0_2 c0_2 l0_2 (some ad178) c0_3 l0_3 t179  _ ?side1 ?side2 ?side3 ?side4 ?side5 A72.out).mono ?_); (case side1 => exact by (with_reducible repeat (first | refine blk_drewN ?_ _ | refine blk_drew ?_ | refine blk_alloc ?_ _)); exact BK161.out); (case side2 => repeat (first | exact (Kd.C_below HR0_2.out (by repeat (first | (with_reducible first | exact HB.out | apply below_alloc | apply pw_below_drewN | apply below_drew1 | refine below_set ?_ GE161.out) | exact HB.out))) | (with_reducible refine Kd.C_alloc ?_ _) | (with_reducible refine Kd.C_drewN ?_ _) | (with_reducible refine Kd.C_drew ?_))); (case side3 => exact HC0_2.out); (case side4 => repeat (first | exact (Kd.C_below HR0_3.out (by repeat (first | (with_reducible first | exact HB.out | apply below_alloc | apply pw_below_drewN | apply below_drew1 | refine below_set ?_ GE161.out) | exact HB.out))) | (with_reducible refine Kd.C_alloc ?_ _) | (with_reducible refine Kd.C_drewN ?_ _) | (with_reducible refine Kd.C_drew ?_))); (case side5 => exact HC0_3.out); rintro e w73 ⟨rfl,hb⟩; have n0_ := Aside0.mk (Kd.R_below (by (with_reducible repeat (first | apply Kd.R_alloc | apply Kd.R_drewN | apply Kd.R_drew)); exact HO_6.out) hb); have n1_ := Aside0.mk (blk_below (g := gb161) (o := .cells #[.int .i64 a0_0,.int .i64 a0_1,.slice A0_2 l0_2.length c0_2,.slice (some ad178) l0_3.length c0_3] 30 (0,0)) (by (with_reducible repeat (first | refine blk_drewN ?_ _ | refine blk_drew ?_ | refine blk_alloc ?_ _)); exact BK161.out) hb); have n2_ := Aside0.mk (below_step (by repeat (first | (with_reducible first | exact HB.out | apply below_alloc | apply pw_below_drewN | apply below_drew1 | refine below_set ?_ GE161.out) | exact HB.out)) hb); clear HO_6; clear BK161; clear HB; have HO_6 := n0_; have BK161 := n1_; have HB := n2_; clear n0_ n1_ n2_; (try clear hb); (try clear hb2); (try clear hk); (try clear hi)))
                repeat (go_quiet (first | (go_at_call 67; (with_reducible refine (spec_l03Next.calls k3 x7_2 (rdOf ByteArray.empty l0_3 x9_3) t179 _ A70.out).mono ?_); rintro e w' ⟨rfl,⟨nd,rfl⟩⟩; (try first | exact ⟨rfl,_,World.drewN_drewN _ _ _⟩ | exact ⟨rfl,_,Eq.trans (World.drewN_drewN _ _ _) (congrArg (World.drewN _) (Nat.add_assoc _ _ _))⟩)) | (go_at_call 52; (with_reducible refine (spec_l03List_neg.calls gb161 a0_0 a0_1 A0_2 c0_2 l0_2 (some ad178) c0_3 l0_3 t179  _ ?side1 ?side2 ?side3 ?side4 ?side5 A72.out).mono ?_); (case side1 => exact by (with_reducible repeat (first | refine blk_drewN ?_ _ | refine blk_drew ?_ | refine blk_alloc ?_ _)); exact BK161.out); (case side2 => repeat (first | exact (Kd.C_below HR0_2.out (by repeat (first | (with_reducible first | exact HB.out | apply below_alloc | apply pw_below_drewN | apply below_drew1 | refine below_set ?_ GE161.out) | exact HB.out))) | (with_reducible refine Kd.C_alloc ?_ _) | (with_reducible refine Kd.C_drewN ?_ _) | (with_reducible refine Kd.C_drew ?_))); (case side3 => exact HC0_2.out); (case side4 => repeat (first | exact (Kd.C_below HR0_3.out (by repeat (first | (with_reducible first | exact HB.out | apply below_alloc | apply pw_below_drewN | apply below_drew1 | refine below_set ?_ GE161.out) | exact HB.out))) | (with_reducible refine Kd.C_alloc ?_ _) | (with_reducible refine Kd.C_drewN ?_ _) | (with_reducible refine Kd.C_drew ?_))); (case side5 => exact HC0_3.out); rintro e w73 ⟨rfl,hb⟩; have n0_ := Aside0.mk (Kd.R_below (by (with_reducible repeat (first | apply Kd.R_alloc | apply Kd.R_drewN | apply Kd.R_drew)); exact HO_6.out) hb); have n1_ := Aside0.mk (blk_below (g := gb161) (o := .cells #[.int .i64 a0_0,.int .i64 a0_1,.slice A0_2 l0_2.length c0_2,.slice (some ad178) l0_3.length c0_3] 30 (0,0)) (by (with_reducible repeat (first | refine blk_drewN ?_ _ | refine blk_drew ?_ | refine blk_alloc ?_ _)); exact BK161.out) hb); have n2_ := Aside0.mk (below_step (by repeat (first | (with_reducible first | exact HB.out | apply below_alloc | apply pw_below_drewN | apply below_drew1 | refine below_set ?_ GE161.out) | exact HB.out)) hb); clear HO_6; clear BK161; clear HB; have HO_6 := n0_; have BK161 := n1_; have HB := n2_; clear n0_ n1_ n2_; (try clear hb); (try clear hb2); (try clear hk); (try clear hi))); try go_wp2_with (first | (go_at_call 67; (with_reducible refine (spec_l03Next.calls k3 x7_2 (rdOf ByteArray.empty l0_3 x9_3) t179 _ A70.out).mono ?_); rintro e w' ⟨rfl,⟨nd,rfl⟩⟩; (try first | exact ⟨rfl,_,World.drewN_drewN _ _ _⟩ | exact ⟨rfl,_,Eq.trans (World.drewN_drewN _ _ _) (congrArg (World.drewN _) (Nat.add_assoc _ _ _))⟩)) | (go_at_call 52; (with_reducible refine (spec_l03List_neg.calls gb161 a0_0 a0_1 A0_2 c0_2 l0_2 (some ad178) c0_3 l0_3 t179  _ ?side1 ?side2 ?side3 ?side4 ?side5 A72.out).mono ?_); (case side1 => exact by (with_reducible repeat (first | refine blk_drewN ?_ _ | refine blk_drew ?_ | refine blk_alloc ?_ _)); exact BK161.out); (case side2 => repeat (first | exact (Kd.C_below HR0_2.out (by repeat (first | (with_reducible first | exact HB.out | apply below_alloc | apply pw_below_drewN | apply below_drew1 | refine below_set ?_ GE161.out) | exact HB.out))) | (with_reducible refine Kd.C_alloc ?_ _) | (with_reducible refine Kd.C_drewN ?_ _) | (with_reducible refine Kd.C_drew ?_))); (case side3 => exact HC0_2.out); (case side4 => repeat (first | exact (Kd.C_below HR0_3.out (by repeat (first | (with_reducible first | exact HB.out | apply below_alloc | apply pw_below_drewN | apply below_drew1 | refine below_set ?_ GE161.out) | exact HB.out))) | (with_reducible refine Kd.C_alloc ?_ _) | (with_reducible refine Kd.C_drewN ?_ _) | (with_reducible refine Kd.C_drew ?_))); (case side5 => exact HC0_3.out); rintro e w73 ⟨rfl,hb⟩; have n0_ := Aside0.mk (Kd.R_below (by (with_reducible repeat (first | apply Kd.R_alloc | apply Kd.R_drewN | apply Kd.R_drew)); exact HO_6.out) hb); have n1_ := Aside0.mk (blk_below (g := gb161) (o := .cells #[.int .i64 a0_0,.int .i64 a0_1,.slice A0_2 l0_2.length c0_2,.slice (some ad178) l0_3.length c0_3] 30 (0,0)) (by (with_reducible repeat (first | refine blk_drewN ?_ _ | refine blk_drew ?_ | refine blk_alloc ?_ _)); exact BK161.out) hb); have n2_ := Aside0.mk (below_step (by repeat (first | (with_reducible first | exact HB.out | apply below_alloc | apply pw_below_drewN | apply below_drew1 | refine below_set ?_ GE161.out) | exact HB.out)) hb); clear HO_6; clear BK161; clear HB; have HO_6 := n0_; have BK161 := n1_; have HB := n2_; clear n0_ n1_ n2_; (try clear hb); (try clear hb2); (try clear hk); (try clear hi))))
                go_loopg [11] k3 (fun kq v11 w' => ∃ (x6_4 : List Bool) (x11_4 : Int),v11 = .int .i64 x11_4 ∧ Aside0 (spec_CommasOf.l202 kq a1 x6_4 x7_2 l0_3 x9_3 l0_2 x11_4 a0_0 a0_1 l0_2 l0_3 = some (r1,r2)) ∧ Aside0 (kq ≤ k3) ∧ Aside0 (Kd.R Kd.bool 4 w' w.heap.size (fun _ => True) v166 x6_4) ∧ Aside0 (w'.heap[gb161]? = some (.cells #[.int .i64 a0_0,.int .i64 a0_1,(.slice A0_2 l0_2.length c0_2),(.slice (some ad178) l0_3.length c0_3)] 30 (0,0))) ∧ Aside0 (Below w.heap.size w w'))
                case atStart => exact ⟨(x6_3),(0),(by first | rfl | (simp; done) | (simp [*]; done)),H',⟨Nat.le_refl _⟩,⟨by (with_reducible repeat (first | apply Kd.R_alloc | apply Kd.R_drewN | apply Kd.R_drew)); exact HO_6.out⟩,⟨by (with_reducible repeat (first | refine blk_drewN ?_ _ | refine blk_drew ?_ | refine blk_alloc ?_ _)); exact BK161.out⟩,⟨by repeat (first | (with_reducible first | exact HB.out | apply below_alloc | apply pw_below_drewN | apply below_drew1 | refine below_set ?_ GE161.out) | exact HB.out)⟩⟩
                case round =>
                 clear H'
                 try clear c1
                 try clear p1
                 try clear q1
                 try clear hx1
                 try clear c2
                 try clear p2
                 try clear c3
                 try clear c4
                 try clear p4
                 try clear q4
                 try clear hx4
                 try clear hf4
                 try clear c5
                 try clear c6
                 try clear p6
                 try clear q6
                 try clear hx6
                 try clear hf6
                 try clear c7
                 try clear c12
                 try clear c14
                 try clear c14b0
                 try clear c14b1
                 try clear c16
                 try clear c16b0
                 try clear c16b1
                 try clear p16
                 try clear q16
                 try clear hx16
                 try clear c17
                 try clear c17b0
                 try clear c17b1
                 try clear p17
                 try clear q17
                 try clear hx17
                 try clear c20
                 try clear c20b0
                 try clear c21
                 try clear c21b0
                 try clear c24
                 try clear c24b0
                 try clear c25
                 try clear c25b0
                 try clear c27
                 try clear c27b0
                 try clear c30
                 try clear c30b0
                 try clear c31
                 try clear c31b0
                 try clear c32
                 try clear c32b0
                 try clear c33
                 try clear c33b0
                 try clear c34
                 try clear c34b0
                 try clear c34b1
                 try clear c34b2
                 try clear c35
                 try clear c35b0
                 try clear c36
                 try clear c36b0
                 try clear c36b1
                 try clear c37
                 try clear c37b0
                 try clear c37b1
                 try clear c38
                 try clear c38b0
                 try clear c38b1
                 try clear c40
                 try clear c40b0
                 try clear c41
                 try clear c41b0
                 try clear p42
                 try clear q42
                 try clear hx42
                 try clear hf42
                 try clear c49
                 try clear c49b0
                 try clear c50
                 try clear c50b0
                 try clear c51
                 try clear c51b0
                 try clear c52
                 try clear c52b0
                 try clear c53
                 try clear c53b0
                 try clear c53b1
                 try clear c53b2
                 try clear c54
                 try clear c54b0
                 try clear c55
                 try clear c55b0
                 try clear c55b1
                 try clear c56
                 try clear c56b0
                 try clear c56b1
                 try clear c57
                 try clear c57b0
                 try clear c57b1
                 try clear c59
                 try clear c59b0
                 try clear c60
                 try clear c60b0
                 try clear p61
                 try clear q61
                 try clear hx61
                 try clear hf61
                 try clear p64
                 try clear c68
                 try clear c68b0
                 try clear c69
                 try clear c69b0
                 try clear c71
                 try clear c71b0
                 try clear hcz10_0
                 try clear hcz10_1
                 try clear hcz10_2
                 try clear hcz10_3
                 try clear hcz43_0
                 try clear hcz43_1
                 try clear hcz43_2
                 try clear hcz43_3
                 try clear hcz46_0
                 try clear hcz46_1
                 try clear hcz46_2
                 try clear hcz46_3
                 try clear hcz62_0
                 try clear hcz62_1
                 try clear hcz62_2
                 try clear hcz62_3
                 try clear hcz65_0
                 try clear hcz65_1
                 try clear hcz65_2
                 try clear hcz65_3
                 try clear hfz10_0
                 try clear hfz10_1
                 try clear hfz10_2
                 try clear hfz10_3
                 try clear hfz43_0
                 try clear hfz43_1
                 try clear hfz43_2
                 try clear hfz43_3
                 try clear hfz46_0
                 try clear hfz46_1
                 try clear hfz46_2
                 try clear hfz46_3
                 try clear hfz62_0
                 try clear hfz62_1
                 try clear hfz62_2
                 try clear hfz62_3
                 try clear hfz65_0
                 try clear hfz65_1
                 try clear hfz65_2
                 try clear hfz65_3
                 try clear hx168_0
                 try clear hx170_0
                 try clear hx171_0
                 try clear hx174_0
                 try clear hx175_0
                 try clear hx178_0
                 try clear hx42_0
                 try clear hx61_0
                 try clear p1
                 try clear p16
                 try clear p168
                 try clear p17
                 try clear p170
                 try clear p171
                 try clear p174
                 try clear p175
                 try clear p178
                 try clear p2
                 try clear p4
                 try clear p42
                 try clear p6
                 try clear p61
                 try clear p64
                 try clear q1
                 try clear q16
                 try clear q168
                 try clear q17
                 try clear q170
                 try clear q171
                 try clear q174
                 try clear q175
                 try clear q178
                 try clear q4
                 try clear q42
                 try clear q6
                 try clear q61
                 obtain ⟨x6_4,x11_4,rfl,HA,HK4,HO_6,BK161,HB⟩ := hrel
                 cases gk with
                 | zero => exact absurd HA.out (by simp [spec_CommasOf.l202])
                 | succ k4 =>
                  have H := HA.out
                  clear HA
                  simp only [spec_CommasOf.l202] at H
                  by_cases c74 : x11_4 < (l0_2.length : Int)
                  ·rw [if_pos c74] at H
                   have c74b0 : decide (x11_4 < (l0_2.length : Int)) = true := decide_eq_true c74
                   clear c74
                   by_cases c75 : 0 ≤ x9_3
                   ·rw [if_pos c75] at H
                    have c75b0 : decide (0 ≤ x9_3) = true := decide_eq_true c75
                    clear c75
                    by_cases c76 : x9_3 < (l0_3.length : Int)
                    ·rw [if_pos c76] at H
                     have c76b0 : decide (x9_3 < (l0_3.length : Int)) = true := decide_eq_true c76
                     clear c76
                     by_cases c77 : 0 ≤ x11_4
                     ·rw [if_pos c77] at H
                      have c77b0 : decide (0 ≤ x11_4) = true := decide_eq_true c77
                      clear c77
                      by_cases c78 : (rdOf ByteArray.empty l0_3 x9_3).size + (rdOf ByteArray.empty l0_2 x11_4).size ≤ 9223372036854775807
                      ·rw [if_pos c78] at H
                       have c78b0 := eq_true c78
                       have c78b1 : decide ((rdOf ByteArray.empty l0_3 x9_3).size + (rdOf ByteArray.empty l0_2 x11_4).size ≤ 9223372036854775807) = true := decide_eq_true c78
                       try have c78b2 : (9223372036854775807 < (rdOf ByteArray.empty l0_3 x9_3).size + (rdOf ByteArray.empty l0_2 x11_4).size) = False := eq_false (Nat.not_lt.2 c78)
                       have H' := Aside0.mk H
                       clear H
                       have p180 : 0 ≤ (x9_3 : Int) := of_decide_eq_true (by first | (with_reducible assumption) | assumption)
                       have q180 : x9_3 < (l0_3.length : Int) := of_decide_eq_true (by first | (with_reducible assumption) | assumption)
                       obtain ⟨ad180,e180,hx180_0⟩ := Kd.at_string HR0_3.out x9_3 p180 q180
                       obtain rfl : ad178 = ad180 := (by injection e180)
                       replace hx180_0 := (HB.out.cell (World.block_lt_of_cell? w _ hx180_0)).trans hx180_0
                       replace p180 := eq_true p180
                       replace q180 := eq_true q180
                       have p181 : 0 ≤ (x11_4 : Int) := of_decide_eq_true (by first | (with_reducible assumption) | assumption)
                       have q181 : x11_4 < (l0_2.length : Int) := of_decide_eq_true (by first | (with_reducible assumption) | assumption)
                       obtain ⟨ad181,e181,hx181_0⟩ := Kd.at_string HR0_2.out x11_4 p181 q181
                       cases e181
                       replace hx181_0 := (HB.out.cell (World.block_lt_of_cell? w _ hx181_0)).trans hx181_0
                       replace p181 := eq_true p181
                       replace q181 := eq_true q181
                       go_wp2
                       repeat (go_quiet (fail); try go_wp2)
                       generalize ((rdOf ByteArray.empty l0_3 x9_3) ++ (rdOf ByteArray.empty l0_2 x11_4)) = tc at H' ⊢
                       go_loopg [13] k4 (fun kq v13 w' => ∃ (x6_5 : List Bool) (x13_5 : Int),v13 = .int .i64 x13_5 ∧ Aside0 (spec_CommasOf.l203 kq a1 x6_5 x7_2 l0_3 x9_3 l0_2 x11_4 tc x13_5 a0_0 a0_1 l0_2 l0_3 = some (r1,r2)) ∧ Aside0 (kq ≤ k4) ∧ Aside0 (Kd.R Kd.bool 4 w' w.heap.size (fun _ => True) v166 x6_5) ∧ Aside0 (w'.heap[gb161]? = some (.cells #[.int .i64 a0_0,.int .i64 a0_1,(.slice (some ad181) l0_2.length c0_2),(.slice (some ad178) l0_3.length c0_3)] 30 (0,0))) ∧ Aside0 (Below w.heap.size w w'))
                       case atStart => exact ⟨(x6_4),(0),(by first | rfl | (simp; done) | (simp [*]; done)),H',⟨Nat.le_refl _⟩,⟨by (with_reducible repeat (first | apply Kd.R_alloc | apply Kd.R_drewN | apply Kd.R_drew)); exact HO_6.out⟩,⟨by (with_reducible repeat (first | refine blk_drewN ?_ _ | refine blk_drew ?_ | refine blk_alloc ?_ _)); exact BK161.out⟩,⟨by repeat (first | (with_reducible first | exact HB.out | apply below_alloc | apply pw_below_drewN | apply below_drew1 | refine below_set ?_ GE161.out) | exact HB.out)⟩⟩
                       case round =>
                        clear H'
                        try clear c1
                        try clear p1
                        try clear q1
                        try clear hx1
                        try clear c2
                        try clear p2
                        try clear c3
                        try clear c4
                        try clear p4
                        try clear q4
                        try clear hx4
                        try clear hf4
                        try clear c5
                        try clear c6
                        try clear p6
                        try clear q6
                        try clear hx6
                        try clear hf6
                        try clear c7
                        try clear c12
                        try clear c14
                        try clear c14b0
                        try clear c14b1
                        try clear c16
                        try clear c16b0
                        try clear c16b1
                        try clear p16
                        try clear q16
                        try clear hx16
                        try clear c17
                        try clear c17b0
                        try clear c17b1
                        try clear p17
                        try clear q17
                        try clear hx17
                        try clear p18
                        try clear q18
                        try clear hx18
                        try clear c20
                        try clear c20b0
                        try clear c21
                        try clear c21b0
                        try clear c24
                        try clear c24b0
                        try clear c25
                        try clear c25b0
                        try clear c27
                        try clear c27b0
                        try clear c30
                        try clear c30b0
                        try clear c31
                        try clear c31b0
                        try clear c32
                        try clear c32b0
                        try clear c33
                        try clear c33b0
                        try clear c34
                        try clear c34b0
                        try clear c34b1
                        try clear c34b2
                        try clear c35
                        try clear c35b0
                        try clear c36
                        try clear c36b0
                        try clear c36b1
                        try clear c37
                        try clear c37b0
                        try clear c37b1
                        try clear c38
                        try clear c38b0
                        try clear c38b1
                        try clear c40
                        try clear c40b0
                        try clear c41
                        try clear c41b0
                        try clear p42
                        try clear q42
                        try clear hx42
                        try clear hf42
                        try clear c49
                        try clear c49b0
                        try clear c50
                        try clear c50b0
                        try clear c51
                        try clear c51b0
                        try clear c52
                        try clear c52b0
                        try clear c53
                        try clear c53b0
                        try clear c53b1
                        try clear c53b2
                        try clear c54
                        try clear c54b0
                        try clear c55
                        try clear c55b0
                        try clear c55b1
                        try clear c56
                        try clear c56b0
                        try clear c56b1
                        try clear c57
                        try clear c57b0
                        try clear c57b1
                        try clear c59
                        try clear c59b0
                        try clear c60
                        try clear c60b0
                        try clear p61
                        try clear q61
                        try clear hx61
                        try clear hf61
                        try clear p64
                        try clear c68
                        try clear c68b0
                        try clear c69
                        try clear c69b0
                        try clear c71
                        try clear c71b0
                        try clear c74
                        try clear c74b0
                        try clear c75
                        try clear c75b0
                        try clear c76
                        try clear c76b0
                        try clear c77
                        try clear c77b0
                        try clear c78
                        try clear c78b0
                        try clear c78b1
                        try clear c78b2
                        try clear hcz10_0
                        try clear hcz10_1
                        try clear hcz10_2
                        try clear hcz10_3
                        try clear hcz43_0
                        try clear hcz43_1
                        try clear hcz43_2
                        try clear hcz43_3
                        try clear hcz46_0
                        try clear hcz46_1
                        try clear hcz46_2
                        try clear hcz46_3
                        try clear hcz62_0
                        try clear hcz62_1
                        try clear hcz62_2
                        try clear hcz62_3
                        try clear hcz65_0
                        try clear hcz65_1
                        try clear hcz65_2
                        try clear hcz65_3
                        try clear hfz10_0
                        try clear hfz10_1
                        try clear hfz10_2
                        try clear hfz10_3
                        try clear hfz43_0
                        try clear hfz43_1
                        try clear hfz43_2
                        try clear hfz43_3
                        try clear hfz46_0
                        try clear hfz46_1
                        try clear hfz46_2
                        try clear hfz46_3
                        try clear hfz62_0
                        try clear hfz62_1
                        try clear hfz62_2
                        try clear hfz62_3
                        try clear hfz65_0
                        try clear hfz65_1
                        try clear hfz65_2
                        try clear hfz65_3
                        try clear hx168_0
                        try clear hx170_0
                        try clear hx171_0
                        try clear hx174_0
                        try clear hx175_0
                        try clear hx178_0
                        try clear hx180_0
                        try clear hx181_0
                        try clear hx42_0
                        try clear hx61_0
                        try clear p1
                        try clear p16
                        try clear p168
                        try clear p17
                        try clear p170
                        try clear p171
                        try clear p174
                        try clear p175
                        try clear p178
                        try clear p180
                        try clear p181
                        try clear p2
                        try clear p4
                        try clear p42
                        try clear p6
                        try clear p61
                        try clear p64
                        try clear q1
                        try clear q16
                        try clear q168
                        try clear q17
                        try clear q170
                        try clear q171
                        try clear q174
                        try clear q175
                        try clear q178
                        try clear q180
                        try clear q181
                        try clear q4
                        try clear q42
                        try clear q6
                        try clear q61
                        obtain ⟨x6_5,x13_5,rfl,HA,HK5,HO_6,BK161,HB⟩ := hrel
                        cases gk with
                        | zero => exact absurd HA.out (by simp [spec_CommasOf.l203])
                        | succ k5 =>
                         have H := HA.out
                         clear HA
                         simp only [spec_CommasOf.l203] at H
                         by_cases c79 : (wrap64 (x13_5 + a1)) ≤ (wrap64 (2 * a0_1))
                         ·rw [if_pos c79] at H
                          have c79b0 : decide ((wrap64 (x13_5 + a1)) ≤ (wrap64 (2 * a0_1))) = true := decide_eq_true c79
                          clear c79
                          by_cases c80 : 0 ≤ x13_5
                          ·rw [if_pos c80] at H
                           have c80b0 := eq_true c80
                           have c80b1 : decide (0 ≤ x13_5) = true := decide_eq_true c80
                           clear c80
                           by_cases c81 : x13_5 ≤ (wrap64 (x13_5 + a1))
                           ·rw [if_pos c81] at H
                            have c81b0 := eq_true c81
                            have c81b1 : decide (x13_5 ≤ (wrap64 (x13_5 + a1))) = true := decide_eq_true c81
                            by_cases c82 : (wrap64 (x13_5 + a1)) ≤ (tc.size : Int)
                            ·rw [if_pos c82] at H
                             have c82b0 := eq_true c82
                             have c82b1 : decide ((wrap64 (x13_5 + a1)) ≤ (tc.size : Int)) = true := decide_eq_true c82
                             replace H := Option.bind_eq_some_iff.mp H
                             obtain ⟨t182,A830,H⟩ := H
                             replace H : (if 0 ≤ t182 then (if t182 < (x6_5.length : Int) then (spec_CommasOf.l203 k5 a1 (x6_5.set (t182 : Int).toNat true) x7_2 l0_3 x9_3 l0_2 x11_4 tc (wrap64 (x13_5 + 1)) a0_0 a0_1 l0_2 l0_3) else (none)) else (none)) = some (r1,r2) := H
                             have A83 := Aside0.mk A830
                             clear A830
                             by_cases c84 : 0 ≤ t182
                             ·rw [if_pos c84] at H
                              have c84b0 : decide (0 ≤ t182) = true := decide_eq_true c84
                              clear c84
                              by_cases c85 : t182 < (x6_5.length : Int)
                              ·rw [if_pos c85] at H
                               have c85b0 : decide (t182 < (x6_5.length : Int)) = true := decide_eq_true c85
                               clear c85
                               obtain ⟨y183,hy183⟩ : ∃ y_ : List Bool,y_ = (x6_5.set (t182 : Int).toNat true) := ⟨_,rfl⟩
                               replace H : (spec_CommasOf.l203 k5 a1 y183 x7_2 l0_3 x9_3 l0_2 x11_4 tc (wrap64 (x13_5 + 1)) a0_0 a0_1 l0_2 l0_3) = some (r1,r2) := by first | (rw [hy183]; with_reducible exact H) | (have H2_ := (Option.bind_some _ _).symm.trans H; rw [hy183]; with_reducible exact H2_) | (have H2_ := (Option.bind_some _ _).symm.trans H; with_reducible exact H2_) | with_reducible exact H | (rw [hy183]; exact H) | exact H
                               have Ny183 := Aside0.mk hy183
                               clear hy183
                               have H' := Aside0.mk H
                               clear H
                               have hcz87_0 : wr.cell? ⟨gb161,0,none⟩ = some (.int .i64 a0_0) := (blk_cell BK161.out 0).trans rfl
                               have hcz87_1 : wr.cell? ⟨gb161,1,none⟩ = some (.int .i64 a0_1) := (blk_cell BK161.out 1).trans rfl
                               have hcz87_2 : wr.cell? ⟨gb161,2,none⟩ = some (.slice (some ad181) l0_2.length c0_2) := (blk_cell BK161.out 2).trans rfl
                               have hcz87_3 : wr.cell? ⟨gb161,3,none⟩ = some (.slice (some ad178) l0_3.length c0_3) := (blk_cell BK161.out 3).trans rfl
                               have hfz87_0 := blk_frozen BK161.out 0
                               have hfz87_1 := blk_frozen BK161.out 1
                               have hfz87_2 := blk_frozen BK161.out 2
                               have hfz87_3 := blk_frozen BK161.out 3
                               go_wp2_with (first | (go_at_call 71; (with_reducible refine (spec_l01Number.calls k5 (tc.extract (x13_5 : Int).toNat ((wrap64 (x13_5 + a1)) : Int).toNat) t182 _ A83.out).mono ?_); rintro e w' ⟨rfl,⟨nd,rfl⟩⟩; (try first | exact ⟨rfl,_,World.drewN_drewN _ _ _⟩ | exact ⟨rfl,_,Eq.trans (World.drewN_drewN _ _ _) (congrArg (World.drewN _) (Nat.add_assoc _ _ _))⟩); have p86 : 0 ≤ (t182 : Int) := of_decide_eq_true (by first | (with_reducible assumption) | assumption); have q86 : (t182 : Int) < ((x6_5.length : Int) : Int) := of_decide_eq_true (by first | (with_reducible assumption) | assumption); obtain ⟨go86,co86,eo86,gb86,gl86,cl86,HG86⟩ := Kd.R_form HO_6.out (by omega); (first | cases eo86 | (injection eo86 with ea_ en_ ec_; (first | subst ea_ | (injection ea_ with ea_; subst ea_)); subst ec_; clear en_)); have GB86 := Aside0.mk gb86; have GG86 := Aside0.mk HG86; clear gb86 gl86 HG86; obtain ⟨hx86_0,hf86_0⟩ := Kd.R_celln false HO_6.out (t182 : Int) p86 q86; replace p86 := eq_true p86; replace q86 := eq_true q86; obtain ⟨hy88_,hz88_⟩ := Kd.R_celln false HO_6.out (t182 : Int) (of_decide_eq_true (by first | (with_reducible assumption) | assumption)) (of_decide_eq_true (by first | (with_reducible assumption) | assumption)); have HP88 := Kd.R_putg HO_6.out (t182 : Int) true) | ((with_reducible refine gate_store (t := 4) (p := 82) rfl ?_); (try (rw [drewN_self wr]; generalize hq_ : World.drewN wr _ = wr; have n0_ := Aside0.mk (Kd.R_at hq_ HO_6.out); have n1_ := Aside0.mk (blk_at hq_ BK161.out); have n2_ := Aside0.mk (below_at hq_ HB.out); clear hq_ HO_6 BK161 HB; have HO_6 := n0_; have BK161 := n1_; have HB := n2_; clear n0_ n1_ n2_; (try (obtain ⟨hy88_,hz88_⟩ := Kd.R_celln false HO_6.out (t182 : Int) (of_decide_eq_true (by first | (with_reducible assumption) | assumption)) (of_decide_eq_true (by first | (with_reducible assumption) | assumption)))); (try (have HP88 := Kd.R_putg HO_6.out (t182 : Int) true)))); refine store_event (t := 4) (p := 82) (v := ?vo_w89) (w1 := (wr.setCell ⟨go86,(t182 : Int).toNat,none⟩ (.bool true))) ?hg ?ho ?hn ?hr ?_; (case ho => rfl); (case hg => rfl); (case hn => rfl); (case hr => first | (go_simp; done) | (go_simp; rfl)); intro w89 hw; have hg : wr.grownBy w89 (some go86) := (by rw [hw]; exact HP88.2); have hp_ : Kd.R Kd.bool 4 w89 w.heap.size (fun _ => True) (.slice (some ⟨go86,0,none⟩) x6_5.length co86) y183 := (by rw [hw,Ny183.out]; exact HP88.1); clear HP88; have n0_ := Aside0.mk (hp_); have n1_ := Aside0.mk (blk_grown (g := gb161) (o := .cells #[.int .i64 a0_0,.int .i64 a0_1,.slice (some ad181) l0_2.length c0_2,.slice (some ad178) l0_3.length c0_3] 30 (0,0)) (by (with_reducible repeat (first | refine blk_drewN ?_ _ | refine blk_drew ?_ | refine blk_alloc ?_ _)); exact BK161.out) hg (Kd.R_ne HO_6.out BK161.out (by decide))); have n2_ := Aside0.mk ((by rw [hw]; exact below_set (HB.out) GB86.out : Below w.heap.size w w89)); clear HO_6; clear BK161; clear HB; have HO_6 := n0_; have BK161 := n1_; have HB := n2_; clear n0_ n1_ n2_; clear hg hw hp_))
                               repeat (go_quiet (first | (go_at_call 71; (with_reducible refine (spec_l01Number.calls k5 (tc.extract (x13_5 : Int).toNat ((wrap64 (x13_5 + a1)) : Int).toNat) t182 _ A83.out).mono ?_); rintro e w' ⟨rfl,⟨nd,rfl⟩⟩; (try first | exact ⟨rfl,_,World.drewN_drewN _ _ _⟩ | exact ⟨rfl,_,Eq.trans (World.drewN_drewN _ _ _) (congrArg (World.drewN _) (Nat.add_assoc _ _ _))⟩); have p86 : 0 ≤ (t182 : Int) := of_decide_eq_true (by first | (with_reducible assumption) | assumption); have q86 : (t182 : Int) < ((x6_5.length : Int) : Int) := of_decide_eq_true (by first | (with_reducible assumption) | assumption); obtain ⟨go86,co86,eo86,gb86,gl86,cl86,HG86⟩ := Kd.R_form HO_6.out (by omega); (first | cases eo86 | (injection eo86 with ea_ en_ ec_; (first | subst ea_ | (injection ea_ with ea_; subst ea_)); subst ec_; clear en_)); have GB86 := Aside0.mk gb86; have GG86 := Aside0.mk HG86; clear gb86 gl86 HG86; obtain ⟨hx86_0,hf86_0⟩ := Kd.R_celln false HO_6.out (t182 : Int) p86 q86; replace p86 := eq_true p86; replace q86 := eq_true q86; obtain ⟨hy88_,hz88_⟩ := Kd.R_celln false HO_6.out (t182 : Int) (of_decide_eq_true (by first | (with_reducible assumption) | assumption)) (of_decide_eq_true (by first | (with_reducible assumption) | assumption)); have HP88 := Kd.R_putg HO_6.out (t182 : Int) true) | ((with_reducible refine gate_store (t := 4) (p := 82) rfl ?_); (try (rw [drewN_self wr]; generalize hq_ : World.drewN wr _ = wr; have n0_ := Aside0.mk (Kd.R_at hq_ HO_6.out); have n1_ := Aside0.mk (blk_at hq_ BK161.out); have n2_ := Aside0.mk (below_at hq_ HB.out); clear hq_ HO_6 BK161 HB; have HO_6 := n0_; have BK161 := n1_; have HB := n2_; clear n0_ n1_ n2_; (try (obtain ⟨hy88_,hz88_⟩ := Kd.R_celln false HO_6.out (t182 : Int) (of_decide_eq_true (by first | (with_reducible assumption) | assumption)) (of_decide_eq_true (by first | (with_reducible assumption) | assumption)))); (try (have HP88 := Kd.R_putg HO_6.out (t182 : Int) true)))); refine store_event (t := 4) (p := 82) (v := ?vo_w89) (w1 := (wr.setCell ⟨go86,(t182 : Int).toNat,none⟩ (.bool true))) ?hg ?ho ?hn ?hr ?_; (case ho => rfl); (case hg => rfl); (case hn => rfl); (case hr => first | (go_simp; done) | (go_simp; rfl)); intro w89 hw; have hg : wr.grownBy w89 (some go86) := (by rw [hw]; exact HP88.2); have hp_ : Kd.R Kd.bool 4 w89 w.heap.size (fun _ => True) (.slice (some ⟨go86,0,none⟩) x6_5.length co86) y183 := (by rw [hw,Ny183.out]; exact HP88.1); clear HP88; have n0_ := Aside0.mk (hp_); have n1_ := Aside0.mk (blk_grown (g := gb161) (o := .cells #[.int .i64 a0_0,.int .i64 a0_1,.slice (some ad181) l0_2.length c0_2,.slice (some ad178) l0_3.length c0_3] 30 (0,0)) (by (with_reducible repeat (first | refine blk_drewN ?_ _ | refine blk_drew ?_ | refine blk_alloc ?_ _)); exact BK161.out) hg (Kd.R_ne HO_6.out BK161.out (by decide))); have n2_ := Aside0.mk ((by rw [hw]; exact below_set (HB.out) GB86.out : Below w.heap.size w w89)); clear HO_6; clear BK161; clear HB; have HO_6 := n0_; have BK161 := n1_; have HB := n2_; clear n0_ n1_ n2_; clear hg hw hp_)); try go_wp2_with (first | (go_at_call 71; (with_reducible refine (spec_l01Number.calls k5 (tc.extract (x13_5 : Int).toNat ((wrap64 (x13_5 + a1)) : Int).toNat) t182 _ A83.out).mono ?_); rintro e w' ⟨rfl,⟨nd,rfl⟩⟩; (try first | exact ⟨rfl,_,World.drewN_drewN _ _ _⟩ | exact ⟨rfl,_,Eq.trans (World.drewN_drewN _ _ _) (congrArg (World.drewN _) (Nat.add_assoc _ _ _))⟩); have p86 : 0 ≤ (t182 : Int) := of_decide_eq_true (by first | (with_reducible assumption) | assumption); have q86 : (t182 : Int) < ((x6_5.length : Int) : Int) := of_decide_eq_true (by first | (with_reducible assumption) | assumption); obtain ⟨go86,co86,eo86,gb86,gl86,cl86,HG86⟩ := Kd.R_form HO_6.out (by omega); (first | cases eo86 | (injection eo86 with ea_ en_ ec_; (first | subst ea_ | (injection ea_ with ea_; subst ea_)); subst ec_; clear en_)); have GB86 := Aside0.mk gb86; have GG86 := Aside0.mk HG86; clear gb86 gl86 HG86; obtain ⟨hx86_0,hf86_0⟩ := Kd.R_celln false HO_6.out (t182 : Int) p86 q86; replace p86 := eq_true p86; replace q86 := eq_true q86; obtain ⟨hy88_,hz88_⟩ := Kd.R_celln false HO_6.out (t182 : Int) (of_decide_eq_true (by first | (with_reducible assumption) | assumption)) (of_decide_eq_true (by first | (with_reducible assumption) | assumption)); have HP88 := Kd.R_putg HO_6.out (t182 : Int) true) | ((with_reducible refine gate_store (t := 4) (p := 82) rfl ?_); (try (rw [drewN_self wr]; generalize hq_ : World.drewN wr _ = wr; have n0_ := Aside0.mk (Kd.R_at hq_ HO_6.out); have n1_ := Aside0.mk (blk_at hq_ BK161.out); have n2_ := Aside0.mk (below_at hq_ HB.out); clear hq_ HO_6 BK161 HB; have HO_6 := n0_; have BK161 := n1_; have HB := n2_; clear n0_ n1_ n2_; (try (obtain ⟨hy88_,hz88_⟩ := Kd.R_celln false HO_6.out (t182 : Int) (of_decide_eq_true (by first | (with_reducible assumption) | assumption)) (of_decide_eq_true (by first | (with_reducible assumption) | assumption)))); (try (have HP88 := Kd.R_putg HO_6.out (t182 : Int) true)))); refine store_event (t := 4) (p := 82) (v := ?vo_w89) (w1 := (wr.setCell ⟨go86,(t182 : Int).toNat,none⟩ (.bool true))) ?hg ?ho ?hn ?hr ?_; (case ho => rfl); (case hg => rfl); (case hn => rfl); (case hr => first | (go_simp; done) | (go_simp; rfl)); intro w89 hw; have hg : wr.grownBy w89 (some go86) := (by rw [hw]; exact HP88.2); have hp_ : Kd.R Kd.bool 4 w89 w.heap.size (fun _ => True) (.slice (some ⟨go86,0,none⟩) x6_5.length co86) y183 := (by rw [hw,Ny183.out]; exact HP88.1); clear HP88; have n0_ := Aside0.mk (hp_); have n1_ := Aside0.mk (blk_grown (g := gb161) (o := .cells #[.int .i64 a0_0,.int .i64 a0_1,.slice (some ad181) l0_2.length c0_2,.slice (some ad178) l0_3.length c0_3] 30 (0,0)) (by (with_reducible repeat (first | refine blk_drewN ?_ _ | refine blk_drew ?_ | refine blk_alloc ?_ _)); exact BK161.out) hg (Kd.R_ne HO_6.out BK161.out (by decide))); have n2_ := Aside0.mk ((by rw [hw]; exact below_set (HB.out) GB86.out : Below w.heap.size w w89)); clear HO_6; clear BK161; clear HB; have HO_6 := n0_; have BK161 := n1_; have HB := n2_; clear n0_ n1_ n2_; clear hg hw hp_)))
                               go_roundg k5
                               case measure => have := HJ2.out; have := HK2.out; have := HK3.out; have := HK4.out; have := HK5.out; omega
                               case rel => exact ⟨(y183),(wrap64 (x13_5 + 1)),(by first | rfl | (simp; done) | (simp [*]; done)),H',⟨by have := HJ2.out; have := HK2.out; have := HK3.out; have := HK4.out; have := HK5.out; omega⟩,⟨by (with_reducible repeat (first | apply Kd.R_alloc | apply Kd.R_drewN | apply Kd.R_drew)); exact HO_6.out⟩,⟨by (with_reducible repeat (first | refine blk_drewN ?_ _ | refine blk_drew ?_ | refine blk_alloc ?_ _)); exact BK161.out⟩,⟨by repeat (first | (with_reducible first | exact HB.out | apply below_alloc | apply pw_below_drewN | apply below_drew1 | refine below_set ?_ GE161.out) | exact HB.out)⟩⟩
                              ·rw [if_neg c85] at H
                               exact absurd H (by simp)
                             ·rw [if_neg c84] at H
                              exact absurd H (by simp)
                            ·rw [if_neg c82] at H
                             exact absurd H (by simp)
                           ·rw [if_neg c81] at H
                            exact absurd H (by simp)
                          ·rw [if_neg c80] at H
                           exact absurd H (by simp)
                         ·rw [if_neg c79] at H
                          have c79b0 : decide ((wrap64 (x13_5 + a1)) ≤ (wrap64 (2 * a0_1))) = false := decide_eq_false c79
                          clear c79
                          have H' := Aside0.mk H
                          clear H
                          have hcz90_0 : wr.cell? ⟨gb161,0,none⟩ = some (.int .i64 a0_0) := (blk_cell BK161.out 0).trans rfl
                          have hcz90_1 : wr.cell? ⟨gb161,1,none⟩ = some (.int .i64 a0_1) := (blk_cell BK161.out 1).trans rfl
                          have hcz90_2 : wr.cell? ⟨gb161,2,none⟩ = some (.slice (some ad181) l0_2.length c0_2) := (blk_cell BK161.out 2).trans rfl
                          have hcz90_3 : wr.cell? ⟨gb161,3,none⟩ = some (.slice (some ad178) l0_3.length c0_3) := (blk_cell BK161.out 3).trans rfl
                          have hfz90_0 := blk_frozen BK161.out 0
                          have hfz90_1 := blk_frozen BK161.out 1
                          have hfz90_2 := blk_frozen BK161.out 2
                          have hfz90_3 := blk_frozen BK161.out 3
                          go_wp2
                          repeat (go_quiet (fail); try go_wp2)
                          go_roundg k5
                          case measure => have := HJ2.out; have := HK2.out; have := HK3.out; have := HK4.out; have := HK5.out; omega
                          case rel => exact ⟨(x6_5),(wrap64 (x11_4 + 1)),(by first | rfl | (simp; done) | (simp [*]; done)),H',⟨by have := HJ2.out; have := HK2.out; have := HK3.out; have := HK4.out; have := HK5.out; omega⟩,⟨by (with_reducible repeat (first | apply Kd.R_alloc | apply Kd.R_drewN | apply Kd.R_drew)); exact HO_6.out⟩,⟨by (with_reducible repeat (first | refine blk_drewN ?_ _ | refine blk_drew ?_ | refine blk_alloc ?_ _)); exact BK161.out⟩,⟨by repeat (first | (with_reducible first | exact HB.out | apply below_alloc | apply pw_below_drewN | apply below_drew1 | refine below_set ?_ GE161.out) | exact HB.out)⟩⟩
                      ·rw [if_neg c78] at H
                       exact absurd H (by simp)
                     ·rw [if_neg c77] at H
                      exact absurd H (by simp)
                    ·rw [if_neg c76] at H
                     exact absurd H (by simp)
                   ·rw [if_neg c75] at H
                    exact absurd H (by simp)
                  ·rw [if_neg c74] at H
                   have c74b0 : decide (x11_4 < (l0_2.length : Int)) = false := decide_eq_false c74
                   clear c74
                   have H' := Aside0.mk H
                   clear H
                   go_wp2
                   repeat (go_quiet (fail); try go_wp2)
                   go_roundg k4
                   case measure => have := HJ2.out; have := HK2.out; have := HK3.out; have := HK4.out; omega
                   case rel => exact ⟨(x6_4),(wrap64 (x9_3 + 1)),(by first | rfl | (simp; done) | (simp [*]; done)),H',⟨by have := HJ2.out; have := HK2.out; have := HK3.out; have := HK4.out; omega⟩,⟨by (with_reducible repeat (first | apply Kd.R_alloc | apply Kd.R_drewN | apply Kd.R_drew)); exact HO_6.out⟩,⟨by (with_reducible repeat (first | refine blk_drewN ?_ _ | refine blk_drew ?_ | refine blk_alloc ?_ _)); exact BK161.out⟩,⟨by repeat (first | (with_reducible first | exact HB.out | apply below_alloc | apply pw_below_drewN | apply below_drew1 | refine below_set ?_ GE161.out) | exact HB.out)⟩⟩
               ·rw [if_neg c71] at H
                have c71b0 : decide (t179 < 0) = false := decide_eq_false c71
                clear c71
                replace H := Option.bind_eq_some_iff.mp H
                obtain ⟨_,A910,H⟩ := H
                replace H : (spec_CommasOf.l302 k3 a1 x6_3 x7_2 l0_3 x9_3 l0_3 0 a0_0 a0_1 l0_2 l0_3) = some (r1,r2) := H
                have A91 := Aside0.mk A910
                clear A910
                have H' := Aside0.mk H
                clear H
                have p178 : 0 ≤ (x9_3 : Int) := of_decide_eq_true (by first | (with_reducible assumption) | assumption)
                have q178 : x9_3 < (l0_3.length : Int) := of_decide_eq_true (by first | (with_reducible assumption) | assumption)
                obtain ⟨ad178,e178,hx178_0⟩ := Kd.at_string HR0_3.out x9_3 p178 q178
                cases e178
                replace hx178_0 := (HB.out.cell (World.block_lt_of_cell? w _ hx178_0)).trans hx178_0
                replace p178 := eq_true p178
                replace q178 := eq_true q178
                go_wp2_with (first | (go_at_call 67; (with_reducible refine (spec_l03Next.calls k3 x7_2 (rdOf ByteArray.empty l0_3 x9_3) t179 _ A70.out).mono ?_); rintro e w' ⟨rfl,⟨nd,rfl⟩⟩; (try first | exact ⟨rfl,_,World.drewN_drewN _ _ _⟩ | exact ⟨rfl,_,Eq.trans (World.drewN_drewN _ _ _) (congrArg (World.drewN _) (Nat.add_assoc _ _ _))⟩)) | (go_at_call 52; (with_reducible refine (spec_l03List_pos.calls gb161 a0_0 a0_1 A0_2 c0_2 l0_2 (some ad178) c0_3 l0_3 t179  _ ?side1 ?side2 ?side3 ?side4 ?side5 A91.out).mono ?_); (case side1 => exact by (with_reducible repeat (first | refine blk_drewN ?_ _ | refine blk_drew ?_ | refine blk_alloc ?_ _)); exact BK161.out); (case side2 => repeat (first | exact (Kd.C_below HR0_2.out (by repeat (first | (with_reducible first | exact HB.out | apply below_alloc | apply pw_below_drewN | apply below_drew1 | refine below_set ?_ GE161.out) | exact HB.out))) | (with_reducible refine Kd.C_alloc ?_ _) | (with_reducible refine Kd.C_drewN ?_ _) | (with_reducible refine Kd.C_drew ?_))); (case side3 => exact HC0_2.out); (case side4 => repeat (first | exact (Kd.C_below HR0_3.out (by repeat (first | (with_reducible first | exact HB.out | apply below_alloc | apply pw_below_drewN | apply below_drew1 | refine below_set ?_ GE161.out) | exact HB.out))) | (with_reducible refine Kd.C_alloc ?_ _) | (with_reducible refine Kd.C_drewN ?_ _) | (with_reducible refine Kd.C_drew ?_))); (case side5 => exact HC0_3.out); rintro e w92 ⟨rfl,hb⟩; have n0_ := Aside0.mk (Kd.R_below (by (with_reducible repeat (first | apply Kd.R_alloc | apply Kd.R_drewN | apply Kd.R_drew)); exact HO_6.out) hb); have n1_ := Aside0.mk (blk_below (g := gb161) (o := .cells #[.int .i64 a0_0,.int .i64 a0_1,.slice A0_2 l0_2.length c0_2,.slice (some ad178) l0_3.length c0_3] 30 (0,0)) (by (with_reducible repeat (first | refine blk_drewN ?_ _ | refine blk_drew ?_ | refine blk_alloc ?_ _)); exact BK161.out) hb); have n2_ := Aside0.mk (below_step (by repeat (first | (with_reducible first | exact HB.out | apply below_alloc | apply pw_below_drewN | apply below_drew1 | refine below_set ?_ GE161.out) | exact HB.out)) hb); clear HO_6; clear BK161; clear HB; have HO_6 := n0_; have BK161 := n1_; have HB := n2_; clear n0_ n1_ n2_; (try clear hb); (try clear hb2); (try clear hk); (try clear hi)))
                repeat (go_quiet (first | (go_at_call 67; (with_reducible refine (spec_l03Next.calls k3 x7_2 (rdOf ByteArray.empty l0_3 x9_3) t179 _ A70.out).mono ?_); rintro e w' ⟨rfl,⟨nd,rfl⟩⟩; (try first | exact ⟨rfl,_,World.drewN_drewN _ _ _⟩ | exact ⟨rfl,_,Eq.trans (World.drewN_drewN _ _ _) (congrArg (World.drewN _) (Nat.add_assoc _ _ _))⟩)) | (go_at_call 52; (with_reducible refine (spec_l03List_pos.calls gb161 a0_0 a0_1 A0_2 c0_2 l0_2 (some ad178) c0_3 l0_3 t179  _ ?side1 ?side2 ?side3 ?side4 ?side5 A91.out).mono ?_); (case side1 => exact by (with_reducible repeat (first | refine blk_drewN ?_ _ | refine blk_drew ?_ | refine blk_alloc ?_ _)); exact BK161.out); (case side2 => repeat (first | exact (Kd.C_below HR0_2.out (by repeat (first | (with_reducible first | exact HB.out | apply below_alloc | apply pw_below_drewN | apply below_drew1 | refine below_set ?_ GE161.out) | exact HB.out))) | (with_reducible refine Kd.C_alloc ?_ _) | (with_reducible refine Kd.C_drewN ?_ _) | (with_reducible refine Kd.C_drew ?_))); (case side3 => exact HC0_2.out); (case side4 => repeat (first | exact (Kd.C_below HR0_3.out (by repeat (first | (with_reducible first | exact HB.out | apply below_alloc | apply pw_below_drewN | apply below_drew1 | refine below_set ?_ GE161.out) | exact HB.out))) | (with_reducible refine Kd.C_alloc ?_ _) | (with_reducible refine Kd.C_drewN ?_ _) | (with_reducible refine Kd.C_drew ?_))); (case side5 => exact HC0_3.out); rintro e w92 ⟨rfl,hb⟩; have n0_ := Aside0.mk (Kd.R_below (by (with_reducible repeat (first | apply Kd.R_alloc | apply Kd.R_drewN | apply Kd.R_drew)); exact HO_6.out) hb); have n1_ := Aside0.mk (blk_below (g := gb161) (o := .cells #[.int .i64 a0_0,.int .i64 a0_1,.slice A0_2 l0_2.length c0_2,.slice (some ad178) l0_3.length c0_3] 30 (0,0)) (by (with_reducible repeat (first | refine blk_drewN ?_ _ | refine blk_drew ?_ | refine blk_alloc ?_ _)); exact BK161.out) hb); have n2_ := Aside0.mk (below_step (by repeat (first | (with_reducible first | exact HB.out | apply below_alloc | apply pw_below_drewN | apply below_drew1 | refine below_set ?_ GE161.out) | exact HB.out)) hb); clear HO_6; clear BK161; clear HB; have HO_6 := n0_; have BK161 := n1_; have HB := n2_; clear n0_ n1_ n2_; (try clear hb); (try clear hb2); (try clear hk); (try clear hi))); try go_wp2_with (first | (go_at_call 67; (with_reducible refine (spec_l03Next.calls k3 x7_2 (rdOf ByteArray.empty l0_3 x9_3) t179 _ A70.out).mono ?_); rintro e w' ⟨rfl,⟨nd,rfl⟩⟩; (try first | exact ⟨rfl,_,World.drewN_drewN _ _ _⟩ | exact ⟨rfl,_,Eq.trans (World.drewN_drewN _ _ _) (congrArg (World.drewN _) (Nat.add_assoc _ _ _))⟩)) | (go_at_call 52; (with_reducible refine (spec_l03List_pos.calls gb161 a0_0 a0_1 A0_2 c0_2 l0_2 (some ad178) c0_3 l0_3 t179  _ ?side1 ?side2 ?side3 ?side4 ?side5 A91.out).mono ?_); (case side1 => exact by (with_reducible repeat (first | refine blk_drewN ?_ _ | refine blk_drew ?_ | refine blk_alloc ?_ _)); exact BK161.out); (case side2 => repeat (first | exact (Kd.C_below HR0_2.out (by repeat (first | (with_reducible first | exact HB.out | apply below_alloc | apply pw_below_drewN | apply below_drew1 | refine below_set ?_ GE161.out) | exact HB.out))) | (with_reducible refine Kd.C_alloc ?_ _) | (with_reducible refine Kd.C_drewN ?_ _) | (with_reducible refine Kd.C_drew ?_))); (case side3 => exact HC0_2.out); (case side4 => repeat (first | exact (Kd.C_below HR0_3.out (by repeat (first | (with_reducible first | exact HB.out | apply below_alloc | apply pw_below_drewN | apply below_drew1 | refine below_set ?_ GE161.out) | exact HB.out))) | (with_reducible refine Kd.C_alloc ?_ _) | (with_reducible refine Kd.C_drewN ?_ _) | (with_reducible refine Kd.C_drew ?_))); (case side5 => exact HC0_3.out); rintro e w92 ⟨rfl,hb⟩; have n0_ := Aside0.mk (Kd.R_below (by (with_reducible repeat (first | apply Kd.R_alloc | apply Kd.R_drewN | apply Kd.R_drew)); exact HO_6.out) hb); have n1_ := Aside0.mk (blk_below (g := gb161) (o := .cells #[.int .i64 a0_0,.int .i64 a0_1,.slice A0_2 l0_2.length c0_2,.slice (some ad178) l0_3.length c0_3] 30 (0,0)) (by (with_reducible repeat (first | refine blk_drewN ?_ _ | refine blk_drew ?_ | refine blk_alloc ?_ _)); exact BK161.out) hb); have n2_ := Aside0.mk (below_step (by repeat (first | (with_reducible first | exact HB.out | apply below_alloc | apply pw_below_drewN | apply below_drew1 | refine below_set ?_ GE161.out) | exact HB.out)) hb); clear HO_6; clear BK161; clear HB; have HO_6 := n0_; have BK161 := n1_; have HB := n2_; clear n0_ n1_ n2_; (try clear hb); (try clear hb2); (try clear hk); (try clear hi))))
                go_loopg [11] k3 (fun kq v11 w' => ∃ (x6_4 : List Bool) (x11_4 : Int),v11 = .int .i64 x11_4 ∧ Aside0 (spec_CommasOf.l302 kq a1 x6_4 x7_2 l0_3 x9_3 l0_3 x11_4 a0_0 a0_1 l0_2 l0_3 = some (r1,r2)) ∧ Aside0 (kq ≤ k3) ∧ Aside0 (Kd.R Kd.bool 4 w' w.heap.size (fun _ => True) v166 x6_4) ∧ Aside0 (w'.heap[gb161]? = some (.cells #[.int .i64 a0_0,.int .i64 a0_1,(.slice A0_2 l0_2.length c0_2),(.slice (some ad178) l0_3.length c0_3)] 30 (0,0))) ∧ Aside0 (Below w.heap.size w w'))
                case atStart => exact ⟨(x6_3),(0),(by first | rfl | (simp; done) | (simp [*]; done)),H',⟨Nat.le_refl _⟩,⟨by (with_reducible repeat (first | apply Kd.R_alloc | apply Kd.R_drewN | apply Kd.R_drew)); exact HO_6.out⟩,⟨by (with_reducible repeat (first | refine blk_drewN ?_ _ | refine blk_drew ?_ | refine blk_alloc ?_ _)); exact BK161.out⟩,⟨by repeat (first | (with_reducible first | exact HB.out | apply below_alloc | apply pw_below_drewN | apply below_drew1 | refine below_set ?_ GE161.out) | exact HB.out)⟩⟩
                case round =>
                 clear H'
                 try clear c1
                 try clear p1
                 try clear q1
                 try clear hx1
                 try clear c2
                 try clear p2
                 try clear c3
                 try clear c4
                 try clear p4
                 try clear q4
                 try clear hx4
                 try clear hf4
                 try clear c5
                 try clear c6
                 try clear p6
                 try clear q6
                 try clear hx6
                 try clear hf6
                 try clear c7
                 try clear c8
                 try clear p8
                 try clear q8
                 try clear hx8
                 try clear hf8
                 try clear c12
                 try clear c14
                 try clear c14b0
                 try clear c14b1
                 try clear c16
                 try clear c16b0
                 try clear c16b1
                 try clear p16
                 try clear q16
                 try clear hx16
                 try clear c17
                 try clear c17b0
                 try clear c17b1
                 try clear p17
                 try clear q17
                 try clear hx17
                 try clear p18
                 try clear q18
                 try clear hx18
                 try clear c20
                 try clear c20b0
                 try clear c21
                 try clear c21b0
                 try clear c24
                 try clear c24b0
                 try clear c25
                 try clear c25b0
                 try clear c27
                 try clear c27b0
                 try clear c30
                 try clear c30b0
                 try clear c31
                 try clear c31b0
                 try clear c32
                 try clear c32b0
                 try clear c33
                 try clear c33b0
                 try clear c34
                 try clear c34b0
                 try clear c34b1
                 try clear c34b2
                 try clear c35
                 try clear c35b0
                 try clear c36
                 try clear c36b0
                 try clear c36b1
                 try clear c37
                 try clear c37b0
                 try clear c37b1
                 try clear c38
                 try clear c38b0
                 try clear c38b1
                 try clear c40
                 try clear c40b0
                 try clear c41
                 try clear c41b0
                 try clear p42
                 try clear q42
                 try clear hx42
                 try clear hf42
                 try clear c49
                 try clear c49b0
                 try clear c50
                 try clear c50b0
                 try clear c51
                 try clear c51b0
                 try clear c52
                 try clear c52b0
                 try clear c53
                 try clear c53b0
                 try clear c53b1
                 try clear c53b2
                 try clear c54
                 try clear c54b0
                 try clear c55
                 try clear c55b0
                 try clear c55b1
                 try clear c56
                 try clear c56b0
                 try clear c56b1
                 try clear c57
                 try clear c57b0
                 try clear c57b1
                 try clear c59
                 try clear c59b0
                 try clear c60
                 try clear c60b0
                 try clear p61
                 try clear q61
                 try clear hx61
                 try clear hf61
                 try clear p64
                 try clear c68
                 try clear c68b0
                 try clear c69
                 try clear c69b0
                 try clear c71
                 try clear c71b0
                 try clear c74
                 try clear c74b0
                 try clear c75
                 try clear c75b0
                 try clear c76
                 try clear c76b0
                 try clear c77
                 try clear c77b0
                 try clear c78
                 try clear c78b0
                 try clear c78b1
                 try clear c78b2
                 try clear c79
                 try clear c79b0
                 try clear c80
                 try clear c80b0
                 try clear c80b1
                 try clear c81
                 try clear c81b0
                 try clear c81b1
                 try clear c82
                 try clear c82b0
                 try clear c82b1
                 try clear c84
                 try clear c84b0
                 try clear c85
                 try clear c85b0
                 try clear p86
                 try clear q86
                 try clear hx86
                 try clear hf86
                 try clear hcz10_0
                 try clear hcz10_1
                 try clear hcz10_2
                 try clear hcz10_3
                 try clear hcz43_0
                 try clear hcz43_1
                 try clear hcz43_2
                 try clear hcz43_3
                 try clear hcz46_0
                 try clear hcz46_1
                 try clear hcz46_2
                 try clear hcz46_3
                 try clear hcz62_0
                 try clear hcz62_1
                 try clear hcz62_2
                 try clear hcz62_3
                 try clear hcz65_0
                 try clear hcz65_1
                 try clear hcz65_2
                 try clear hcz65_3
                 try clear hcz87_0
                 try clear hcz87_1
                 try clear hcz87_2
                 try clear hcz87_3
                 try clear hcz90_0
                 try clear hcz90_1
                 try clear hcz90_2
                 try clear hcz90_3
                 try clear hfz10_0
                 try clear hfz10_1
                 try clear hfz10_2
                 try clear hfz10_3
                 try clear hfz43_0
                 try clear hfz43_1
                 try clear hfz43_2
                 try clear hfz43_3
                 try clear hfz46_0
                 try clear hfz46_1
                 try clear hfz46_2
                 try clear hfz46_3
                 try clear hfz62_0
                 try clear hfz62_1
                 try clear hfz62_2
                 try clear hfz62_3
                 try clear hfz65_0
                 try clear hfz65_1
                 try clear hfz65_2
                 try clear hfz65_3
                 try clear hfz87_0
                 try clear hfz87_1
                 try clear hfz87_2
                 try clear hfz87_3
                 try clear hfz90_0
                 try clear hfz90_1
                 try clear hfz90_2
                 try clear hfz90_3
                 try clear hx168_0
                 try clear hx170_0
                 try clear hx171_0
                 try clear hx174_0
                 try clear hx175_0
                 try clear hx178_0
                 try clear hx180_0
                 try clear hx181_0
                 try clear hx42_0
                 try clear hx61_0
                 try clear hx86_0
                 try clear p1
                 try clear p16
                 try clear p168
                 try clear p17
                 try clear p170
                 try clear p171
                 try clear p174
                 try clear p175
                 try clear p178
                 try clear p18
                 try clear p180
                 try clear p181
                 try clear p2
                 try clear p4
                 try clear p42
                 try clear p6
                 try clear p61
                 try clear p64
                 try clear p86
                 try clear q1
                 try clear q16
                 try clear q168
                 try clear q17
                 try clear q170
                 try clear q171
                 try clear q174
                 try clear q175
                 try clear q178
                 try clear q18
                 try clear q180
                 try clear q181
                 try clear q4
                 try clear q42
                 try clear q6
                 try clear q61
                 try clear q86
                 obtain ⟨x6_4,x11_4,rfl,HA,HK4,HO_6,BK161,HB⟩ := hrel
                 cases gk with
                 | zero => exact absurd HA.out (by simp [spec_CommasOf.l302])
                 | succ k4 =>
                  have H := HA.out
                  clear HA
                  simp only [spec_CommasOf.l302] at H
                  by_cases c93 : x11_4 < (l0_3.length : Int)
                  ·rw [if_pos c93] at H
                   have c93b0 : decide (x11_4 < (l0_3.length : Int)) = true := decide_eq_true c93
                   clear c93
                   by_cases c94 : 0 ≤ x9_3
                   ·rw [if_pos c94] at H
                    have c94b0 : decide (0 ≤ x9_3) = true := decide_eq_true c94
                    clear c94
                    by_cases c95 : x9_3 < (l0_3.length : Int)
                    ·rw [if_pos c95] at H
                     have c95b0 : decide (x9_3 < (l0_3.length : Int)) = true := decide_eq_true c95
                     clear c95
                     by_cases c96 : 0 ≤ x11_4
                     ·rw [if_pos c96] at H
                      have c96b0 : decide (0 ≤ x11_4) = true := decide_eq_true c96
                      clear c96
                      by_cases c97 : (rdOf ByteArray.empty l0_3 x9_3).size + (rdOf ByteArray.empty l0_3 x11_4).size ≤ 9223372036854775807
                      ·rw [if_pos c97] at H
                       have c97b0 := eq_true c97
                       have c97b1 : decide ((rdOf ByteArray.empty l0_3 x9_3).size + (rdOf ByteArray.empty l0_3 x11_4).size ≤ 9223372036854775807) = true := decide_eq_true c97
                       try have c97b2 : (9223372036854775807 < (rdOf ByteArray.empty l0_3 x9_3).size + (rdOf ByteArray.empty l0_3 x11_4).size) = False := eq_false (Nat.not_lt.2 c97)
                       have H' := Aside0.mk H
                       clear H
                       have p184 : 0 ≤ (x9_3 : Int) := of_decide_eq_true (by first | (with_reducible assumption) | assumption)
                       have q184 : x9_3 < (l0_3.length : Int) := of_decide_eq_true (by first | (with_reducible assumption) | assumption)
                       obtain ⟨ad184,e184,hx184_0⟩ := Kd.at_string HR0_3.out x9_3 p184 q184
                       obtain rfl : ad178 = ad184 := (by injection e184)
                       replace hx184_0 := (HB.out.cell (World.block_lt_of_cell? w _ hx184_0)).trans hx184_0
                       replace p184 := eq_true p184
                       replace q184 := eq_true q184
                       have p185 : 0 ≤ (x11_4 : Int) := of_decide_eq_true (by first | (with_reducible assumption) | assumption)
                       have q185 : x11_4 < (l0_3.length : Int) := of_decide_eq_true (by first | (with_reducible assumption) | assumption)
                       obtain ⟨ad185,e185,hx185_0⟩ := Kd.at_string HR0_3.out x11_4 p185 q185
                       obtain rfl : ad178 = ad185 := (by injection e185)
                       replace hx185_0 := (HB.out.cell (World.block_lt_of_cell? w _ hx185_0)).trans hx185_0
                       replace p185 := eq_true p185
                       replace q185 := eq_true q185
                       go_wp2
                       repeat (go_quiet (fail); try go_wp2)
                       generalize ((rdOf ByteArray.empty l0_3 x9_3) ++ (rdOf ByteArray.empty l0_3 x11_4)) = tc at H' ⊢
                       go_loopg [13] k4 (fun kq v13 w' => ∃ (x6_5 : List Bool) (x13_5 : Int),v13 = .int .i64 x13_5 ∧ Aside0 (spec_CommasOf.l303 kq a1 x6_5 x7_2 l0_3 x9_3 l0_3 x11_4 tc x13_5 a0_0 a0_1 l0_2 l0_3 = some (r1,r2)) ∧ Aside0 (kq ≤ k4) ∧ Aside0 (Kd.R Kd.bool 4 w' w.heap.size (fun _ => True) v166 x6_5) ∧ Aside0 (w'.heap[gb161]? = some (.cells #[.int .i64 a0_0,.int .i64 a0_1,(.slice A0_2 l0_2.length c0_2),(.slice (some ad178) l0_3.length c0_3)] 30 (0,0))) ∧ Aside0 (Below w.heap.size w w'))
                       case atStart => exact ⟨(x6_4),(0),(by first | rfl | (simp; done) | (simp [*]; done)),H',⟨Nat.le_refl _⟩,⟨by (with_reducible repeat (first | apply Kd.R_alloc | apply Kd.R_drewN | apply Kd.R_drew)); exact HO_6.out⟩,⟨by (with_reducible repeat (first | refine blk_drewN ?_ _ | refine blk_drew ?_ | refine blk_alloc ?_ _)); exact BK161.out⟩,⟨by repeat (first | (with_reducible first | exact HB.out | apply below_alloc | apply pw_below_drewN | apply below_drew1 | refine below_set ?_ GE161.out) | exact HB.out)⟩⟩
                       case round =>
                        clear H'
                        try clear c1
                        try clear p1
                        try clear q1
                        try clear hx1
                        try clear c2
                        try clear p2
                        try clear c3
                        try clear c4
                        try clear p4
                        try clear q4
                        try clear hx4
                        try clear hf4
                        try clear c5
                        try clear c6
                        try clear p6
                        try clear q6
                        try clear hx6
                        try clear hf6
                        try clear c7
                        try clear c8
                        try clear p8
                        try clear q8
                        try clear hx8
                        try clear hf8
                        try clear c9
                        try clear c12
                        try clear c14
                        try clear c14b0
                        try clear c14b1
                        try clear c16
                        try clear c16b0
                        try clear c16b1
                        try clear p16
                        try clear q16
                        try clear hx16
                        try clear c17
                        try clear c17b0
                        try clear c17b1
                        try clear p17
                        try clear q17
                        try clear hx17
                        try clear p18
                        try clear q18
                        try clear hx18
                        try clear c20
                        try clear c20b0
                        try clear c21
                        try clear c21b0
                        try clear c24
                        try clear c24b0
                        try clear c25
                        try clear c25b0
                        try clear c27
                        try clear c27b0
                        try clear c30
                        try clear c30b0
                        try clear c31
                        try clear c31b0
                        try clear c32
                        try clear c32b0
                        try clear c33
                        try clear c33b0
                        try clear c34
                        try clear c34b0
                        try clear c34b1
                        try clear c34b2
                        try clear c35
                        try clear c35b0
                        try clear c36
                        try clear c36b0
                        try clear c36b1
                        try clear c37
                        try clear c37b0
                        try clear c37b1
                        try clear c38
                        try clear c38b0
                        try clear c38b1
                        try clear c40
                        try clear c40b0
                        try clear c41
                        try clear c41b0
                        try clear p42
                        try clear q42
                        try clear hx42
                        try clear hf42
                        try clear c49
                        try clear c49b0
                        try clear c50
                        try clear c50b0
                        try clear c51
                        try clear c51b0
                        try clear c52
                        try clear c52b0
                        try clear c53
                        try clear c53b0
                        try clear c53b1
                        try clear c53b2
                        try clear c54
                        try clear c54b0
                        try clear c55
                        try clear c55b0
                        try clear c55b1
                        try clear c56
                        try clear c56b0
                        try clear c56b1
                        try clear c57
                        try clear c57b0
                        try clear c57b1
                        try clear c59
                        try clear c59b0
                        try clear c60
                        try clear c60b0
                        try clear p61
                        try clear q61
                        try clear hx61
                        try clear hf61
                        try clear p64
                        try clear c68
                        try clear c68b0
                        try clear c69
                        try clear c69b0
                        try clear c71
                        try clear c71b0
                        try clear c74
                        try clear c74b0
                        try clear c75
                        try clear c75b0
                        try clear c76
                        try clear c76b0
                        try clear c77
                        try clear c77b0
                        try clear c78
                        try clear c78b0
                        try clear c78b1
                        try clear c78b2
                        try clear c79
                        try clear c79b0
                        try clear c80
                        try clear c80b0
                        try clear c80b1
                        try clear c81
                        try clear c81b0
                        try clear c81b1
                        try clear c82
                        try clear c82b0
                        try clear c82b1
                        try clear c84
                        try clear c84b0
                        try clear c85
                        try clear c85b0
                        try clear p86
                        try clear q86
                        try clear hx86
                        try clear hf86
                        try clear c93
                        try clear c93b0
                        try clear c94
                        try clear c94b0
                        try clear c95
                        try clear c95b0
                        try clear c96
                        try clear c96b0
                        try clear c97
                        try clear c97b0
                        try clear c97b1
                        try clear c97b2
                        try clear hcz10_0
                        try clear hcz10_1
                        try clear hcz10_2
                        try clear hcz10_3
                        try clear hcz43_0
                        try clear hcz43_1
                        try clear hcz43_2
                        try clear hcz43_3
                        try clear hcz46_0
                        try clear hcz46_1
                        try clear hcz46_2
                        try clear hcz46_3
                        try clear hcz62_0
                        try clear hcz62_1
                        try clear hcz62_2
                        try clear hcz62_3
                        try clear hcz65_0
                        try clear hcz65_1
                        try clear hcz65_2
                        try clear hcz65_3
                        try clear hcz87_0
                        try clear hcz87_1
                        try clear hcz87_2
                        try clear hcz87_3
                        try clear hcz90_0
                        try clear hcz90_1
                        try clear hcz90_2
                        try clear hcz90_3
                        try clear hfz10_0
                        try clear hfz10_1
                        try clear hfz10_2
                        try clear hfz10_3
                        try clear hfz43_0
                        try clear hfz43_1
                        try clear hfz43_2
                        try clear hfz43_3
                        try clear hfz46_0
                        try clear hfz46_1
                        try clear hfz46_2
                        try clear hfz46_3
                        try clear hfz62_0
                        try clear hfz62_1
                        try clear hfz62_2
                        try clear hfz62_3
                        try clear hfz65_0
                        try clear hfz65_1
                        try clear hfz65_2
                        try clear hfz65_3
                        try clear hfz87_0
                        try clear hfz87_1
                        try clear hfz87_2
                        try clear hfz87_3
                        try clear hfz90_0
                        try clear hfz90_1
                        try clear hfz90_2
                        try clear hfz90_3
                        try clear hx168_0
                        try clear hx170_0
                        try clear hx171_0
                        try clear hx174_0
                        try clear hx175_0
                        try clear hx178_0
                        try clear hx180_0
                        try clear hx181_0
                        try clear hx184_0
                        try clear hx185_0
                        try clear hx42_0
                        try clear hx61_0
                        try clear hx86_0
                        try clear p1
                        try clear p16
                        try clear p168
                        try clear p17
                        try clear p170
                        try clear p171
                        try clear p174
                        try clear p175
                        try clear p178
                        try clear p18
                        try clear p180
                        try clear p181
                        try clear p184
                        try clear p185
                        try clear p2
                        try clear p4
                        try clear p42
                        try clear p6
                        try clear p61
                        try clear p64
                        try clear p8
                        try clear p86
                        try clear q1
                        try clear q16
                        try clear q168
                        try clear q17
                        try clear q170
                        try clear q171
                        try clear q174
                        try clear q175
                        try clear q178
                        try clear q18
                        try clear q180
                        try clear q181
                        try clear q184
                        try clear q185
                        try clear q4
                        try clear q42
                        try clear q6
                        try clear q61
                        try clear q8
                        try clear q86
                        obtain ⟨x6_5,x13_5,rfl,HA,HK5,HO_6,BK161,HB⟩ := hrel
                        cases gk with
                        | zero => exact absurd HA.out (by simp [spec_CommasOf.l303])
                        | succ k5 =>
                         have H := HA.out
                         clear HA
                         simp only [spec_CommasOf.l303] at H
                         by_cases c98 : (wrap64 (x13_5 + a1)) ≤ (wrap64 (2 * a0_1))
                         ·rw [if_pos c98] at H
                          have c98b0 : decide ((wrap64 (x13_5 + a1)) ≤ (wrap64 (2 * a0_1))) = true := decide_eq_true c98
                          clear c98
                          by_cases c99 : 0 ≤ x13_5
                          ·rw [if_pos c99] at H
                           have c99b0 := eq_true c99
                           have c99b1 : decide (0 ≤ x13_5) = true := decide_eq_true c99
                           clear c99
                           by_cases c100 : x13_5 ≤ (wrap64 (x13_5 + a1))
                           ·rw [if_pos c100] at H
                            have c100b0 := eq_true c100
                            have c100b1 : decide (x13_5 ≤ (wrap64 (x13_5 + a1))) = true := decide_eq_true c100
                            by_cases c101 : (wrap64 (x13_5 + a1)) ≤ (tc.size : Int)
                            ·rw [if_pos c101] at H
                             have c101b0 := eq_true c101
                             have c101b1 : decide ((wrap64 (x13_5 + a1)) ≤ (tc.size : Int)) = true := decide_eq_true c101
                             replace H := Option.bind_eq_some_iff.mp H
                             obtain ⟨t186,A1020,H⟩ := H
                             replace H : (if 0 ≤ t186 then (if t186 < (x6_5.length : Int) then (spec_CommasOf.l303 k5 a1 (x6_5.set (t186 : Int).toNat true) x7_2 l0_3 x9_3 l0_3 x11_4 tc (wrap64 (x13_5 + 1)) a0_0 a0_1 l0_2 l0_3) else (none)) else (none)) = some (r1,r2) := H
                             have A102 := Aside0.mk A1020
                             clear A1020
                             by_cases c103 : 0 ≤ t186
                             ·rw [if_pos c103] at H
                              have c103b0 : decide (0 ≤ t186) = true := decide_eq_true c103
                              clear c103
                              by_cases c104 : t186 < (x6_5.length : Int)
                              ·rw [if_pos c104] at H
                               have c104b0 : decide (t186 < (x6_5.length : Int)) = true := decide_eq_true c104
                               clear c104
                               obtain ⟨y187,hy187⟩ : ∃ y_ : List Bool,y_ = (x6_5.set (t186 : Int).toNat true) := ⟨_,rfl⟩
                               replace H : (spec_CommasOf.l303 k5 a1 y187 x7_2 l0_3 x9_3 l0_3 x11_4 tc (wrap64 (x13_5 + 1)) a0_0 a0_1 l0_2 l0_3) = some (r1,r2) := by first | (rw [hy187]; with_reducible exact H) | (have H2_ := (Option.bind_some _ _).symm.trans H; rw [hy187]; with_reducible exact H2_) | (have H2_ := (Option.bind_some _ _).symm.trans H; with_reducible exact H2_) | with_reducible exact H | (rw [hy187]; exact H) | exact H
                               have Ny187 := Aside0.mk hy187
                               clear hy187
                               have H' := Aside0.mk H
                               clear H
                               have hcz106_0 : wr.cell? ⟨gb161,0,none⟩ = some (.int .i64 a0_0) := (blk_cell BK161.out 0).trans rfl
                               have hcz106_1 : wr.cell? ⟨gb161,1,none⟩ = some (.int .i64 a0_1) := (blk_cell BK161.out 1).trans rfl
                               have hcz106_2 : wr.cell? ⟨gb161,2,none⟩ = some (.slice A0_2 l0_2.length c0_2) := (blk_cell BK161.out 2).trans rfl
                               have hcz106_3 : wr.cell? ⟨gb161,3,none⟩ = some (.slice (some ad178) l0_3.length c0_3) := (blk_cell BK161.out 3).trans rfl
                               have hfz106_0 := blk_frozen BK161.out 0
                               have hfz106_1 := blk_frozen BK161.out 1
                               have hfz106_2 := blk_frozen BK161.out 2
                               have hfz106_3 := blk_frozen BK161.out 3
                               go_wp2_with (first | (go_at_call 71; (with_reducible refine (spec_l01Number.calls k5 (tc.extract (x13_5 : Int).toNat ((wrap64 (x13_5 + a1)) : Int).toNat) t186 _ A102.out).mono ?_); rintro e w' ⟨rfl,⟨nd,rfl⟩⟩; (try first | exact ⟨rfl,_,World.drewN_drewN _ _ _⟩ | exact ⟨rfl,_,Eq.trans (World.drewN_drewN _ _ _) (congrArg (World.drewN _) (Nat.add_assoc _ _ _))⟩); have p105 : 0 ≤ (t186 : Int) := of_decide_eq_true (by first | (with_reducible assumption) | assumption); have q105 : (t186 : Int) < ((x6_5.length : Int) : Int) := of_decide_eq_true (by first | (with_reducible assumption) | assumption); obtain ⟨go105,co105,eo105,gb105,gl105,cl105,HG105⟩ := Kd.R_form HO_6.out (by omega); (first | cases eo105 | (injection eo105 with ea_ en_ ec_; (first | subst ea_ | (injection ea_ with ea_; subst ea_)); subst ec_; clear en_)); have GB105 := Aside0.mk gb105; have GG105 := Aside0.mk HG105; clear gb105 gl105 HG105; obtain ⟨hx105_0,hf105_0⟩ := Kd.R_celln false HO_6.out (t186 : Int) p105 q105; replace p105 := eq_true p105; replace q105 := eq_true q105; obtain ⟨hy107_,hz107_⟩ := Kd.R_celln false HO_6.out (t186 : Int) (of_decide_eq_true (by first | (with_reducible assumption) | assumption)) (of_decide_eq_true (by first | (with_reducible assumption) | assumption)); have HP107 := Kd.R_putg HO_6.out (t186 : Int) true) | ((with_reducible refine gate_store (t := 4) (p := 82) rfl ?_); (try (rw [drewN_self wr]; generalize hq_ : World.drewN wr _ = wr; have n0_ := Aside0.mk (Kd.R_at hq_ HO_6.out); have n1_ := Aside0.mk (blk_at hq_ BK161.out); have n2_ := Aside0.mk (below_at hq_ HB.out); clear hq_ HO_6 BK161 HB; have HO_6 := n0_; have BK161 := n1_; have HB := n2_; clear n0_ n1_ n2_; (try (obtain ⟨hy107_,hz107_⟩ := Kd.R_celln false HO_6.out (t186 : Int) (of_decide_eq_true (by first | (with_reducible assumption) | assumption)) (of_decide_eq_true (by first | (with_reducible assumption) | assumption)))); (try (have HP107 := Kd.R_putg HO_6.out (t186 : Int) true)))); refine store_event (t := 4) (p := 82) (v := ?vo_w108) (w1 := (wr.setCell ⟨go105,(t186 : Int).toNat,none⟩ (.bool true))) ?hg ?ho ?hn ?hr ?_; (case ho => rfl); (case hg => rfl); (case hn => rfl); (case hr => first | (go_simp; done) | (go_simp; rfl)); intro w108 hw; have hg : wr.grownBy w108 (some go105) := (by rw [hw]; exact HP107.2); have hp_ : Kd.R Kd.bool 4 w108 w.heap.size (fun _ => True) (.slice (some ⟨go105,0,none⟩) x6_5.length co105) y187 := (by rw [hw,Ny187.out]; exact HP107.1); clear HP107; have n0_ := Aside0.mk (hp_); have n1_ := Aside0.mk (blk_grown (g := gb161) (o := .cells #[.int .i64 a0_0,.int .i64 a0_1,.slice A0_2 l0_2.length c0_2,.slice (some ad178) l0_3.length c0_3] 30 (0,0)) (by (with_reducible repeat (first | refine blk_drewN ?_ _ | refine blk_drew ?_ | refine blk_alloc ?_ _)); exact BK161.out) hg (Kd.R_ne HO_6.out BK161.out (by decide))); have n2_ := Aside0.mk ((by rw [hw]; exact below_set (HB.out) GB105.out : Below w.heap.size w w108)); clear HO_6; clear BK161; clear HB; have HO_6 := n0_; have BK161 := n1_; have HB := n2_; clear n0_ n1_ n2_; clear hg hw hp_))
                               repeat (go_quiet (first | (go_at_call 71; (with_reducible refine (spec_l01Number.calls k5 (tc.extract (x13_5 : Int).toNat ((wrap64 (x13_5 + a1)) : Int).toNat) t186 _ A102.out).mono ?_); rintro e w' ⟨rfl,⟨nd,rfl⟩⟩; (try first | exact ⟨rfl,_,World.drewN_drewN _ _ _⟩ | exact ⟨rfl,_,Eq.trans (World.drewN_drewN _ _ _) (congrArg (World.drewN _) (Nat.add_assoc _ _ _))⟩); have p105 : 0 ≤ (t186 : Int) := of_decide_eq_true (by first | (with_reducible assumption) | assumption); have q105 : (t186 : Int) < ((x6_5.length : Int) : Int) := of_decide_eq_true (by first | (with_reducible assumption) | assumption); obtain ⟨go105,co105,eo105,gb105,gl105,cl105,HG105⟩ := Kd.R_form HO_6.out (by omega); (first | cases eo105 | (injection eo105 with ea_ en_ ec_; (first | subst ea_ | (injection ea_ with ea_; subst ea_)); subst ec_; clear en_)); have GB105 := Aside0.mk gb105; have GG105 := Aside0.mk HG105; clear gb105 gl105 HG105; obtain ⟨hx105_0,hf105_0⟩ := Kd.R_celln false HO_6.out (t186 : Int) p105 q105; replace p105 := eq_true p105; replace q105 := eq_true q105; obtain ⟨hy107_,hz107_⟩ := Kd.R_celln false HO_6.out (t186 : Int) (of_decide_eq_true (by first | (with_reducible assumption) | assumption)) (of_decide_eq_true (by first | (with_reducible assumption) | assumption)); have HP107 := Kd.R_putg HO_6.out (t186 : Int) true) | ((with_reducible refine gate_store (t := 4) (p := 82) rfl ?_); (try (rw [drewN_self wr]; generalize hq_ : World.drewN wr _ = wr; have n0_ := Aside0.mk (Kd.R_at hq_ HO_6.out); have n1_ := Aside0.mk (blk_at hq_ BK161.out); have n2_ := Aside0.mk (below_at hq_ HB.out); clear hq_ HO_6 BK161 HB; have HO_6 := n0_; have BK161 := n1_; have HB := n2_; clear n0_ n1_ n2_; (try (obtain ⟨hy107_,hz107_⟩ := Kd.R_celln false HO_6.out (t186 : Int) (of_decide_eq_true (by first | (with_reducible assumption) | assumption)) (of_decide_eq_true (by first | (with_reducible assumption) | assumption)))); (try (have HP107 := Kd.R_putg HO_6.out (t186 : Int) true)))); refine store_event (t := 4) (p := 82) (v := ?vo_w108) (w1 := (wr.setCell ⟨go105,(t186 : Int).toNat,none⟩ (.bool true))) ?hg ?ho ?hn ?hr ?_; (case ho => rfl); (case hg => rfl); (case hn => rfl); (case hr => first | (go_simp; done) | (go_simp; rfl)); intro w108 hw; have hg : wr.grownBy w108 (some go105) := (by rw [hw]; exact HP107.2); have hp_ : Kd.R Kd.bool 4 w108 w.heap.size (fun _ => True) (.slice (some ⟨go105,0,none⟩) x6_5.length co105) y187 := (by rw [hw,Ny187.out]; exact HP107.1); clear HP107; have n0_ := Aside0.mk (hp_); have n1_ := Aside0.mk (blk_grown (g := gb161) (o := .cells #[.int .i64 a0_0,.int .i64 a0_1,.slice A0_2 l0_2.length c0_2,.slice (some ad178) l0_3.length c0_3] 30 (0,0)) (by (with_reducible repeat (first | refine blk_drewN ?_ _ | refine blk_drew ?_ | refine blk_alloc ?_ _)); exact BK161.out) hg (Kd.R_ne HO_6.out BK161.out (by decide))); have n2_ := Aside0.mk ((by rw [hw]; exact below_set (HB.out) GB105.out : Below w.heap.size w w108)); clear HO_6; clear BK161; clear HB; have HO_6 := n0_; have BK161 := n1_; have HB := n2_; clear n0_ n1_ n2_; clear hg hw hp_)); try go_wp2_with (first | (go_at_call 71; (with_reducible refine (spec_l01Number.calls k5 (tc.extract (x13_5 : Int).toNat ((wrap64 (x13_5 + a1)) : Int).toNat) t186 _ A102.out).mono ?_); rintro e w' ⟨rfl,⟨nd,rfl⟩⟩; (try first | exact ⟨rfl,_,World.drewN_drewN _ _ _⟩ | exact ⟨rfl,_,Eq.trans (World.drewN_drewN _ _ _) (congrArg (World.drewN _) (Nat.add_assoc _ _ _))⟩); have p105 : 0 ≤ (t186 : Int) := of_decide_eq_true (by first | (with_reducible assumption) | assumption); have q105 : (t186 : Int) < ((x6_5.length : Int) : Int) := of_decide_eq_true (by first | (with_reducible assumption) | assumption); obtain ⟨go105,co105,eo105,gb105,gl105,cl105,HG105⟩ := Kd.R_form HO_6.out (by omega); (first | cases eo105 | (injection eo105 with ea_ en_ ec_; (first | subst ea_ | (injection ea_ with ea_; subst ea_)); subst ec_; clear en_)); have GB105 := Aside0.mk gb105; have GG105 := Aside0.mk HG105; clear gb105 gl105 HG105; obtain ⟨hx105_0,hf105_0⟩ := Kd.R_celln false HO_6.out (t186 : Int) p105 q105; replace p105 := eq_true p105; replace q105 := eq_true q105; obtain ⟨hy107_,hz107_⟩ := Kd.R_celln false HO_6.out (t186 : Int) (of_decide_eq_true (by first | (with_reducible assumption) | assumption)) (of_decide_eq_true (by first | (with_reducible assumption) | assumption)); have HP107 := Kd.R_putg HO_6.out (t186 : Int) true) | ((with_reducible refine gate_store (t := 4) (p := 82) rfl ?_); (try (rw [drewN_self wr]; generalize hq_ : World.drewN wr _ = wr; have n0_ := Aside0.mk (Kd.R_at hq_ HO_6.out); have n1_ := Aside0.mk (blk_at hq_ BK161.out); have n2_ := Aside0.mk (below_at hq_ HB.out); clear hq_ HO_6 BK161 HB; have HO_6 := n0_; have BK161 := n1_; have HB := n2_; clear n0_ n1_ n2_; (try (obtain ⟨hy107_,hz107_⟩ := Kd.R_celln false HO_6.out (t186 : Int) (of_decide_eq_true (by first | (with_reducible assumption) | assumption)) (of_decide_eq_true (by first | (with_reducible assumption) | assumption)))); (try (have HP107 := Kd.R_putg HO_6.out (t186 : Int) true)))); refine store_event (t := 4) (p := 82) (v := ?vo_w108) (w1 := (wr.setCell ⟨go105,(t186 : Int).toNat,none⟩ (.bool true))) ?hg ?ho ?hn ?hr ?_; (case ho => rfl); (case hg => rfl); (case hn => rfl); (case hr => first | (go_simp; done) | (go_simp; rfl)); intro w108 hw; have hg : wr.grownBy w108 (some go105) := (by rw [hw]; exact HP107.2); have hp_ : Kd.R Kd.bool 4 w108 w.heap.size (fun _ => True) (.slice (some ⟨go105,0,none⟩) x6_5.length co105) y187 := (by rw [hw,Ny187.out]; exact HP107.1); clear HP107; have n0_ := Aside0.mk (hp_); have n1_ := Aside0.mk (blk_grown (g := gb161) (o := .cells #[.int .i64 a0_0,.int .i64 a0_1,.slice A0_2 l0_2.length c0_2,.slice (some ad178) l0_3.length c0_3] 30 (0,0)) (by (with_reducible repeat (first | refine blk_drewN ?_ _ | refine blk_drew ?_ | refine blk_alloc ?_ _)); exact BK161.out) hg (Kd.R_ne HO_6.out BK161.out (by decide))); have n2_ := Aside0.mk ((by rw [hw]; exact below_set (HB.out) GB105.out : Below w.heap.size w w108)); clear HO_6; clear BK161; clear HB; have HO_6 := n0_; have BK161 := n1_; have HB := n2_; clear n0_ n1_ n2_; clear hg hw hp_)))
                               go_roundg k5
                               case measure => have := HJ2.out; have := HK2.out; have := HK3.out; have := HK4.out; have := HK5.out; omega
                               case rel => exact ⟨(y187),(wrap64 (x13_5 + 1)),(by first | rfl | (simp; done) | (simp [*]; done)),H',⟨by have := HJ2.out; have := HK2.out; have := HK3.out; have := HK4.out; have := HK5.out; omega⟩,⟨by (with_reducible repeat (first | apply Kd.R_alloc | apply Kd.R_drewN | apply Kd.R_drew)); exact HO_6.out⟩,⟨by (with_reducible repeat (first | refine blk_drewN ?_ _ | refine blk_drew ?_ | refine blk_alloc ?_ _)); exact BK161.out⟩,⟨by repeat (first | (with_reducible first | exact HB.out | apply below_alloc | apply pw_below_drewN | apply below_drew1 | refine below_set ?_ GE161.out) | exact HB.out)⟩⟩
                              ·rw [if_neg c104] at H
                               exact absurd H (by simp)
                             ·rw [if_neg c103] at H
                              exact absurd H (by simp)
                            ·rw [if_neg c101] at H
                             exact absurd H (by simp)
                           ·rw [if_neg c100] at H
                            exact absurd H (by simp)
                          ·rw [if_neg c99] at H
                           exact absurd H (by simp)
                         ·rw [if_neg c98] at H
                          have c98b0 : decide ((wrap64 (x13_5 + a1)) ≤ (wrap64 (2 * a0_1))) = false := decide_eq_false c98
                          clear c98
                          have H' := Aside0.mk H
                          clear H
                          have hcz109_0 : wr.cell? ⟨gb161,0,none⟩ = some (.int .i64 a0_0) := (blk_cell BK161.out 0).trans rfl
                          have hcz109_1 : wr.cell? ⟨gb161,1,none⟩ = some (.int .i64 a0_1) := (blk_cell BK161.out 1).trans rfl
                          have hcz109_2 : wr.cell? ⟨gb161,2,none⟩ = some (.slice A0_2 l0_2.length c0_2) := (blk_cell BK161.out 2).trans rfl
                          have hcz109_3 : wr.cell? ⟨gb161,3,none⟩ = some (.slice (some ad178) l0_3.length c0_3) := (blk_cell BK161.out 3).trans rfl
                          have hfz109_0 := blk_frozen BK161.out 0
                          have hfz109_1 := blk_frozen BK161.out 1
                          have hfz109_2 := blk_frozen BK161.out 2
                          have hfz109_3 := blk_frozen BK161.out 3
                          go_wp2
                          repeat (go_quiet (fail); try go_wp2)
                          go_roundg k5
                          case measure => have := HJ2.out; have := HK2.out; have := HK3.out; have := HK4.out; have := HK5.out; omega
                          case rel => exact ⟨(x6_5),(wrap64 (x11_4 + 1)),(by first | rfl | (simp; done) | (simp [*]; done)),H',⟨by have := HJ2.out; have := HK2.out; have := HK3.out; have := HK4.out; have := HK5.out; omega⟩,⟨by (with_reducible repeat (first | apply Kd.R_alloc | apply Kd.R_drewN | apply Kd.R_drew)); exact HO_6.out⟩,⟨by (with_reducible repeat (first | refine blk_drewN ?_ _ | refine blk_drew ?_ | refine blk_alloc ?_ _)); exact BK161.out⟩,⟨by repeat (first | (with_reducible first | exact HB.out | apply below_alloc | apply pw_below_drewN | apply below_drew1 | refine below_set ?_ GE161.out) | exact HB.out)⟩⟩
                      ·rw [if_neg c97] at H
                       exact absurd H (by simp)
                     ·rw [if_neg c96] at H
                      exact absurd H (by simp)
                    ·rw [if_neg c95] at H
                     exact absurd H (by simp)
                   ·rw [if_neg c94] at H
                    exact absurd H (by simp)
                  ·rw [if_neg c93] at H
                   have c93b0 : decide (x11_4 < (l0_3.length : Int)) = false := decide_eq_false c93
                   clear c93
                   have H' := Aside0.mk H
                   clear H
                   go_wp2
                   repeat (go_quiet (fail); try go_wp2)
                   go_roundg k4
                   case measure => have := HJ2.out; have := HK2.out; have := HK3.out; have := HK4.out; omega
                   case rel => exact ⟨(x6_4),(wrap64 (x9_3 + 1)),(by first | rfl | (simp; done) | (simp [*]; done)),H',⟨by have := HJ2.out; have := HK2.out; have := HK3.out; have := HK4.out; omega⟩,⟨by (with_reducible repeat (first | apply Kd.R_alloc | apply Kd.R_drewN | apply Kd.R_drew)); exact HO_6.out⟩,⟨by (with_reducible repeat (first | refine blk_drewN ?_ _ | refine blk_drew ?_ | refine blk_alloc ?_ _)); exact BK161.out⟩,⟨by repeat (first | (with_reducible first | exact HB.out | apply below_alloc | apply pw_below_drewN | apply below_drew1 | refine below_set ?_ GE161.out) | exact HB.out)⟩⟩
              ·rw [if_neg c69] at H
               exact absurd H (by simp)
             ·rw [if_neg c68] at H
              have c68b0 : decide (x9_3 < (l0_3.length : Int)) = false := decide_eq_false c68
              clear c68
              have H' := Aside0.mk H
              clear H
              go_wp2
              repeat (go_quiet (fail); try go_wp2)
              go_roundg k3
              case measure => have := HJ2.out; have := HK2.out; have := HK3.out; omega
              case rel => exact ⟨(x6_3),(wrap64 (x7_2 + 2)),(by first | rfl | (simp; done) | (simp [*]; done)),H',⟨by have := HJ2.out; have := HK2.out; have := HK3.out; omega⟩,⟨by (with_reducible repeat (first | apply Kd.R_alloc | apply Kd.R_drewN | apply Kd.R_drew)); exact HO_6.out⟩,⟨by (with_reducible repeat (first | refine blk_drewN ?_ _ | refine blk_drew ?_ | refine blk_alloc ?_ _)); exact BK161.out⟩,⟨by repeat (first | (with_reducible first | exact HB.out | apply below_alloc | apply pw_below_drewN | apply below_drew1 | refine below_set ?_ GE161.out) | exact HB.out)⟩⟩
         ·rw [if_neg c20] at H
          have c20b0 : decide (x7_2 ≤ 1) = false := decide_eq_false c20
          clear c20
          obtain ⟨y188,hy188⟩ : ∃ y_ : List ByteArray,y_ = (([] : List ByteArray)) := ⟨_,rfl⟩
          replace H : (spec_CommasOf.l4 k2 a1 x6_2 y188 0) = some (r1,r2) := by first | (rw [hy188]; with_reducible exact H) | (have H2_ := (Option.bind_some _ _).symm.trans H; rw [hy188]; with_reducible exact H2_) | (have H2_ := (Option.bind_some _ _).symm.trans H; with_reducible exact H2_) | with_reducible exact H | (rw [hy188]; exact H) | exact H
          have Ny188 := Aside0.mk hy188
          clear hy188
          have H' := Aside0.mk H
          clear H
          go_wp2_with (first | ((with_reducible refine gate_dst (N := 83) rfl ?_); refine Kd.R_lit Kd.string _ 9 ?hg (N := 83) ?hd (xs := ([] : List ByteArray)) (inner := []) (ok := fun _ => True) (okp := fun _ => True) ?hr ?hp (fun _ hk => hk) trivial (Below.refl _ _) (Nat.le_refl _) (by simp) ?_; (case hd => rfl); (case hg => rfl); (case hr => first | (go_simp; done) | (go_simp; rfl)); (case hp => exact (Reps.none _ _)); intro v189 w110 ho111 hb hg_ hnew_; clear hg_ hnew_; (first | rw [← Ny188.out] at ho111 | (simp only [Int.reduceToNat] at ho111; rw [← Ny188.out] at ho111)); have n0_ := Aside0.mk (Kd.R_below (by (with_reducible repeat (first | apply Kd.R_alloc | apply Kd.R_drewN | apply Kd.R_drew)); exact HO_6.out) hb); have n1_ := Aside0.mk (Kd.R_lower ho111 (below_size (by repeat (first | (with_reducible first | exact HB.out | apply below_alloc | apply pw_below_drewN | apply below_drew1 | refine below_set ?_ GE161.out) | exact HB.out)))); have n2_ := Aside0.mk (blk_below (g := gb161) (o := .cells #[.int .i64 a0_0,.int .i64 a0_1,.slice A0_2 l0_2.length c0_2,.slice A0_3 l0_3.length c0_3] 30 (0,0)) (by (with_reducible repeat (first | refine blk_drewN ?_ _ | refine blk_drew ?_ | refine blk_alloc ?_ _)); exact BK161.out) hb); have n3_ := Aside0.mk (below_step (by repeat (first | (with_reducible first | exact HB.out | apply below_alloc | apply pw_below_drewN | apply below_drew1 | refine below_set ?_ GE161.out) | exact HB.out)) hb); clear HO_6; clear BK161; clear HB; have HO_6 := n0_; have HO190 := n1_; have BK161 := n2_; have HB := n3_; clear n0_ n1_ n2_ n3_; clear hb ho111))
          repeat (go_quiet (first | ((with_reducible refine gate_dst (N := 83) rfl ?_); refine Kd.R_lit Kd.string _ 9 ?hg (N := 83) ?hd (xs := ([] : List ByteArray)) (inner := []) (ok := fun _ => True) (okp := fun _ => True) ?hr ?hp (fun _ hk => hk) trivial (Below.refl _ _) (Nat.le_refl _) (by simp) ?_; (case hd => rfl); (case hg => rfl); (case hr => first | (go_simp; done) | (go_simp; rfl)); (case hp => exact (Reps.none _ _)); intro v189 w110 ho111 hb hg_ hnew_; clear hg_ hnew_; (first | rw [← Ny188.out] at ho111 | (simp only [Int.reduceToNat] at ho111; rw [← Ny188.out] at ho111)); have n0_ := Aside0.mk (Kd.R_below (by (with_reducible repeat (first | apply Kd.R_alloc | apply Kd.R_drewN | apply Kd.R_drew)); exact HO_6.out) hb); have n1_ := Aside0.mk (Kd.R_lower ho111 (below_size (by repeat (first | (with_reducible first | exact HB.out | apply below_alloc | apply pw_below_drewN | apply below_drew1 | refine below_set ?_ GE161.out) | exact HB.out)))); have n2_ := Aside0.mk (blk_below (g := gb161) (o := .cells #[.int .i64 a0_0,.int .i64 a0_1,.slice A0_2 l0_2.length c0_2,.slice A0_3 l0_3.length c0_3] 30 (0,0)) (by (with_reducible repeat (first | refine blk_drewN ?_ _ | refine blk_drew ?_ | refine blk_alloc ?_ _)); exact BK161.out) hb); have n3_ := Aside0.mk (below_step (by repeat (first | (with_reducible first | exact HB.out | apply below_alloc | apply pw_below_drewN | apply below_drew1 | refine below_set ?_ GE161.out) | exact HB.out)) hb); clear HO_6; clear BK161; clear HB; have HO_6 := n0_; have HO190 := n1_; have BK161 := n2_; have HB := n3_; clear n0_ n1_ n2_ n3_; clear hb ho111)); try go_wp2_with (first | ((with_reducible refine gate_dst (N := 83) rfl ?_); refine Kd.R_lit Kd.string _ 9 ?hg (N := 83) ?hd (xs := ([] : List ByteArray)) (inner := []) (ok := fun _ => True) (okp := fun _ => True) ?hr ?hp (fun _ hk => hk) trivial (Below.refl _ _) (Nat.le_refl _) (by simp) ?_; (case hd => rfl); (case hg => rfl); (case hr => first | (go_simp; done) | (go_simp; rfl)); (case hp => exact (Reps.none _ _)); intro v189 w110 ho111 hb hg_ hnew_; clear hg_ hnew_; (first | rw [← Ny188.out] at ho111 | (simp only [Int.reduceToNat] at ho111; rw [← Ny188.out] at ho111)); have n0_ := Aside0.mk (Kd.R_below (by (with_reducible repeat (first | apply Kd.R_alloc | apply Kd.R_drewN | apply Kd.R_drew)); exact HO_6.out) hb); have n1_ := Aside0.mk (Kd.R_lower ho111 (below_size (by repeat (first | (with_reducible first | exact HB.out | apply below_alloc | apply pw_below_drewN | apply below_drew1 | refine below_set ?_ GE161.out) | exact HB.out)))); have n2_ := Aside0.mk (blk_below (g := gb161) (o := .cells #[.int .i64 a0_0,.int .i64 a0_1,.slice A0_2 l0_2.length c0_2,.slice A0_3 l0_3.length c0_3] 30 (0,0)) (by (with_reducible repeat (first | refine blk_drewN ?_ _ | refine blk_drew ?_ | refine blk_alloc ?_ _)); exact BK161.out) hb); have n3_ := Aside0.mk (below_step (by repeat (first | (with_reducible first | exact HB.out | apply below_alloc | apply pw_below_drewN | apply below_drew1 | refine below_set ?_ GE161.out) | exact HB.out)) hb); clear HO_6; clear BK161; clear HB; have HO_6 := n0_; have HO190 := n1_; have BK161 := n2_; have HB := n3_; clear n0_ n1_ n2_ n3_; clear hb ho111)))
          go_loopg [14,15] k2 (fun kq v14 v15 w' => ∃ (x14_3 : List ByteArray) (x15_3 : Int),v15 = .int .i64 x15_3 ∧ Aside0 (spec_CommasOf.l4 kq a1 x6_2 x14_3 x15_3 = some (r1,r2)) ∧ Aside0 (kq ≤ k2) ∧ Aside0 (Kd.R Kd.bool 4 w' w.heap.size (fun _ => True) v166 x6_2) ∧ Aside0 (Kd.R Kd.string 9 w' w.heap.size (fun _ => True) v14 x14_3) ∧ Aside0 (w'.heap[gb161]? = some (.cells #[.int .i64 a0_0,.int .i64 a0_1,(.slice A0_2 l0_2.length c0_2),(.slice A0_3 l0_3.length c0_3)] 30 (0,0))) ∧ Aside0 (Below w.heap.size w w'))
          case atStart => exact ⟨(y188),(0),(by first | rfl | (simp; done) | (simp [*]; done)),H',⟨Nat.le_refl _⟩,⟨by (with_reducible repeat (first | apply Kd.R_alloc | apply Kd.R_drewN | apply Kd.R_drew)); exact HO_6.out⟩,⟨by (with_reducible repeat (first | apply Kd.R_alloc | apply Kd.R_drewN | apply Kd.R_drew)); exact HO190.out⟩,⟨by (with_reducible repeat (first | refine blk_drewN ?_ _ | refine blk_drew ?_ | refine blk_alloc ?_ _)); exact BK161.out⟩,⟨by repeat (first | (with_reducible first | exact HB.out | apply below_alloc | apply pw_below_drewN | apply below_drew1 | refine below_set ?_ GE161.out) | exact HB.out)⟩⟩
          case round =>
           clear H'
           try clear c1
           try clear p1
           try clear q1
           try clear hx1
           try clear c2
           try clear p2
           try clear c3
           try clear c4
           try clear p4
           try clear q4
           try clear hx4
           try clear hf4
           try clear c5
           try clear c6
           try clear p6
           try clear q6
           try clear hx6
           try clear hf6
           try clear c7
           try clear c8
           try clear p8
           try clear q8
           try clear hx8
           try clear hf8
           try clear c9
           try clear c10
           try clear p10
           try clear q10
           try clear hx10
           try clear hf10
           try clear c12
           try clear c14
           try clear c14b0
           try clear c14b1
           try clear c16
           try clear c16b0
           try clear c16b1
           try clear p16
           try clear q16
           try clear hx16
           try clear c17
           try clear c17b0
           try clear c17b1
           try clear p17
           try clear q17
           try clear hx17
           try clear p18
           try clear q18
           try clear hx18
           try clear c20
           try clear c20b0
           try clear c21
           try clear c21b0
           try clear c24
           try clear c24b0
           try clear c25
           try clear c25b0
           try clear c27
           try clear c27b0
           try clear c30
           try clear c30b0
           try clear c31
           try clear c31b0
           try clear c32
           try clear c32b0
           try clear c33
           try clear c33b0
           try clear c34
           try clear c34b0
           try clear c34b1
           try clear c34b2
           try clear c35
           try clear c35b0
           try clear c36
           try clear c36b0
           try clear c36b1
           try clear c37
           try clear c37b0
           try clear c37b1
           try clear c38
           try clear c38b0
           try clear c38b1
           try clear c40
           try clear c40b0
           try clear c41
           try clear c41b0
           try clear p42
           try clear q42
           try clear hx42
           try clear hf42
           try clear c49
           try clear c49b0
           try clear c50
           try clear c50b0
           try clear c51
           try clear c51b0
           try clear c52
           try clear c52b0
           try clear c53
           try clear c53b0
           try clear c53b1
           try clear c53b2
           try clear c54
           try clear c54b0
           try clear c55
           try clear c55b0
           try clear c55b1
           try clear c56
           try clear c56b0
           try clear c56b1
           try clear c57
           try clear c57b0
           try clear c57b1
           try clear c59
           try clear c59b0
           try clear c60
           try clear c60b0
           try clear p61
           try clear q61
           try clear hx61
           try clear hf61
           try clear p64
           try clear c68
           try clear c68b0
           try clear c69
           try clear c69b0
           try clear c71
           try clear c71b0
           try clear c74
           try clear c74b0
           try clear c75
           try clear c75b0
           try clear c76
           try clear c76b0
           try clear c77
           try clear c77b0
           try clear c78
           try clear c78b0
           try clear c78b1
           try clear c78b2
           try clear c79
           try clear c79b0
           try clear c80
           try clear c80b0
           try clear c80b1
           try clear c81
           try clear c81b0
           try clear c81b1
           try clear c82
           try clear c82b0
           try clear c82b1
           try clear c84
           try clear c84b0
           try clear c85
           try clear c85b0
           try clear p86
           try clear q86
           try clear hx86
           try clear hf86
           try clear c93
           try clear c93b0
           try clear c94
           try clear c94b0
           try clear c95
           try clear c95b0
           try clear c96
           try clear c96b0
           try clear c97
           try clear c97b0
           try clear c97b1
           try clear c97b2
           try clear c98
           try clear c98b0
           try clear c99
           try clear c99b0
           try clear c99b1
           try clear c100
           try clear c100b0
           try clear c100b1
           try clear c101
           try clear c101b0
           try clear c101b1
           try clear c103
           try clear c103b0
           try clear c104
           try clear c104b0
           try clear p105
           try clear q105
           try clear hx105
           try clear hf105
           try clear hcz106_0
           try clear hcz106_1
           try clear hcz106_2
           try clear hcz106_3
           try clear hcz109_0
           try clear hcz109_1
           try clear hcz109_2
           try clear hcz109_3
           try clear hcz10_0
           try clear hcz10_1
           try clear hcz10_2
           try clear hcz10_3
           try clear hcz43_0
           try clear hcz43_1
           try clear hcz43_2
           try clear hcz43_3
           try clear hcz46_0
           try clear hcz46_1
           try clear hcz46_2
           try clear hcz46_3
           try clear hcz62_0
           try clear hcz62_1
           try clear hcz62_2
           try clear hcz62_3
           try clear hcz65_0
           try clear hcz65_1
           try clear hcz65_2
           try clear hcz65_3
           try clear hcz87_0
           try clear hcz87_1
           try clear hcz87_2
           try clear hcz87_3
           try clear hcz90_0
           try clear hcz90_1
           try clear hcz90_2
           try clear hcz90_3
           try clear hfz106_0
           try clear hfz106_1
           try clear hfz106_2
           try clear hfz106_3
           try clear hfz109_0
           try clear hfz109_1
           try clear hfz109_2
           try clear hfz109_3
           try clear hfz10_0
           try clear hfz10_1
           try clear hfz10_2
           try clear hfz10_3
           try clear hfz43_0
           try clear hfz43_1
           try clear hfz43_2
           try clear hfz43_3
           try clear hfz46_0
           try clear hfz46_1
           try clear hfz46_2
           try clear hfz46_3
           try clear hfz62_0
           try clear hfz62_1
           try clear hfz62_2
           try clear hfz62_3
           try clear hfz65_0
           try clear hfz65_1
           try clear hfz65_2
           try clear hfz65_3
           try clear hfz87_0
           try clear hfz87_1
           try clear hfz87_2
           try clear hfz87_3
           try clear hfz90_0
           try clear hfz90_1
           try clear hfz90_2
           try clear hfz90_3
           try clear hx105_0
           try clear hx168_0
           try clear hx170_0
           try clear hx171_0
           try clear hx174_0
           try clear hx175_0
           try clear hx178_0
           try clear hx180_0
           try clear hx181_0
           try clear hx184_0
           try clear hx185_0
           try clear hx42_0
           try clear hx61_0
           try clear hx86_0
           try clear p1
           try clear p105
           try clear p16
           try clear p168
           try clear p17
           try clear p170
           try clear p171
           try clear p174
           try clear p175
           try clear p178
           try clear p18
           try clear p180
           try clear p181
           try clear p184
           try clear p185
           try clear p2
           try clear p4
           try clear p42
           try clear p6
           try clear p61
           try clear p64
           try clear p8
           try clear p86
           try clear q1
           try clear q105
           try clear q16
           try clear q168
           try clear q17
           try clear q170
           try clear q171
           try clear q174
           try clear q175
           try clear q178
           try clear q18
           try clear q180
           try clear q181
           try clear q184
           try clear q185
           try clear q4
           try clear q42
           try clear q6
           try clear q61
           try clear q8
           try clear q86
           obtain ⟨x14_3,x15_3,rfl,HA,HK3,HO_6,HO_14,BK161,HB⟩ := hrel
           cases gk with
           | zero => exact absurd HA.out (by simp [spec_CommasOf.l4])
           | succ k3 =>
            have H := HA.out
            clear HA
            simp only [spec_CommasOf.l4] at H
            by_cases c112 : x15_3 < (x6_2.length : Int)
            ·rw [if_pos c112] at H
             have c112b0 : decide (x15_3 < (x6_2.length : Int)) = true := decide_eq_true c112
             clear c112
             by_cases c113 : 0 ≤ x15_3
             ·rw [if_pos c113] at H
              have c113b0 : decide (0 ≤ x15_3) = true := decide_eq_true c113
              clear c113
              obtain ⟨bq114,hbq114⟩ : ∃ b_ : Bool,b_ = (rdOf false x6_2 x15_3) := ⟨_,rfl⟩
              replace H : (if bq114 = true then (spec_CommasOf.l4 k3 a1 x6_2 x14_3 (wrap64 (x15_3 + 1))) else ((spec_l01Digits.f k3 x15_3 a1).bind fun t192 => (if x14_3.length < 8796093022208 then (spec_CommasOf.l4 k3 a1 x6_2 (x14_3 ++ [t192]) (wrap64 (x15_3 + 1))) else (none)))) = some (r1,r2) := by rw [← hbq114] at H; exact H
              have Nbq114 := Aside0.mk hbq114
              clear hbq114
              by_cases c115 : bq114 = true
              ·subst c115
               have H1 : (spec_CommasOf.l4 k3 a1 x6_2 x14_3 (wrap64 (x15_3 + 1))) = some (r1,r2) := by rw [if_pos rfl] at H; exact H
               clear H
               have H := H1
               clear H1
               have H' := Aside0.mk H
               clear H
               obtain ⟨Ao116,co116,eo116⟩ := Kd.R_slice HO_6.out
               subst eo116
               have p191 : 0 ≤ (x15_3 : Int) := of_decide_eq_true (by first | (with_reducible assumption) | assumption)
               have q191 : x15_3 < (x6_2.length : Int) := of_decide_eq_true (by first | (with_reducible assumption) | assumption)
               obtain ⟨ad191,e191,hx191_0⟩ := Kd.at_bool (Kd.R_reads' HO_6.out).2.2 x15_3 p191 q191
               (try rw [← Nbq114.out] at hx191_0)
               cases e191
               replace p191 := eq_true p191
               replace q191 := eq_true q191
               go_wp2
               repeat (go_quiet (fail); try go_wp2)
               go_roundg k3
               case measure => have := HJ2.out; have := HK2.out; have := HK3.out; omega
               case rel => exact ⟨(x14_3),(wrap64 (x15_3 + 1)),(by first | rfl | (simp; done) | (simp [*]; done)),H',⟨by have := HJ2.out; have := HK2.out; have := HK3.out; omega⟩,⟨by (with_reducible repeat (first | apply Kd.R_alloc | apply Kd.R_drewN | apply Kd.R_drew)); exact HO_6.out⟩,⟨by (with_reducible repeat (first | apply Kd.R_alloc | apply Kd.R_drewN | apply Kd.R_drew)); exact HO_14.out⟩,⟨by (with_reducible repeat (first | refine blk_drewN ?_ _ | refine blk_drew ?_ | refine blk_alloc ?_ _)); exact BK161.out⟩,⟨by repeat (first | (with_reducible first | exact HB.out | apply below_alloc | apply pw_below_drewN | apply below_drew1 | refine below_set ?_ GE161.out) | exact HB.out)⟩⟩
              ·replace c115 := Bool.eq_false_iff.mpr c115
               subst c115
               have H1 : ((spec_l01Digits.f k3 x15_3 a1).bind fun t192 => (if x14_3.length < 8796093022208 then (spec_CommasOf.l4 k3 a1 x6_2 (x14_3 ++ [t192]) (wrap64 (x15_3 + 1))) else (none))) = some (r1,r2) := by rw [if_neg (show ¬ (false = true) by decide)] at H; exact H
               clear H
               have H := H1
               clear H1
               replace H := Option.bind_eq_some_iff.mp H
               obtain ⟨t192,A1170,H⟩ := H
               replace H : (if x14_3.length < 8796093022208 then (spec_CommasOf.l4 k3 a1 x6_2 (x14_3 ++ [t192]) (wrap64 (x15_3 + 1))) else (none)) = some (r1,r2) := H
               have A117 := Aside0.mk A1170
               clear A1170
               by_cases c118 : x14_3.length < 8796093022208
               ·rw [if_pos c118] at H
                have LMc118 := Aside0.mk c118
                clear c118
                obtain ⟨y193,hy193⟩ : ∃ y_ : List ByteArray,y_ = (x14_3 ++ [t192]) := ⟨_,rfl⟩
                replace H : (spec_CommasOf.l4 k3 a1 x6_2 y193 (wrap64 (x15_3 + 1))) = some (r1,r2) := by first | (rw [hy193]; with_reducible exact H) | (have H2_ := (Option.bind_some _ _).symm.trans H; rw [hy193]; with_reducible exact H2_) | (have H2_ := (Option.bind_some _ _).symm.trans H; with_reducible exact H2_) | with_reducible exact H | (rw [hy193]; exact H) | exact H
                have Ny193 := Aside0.mk hy193
                clear hy193
                have H' := Aside0.mk H
                clear H
                obtain ⟨Ao119,co119,eo119⟩ := Kd.R_slice HO_6.out
                subst eo119
                have p191 : 0 ≤ (x15_3 : Int) := of_decide_eq_true (by first | (with_reducible assumption) | assumption)
                have q191 : x15_3 < (x6_2.length : Int) := of_decide_eq_true (by first | (with_reducible assumption) | assumption)
                obtain ⟨ad191,e191,hx191_0⟩ := Kd.at_bool (Kd.R_reads' HO_6.out).2.2 x15_3 p191 q191
                (try rw [← Nbq114.out] at hx191_0)
                cases e191
                replace p191 := eq_true p191
                replace q191 := eq_true q191
                go_wp2_with (first | (go_at_call 72; (with_reducible refine (spec_l01Digits.calls k3 x15_3 a1 t192 _ A117.out).mono ?_); rintro e w120 ⟨rfl,hb⟩; have n0_ := Aside0.mk (Kd.R_below (by (with_reducible repeat (first | apply Kd.R_alloc | apply Kd.R_drewN | apply Kd.R_drew)); exact HO_6.out) hb); have n1_ := Aside0.mk (Kd.R_below (by (with_reducible repeat (first | apply Kd.R_alloc | apply Kd.R_drewN | apply Kd.R_drew)); exact HO_14.out) hb); have n2_ := Aside0.mk (blk_below (g := gb161) (o := .cells #[.int .i64 a0_0,.int .i64 a0_1,.slice A0_2 l0_2.length c0_2,.slice A0_3 l0_3.length c0_3] 30 (0,0)) (by (with_reducible repeat (first | refine blk_drewN ?_ _ | refine blk_drew ?_ | refine blk_alloc ?_ _)); exact BK161.out) hb); have n3_ := Aside0.mk (below_step (by repeat (first | (with_reducible first | exact HB.out | apply below_alloc | apply pw_below_drewN | apply below_drew1 | refine below_set ?_ GE161.out) | exact HB.out)) hb); clear HO_6; clear HO_14; clear BK161; clear HB; have HO_6 := n0_; have HO_14 := n1_; have BK161 := n2_; have HB := n3_; clear n0_ n1_ n2_ n3_; (try clear hb); (try clear hb2); (try clear hk); (try clear hi)) | ((with_reducible refine gate_builtin (b := .append) (xs := #[.tmp 95,.tmp 99]) rfl ?_); at_builtin; refine Kd.R_append Kd.string (w0 := w) w.heap.size rfl (.tmp 95) (.tmp 99) 25 9 (.string ⟨#[]⟩) 16 rfl Tryd.underlying25 info9 rfl (by decide) (by omega) u14 x14_3 t192 [.string t192] (fun _ => True) (fun _ => False) rfl rfl ?aP (fun _ hk => hk.elim) ?aF ?aO ?aB ?aS ?aL ?_; (case aP => exact rfl); (case aB => exact (by repeat (first | (with_reducible first | exact HB.out | apply below_alloc | apply pw_below_drewN | apply below_drew1 | refine below_set ?_ GE161.out) | exact HB.out))); (case aF => exact (fun _ _ => trivial)); (case aO => exact (by (with_reducible repeat (first | apply Kd.R_alloc | apply Kd.R_drewN | apply Kd.R_drew)); exact HO_14.out)); (case aS => exact (below_size (by repeat (first | (with_reducible first | exact HB.out | apply below_alloc | apply pw_below_drewN | apply below_drew1 | refine below_set ?_ GE161.out) | exact HB.out)))); (case aL => have := LMc118.out; omega); intro v194 w121 ho hb hg hat; rw [← Ny193.out] at ho; have n0_ := Aside0.mk (Kd.R_over' (by (with_reducible repeat (first | apply Kd.R_alloc | apply Kd.R_drewN | apply Kd.R_drew)); exact HO_6.out) (Kd.R_typed (by (with_reducible repeat (first | apply Kd.R_alloc | apply Kd.R_drewN | apply Kd.R_drew)); exact HO_14.out)) (by decide) hg); have n1_ := Aside0.mk (blk_grown (g := gb161) (o := .cells #[.int .i64 a0_0,.int .i64 a0_1,.slice A0_2 l0_2.length c0_2,.slice A0_3 l0_3.length c0_3] 30 (0,0)) (by (with_reducible repeat (first | refine blk_drewN ?_ _ | refine blk_drew ?_ | refine blk_alloc ?_ _)); exact BK161.out) hg (Kd.R_ne HO_14.out BK161.out (by decide))); have n2_ := Aside0.mk (hb); have n3_ := Aside0.mk (ho); clear HO_6; clear BK161; clear HB; clear HO_14; have HO_6 := n0_; have BK161 := n1_; have HB := n2_; have HO195 := n3_; clear n0_ n1_ n2_ n3_; clear ho hb hg hat))
                repeat (go_quiet (first | (go_at_call 72; (with_reducible refine (spec_l01Digits.calls k3 x15_3 a1 t192 _ A117.out).mono ?_); rintro e w120 ⟨rfl,hb⟩; have n0_ := Aside0.mk (Kd.R_below (by (with_reducible repeat (first | apply Kd.R_alloc | apply Kd.R_drewN | apply Kd.R_drew)); exact HO_6.out) hb); have n1_ := Aside0.mk (Kd.R_below (by (with_reducible repeat (first | apply Kd.R_alloc | apply Kd.R_drewN | apply Kd.R_drew)); exact HO_14.out) hb); have n2_ := Aside0.mk (blk_below (g := gb161) (o := .cells #[.int .i64 a0_0,.int .i64 a0_1,.slice A0_2 l0_2.length c0_2,.slice A0_3 l0_3.length c0_3] 30 (0,0)) (by (with_reducible repeat (first | refine blk_drewN ?_ _ | refine blk_drew ?_ | refine blk_alloc ?_ _)); exact BK161.out) hb); have n3_ := Aside0.mk (below_step (by repeat (first | (with_reducible first | exact HB.out | apply below_alloc | apply pw_below_drewN | apply below_drew1 | refine below_set ?_ GE161.out) | exact HB.out)) hb); clear HO_6; clear HO_14; clear BK161; clear HB; have HO_6 := n0_; have HO_14 := n1_; have BK161 := n2_; have HB := n3_; clear n0_ n1_ n2_ n3_; (try clear hb); (try clear hb2); (try clear hk); (try clear hi)) | ((with_reducible refine gate_builtin (b := .append) (xs := #[.tmp 95,.tmp 99]) rfl ?_); at_builtin; refine Kd.R_append Kd.string (w0 := w) w.heap.size rfl (.tmp 95) (.tmp 99) 25 9 (.string ⟨#[]⟩) 16 rfl Tryd.underlying25 info9 rfl (by decide) (by omega) u14 x14_3 t192 [.string t192] (fun _ => True) (fun _ => False) rfl rfl ?aP (fun _ hk => hk.elim) ?aF ?aO ?aB ?aS ?aL ?_; (case aP => exact rfl); (case aB => exact (by repeat (first | (with_reducible first | exact HB.out | apply below_alloc | apply pw_below_drewN | apply below_drew1 | refine below_set ?_ GE161.out) | exact HB.out))); (case aF => exact (fun _ _ => trivial)); (case aO => exact (by (with_reducible repeat (first | apply Kd.R_alloc | apply Kd.R_drewN | apply Kd.R_drew)); exact HO_14.out)); (case aS => exact (below_size (by repeat (first | (with_reducible first | exact HB.out | apply below_alloc | apply pw_below_drewN | apply below_drew1 | refine below_set ?_ GE161.out) | exact HB.out)))); (case aL => have := LMc118.out; omega); intro v194 w121 ho hb hg hat; rw [← Ny193.out] at ho; have n0_ := Aside0.mk (Kd.R_over' (by (with_reducible repeat (first | apply Kd.R_alloc | apply Kd.R_drewN | apply Kd.R_drew)); exact HO_6.out) (Kd.R_typed (by (with_reducible repeat (first | apply Kd.R_alloc | apply Kd.R_drewN | apply Kd.R_drew)); exact HO_14.out)) (by decide) hg); have n1_ := Aside0.mk (blk_grown (g := gb161) (o := .cells #[.int .i64 a0_0,.int .i64 a0_1,.slice A0_2 l0_2.length c0_2,.slice A0_3 l0_3.length c0_3] 30 (0,0)) (by (with_reducible repeat (first | refine blk_drewN ?_ _ | refine blk_drew ?_ | refine blk_alloc ?_ _)); exact BK161.out) hg (Kd.R_ne HO_14.out BK161.out (by decide))); have n2_ := Aside0.mk (hb); have n3_ := Aside0.mk (ho); clear HO_6; clear BK161; clear HB; clear HO_14; have HO_6 := n0_; have BK161 := n1_; have HB := n2_; have HO195 := n3_; clear n0_ n1_ n2_ n3_; clear ho hb hg hat)); try go_wp2_with (first | (go_at_call 72; (with_reducible refine (spec_l01Digits.calls k3 x15_3 a1 t192 _ A117.out).mono ?_); rintro e w120 ⟨rfl,hb⟩; have n0_ := Aside0.mk (Kd.R_below (by (with_reducible repeat (first | apply Kd.R_alloc | apply Kd.R_drewN | apply Kd.R_drew)); exact HO_6.out) hb); have n1_ := Aside0.mk (Kd.R_below (by (with_reducible repeat (first | apply Kd.R_alloc | apply Kd.R_drewN | apply Kd.R_drew)); exact HO_14.out) hb); have n2_ := Aside0.mk (blk_below (g := gb161) (o := .cells #[.int .i64 a0_0,.int .i64 a0_1,.slice A0_2 l0_2.length c0_2,.slice A0_3 l0_3.length c0_3] 30 (0,0)) (by (with_reducible repeat (first | refine blk_drewN ?_ _ | refine blk_drew ?_ | refine blk_alloc ?_ _)); exact BK161.out) hb); have n3_ := Aside0.mk (below_step (by repeat (first | (with_reducible first | exact HB.out | apply below_alloc | apply pw_below_drewN | apply below_drew1 | refine below_set ?_ GE161.out) | exact HB.out)) hb); clear HO_6; clear HO_14; clear BK161; clear HB; have HO_6 := n0_; have HO_14 := n1_; have BK161 := n2_; have HB := n3_; clear n0_ n1_ n2_ n3_; (try clear hb); (try clear hb2); (try clear hk); (try clear hi)) | ((with_reducible refine gate_builtin (b := .append) (xs := #[.tmp 95,.tmp 99]) rfl ?_); at_builtin; refine Kd.R_append Kd.string (w0 := w) w.heap.size rfl (.tmp 95) (.tmp 99) 25 9 (.string ⟨#[]⟩) 16 rfl Tryd.underlying25 info9 rfl (by decide) (by omega) u14 x14_3 t192 [.string t192] (fun _ => True) (fun _ => False) rfl rfl ?aP (fun _ hk => hk.elim) ?aF ?aO ?aB ?aS ?aL ?_; (case aP => exact rfl); (case aB => exact (by repeat (first | (with_reducible first | exact HB.out | apply below_alloc | apply pw_below_drewN | apply below_drew1 | refine below_set ?_ GE161.out) | exact HB.out))); (case aF => exact (fun _ _ => trivial)); (case aO => exact (by (with_reducible repeat (first | apply Kd.R_alloc | apply Kd.R_drewN | apply Kd.R_drew)); exact HO_14.out)); (case aS => exact (below_size (by repeat (first | (with_reducible first | exact HB.out | apply below_alloc | apply pw_below_drewN | apply below_drew1 | refine below_set ?_ GE161.out) | exact HB.out)))); (case aL => have := LMc118.out; omega); intro v194 w121 ho hb hg hat; rw [← Ny193.out] at ho; have n0_ := Aside0.mk (Kd.R_over' (by (with_reducible repeat (first | apply Kd.R_alloc | apply Kd.R_drewN | apply Kd.R_drew)); exact HO_6.out) (Kd.R_typed (by (with_reducible repeat (first | apply Kd.R_alloc | apply Kd.R_drewN | apply Kd.R_drew)); exact HO_14.out)) (by decide) hg); have n1_ := Aside0.mk (blk_grown (g := gb161) (o := .cells #[.int .i64 a0_0,.int .i64 a0_1,.slice A0_2 l0_2.length c0_2,.slice A0_3 l0_3.length c0_3] 30 (0,0)) (by (with_reducible repeat (first | refine blk_drewN ?_ _ | refine blk_drew ?_ | refine blk_alloc ?_ _)); exact BK161.out) hg (Kd.R_ne HO_14.out BK161.out (by decide))); have n2_ := Aside0.mk (hb); have n3_ := Aside0.mk (ho); clear HO_6; clear BK161; clear HB; clear HO_14; have HO_6 := n0_; have BK161 := n1_; have HB := n2_; have HO195 := n3_; clear n0_ n1_ n2_ n3_; clear ho hb hg hat)))
                go_roundg k3
                case measure => have := HJ2.out; have := HK2.out; have := HK3.out; omega
                case rel => exact ⟨(y193),(wrap64 (x15_3 + 1)),(by first | rfl | (simp; done) | (simp [*]; done)),H',⟨by have := HJ2.out; have := HK2.out; have := HK3.out; omega⟩,⟨by (with_reducible repeat (first | apply Kd.R_alloc | apply Kd.R_drewN | apply Kd.R_drew)); exact HO_6.out⟩,⟨by (with_reducible repeat (first | apply Kd.R_alloc | apply Kd.R_drewN | apply Kd.R_drew)); exact HO195.out⟩,⟨by (with_reducible repeat (first | refine blk_drewN ?_ _ | refine blk_drew ?_ | refine blk_alloc ?_ _)); exact BK161.out⟩,⟨by repeat (first | (with_reducible first | exact HB.out | apply below_alloc | apply pw_below_drewN | apply below_drew1 | refine below_set ?_ GE161.out) | exact HB.out)⟩⟩
               ·rw [if_neg c118] at H
                exact absurd H (by simp)
             ·rw [if_neg c113] at H
              exact absurd H (by simp)
            ·rw [if_neg c112] at H
             have c112b0 : decide (x15_3 < (x6_2.length : Int)) = false := decide_eq_false c112
             clear c112
             simp only [Option.some.injEq,Prod.mk.injEq] at H
             obtain ⟨rfl,rfl⟩ := H
             obtain ⟨Ao122,co122,eo122⟩ := Kd.R_slice HO_6.out
             subst eo122
             go_wp2
             repeat (go_quiet (fail); try go_wp2)
             go_ret2
             exact ⟨_,by first | rfl | (simp [errW_none,errW_some] <;> rfl) | (simp only [← hji13,← hji15]; first | rfl | (simp [errW_none,errW_some] <;> rfl)) | (simp [*,errW_none,errW_some] <;> rfl),by (with_reducible repeat (first | apply Kd.R_alloc | apply Kd.R_drewN | apply Kd.R_drew)); exact HO_14.out,by repeat (first | (with_reducible first | exact HB.out | apply below_alloc | apply pw_below_drewN | apply below_drew1 | refine below_set ?_ GE161.out) | exact HB.out)⟩
      ·rw [if_neg c17] at H
       exact absurd H (by simp)
     ·rw [if_neg c16] at H
      exact absurd H (by simp)
    ·rw [if_neg c14] at H
     exact absurd H (by simp)

end Go.Proofs.YtegeaoiclepkkaaDoor.QFnExactCommasOf
