/-
The plain law of FnExactMakeBlockCode: both make the same words, and the result may be written to; conditions: those of the statement.
-/
import Derived.Test.YtegeaoiclepkkaaQFnExactMakeBlockCodex6
import Derived.Lib.IndexMore
import Derived.Lib.RepeatB
namespace Go.Proofs.Ytegeaoiclepkkaa.Pure
open Go.RowKit Go.Proofs.Ytegeaoiclepkkaa.QFnExactMakeBlockCode Go.Proofs.YtegeaoiclepkkaaW.PrintWords Go.Proofs.YtegeaoiclepkkaaW.PrintLast Go.Proofs.YtegeaoiclepkkaaW.PrintMore
set_option linter.unusedVariables false

theorem ev_one {α : Type} {g : Nat → Option α} {r : α} (h : ∀ k, g (k + 1) = some r) : Ev g r :=
  ⟨1, fun k hk => by obtain ⟨m, rfl⟩ : ∃ m, k = m + 1 := ⟨k - 1, by omega⟩; exact h m⟩
theorem wrap64_in {x : Int} (h0 : -9223372036854775808 ≤ x) (h1 : x ≤ 9223372036854775807) : wrap64 x = x := by
  unfold wrap64; omega
theorem u64_in {x : Int} (h0 : 0 ≤ x) (h1 : x ≤ 18446744073709551615) : IntKind.u64.wrap x = x := by
  simp [IntKind.wrap, IntKind.bits, IntKind.signed]; omega
theorem i64_in {x : Int} (h0 : -9223372036854775808 ≤ x) (h1 : x ≤ 9223372036854775807) : IntKind.i64.wrap x = x := by
  rw [IntKind.wrap_i64]; omega
theorem and_one (x : Int) : Go.bits .and .i64 x 1 = x % 2 := by
  have h : (BitVec.ofInt 64 x &&& BitVec.ofInt 64 1).toNat = (x % 2).toNat := by
    have e1 : BitVec.ofInt 64 1 = 1#64 := by decide
    rw [e1, BitVec.toNat_and, BitVec.toNat_ofInt]
    have e2 : (1#64).toNat = 1 := by decide
    rw [e2, Nat.and_one_is_mod]
    omega
  show IntKind.i64.wrap (((BitVec.ofInt 64 x &&& BitVec.ofInt 64 1).toNat : Nat) : Int) = x % 2
  rw [h, i64_in (by omega) (by omega)]
  omega
theorem wf_i64 {x : Int} (h : (Lit.int .i64 x).wf = true) : -9223372036854775808 ≤ x ∧ x ≤ 9223372036854775807 := by
  simp [Lit.wf, IntKind.min, IntKind.max, IntKind.signed, IntKind.bits] at h
  omega
theorem pow_pos_int (d : Nat) : (0 : Int) < 2 ^ d := Int.pow_pos (by decide)
theorem pow_le_int {a b : Nat} (h : a ≤ b) : (2 : Int) ^ a ≤ 2 ^ b := by
  have := Nat.pow_le_pow_right (n := 2) (by decide) h
  exact_mod_cast this

theorem ev_pos {α : Type} {c : Prop} [Decidable c] {g h : Nat → Option α} {r : α} (hc : c) (hg : Ev g r) : Ev (fun k => if c then g k else h k) r := by
  obtain ⟨K, hK⟩ := hg
  exact ⟨K, fun k hk => (if_pos hc).trans (hK k hk)⟩
theorem ev_neg {α : Type} {c : Prop} [Decidable c] {g h : Nat → Option α} {r : α} (hc : ¬ c) (hg : Ev h r) : Ev (fun k => if c then g k else h k) r := by
  obtain ⟨K, hK⟩ := hg
  exact ⟨K, fun k hk => (if_neg hc).trans (hK k hk)⟩
theorem ev_some {α β : Type} {f : Nat → α → Option β} {a : α} {r : β} (h : Ev (fun k => f k a) r) : Ev (fun k => (some a).bind (f k)) r := h
theorem ev_to {α β : Type} {x : Option α} {f : Nat → α → Option β} {a : α} {r : β} (e : x = some a) (h : Ev (fun k => f k a) r) : Ev (fun k => x.bind (f k)) r := by subst e; exact h
theorem ev_det {α : Type} {g : Nat → Option α} {r r' : α} (h : Ev g r) (h' : Ev g r') : r = r' := by
  obtain ⟨K, hK⟩ := h
  obtain ⟨K', hK'⟩ := h'
  have h1 := hK (max K K') (Nat.le_max_left _ _)
  have h2 := hK' (max K K') (Nat.le_max_right _ _)
  rw [h1] at h2
  exact Option.some.inj h2
theorem wrap_succ {j n : Nat} (h : j < n) (hn : n ≤ 9223372036854775807) : wrap64 ((j : Int) + 1) = ((j + 1 : Nat) : Int) := by
  rw [wrap64_in (by omega) (by omega)]; omega
theorem nat0 (j : Nat) : (0 : Int) ≤ (j : Int) := Int.natCast_nonneg j
theorem rd_nat (l : List Int) (j : Nat) : rd l (j : Int) = l.getD j 0 := by unfold rd; rw [Int.toNat_natCast]
theorem rd_get (l : List Int) (j : Nat) (h : j < l.length) : rd l (j : Int) = l[j] := by rw [rd_nat, List.getD_eq_getElem?_getD, List.getElem?_eq_getElem h]; rfl
theorem drop_cons {α : Type} (l : List α) (j : Nat) (h : j < l.length) : l.drop j = l[j] :: l.drop (j + 1) := List.drop_eq_getElem_cons h
theorem take_snoc' {α : Type} (l : List α) (j : Nat) (h : j < l.length) : l.take (j + 1) = l.take j ++ [l[j]] := List.take_succ_eq_append_getElem h
theorem set_take {α : Type} (acc : List α) (j : Nat) (x : α) (h : j < acc.length) : (acc.set j x).take (j + 1) = acc.take j ++ [x] := by
  rw [List.take_set, List.take_succ_eq_append_getElem h, List.set_append_right _ _ (by simp; omega)]
  have : (acc.take j).length = j := by rw [List.length_take]; omega
  rw [this, Nat.sub_self]
  rfl
theorem take_all {α : Type} {a b : List α} {n : Nat} (ha : a.length = n) (hb : b.length = n) (h : a.take n = b.take n) : a = b := by
  rw [List.take_of_length_le (by omega), List.take_of_length_le (by omega)] at h; exact h
theorem w01 : wrap64 (0 + 1) = 1 := by unfold wrap64; decide
theorem w11 : wrap64 (1 + 1) = 2 := by unfold wrap64; decide

theorem spec_in (a b c : Int) : spec_l00In.f a b c = some (decide (b ≤ a ∧ a ≤ c)) := by
  unfold spec_l00In.f
  by_cases h : a ≥ b
  · rw [if_pos h]; congr 1; have : b ≤ a := h; simp [this]
  · rw [if_neg h]; congr 1; have : ¬ b ≤ a := h; simp [this]
theorem impl_in (a b c : Int) : impl_within.f a b c = some (decide (b ≤ a ∧ a ≤ c)) := by
  unfold impl_within.f
  by_cases h : a ≥ b
  · rw [if_pos h]; congr 1; have : b ≤ a := h; simp [this]
  · rw [if_neg h]; congr 1; have : ¬ b ≤ a := h; simp [this]

def isBit (b : UInt8) : Bool := b.toNat == 48 || b.toNat == 49
def areB (l : List UInt8) : Bool := l.all isBit
theorem size_l (s : ByteArray) : s.size = s.data.toList.length := by rw [Array.length_toList]; rfl
theorem bt_l (s : ByteArray) (j : Nat) (h : j < s.data.toList.length) : bt s (j : Int) = ((s.data.toList[j].toNat : Nat) : Int) := by
  have h2 : ((j : Int)).toNat < s.size := by rw [Int.toNat_natCast, size_l]; exact h
  have h3 : j < s.data.size := by rw [Array.length_toList] at h; exact h
  have e : s[((j : Int)).toNat]'h2 = s.data[j] := rfl
  rw [← bt_at s j h2, e, Array.getElem_toList]
theorem cs_bit (b : UInt8) : ([48, 49] : List UInt8).contains b = isBit b := by
  have h1 : (b == 48) = (b.toNat == 48) := by rw [Bool.eq_iff_iff]; simp [← UInt8.toNat_inj]
  have h2 : (b == 49) = (b.toNat == 49) := by rw [Bool.eq_iff_iff]; simp [← UInt8.toNat_inj]
  unfold isBit
  rw [← h1, ← h2]
  show (match b == 48 with | true => true | false => (match b == 49 with | true => true | false => false)) = (b == 48 || b == 49)
  cases (b == 48) <;> cases (b == 49) <;> rfl
def IB (s : ByteArray) : Bool := areB s.data.toList && decide ((s.size : Int) ≤ 400)
theorem ones_loop (s : ByteArray) (hn : s.size ≤ 1000) (hb : areB s.data.toList = true) (d : Nat) : ∀ (j : Nat) (acc : Int), j + d = s.size → 0 ≤ acc → acc ≤ j →
    Ev (fun k => spec_l01Ones.l0 k s acc (j : Int)) (acc + Lib.countByte (s.data.toList.drop j) 49) := by
  have hs := size_l s
  induction d with
  | zero =>
    intro j acc h _ _
    rw [List.drop_eq_nil_of_le (by omega)]
    exact ev_one (fun k => by rw [spec_l01Ones.l0, if_neg (by omega)]; simp [Lib.countByte])
  | succ d ih =>
    intro j acc h h0 h1
    have hj : j < s.data.toList.length := by omega
    have hw := wrap_succ (j := j) (n := s.size) (by omega) (by omega)
    have hbt := bt_l s j hj
    have hbit : s.data.toList[j].toNat = 48 ∨ s.data.toList[j].toNat = 49 := by
      have := List.all_eq_true.1 hb _ (List.getElem_mem hj)
      unfold isBit at this
      rw [Bool.or_eq_true, beq_iff_eq, beq_iff_eq] at this
      exact this
    rw [drop_cons _ _ hj]
    rcases hbit with hbit | hbit
    · have e0 : ((bt s (j : Int)) - 48) % 256 = 0 := by omega
      have ew : wrap64 (acc + 0) = acc := by rw [Int.add_zero, wrap64_in (by omega) (by omega)]
      have ne : (s.data.toList[j] == 49) = false := by
        rw [beq_eq_false_iff_ne]
        intro hh
        rw [hh] at hbit
        exact absurd hbit (by decide)
      have ec : Lib.countByte (s.data.toList[j] :: s.data.toList.drop (j + 1)) 49 = Lib.countByte (s.data.toList.drop (j + 1)) 49 := by unfold Lib.countByte; rw [List.count_cons, ne]; rfl
      rw [ec]
      exact Ev.step (fun k => by rw [spec_l01Ones.l0, if_pos (by omega), if_pos (by omega), e0, ew, hw]) (ih (j + 1) acc (by omega) h0 (by omega))
    · have e0 : ((bt s (j : Int)) - 48) % 256 = 1 := by omega
      have ew : wrap64 (acc + 1) = acc + 1 := wrap64_in (by omega) (by omega)
      have ne : s.data.toList[j] = 49 := by rw [← UInt8.toNat_inj]; exact hbit
      have ec : ((Lib.countByte (s.data.toList[j] :: s.data.toList.drop (j + 1)) 49 : Nat) : Int) = 1 + ((Lib.countByte (s.data.toList.drop (j + 1)) 49 : Nat) : Int) := by unfold Lib.countByte; rw [List.count_cons, ne]; simp; omega
      have := ih (j + 1) (acc + 1) (by omega) (by omega) (by omega)
      rw [ec, ← Int.add_assoc]
      exact Ev.step (fun k => by rw [spec_l01Ones.l0, if_pos (by omega), if_pos (by omega), e0, ew, hw]) this

theorem rdS_get (l : List ByteArray) (j : Nat) (h : j < l.length) : rdOf ByteArray.empty l (j : Int) = l[j] := by
  unfold rdOf; rw [Int.toNat_natCast, List.getD_eq_getElem?_getD, List.getElem?_eq_getElem h]; rfl
theorem eqStringS_loop (l : List ByteArray) (hn : l.length ≤ 1048576) (d : Nat) : ∀ j : Nat, j + d = l.length → Ev (fun k => laws_eqStringS.l0 k l l (j : Int)) true := by
  induction d with
  | zero => intro j h; exact ev_one (fun k => by rw [laws_eqStringS.l0, if_neg (by omega)])
  | succ d ih =>
    intro j h
    refine Ev.step (fun k => ?_) (ih (j + 1) (by omega))
    rw [laws_eqStringS.l0, if_pos (by omega), if_pos (by omega), if_pos (by omega), if_pos rfl, wrap_succ (n := l.length) (by omega) (by omega)]
theorem eqStringS_ev (l : List ByteArray) (hn : l.length ≤ 1048576) : Ev (fun k => laws_eqStringS.f k l l) true := by
  refine Ev.congr (fun k => ?_) (eqStringS_loop l hn l.length 0 (by omega))
  unfold laws_eqStringS.f
  rw [if_pos rfl]
  rfl
def dsp (s : ByteArray) : Int := wrap64 ((wrap64 (2 * ((Lib.countByte s.data.toList 49 : Nat) : Int))) - (s.size : Int))
theorem disp_f (s : ByteArray) : impl_disparity.f s = some (dsp s) := by
  unfold impl_disparity.f strings_Count.f
  rw [if_pos rfl]
  rfl
theorem ones_any (s : ByteArray) (hn : s.size ≤ 1048576) (d : Nat) : ∀ (j : Nat) (acc : Int), j + d = s.size → ∃ v, Ev (fun k => spec_l01Ones.l0 k s acc (j : Int)) v := by
  induction d with
  | zero => intro j acc h; exact ⟨acc, ev_one (fun k => by rw [spec_l01Ones.l0, if_neg (by omega)])⟩
  | succ d ih =>
    intro j acc h
    have hw := wrap_succ (j := j) (n := s.size) (by omega) (by omega)
    obtain ⟨v, hv⟩ := ih (j + 1) (wrap64 (acc + (((bt s (j : Int)) - 48) % 256))) (by omega)
    exact ⟨v, Ev.step (fun k => by rw [spec_l01Ones.l0, if_pos (by omega), if_pos (by omega), hw]) hv⟩
theorem IB_parts {s : ByteArray} (h : IB s = true) : areB s.data.toList = true ∧ s.size ≤ 400 := by
  unfold IB at h
  rw [Bool.and_eq_true, decide_eq_true_iff] at h
  exact ⟨h.1, by omega⟩
theorem specDisp_any (s : ByteArray) (hn : s.size ≤ 1048576) : ∃ v, Ev (fun k => spec_l03Disparity.f k s) v ∧ (IB s = true → v = dsp s) := by
  cases e : IB s with
  | false =>
    obtain ⟨v, hv⟩ := ones_any s hn s.size 0 0 (by omega)
    refine ⟨wrap64 ((wrap64 (2 * v)) - (s.size : Int)), ?_, fun h => by cases h⟩
    unfold spec_l03Disparity.f
    exact Ev.bind (f := fun k t => some (wrap64 ((wrap64 (2 * t)) - (s.size : Int)))) (show Ev (fun k => spec_l01Ones.f k s) v from hv) (Ev.now _)
  | true =>
    obtain ⟨e1, e2⟩ := IB_parts e
    have h := ones_loop s (by omega) e1 s.size 0 0 (by omega) (by omega) (by omega)
    rw [Int.zero_add, List.drop_zero] at h
    refine ⟨dsp s, ?_, fun _ => rfl⟩
    unfold spec_l03Disparity.f
    exact Ev.bind (f := fun k t => some (wrap64 ((wrap64 (2 * t)) - (s.size : Int)))) h (Ev.now _)
theorem isData_f (a : Int) : impl_isData.f a = some (decide (1 ≤ a ∧ a ≤ 6)) := by
  unfold impl_isData.f
  rw [impl_in]; rfl
theorem isWidth_f (a : Int) : impl_isWidth.f a = some (decide (2 ≤ a ∧ a ≤ 12) && ((Int.tmod a 2) == 0)) := by
  unfold impl_isWidth.f
  rw [impl_in, Option.bind_some]
  by_cases c : 2 ≤ a ∧ a ≤ 12
  · rw [decide_eq_true c, if_pos rfl, Bool.true_and]
  · rw [decide_eq_false c, if_neg Bool.false_ne_true, Bool.false_and]
theorem eqCode_ev (a0 a1 : Int) (L2 L3 : List ByteArray) (h2 : L2.length ≤ 1048576) (h3 : L3.length ≤ 1048576) : Ev (fun k => laws_eqBlockCode.f k a0 a1 L2 L3 a0 a1 L2 L3) true := by
  unfold laws_eqBlockCode.f
  exact ev_pos rfl (ev_pos rfl (Ev.bind (eqStringS_ev L2 h2) (ev_pos rfl (Ev.bind (eqStringS_ev L3 h3) (ev_pos rfl (Ev.now _))))))

/-- A list of 48 and 49 is a text of bits. -/
def bitsL (l : List Int) : Prop := ∀ x ∈ l, x = 48 ∨ x = 49
theorem areB_strOf (l : List Int) (h : bitsL l) : areB (strOfNums l).data.toList = true := by
  rw [strOfNums_data]
  unfold areB
  rw [List.all_eq_true]
  intro b hb
  obtain ⟨x, hx, rfl⟩ := List.mem_map.1 hb
  rcases h x hx with rfl | rfl <;> decide
theorem size_strOf (l : List Int) : (strOfNums l).size = l.length := by rw [size_l, strOfNums_data, List.length_map]
/-- The lowest d binary digits of n as letters, the greatest one first. -/
def digs (n : Int) : Nat → List Int
  | 0 => []
  | d + 1 => (48 + (n / 2 ^ d) % 2) :: digs n d
theorem digs_length (n : Int) (d : Nat) : (digs n d).length = d := by
  induction d with
  | zero => rfl
  | succ d ih => simp [digs, ih]
theorem shr_nat (n : Int) (d : Nat) (h : d ≤ 64) : shr .i64 n (d : Int) = n / 2 ^ d := by
  unfold shr; rw [Int.toNat_natCast]; congr 2; exact Nat.min_eq_left h

theorem spec_digits_ev (n : Int) (d : Nat) : ∀ l : List Int, d ≤ 64 → l.length + d ≤ 1000 → Ev (fun k => spec_l01Digits.l0 k n l ((d : Int) - 1)) (strOfNums (l ++ digs n d)) := by
  induction d with
  | zero =>
    intro l _ _
    exact ev_one (fun k => by rw [spec_l01Digits.l0, if_neg (by omega)]; simp [digs])
  | succ d ih =>
    intro l hd hl
    have e : ((d + 1 : Nat) : Int) - 1 = (d : Int) := by omega
    have hs := shr_nat n d (by omega)
    have hu : IntKind.u64.wrap (d : Int) = d := u64_in (by omega) (by omega)
    have hw : wrap64 ((d : Int) - 1) = (d : Int) - 1 := wrap64_in (by omega) (by omega)
    have h := ih (l ++ [48 + (n / 2 ^ d) % 2]) (by omega) (by simp; omega)
    have e2 : l ++ digs n (d + 1) = l ++ [48 + (n / 2 ^ d) % 2] ++ digs n d := by simp [digs]
    rw [e2]
    refine Ev.step (fun k => ?_) h
    rw [e, spec_l01Digits.l0, hu, if_pos (by omega), if_pos (by omega), if_pos (by omega), hs, and_one, hw, wrap64_in (by omega) (by omega)]
    congr 3
    omega
theorem spec_digits_f (n : Int) (w : Int) (h0 : 0 ≤ w) (h1 : w ≤ 64) : Ev (fun k => spec_l01Digits.f k n w) (strOfNums (digs n w.toNat)) := by
  obtain ⟨d, rfl⟩ := Int.eq_ofNat_of_zero_le h0
  have h := spec_digits_ev n d [] (by omega) (by simp; omega)
  refine Ev.congr (fun k => ?_) h
  unfold spec_l01Digits.f
  rw [wrap64_in (by omega) (by omega)]

theorem impl_digits_ev (n : Int) (d : Nat) : ∀ l : List Int, d ≤ 64 → l.length + d ≤ 1000 → Ev (fun k => impl_digits.l0 k n l ((d : Int) - 1)) (strOfNums (l ++ digs n d)) := by
  induction d with
  | zero =>
    intro l _ _
    exact ev_one (fun k => by rw [impl_digits.l0, if_neg (by omega)]; simp [digs])
  | succ d ih =>
    intro l hd hl
    have e : ((d + 1 : Nat) : Int) - 1 = (d : Int) := by omega
    have hs := shr_nat n d (by omega)
    have hw : wrap64 ((d : Int) - 1) = (d : Int) - 1 := wrap64_in (by omega) (by omega)
    have h := ih (l ++ [48 + (n / 2 ^ d) % 2]) (by omega) (by simp; omega)
    have e2 : l ++ digs n (d + 1) = l ++ [48 + (n / 2 ^ d) % 2] ++ digs n d := by simp [digs]
    rw [e2]
    refine Ev.step (fun k => ?_) h
    rw [e, impl_digits.l0, if_pos (by omega), if_pos (by omega), if_pos (by omega), hs, and_one, hw]
    congr 3
    omega
theorem impl_digits_f (n : Int) (w : Int) (h0 : 0 ≤ w) (h1 : w ≤ 64) : Ev (fun k => impl_digits.f k n w) (strOfNums (digs n w.toNat)) := by
  obtain ⟨d, rfl⟩ := Int.eq_ofNat_of_zero_le h0
  have h := impl_digits_ev n d [] (by omega) (by simp; omega)
  refine Ev.congr (fun k => ?_) h
  unfold impl_digits.f
  rw [wrap64_in (by omega) (by omega)]

theorem digs_bits (n : Int) (d : Nat) : bitsL (digs n d) := by
  induction d with
  | zero => intro x hx; cases hx
  | succ d ih =>
    intro x hx
    rw [digs, List.mem_cons] at hx
    rcases hx with rfl | hx
    · omega
    · exact ih x hx
/-- A number's digits in a width. -/
def dg (w x : Nat) : ByteArray := strOfNums (digs (x : Int) w)
theorem dg_size (w x : Nat) : (dg w x).size = w := by unfold dg; rw [size_strOf, digs_length]
theorem dg_bits (w x : Nat) : areB (dg w x).data.toList = true := areB_strOf _ (digs_bits _ _)
/-- All bits changed. -/
def flipB (b : UInt8) : UInt8 := if b = 49 then 48 else 49
def oth (s : ByteArray) : ByteArray := ⟨(s.data.toList.map flipB).toArray⟩
theorem oth_l (s : ByteArray) : (oth s).data.toList = s.data.toList.map flipB := rfl
theorem oth_size (s : ByteArray) : (oth s).size = s.size := by rw [size_l, oth_l, List.length_map, ← size_l]
theorem bit_or {b : UInt8} (h : isBit b = true) : b = 48 ∨ b = 49 := by
  unfold isBit at h
  simp at h
  rcases h with h | h
  · exact .inl (UInt8.toNat_inj.1 h)
  · exact .inr (UInt8.toNat_inj.1 h)
theorem other_loop (s : ByteArray) (hB : areB s.data.toList = true) (hs : s.size ≤ 1000) (d : Nat) : ∀ (j : Nat) (o : List Int), j + d = s.size → o.length = j → o.map (fun n => UInt8.ofNat n.toNat) = (s.data.toList.map flipB).take j →
    Ev (fun k => spec_l03Other.l0 k s o (j : Int)) (oth s) := by
  have hsl := size_l s
  induction d with
  | zero =>
    intro j o h ho ht
    refine ev_one (fun k => ?_)
    rw [spec_l03Other.l0, if_neg (by omega)]
    congr 1
    apply ByteArray.ext
    apply Array.ext'
    rw [strOfNums_data, ht, oth_l, List.take_of_length_le (by rw [List.length_map]; omega)]
  | succ d ih =>
    intro j o h ho ht
    have hj : j < s.data.toList.length := by omega
    have hw := wrap_succ (j := j) (n := s.size) (by omega) (by omega)
    have hb := bt_l s j hj
    have hbit : isBit s.data.toList[j] = true := by
      unfold areB at hB
      exact List.all_eq_true.1 hB _ (List.getElem_mem hj)
    refine Ev.step (fun k => by rw [spec_l03Other.l0, if_pos (by omega), if_pos (by omega), if_pos (by omega), hw]) (ih (j + 1) (o ++ [(97 - bt s (j : Int)) % 256]) (by omega) (by rw [List.length_append, ho]; rfl) ?_)
    rw [List.map_append, ht, take_snoc' _ _ (by rw [List.length_map]; exact hj), List.getElem_map, hb]
    congr 1
    rcases bit_or hbit with q | q <;> rw [q] <;> decide
theorem other_ev (s : ByteArray) (hB : areB s.data.toList = true) (hs : s.size ≤ 1000) : Ev (fun k => spec_l03Other.f k s) (oth s) := other_loop s hB hs s.size 0 [] (by omega) rfl (by simp)
/-- A list of words by their numbers: the words of one disparity, and what stands beside them in the other list. -/
def mL (w : Nat) (Y : List Nat) : List ByteArray := Y.map (dg w)
def pL (w : Nat) (Y : List Nat) : List ByteArray := Y.map fun y => if dsp (dg w y) = 0 then dg w y else oth (dg w y)
structure Made (w n : Nat) (ph : Int) (x : Nat) (Y : List Nat) : Prop where
  nodup : Y.Nodup
  len : Y.length ≤ n
  mem : ∀ y ∈ Y, y < 2 ^ w ∧ ((dsp (dg w y) = 0 ∧ (ph = 0 → y < x)) ∨ (dsp (dg w y) = 2 ∧ ph = 2 ∧ y < x))
  all : Y.length < n → ∀ y, y < 2 ^ w → (ph = 0 → y < x) → dsp (dg w y) = 0 → y ∈ Y
theorem markText_loop (n : Nat) : ∀ (x : Int) (t : ByteArray), x ≤ n → n ≤ 4611686018427387904 → t.size + n ≤ 4611686018427387904 → ∃ v, Ev (fun k => laws_markText.l0 k x t) v := by
  induction n with
  | zero =>
    intro x t h _ h2
    exact ⟨_, ev_one (fun k => by rw [laws_markText.l0, if_neg (by omega), if_pos (by omega)])⟩
  | succ n ih =>
    intro x t h h1 h2
    by_cases c : x > 0
    · have hd : wrap64 (Int.tdiv x 10) = x / 10 := by rw [Int.tdiv_eq_ediv_of_nonneg (by omega), wrap64_in (by omega) (by omega)]
      have hz : ∀ a : Int, (strOfNums [a]).size = 1 := fun a => by simp [strOfNums, ByteArray.size]
      obtain ⟨v, hv⟩ := ih (x / 10) (strOfNums [(wrap64 (48 + (Int.tmod x 10))) % 256] ++ t) (by omega) (by omega) (by rw [ByteArray.size_append, hz]; omega)
      refine ⟨v, Ev.step (fun k => ?_) hv⟩
      rw [laws_markText.l0, if_pos c, Option.bind_some, if_pos (by rw [hz]; omega), hd]
    · exact ⟨_, ev_one (fun k => by rw [laws_markText.l0, if_neg c, if_pos (by omega)])⟩
theorem markText_ev (x : Int) (h : x ≤ 4611686018427387904) : ∃ v, Ev (fun k => laws_markText.f k x) v := by
  unfold laws_markText.f
  by_cases c : x ≤ 0
  · exact ⟨_, ev_pos c (Ev.now _)⟩
  · obtain ⟨v, hv⟩ := markText_loop x.toNat x ⟨#[]⟩ (by omega) (by omega) (by show 0 + x.toNat ≤ _; omega)
    exact ⟨v, ev_neg c hv⟩
theorem markText_any (x : Int) : ∃ v, x ≤ 4611686018427387904 → Ev (fun k => laws_markText.f k x) v := by
  by_cases h : x ≤ 4611686018427387904
  · obtain ⟨v, hv⟩ := markText_ev x h
    exact ⟨v, fun _ => hv⟩
  · exact ⟨ByteArray.empty, fun h' => absurd h' h⟩
noncomputable def mkT (x : Int) : ByteArray := Classical.choose (markText_any x)
theorem mkT_ev (x : Int) (h : x ≤ 4611686018427387904) : Ev (fun k => laws_markText.f k x) (mkT x) := Classical.choose_spec (markText_any x) h
noncomputable def seqS (a : Int) (n : Nat) : List ByteArray := (List.range n).map fun (i : Nat) => mkT (a + (i : Int))
theorem seqS_length (a : Int) (n : Nat) : (seqS a n).length = n := by simp [seqS]
theorem seqS_succ (a : Int) (n : Nat) : seqS a (n + 1) = seqS a n ++ [mkT (a + (n : Int))] := by simp [seqS, List.range_succ]
theorem markSeq_loop (a : Int) (n : Nat) (h0 : 0 ≤ a) (hn : n ≤ 1048576) (ha : a ≤ 2000000) (d : Nat) : ∀ (j : Nat) (l : List ByteArray), j + d = n → l.length = n → l.take j = seqS a j →
    Ev (fun k => laws_markStringS.l0 k l (a + (j : Int)) (j : Int)) (a + (n : Int), seqS a n) := by
  induction d with
  | zero =>
    intro j l h hl ht
    obtain rfl : j = n := by omega
    have e : l = seqS a j := by rw [← ht, List.take_of_length_le (by omega)]
    exact ev_one (fun k => by rw [laws_markStringS.l0, if_neg (by omega), e])
  | succ d ih =>
    intro j l h hl ht
    have hw := wrap_succ (j := j) (n := n) (by omega) (by omega)
    have hwa : wrap64 (a + (j : Int) + 1) = a + ((j + 1 : Nat) : Int) := by rw [wrap64_in (by omega) (by omega)]; omega
    obtain ⟨n1, ht0⟩ := mkT_ev (a + (j : Int)) (by omega)
    have ht1 : ∀ k, n1 ≤ k → laws_markText.f k (a + (j : Int)) = some (mkT (a + (j : Int))) := ht0
    obtain ⟨n2, hv⟩ := ih (j + 1) (l.set j (mkT (a + (j : Int)))) (by omega) (by rw [List.length_set]; exact hl) (by rw [set_take _ _ _ (by omega), ht, seqS_succ])
    refine ⟨n1 + n2 + 1, fun k hk => ?_⟩
    obtain ⟨k, rfl⟩ : ∃ q, k = q + 1 := ⟨k - 1, by omega⟩
    simp only [laws_markStringS.l0]
    rw [if_pos (by omega), ht1 k (by omega), Option.bind_some, if_pos (nat0 j), hwa, hw, Int.toNat_natCast]
    exact hv k (by omega)
theorem markSeq_ev (a : Int) (l : List ByteArray) (h0 : 0 ≤ a) (hn : l.length ≤ 1048576) (ha : a ≤ 2000000) : Ev (fun k => laws_markStringS.f k l a) (a + (l.length : Int), seqS a l.length) := by
  have := markSeq_loop a l.length h0 hn ha l.length 0 l (by omega) rfl rfl
  have zero : ((0 : Nat) : Int) = 0 := rfl
  rw [zero, Int.add_zero] at this
  exact this
theorem heldSeq_loop (a : Int) (n : Nat) (h0 : 0 ≤ a) (hn : n ≤ 1048576) (ha : a ≤ 2000000) (d : Nat) : ∀ j : Nat, j + d = n → Ev (fun k => laws_heldStringS.l0 k (seqS a n) (a + (j : Int)) (j : Int)) (a + (n : Int)) := by
  have hl := seqS_length a n
  induction d with
  | zero =>
    intro j h
    obtain rfl : j = n := by omega
    exact ev_one (fun k => by rw [laws_heldStringS.l0, if_neg (by omega)])
  | succ d ih =>
    intro j h
    have hw := wrap_succ (j := j) (n := n) (by omega) (by omega)
    have hwa : wrap64 (a + (j : Int) + 1) = a + ((j + 1 : Nat) : Int) := by rw [wrap64_in (by omega) (by omega)]; omega
    have hrd : rdOf ByteArray.empty (seqS a n) (j : Int) = mkT (a + (j : Int)) := by
      rw [rdS_get _ _ (by omega)]
      simp [seqS]
    obtain ⟨n1, ht0⟩ := mkT_ev (a + (j : Int)) (by omega)
    have ht1 : ∀ k, n1 ≤ k → laws_markText.f k (a + (j : Int)) = some (mkT (a + (j : Int))) := ht0
    obtain ⟨n2, hv⟩ := ih (j + 1) (by omega)
    refine ⟨n1 + n2 + 1, fun k hk => ?_⟩
    obtain ⟨k, rfl⟩ : ∃ q, k = q + 1 := ⟨k - 1, by omega⟩
    simp only [laws_heldStringS.l0]
    rw [if_pos (by omega), if_pos (nat0 j), ht1 k (by omega), Option.bind_some, hrd, if_pos rfl, hwa, hw]
    exact hv k (by omega)
theorem heldSeq_ev (a : Int) (n : Nat) (h0 : 0 ≤ a) (hn : n ≤ 1048576) (ha : a ≤ 2000000) : Ev (fun k => laws_heldStringS.f k (seqS a n) a) (a + (n : Int)) := by
  have := heldSeq_loop a n h0 hn ha n 0 (by omega)
  have zero : ((0 : Nat) : Int) = 0 := rfl
  rw [zero, Int.add_zero] at this
  exact this

/-- The numbers from x on, d of them, whose digits have a disparity. -/
noncomputable def fl (w : Nat) (ph : Int) : Nat → Nat → List Nat
  | _, 0 => []
  | x, d + 1 => if dsp (dg w x) = ph then x :: fl w ph (x + 1) d else fl w ph (x + 1) d
theorem fl_mem {w : Nat} {ph : Int} {d : Nat} : ∀ {x y : Nat}, y ∈ fl w ph x d → dsp (dg w y) = ph := by
  induction d with
  | zero => intro x y h; cases h
  | succ d ih =>
    intro x y h
    rw [fl] at h
    by_cases c : dsp (dg w x) = ph
    · rw [if_pos c] at h
      rcases List.mem_cons.1 h with rfl | h
      · exact c
      · exact ih h
    · rw [if_neg c] at h
      exact ih h
theorem fl_len (w : Nat) (ph : Int) (d : Nat) : ∀ x, (fl w ph x d).length ≤ d := by
  induction d with
  | zero => intro x; exact Nat.le_refl _
  | succ d ih =>
    intro x
    have := ih (x + 1)
    rw [fl]
    split
    · rw [List.length_cons]; omega
    · omega
theorem mL_app (w : Nat) (Y Z : List Nat) : mL w (Y ++ Z) = mL w Y ++ mL w Z := by unfold mL; exact List.map_append
theorem pL_app (w : Nat) (Y Z : List Nat) : pL w (Y ++ Z) = pL w Y ++ pL w Z := by unfold pL; exact List.map_append
theorem mL_len (w : Nat) (Y : List Nat) : (mL w Y).length = Y.length := by unfold mL; exact List.length_map _
theorem pL_len (w : Nat) (Y : List Nat) : (pL w Y).length = Y.length := by unfold pL; exact List.length_map _
theorem made_exact (w n : Nat) (hw : w ≤ 12) (hn : n ≤ 64) (a0 a1 : Int) (hw1 : a1 = (w : Int)) (hsh : shl .i64 1 (IntKind.u64.wrap a1) = ((2 ^ w : Nat) : Int)) (S : List Int) (x19 x20 : Int) (ph : Int) (d : Nat) : ∀ (x : Nat) (Y : List Nat), x + d = 2 ^ w → Y.length ≤ n →
    ∀ R, Ev (fun k => spec_l03Make.l0 k a1 (n : Int) S x19 (wrap64 (x20 + 1)) a0 a1 (mL w (Y ++ (fl w ph x d).take (n - Y.length))) (pL w (Y ++ (fl w ph x d).take (n - Y.length)))) R → Ev (fun k => spec_l03Make.l1 k a1 (n : Int) ph (x : Int) S x19 x20 a0 a1 (mL w Y) (pL w Y)) R := by
  have h12 : 2 ^ w ≤ 2 ^ 12 := Nat.pow_le_pow_right (by decide) hw
  have h12' : (2 : Nat) ^ 12 = 4096 := by decide
  have HU := Aside0.mk (show 0 ≤ IntKind.u64.wrap a1 by rw [hw1, u64_in (by omega) (by omega)]; omega)
  have HSH := Aside0.mk hsh
  clear hsh
  have stop : ∀ (x : Nat) (Y : List Nat), (x = 2 ^ w ∨ Y.length = n) → x ≤ 2 ^ w → ∀ R, Ev (fun k => spec_l03Make.l0 k a1 (n : Int) S x19 (wrap64 (x20 + 1)) a0 a1 (mL w Y) (pL w Y)) R → Ev (fun k => spec_l03Make.l1 k a1 (n : Int) ph (x : Int) S x19 x20 a0 a1 (mL w Y) (pL w Y)) R := by
    intro x Y hc hx R hR
    have h2 : Ev (fun k => spec_l03Make.j2 k a1 (n : Int) ph (x : Int) S x19 x20 false a0 a1 (mL w Y) (pL w Y)) R := Ev.step (fun k => by rw [spec_l03Make.j2, if_neg Bool.false_ne_true]) hR
    have hml := mL_len w Y
    refine Ev.step (fun k => ?_) h2
    rw [spec_l03Make.l1, if_pos HU.out, HSH.out]
    by_cases c : (x : Int) < ((2 ^ w : Nat) : Int)
    · rw [if_pos c, decide_eq_false (by omega)]
    · rw [if_neg c]
  induction d with
  | zero =>
    intro x Y h hm R hR
    rw [fl, List.take_nil, List.append_nil] at hR
    exact stop x Y (.inl (by omega)) (by omega) R hR
  | succ d ih =>
    intro x Y h hm R hR
    by_cases cn : Y.length = n
    · rw [cn, Nat.sub_self, List.take_zero, List.append_nil] at hR
      exact stop x Y (.inr cn) (by omega) R hR
    · have hlt : Y.length < n := by omega
      have hx : x < 2 ^ w := by omega
      have cx : (x : Int) < ((2 ^ w : Nat) : Int) := Int.ofNat_lt.2 hx
      have hml := mL_len w Y
      have hpl := pL_len w Y
      have hmlt : (mL w Y).length < 8796093022208 := Nat.lt_of_le_of_lt (show (mL w Y).length ≤ 64 by omega) (by decide)
      have hplt : (pL w Y).length < 8796093022208 := Nat.lt_of_le_of_lt (show (pL w Y).length ≤ 64 by omega) (by decide)
      have hdec : decide (((mL w Y).length : Int) < (n : Int)) = true := decide_eq_true (by omega)
      have HW := Aside0.mk (show wrap64 ((x : Int) + 1) = ((x + 1 : Nat) : Int) by rw [wrap64_in (by omega) (by omega)]; omega)
      obtain ⟨K1, d1_⟩ := spec_digits_f (x : Int) a1 (by omega) (by omega)
      have d1 : ∀ k, K1 ≤ k → spec_l01Digits.f k (x : Int) a1 = some (dg w x) := fun k hk => by have := d1_ k hk; rw [hw1, Int.toNat_natCast] at this; rw [hw1]; exact this
      obtain ⟨v, ⟨K2, hv⟩, hv2⟩ := specDisp_any (dg w x) (by rw [dg_size]; omega)
      have hIB : IB (dg w x) = true := by unfold IB; rw [dg_bits, dg_size, decide_eq_true (by omega)]; rfl
      obtain rfl := hv2 hIB
      have d2 : ∀ k, K2 ≤ k → spec_l03Disparity.f k (dg w x) = some (dsp (dg w x)) := hv
      by_cases c : dsp (dg w x) = ph
      · have hY1 : (Y ++ [x]).length = Y.length + 1 := by rw [List.length_append]; rfl
        have hlen1 : (Y ++ [x]).length ≤ n := by rw [hY1]; exact hlt
        have ex : Y ++ (fl w ph x (d + 1)).take (n - Y.length) = (Y ++ [x]) ++ (fl w ph (x + 1) d).take (n - (Y ++ [x]).length) := by
          rw [fl, if_pos c, hY1]
          obtain ⟨q, hq⟩ : ∃ q, n - Y.length = q + 1 := ⟨n - Y.length - 1, by clear c d1 d2 hv hv2; omega⟩
          have hq' : n - (Y.length + 1) = q := by clear c d1 d2 hv hv2; omega
          rw [hq, hq', List.take_succ_cons, List.append_assoc]
          rfl
        rw [ex] at hR
        obtain ⟨K3, g⟩ := ih (x + 1) (Y ++ [x]) (by clear c d1 d2 hv hv2; omega) hlen1 R hR
        have eM : mL w Y ++ [dg w x] = mL w (Y ++ [x]) := by unfold mL; rw [List.map_append, List.map_cons, List.map_nil]
        by_cases cp : ph = 0
        · have eP : pL w Y ++ [dg w x] = pL w (Y ++ [x]) := by unfold pL; rw [List.map_append, List.map_cons, List.map_nil, if_pos (c.trans cp)]
          refine ⟨K1 + K2 + K3 + 2, fun k hk => ?_⟩
          obtain ⟨k, rfl⟩ : ∃ q, k = q + 2 := ⟨k - 2, by clear c d1 d2 hv hv2; omega⟩
          have k1 : K1 ≤ k := by clear c d1 d2 hv hv2; omega
          have k2 : K2 ≤ k := by clear c d1 d2 hv hv2; omega
          have k3 : K3 ≤ k := by clear c d1 d2 hv hv2; omega
          show spec_l03Make.l1 (k + 1 + 1) a1 (n : Int) ph (x : Int) S x19 x20 a0 a1 (mL w Y) (pL w Y) = _
          rw [spec_l03Make.l1, if_pos HU.out, HSH.out, if_pos cx, hdec, spec_l03Make.j2, if_pos rfl, d1 k k1, Option.bind_some, d2 k k2, Option.bind_some, if_pos c, if_pos hmlt, Option.bind_some, if_pos cp, if_pos hplt, HW.out, eM, eP]
          exact g k k3
        · obtain ⟨K4, o4⟩ := other_ev (dg w x) (dg_bits w x) (by rw [dg_size]; clear c d1 d2 hv hv2; omega)
          have d4 : ∀ k, K4 ≤ k → spec_l03Other.f k (dg w x) = some (oth (dg w x)) := o4
          have eP : pL w Y ++ [oth (dg w x)] = pL w (Y ++ [x]) := by unfold pL; rw [List.map_append, List.map_cons, List.map_nil, if_neg (by rw [c]; exact cp)]
          refine ⟨K1 + K2 + K3 + K4 + 2, fun k hk => ?_⟩
          obtain ⟨k, rfl⟩ : ∃ q, k = q + 2 := ⟨k - 2, by clear c d1 d2 hv hv2; omega⟩
          have k1 : K1 ≤ k := by clear c d1 d2 hv hv2; omega
          have k2 : K2 ≤ k := by clear c d1 d2 hv hv2; omega
          have k3 : K3 ≤ k := by clear c d1 d2 hv hv2; omega
          have k4 : K4 ≤ k := by clear c d1 d2 hv hv2; omega
          show spec_l03Make.l1 (k + 1 + 1) a1 (n : Int) ph (x : Int) S x19 x20 a0 a1 (mL w Y) (pL w Y) = _
          rw [spec_l03Make.l1, if_pos HU.out, HSH.out, if_pos cx, hdec, spec_l03Make.j2, if_pos rfl, d1 k k1, Option.bind_some, d2 k k2, Option.bind_some, if_pos c, if_pos hmlt, Option.bind_some, if_neg cp, d4 k k4, Option.bind_some, if_pos hplt, HW.out, eM, eP]
          exact g k k3
      · rw [fl, if_neg c] at hR
        obtain ⟨K3, g⟩ := ih (x + 1) Y (by clear c d1 d2 hv hv2; omega) hm R hR
        refine ⟨K1 + K2 + K3 + 2, fun k hk => ?_⟩
        obtain ⟨k, rfl⟩ : ∃ q, k = q + 2 := ⟨k - 2, by clear c d1 d2 hv hv2; omega⟩
        have k1 : K1 ≤ k := by clear c d1 d2 hv hv2; omega
        have k2 : K2 ≤ k := by clear c d1 d2 hv hv2; omega
        have k3 : K3 ≤ k := by clear c d1 d2 hv hv2; omega
        show spec_l03Make.l1 (k + 1 + 1) a1 (n : Int) ph (x : Int) S x19 x20 a0 a1 (mL w Y) (pL w Y) = _
        rw [spec_l03Make.l1, if_pos HU.out, HSH.out, if_pos cx, hdec, spec_l03Make.j2, if_pos rfl, d1 k k1, Option.bind_some, d2 k k2, Option.bind_some, if_neg c, HW.out]
        exact g k k3
theorem words_loop (w : Nat) (hw : w ≤ 12) (ph : Int) (d : Nat) : ∀ (x : Nat) (o : List ByteArray), x + d = 2 ^ w → o.length ≤ x → Ev (fun k => impl_wordsOf.l0 k (w : Int) ph o ((2 ^ w : Nat) : Int) (x : Int)) (o ++ mL w (fl w ph x d)) := by
  have h12 : 2 ^ w ≤ 2 ^ 12 := Nat.pow_le_pow_right (by decide) hw
  have h12' : (2 : Nat) ^ 12 = 4096 := by decide
  induction d with
  | zero =>
    intro x o h ho
    refine ev_one (fun k => ?_)
    rw [impl_wordsOf.l0, if_neg (by omega), fl]
    unfold mL
    rw [List.map_nil, List.append_nil]
  | succ d ih =>
    intro x o h ho
    have hx : x < 2 ^ w := by omega
    have cx : (x : Int) < ((2 ^ w : Nat) : Int) := Int.ofNat_lt.2 hx
    have hol : o.length < 8796093022208 := Nat.lt_of_le_of_lt (show o.length ≤ 4096 by omega) (by decide)
    have ho1 : ∀ z, (o ++ [z]).length ≤ x + 1 := fun z => by rw [List.length_append]; show o.length + 1 ≤ x + 1; omega
    have hs : x + 1 + d = 2 ^ w := by omega
    have hs2 : o.length ≤ x + 1 := by omega
    obtain ⟨K2, d2_⟩ := impl_digits_f (x : Int) (w : Int) (by omega) (by omega)
    rw [Int.toNat_natCast] at d2_
    have d2 : ∀ k, K2 ≤ k → impl_digits.f k (x : Int) (w : Int) = some (dg w x) := d2_
    have HW := Aside0.mk (show wrap64 ((x : Int) + 1) = ((x + 1 : Nat) : Int) by rw [wrap64_in (by omega) (by omega)]; omega)
    by_cases c : dsp (dg w x) = ph
    · obtain ⟨K, g⟩ := ih (x + 1) (o ++ [dg w x]) hs (ho1 _)
      have e : o ++ mL w (fl w ph x (d + 1)) = (o ++ [dg w x]) ++ mL w (fl w ph (x + 1) d) := by
        rw [fl, if_pos c, List.append_assoc]
        unfold mL
        rw [List.map_cons, List.singleton_append]
      refine ⟨K + K2 + 1, fun k hk => ?_⟩
      obtain ⟨k, rfl⟩ : ∃ q, k = q + 1 := ⟨k - 1, by clear c; omega⟩
      have k2 : K2 ≤ k := by clear c; omega
      have k3 : K ≤ k := by clear c; omega
      show impl_wordsOf.l0 (k + 1) (w : Int) ph o ((2 ^ w : Nat) : Int) (x : Int) = _
      rw [impl_wordsOf.l0, if_pos cx, d2 k k2, Option.bind_some, disp_f, Option.bind_some, if_pos c, if_pos hol, HW.out, e]
      exact g k k3
    · obtain ⟨K, g⟩ := ih (x + 1) o hs hs2
      refine ⟨K + K2 + 1, fun k hk => ?_⟩
      obtain ⟨k, rfl⟩ : ∃ q, k = q + 1 := ⟨k - 1, by clear c; omega⟩
      have k2 : K2 ≤ k := by clear c; omega
      have k3 : K ≤ k := by clear c; omega
      show impl_wordsOf.l0 (k + 1) (w : Int) ph o ((2 ^ w : Nat) : Int) (x : Int) = _
      rw [impl_wordsOf.l0, if_pos cx, d2 k k2, Option.bind_some, disp_f, Option.bind_some, if_neg c, HW.out, fl, if_neg c]
      exact g k k3
theorem rep_l (n : Nat) : Lib.repeatL [49] n = List.replicate n 49 := by
  induction n with
  | zero => rfl
  | succ n ih => rw [Lib.repeatL, ih, List.replicate_succ]; rfl
theorem opp_loop (s b : ByteArray) (hB : areB s.data.toList = true) (hs : s.size ≤ 12) (hb : b.data.toList = List.replicate s.size 49) (d : Nat) : ∀ j : Nat, j + d = s.size → Ev (fun k => impl_xorBits.l0 k s b ((s.data.toList.map flipB).take j) (j : Int)) (oth s) := by
  have hsl := size_l s
  have hbl := size_l b
  rw [hb, List.length_replicate] at hbl
  induction d with
  | zero =>
    intro j h
    refine ev_one (fun k => ?_)
    rw [impl_xorBits.l0, if_neg (by omega), List.take_of_length_le (by rw [List.length_map]; omega)]
    rfl
  | succ d ih =>
    intro j h
    have hj : j < s.data.toList.length := by omega
    have hjb : j < b.data.toList.length := by rw [hb, List.length_replicate]; omega
    have hw := wrap_succ (j := j) (n := s.size) (by omega) (by omega)
    have h1 := bt_l s j hj
    have h2 := bt_l b j hjb
    have e2 : b.data.toList[j] = 49 := by simp [hb]
    rw [e2] at h2
    have hbit : isBit s.data.toList[j] = true := by
      unfold areB at hB
      exact List.all_eq_true.1 hB _ (List.getElem_mem hj)
    have et : (s.data.toList.map flipB).take (j + 1) = (s.data.toList.map flipB).take j ++ [flipB s.data.toList[j]] := by
      rw [take_snoc' _ _ (by rw [List.length_map]; exact hj), List.getElem_map]
    have hlen : ((s.data.toList.map flipB).take j).length ≤ 12 := by rw [List.length_take, List.length_map]; omega
    have hi := ih (j + 1) (by omega)
    rw [et] at hi
    have key : ∃ t : ByteArray, impl_bitOf.f (bt s (j : Int) != bt b (j : Int)) = some t ∧ t.size = 1 ∧ t.data.toList = [flipB s.data.toList[j]] := by
      rw [h1, h2]
      rcases bit_or hbit with q | q
      · rw [q]; exact ⟨⟨#[49]⟩, rfl, rfl, rfl⟩
      · rw [q]; exact ⟨⟨#[48]⟩, rfl, rfl, rfl⟩
    obtain ⟨t, t1, t2, t3⟩ := key
    rw [← t3] at hi
    exact Ev.step (fun k => by rw [impl_xorBits.l0, if_pos (by omega), if_pos (by omega), if_pos (by omega), t1, Option.bind_some, if_pos (by rw [t2]; omega), hw]) hi
theorem opp_ev (s : ByteArray) (hB : areB s.data.toList = true) (hs : s.size ≤ 12) : Ev (fun k => impl_opposite.f k s) (oth s) := by
  have h := opp_loop s ⟨(Lib.repeatL [49] s.size).toArray⟩ hB hs (rep_l s.size) s.size 0 (by omega)
  unfold impl_opposite.f strings_Repeat.f
  rw [if_pos ⟨by omega, by omega, by decide⟩, Int.toNat_natCast]
  exact Ev.bind (f := fun k t => some t) (a := oth s) h (Ev.now _)
theorem more_loop (w : Nat) (hw : w ≤ 12) (a0 a1 : Int) (Z : List Nat) (hZ : Z.length ≤ 64) (hz : ∀ y ∈ Z, ¬ dsp (dg w y) = 0) (d : Nat) : ∀ (j : Nat) (M P : List ByteArray), j + d = Z.length → M.length ≤ 200 - d → P.length ≤ 200 - d → d ≤ 64 →
    Ev (fun k => impl_MakeBlockCode.l0 k (mL w Z) (Z.length : Int) (j : Int) a0 a1 M P) (a0, a1, M ++ mL w (Z.drop j), P ++ pL w (Z.drop j), true) := by
  have hml := mL_len w Z
  induction d with
  | zero =>
    intro j M P h _ _ _
    refine ev_one (fun k => ?_)
    rw [impl_MakeBlockCode.l0, if_neg (by omega), List.drop_eq_nil_of_le (by omega)]
    unfold mL pL
    rw [List.map_nil, List.map_nil, List.append_nil, List.append_nil]
  | succ d ih =>
    intro j M P h hM hP hd
    have hj : j < Z.length := by omega
    have hjm : j < (mL w Z).length := by omega
    have hw1 := Aside0.mk (wrap_succ hj (by omega))
    have cj : (j : Int) < (Z.length : Int) := Int.ofNat_lt.2 hj
    have cjm : (j : Int) < ((mL w Z).length : Int) := Int.ofNat_lt.2 hjm
    have hrd : rdOf ByteArray.empty (mL w Z) (j : Int) = dg w Z[j] := by
      rw [rdS_get _ _ hjm]
      unfold mL
      exact List.getElem_map _
    have hMl : M.length < 8796093022208 := Nat.lt_of_le_of_lt (show M.length ≤ 200 by omega) (by decide)
    have hPl : P.length < 8796093022208 := Nat.lt_of_le_of_lt (show P.length ≤ 200 by omega) (by decide)
    obtain ⟨K2, o_⟩ := opp_ev (dg w Z[j]) (dg_bits _ _) (by rw [dg_size]; exact hw)
    have o2 : ∀ k, K2 ≤ k → impl_opposite.f k (dg w Z[j]) = some (oth (dg w Z[j])) := o_
    obtain ⟨K, g⟩ := ih (j + 1) (M ++ [dg w Z[j]]) (P ++ [oth (dg w Z[j])]) (by omega) (by rw [List.length_append]; show M.length + 1 ≤ _; omega) (by rw [List.length_append]; show P.length + 1 ≤ _; omega) (by omega)
    have hzj := hz _ (List.getElem_mem hj)
    have eM : M ++ mL w (Z.drop j) = (M ++ [dg w Z[j]]) ++ mL w (Z.drop (j + 1)) := by
      rw [drop_cons Z j hj, List.append_assoc]
      unfold mL
      rw [List.map_cons, List.singleton_append]
    have eP : P ++ pL w (Z.drop j) = (P ++ [oth (dg w Z[j])]) ++ pL w (Z.drop (j + 1)) := by
      rw [drop_cons Z j hj, List.append_assoc]
      unfold pL
      rw [List.map_cons, if_neg hzj, List.singleton_append]
    refine ⟨K + K2 + 1, fun k hk => ?_⟩
    obtain ⟨k, rfl⟩ : ∃ q, k = q + 1 := ⟨k - 1, by clear hzj; omega⟩
    have k2 : K2 ≤ k := by clear hzj; omega
    have k3 : K ≤ k := by clear hzj; omega
    show impl_MakeBlockCode.l0 (k + 1) (mL w Z) (Z.length : Int) (j : Int) a0 a1 M P = _
    rw [impl_MakeBlockCode.l0, if_pos cj, if_pos (nat0 j), if_pos cjm, if_pos hMl, hrd, o2 k k2, Option.bind_some, if_pos hPl, hw1.out, eM, eP]
    exact g k k3
theorem shl_small (q : Nat) (hq : q ≤ 12) : shl .i64 1 (q : Int) = ((2 ^ q : Nat) : Int) := by
  have : q = 0 ∨ q = 1 ∨ q = 2 ∨ q = 3 ∨ q = 4 ∨ q = 5 ∨ q = 6 ∨ q = 7 ∨ q = 8 ∨ q = 9 ∨ q = 10 ∨ q = 11 ∨ q = 12 := by omega
  rcases this with rfl | rfl | rfl | rfl | rfl | rfl | rfl | rfl | rfl | rfl | rfl | rfl | rfl <;> decide
theorem make_both (a0 a1 : Int) : ∃ b0 b1 L2 L3 b, L2.length ≤ 64 ∧ L3.length ≤ 64 ∧ Ev (fun k => spec_MakeBlockCode.f k a0 a1) (b0, b1, L2, L3, b) ∧ Ev (fun k => impl_MakeBlockCode.f k a0 a1) (b0, b1, L2, L3, b) := by
  have sno : Ev (fun k => spec_MakeBlockCode.j0 k a0 a1 true) (0, 0, ([] : List ByteArray), ([] : List ByteArray), false) := ev_one (fun k => by rw [spec_MakeBlockCode.j0, if_pos rfl])
  have ino : Ev (fun k => impl_MakeBlockCode.j0 k a0 a1 true) (0, 0, ([] : List ByteArray), ([] : List ByteArray), false) := ev_one (fun k => by rw [impl_MakeBlockCode.j0, if_pos rfl])
  have z : ([] : List ByteArray).length ≤ 64 := Nat.zero_le _
  have hs0 := spec_in a0 1 6
  have hs1 := spec_in a1 2 12
  have hd := isData_f a0
  have hwd := isWidth_f a1
  unfold spec_MakeBlockCode.f impl_MakeBlockCode.f
  by_cases c0 : 1 ≤ a0 ∧ a0 ≤ 6
  · rw [decide_eq_true c0] at hs0 hd
    by_cases c1 : 2 ≤ a1 ∧ a1 ≤ 12
    · rw [decide_eq_true c1] at hs1 hwd
      by_cases ct : Int.tmod a1 2 = 0
      · rw [Bool.true_and, show ((Int.tmod a1 2) == 0) = true from beq_iff_eq.2 ct] at hwd
        have HCT := Aside0.mk ct
        clear ct
        obtain ⟨m, rfl⟩ := Int.eq_ofNat_of_zero_le (show 0 ≤ a0 by omega)
        obtain ⟨w, rfl⟩ := Int.eq_ofNat_of_zero_le (show 0 ≤ a1 by omega)
        have hm : m ≤ 6 := by omega
        have hw : w ≤ 12 := by omega
        have h6 : 2 ^ m ≤ 2 ^ 6 := Nat.pow_le_pow_right (by decide) hm
        have h6' : (2 : Nat) ^ 6 = 64 := by decide
        have hn : 2 ^ m ≤ 64 := by omega
        have h12 : 2 ^ w ≤ 2 ^ 12 := Nat.pow_le_pow_right (by decide) hw
        have h12' : (2 : Nat) ^ 12 = 4096 := by decide
        have HUM := Aside0.mk (show IntKind.u64.wrap (m : Int) = (m : Int) from u64_in (by omega) (by omega))
        have HUW := Aside0.mk (show IntKind.u64.wrap (w : Int) = (w : Int) from u64_in (by omega) (by omega))
        have SHM := Aside0.mk (shl_small m (by omega))
        have SHW := Aside0.mk (shl_small w hw)
        obtain ⟨A, hA⟩ : ∃ A, A = fl w 0 0 (2 ^ w) := ⟨_, rfl⟩
        obtain ⟨B, hB⟩ : ∃ B, B = fl w 2 0 (2 ^ w) := ⟨_, rfl⟩
        have lA : A.length ≤ 2 ^ w := by rw [hA]; exact fl_len w 0 _ 0
        have lB : B.length ≤ 2 ^ w := by rw [hB]; exact fl_len w 2 _ 0
        have hl1 : (A.take (2 ^ m)).length ≤ 2 ^ m := by rw [List.length_take]; exact Nat.min_le_left _ _
        have dA : ∀ y ∈ A.take (2 ^ m), dsp (dg w y) = 0 := fun y hy => by have := List.mem_of_mem_take hy; rw [hA] at this; exact fl_mem this
        have dB : ∀ y ∈ B, ¬ dsp (dg w y) = 0 := fun y hy => by rw [hB] at hy; rw [fl_mem hy]; decide
        have eA : pL w (A.take (2 ^ m)) = mL w (A.take (2 ^ m)) := by
          unfold pL mL
          exact List.map_congr_left (fun y hy => if_pos (dA y hy))
        clear dA
        have zero : ((0 : Nat) : Int) = 0 := rfl
        -- the reference
        have spec : Ev (fun k => spec_l03Make.f k (m : Int) (w : Int)) ((m : Int), (w : Int), mL w (A.take (2 ^ m) ++ B.take (2 ^ m - (A.take (2 ^ m)).length)), pL w (A.take (2 ^ m) ++ B.take (2 ^ m - (A.take (2 ^ m)).length)), decide ((A.take (2 ^ m) ++ B.take (2 ^ m - (A.take (2 ^ m)).length)).length = 2 ^ m)) := by
          obtain ⟨Y2, hY2⟩ : ∃ Y2, Y2 = A.take (2 ^ m) ++ B.take (2 ^ m - (A.take (2 ^ m)).length) := ⟨_, rfl⟩
          rw [← hY2]
          have e3 : Ev (fun k => spec_l03Make.l0 k (w : Int) ((2 ^ m : Nat) : Int) [0, 2] 2 2 (m : Int) (w : Int) (mL w Y2) (pL w Y2)) ((m : Int), (w : Int), mL w Y2, pL w Y2, decide (Y2.length = 2 ^ m)) := by
            refine ev_one (fun k => ?_)
            rw [spec_l03Make.l0, if_neg (by decide), mL_len]
            have : (((Y2.length : Nat) : Int) == ((2 ^ m : Nat) : Int)) = decide (Y2.length = 2 ^ m) := by
              rw [Bool.eq_iff_iff, beq_iff_eq, decide_eq_true_iff]; omega
            rw [this]
          have g2 := made_exact w (2 ^ m) hw hn (m : Int) (w : Int) rfl (by rw [HUW.out]; exact SHW.out) [0, 2] 2 1 2 (2 ^ w) 0 (A.take (2 ^ m)) (by omega) hl1 ((m : Int), (w : Int), mL w Y2, pL w Y2, decide (Y2.length = 2 ^ m))
          rw [← hB, ← hY2, w11, zero] at g2
          have e2 : Ev (fun k => spec_l03Make.l0 k (w : Int) ((2 ^ m : Nat) : Int) [0, 2] 2 1 (m : Int) (w : Int) (mL w (A.take (2 ^ m))) (pL w (A.take (2 ^ m)))) ((m : Int), (w : Int), mL w Y2, pL w Y2, decide (Y2.length = 2 ^ m)) := Ev.step (fun k => by rw [spec_l03Make.l0, if_pos (by decide), if_pos (by decide), if_pos (by decide)]; rfl) (g2 e3)
          have g1 := made_exact w (2 ^ m) hw hn (m : Int) (w : Int) rfl (by rw [HUW.out]; exact SHW.out) [0, 2] 2 0 0 (2 ^ w) 0 [] (by omega) (Nat.zero_le _) ((m : Int), (w : Int), mL w Y2, pL w Y2, decide (Y2.length = 2 ^ m))
          rw [← hA, List.nil_append, List.length_nil, Nat.sub_zero, w01, zero] at g1
          have e1 : Ev (fun k => spec_l03Make.l0 k (w : Int) ((2 ^ m : Nat) : Int) [0, 2] 2 0 (m : Int) (w : Int) [] []) ((m : Int), (w : Int), mL w Y2, pL w Y2, decide (Y2.length = 2 ^ m)) := Ev.step (fun k => by rw [spec_l03Make.l0, if_pos (by decide), if_pos (by decide), if_pos (by decide)]; rfl) (g1 e2)
          unfold spec_l03Make.f
          rw [HUM.out, SHM.out]
          exact ev_pos (nat0 m) e1
        have w0e : Ev (fun k => impl_wordsOf.f k (w : Int) 0) (mL w A) := by
          have := words_loop w hw 0 (2 ^ w) 0 [] (by omega) (Nat.le_refl _)
          rw [← hA, List.nil_append, zero] at this
          unfold impl_wordsOf.f
          rw [SHW.out]
          exact ev_pos (nat0 w) this
        have w2e : Ev (fun k => impl_wordsOf.f k (w : Int) 2) (mL w B) := by
          have := words_loop w hw 2 (2 ^ w) 0 [] (by omega) (Nat.le_refl _)
          rw [← hB, List.nil_append, zero] at this
          unfold impl_wordsOf.f
          rw [SHW.out]
          exact ev_pos (nat0 w) this
        clear hA hB
        have lmA := mL_len w A
        have lmB := mL_len w B
        have ltA : (A.take (2 ^ m)).length = min (2 ^ m) A.length := List.length_take
        have HMN := Aside0.mk (show mn ((mL w A).length : Int) ((2 ^ m : Nat) : Int) = ((min (2 ^ m) A.length : Nat) : Int) by rw [lmA]; unfold mn; split <;> omega)
        have et1 : (mL w A).take (min (2 ^ m) A.length) = mL w (A.take (2 ^ m)) := by
          unfold mL
          rw [List.map_take, List.take_eq_take_iff, List.length_map]
          omega
        generalize A.take (2 ^ m) = Y1 at *
        have lm1 := mL_len w Y1
        have HSUM := Aside0.mk (show wrap64 (((mL w Y1).length : Int) + ((mL w B).length : Int)) = ((Y1.length + B.length : Nat) : Int) by rw [lm1, lmB, wrap64_in (by omega) (by omega)]; omega)
        have HSUB := Aside0.mk (show wrap64 (((2 ^ m : Nat) : Int) - ((mL w Y1).length : Int)) = ((2 ^ m - Y1.length : Nat) : Int) by rw [lm1, wrap64_in (by omega) (by omega)]; omega)
        have hY2l : (Y1 ++ B.take (2 ^ m - Y1.length)).length = Y1.length + min (2 ^ m - Y1.length) B.length := by rw [List.length_append, List.length_take]
        have hcl : slices_Clone_string_string.f (mL w Y1) = some (mL w Y1) := if_pos (by omega)
        by_cases cn : Y1.length + B.length < 2 ^ m
        · refine ⟨0, 0, [], [], false, z, z, ?_, ?_⟩
          · rw [decide_eq_false (by rw [hY2l]; omega)] at spec
            refine ev_to hs0 (ev_pos rfl (ev_to hs1 (ev_pos rfl ?_)))
            rw [show ((Int.tmod (w : Int) 2) != 0) = false from by rw [HCT.out]; rfl]
            exact Ev.step (fun k => by rw [spec_MakeBlockCode.j0, if_neg Bool.false_ne_true]) (Ev.bind spec (ev_neg Bool.false_ne_true (Ev.now _)))
          · refine ev_to hd (ev_pos rfl (ev_to hwd (Ev.step (fun k => by rw [Bool.not_true, impl_MakeBlockCode.j0, if_neg Bool.false_ne_true, SHM.out]) (ev_pos (nat0 m) (Ev.bind w0e ?_)))))
            rw [HMN.out]
            refine ev_pos (nat0 _) (ev_pos (by omega) (ev_some ?_))
            rw [Int.toNat_natCast, et1]
            refine Ev.bind w2e ?_
            rw [HSUM.out]
            exact ev_pos (by omega) (Ev.now _)
        · refine ⟨(m : Int), (w : Int), mL w (Y1 ++ B.take (2 ^ m - Y1.length)), pL w (Y1 ++ B.take (2 ^ m - Y1.length)), true, by rw [mL_len, hY2l]; omega, by rw [pL_len, hY2l]; omega, ?_, ?_⟩
          · rw [decide_eq_true (by rw [hY2l]; omega)] at spec
            refine ev_to hs0 (ev_pos rfl (ev_to hs1 (ev_pos rfl ?_)))
            rw [show ((Int.tmod (w : Int) 2) != 0) = false from by rw [HCT.out]; rfl]
            exact Ev.step (fun k => by rw [spec_MakeBlockCode.j0, if_neg Bool.false_ne_true]) (Ev.bind spec (ev_pos rfl (Ev.now _)))
          · refine ev_to hd (ev_pos rfl (ev_to hwd (Ev.step (fun k => by rw [Bool.not_true, impl_MakeBlockCode.j0, if_neg Bool.false_ne_true, SHM.out]) (ev_pos (nat0 m) (Ev.bind w0e ?_)))))
            rw [HMN.out]
            refine ev_pos (nat0 _) (ev_pos (by omega) (ev_some ?_))
            rw [Int.toNat_natCast, et1]
            refine Ev.bind w2e ?_
            rw [HSUM.out]
            refine ev_neg (by omega) (ev_to hcl (ev_to hcl ?_))
            rw [HSUB.out]
            refine ev_pos (nat0 _) (ev_pos (by omega) (ev_some ?_))
            have et2 : (mL w B).take (2 ^ m - Y1.length) = mL w (B.take (2 ^ m - Y1.length)) := by unfold mL; rw [List.map_take]
            rw [Int.toNat_natCast, et2]
            have hZ : (B.take (2 ^ m - Y1.length)).length ≤ 64 := by rw [List.length_take]; omega
            have hml := more_loop w hw (m : Int) (w : Int) (B.take (2 ^ m - Y1.length)) hZ (fun y hy => dB y (List.mem_of_mem_take hy)) (B.take (2 ^ m - Y1.length)).length 0 (mL w Y1) (mL w Y1) (by omega) (by omega) (by omega) hZ
            rw [List.drop_zero, zero] at hml
            rw [mL_app, pL_app, eA, mL_len]
            exact hml
      · rw [Bool.true_and, show ((Int.tmod a1 2) == 0) = false from by simpa using ct] at hwd
        refine ⟨0, 0, [], [], false, z, z, ev_to hs0 (ev_pos rfl (ev_to hs1 (ev_pos rfl ?_))), ev_to hd (ev_pos rfl (ev_to hwd ino))⟩
        rw [show ((Int.tmod a1 2) != 0) = true from by simpa using ct]
        exact sno
    · rw [decide_eq_false c1] at hs1 hwd
      rw [Bool.false_and] at hwd
      exact ⟨0, 0, [], [], false, z, z, ev_to hs0 (ev_pos rfl (ev_to hs1 (ev_neg Bool.false_ne_true sno))), ev_to hd (ev_pos rfl (ev_to hwd ino))⟩
  · rw [decide_eq_false c0] at hs0 hd
    exact ⟨0, 0, [], [], false, z, z, ev_to hs0 (ev_neg Bool.false_ne_true sno), ev_to hd (ev_neg Bool.false_ne_true ino)⟩
theorem FnExactMakeBlockCode : laws_FnExactMakeBlockCode.Pure := by
  intro a0 a1 _ _
  apply Ev.rounds
  unfold laws_FnExactMakeBlockCode.f
  obtain ⟨b0, b1, L2, L3, b, l2, l3, r1, r2⟩ := make_both a0 a1
  have heq := eqCode_ev b0 b1 L2 L3 (by omega) (by omega)
  have m2 := markSeq_ev 1 L2 (by omega) (by omega) (by omega)
  have m3 := markSeq_ev (1 + (L2.length : Int)) L3 (by omega) (by omega) (by omega)
  have g2 := heldSeq_ev 1 L2.length (by omega) (by omega) (by omega)
  have g3 := heldSeq_ev (1 + (L2.length : Int)) L3.length (by omega) (by omega) (by omega)
  have n2 : ¬ 1 + (L2.length : Int) < 0 := by omega
  have n3 : ¬ 1 + (L2.length : Int) + (L3.length : Int) < 0 := by omega
  have hmark : Ev (fun k => laws_markBlockCode.f k b0 b1 L2 L3 1) (1 + (L2.length : Int) + (L3.length : Int), seqS 1 L2.length, seqS (1 + (L2.length : Int)) L3.length) := by
    unfold laws_markBlockCode.f
    exact Ev.bind m2 (Ev.bind m3 (Ev.now _))
  have hheld : Ev (fun k => laws_heldBlockCode.f k b0 b1 (seqS 1 L2.length) (seqS (1 + (L2.length : Int)) L3.length) 1) (1 + (L2.length : Int) + (L3.length : Int)) := by
    unfold laws_heldBlockCode.f
    exact Ev.bind g2 (ev_neg n2 (Ev.bind g3 (ev_neg n3 (Ev.now _))))
  have hbb : (b != b) = false := by simp
  refine Ev.bind r1 (Ev.bind r2 (Ev.bind heq (ev_pos rfl ?_)))
  show Ev (fun k => laws_FnExactMakeBlockCode.j0 k a0 a1 b (b != b) b0 b1 L2 L3 b0 b1 L2 L3) true
  have j1 : Ev (fun k => laws_FnExactMakeBlockCode.j1 k (1 + (L2.length : Int) + (L3.length : Int)) (b != b) b0 b1 (seqS 1 L2.length) (seqS (1 + (L2.length : Int)) L3.length)) true := by
    rw [hbb]
    exact Ev.step (fun k => by rw [laws_FnExactMakeBlockCode.j1, if_neg Bool.false_ne_true]) (Ev.bind hheld (ev_neg n3 (ev_pos rfl (Ev.now _))))
  rw [hbb]
  refine Ev.step (fun k => by rw [laws_FnExactMakeBlockCode.j0, if_neg Bool.false_ne_true]) (Ev.bind hmark (Ev.bind hheld (ev_neg n3 (ev_pos rfl (Ev.bind r2 (Ev.bind heq (ev_pos rfl ?_)))))))
  exact j1

end Go.Proofs.Ytegeaoiclepkkaa.Pure
