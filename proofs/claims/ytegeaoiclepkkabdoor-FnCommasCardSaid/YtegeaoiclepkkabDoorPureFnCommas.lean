/-
The plain law of FnCommas: a comma occurs in no data that are encoded, and the commas of a length are just those that are reported; conditions: those of the statement.
-/
import Derived.Test.YtegeaoiclepkkabDoorQFnCommasx13
import Derived.Lib.IndexMore
namespace Go.Proofs.YtegeaoiclepkkabDoor.Pure
open Go.RowKit Go.Proofs.YtegeaoiclepkkabDoor.QFnCommas Go.Proofs.YtegeaoiclepkkabDoorW.PrintWords Go.Proofs.YtegeaoiclepkkabDoorW.PrintLast Go.Proofs.YtegeaoiclepkkabDoorW.PrintMore
set_option linter.unusedVariables false

theorem ev_one {α : Type} {g : Nat → Option α} {r : α} (h : ∀ k, g (k + 1) = some r) : Ev g r :=
  ⟨1, fun k hk => by obtain ⟨m, rfl⟩ : ∃ m, k = m + 1 := ⟨k - 1, by omega⟩; exact h m⟩
theorem wrap64_in {x : Int} (h0 : -9223372036854775808 ≤ x) (h1 : x ≤ 9223372036854775807) : wrap64 x = x := by
  unfold wrap64; omega
theorem u64_in {x : Int} (h0 : 0 ≤ x) (h1 : x ≤ 18446744073709551615) : IntKind.u64.wrap x = x := by
  simp [IntKind.wrap, IntKind.bits, IntKind.signed]; omega
theorem i64_in {x : Int} (h0 : -9223372036854775808 ≤ x) (h1 : x ≤ 9223372036854775807) : IntKind.i64.wrap x = x := by
  rw [IntKind.wrap_i64]; omega
theorem and_one (x : Int) : Go.bits .and .i64 x 1 = x % 2 := by
  have h : (BitVec.ofInt 64 x &&& BitVec.ofInt 64 1).toNat = (x % 2).toNat := by
    have e1 : BitVec.ofInt 64 1 = 1#64 := by decide
    rw [e1, BitVec.toNat_and, BitVec.toNat_ofInt]
    have e2 : (1#64).toNat = 1 := by decide
    rw [e2, Nat.and_one_is_mod]
    omega
  show IntKind.i64.wrap (((BitVec.ofInt 64 x &&& BitVec.ofInt 64 1).toNat : Nat) : Int) = x % 2
  rw [h, i64_in (by omega) (by omega)]
  omega
theorem wf_i64 {x : Int} (h : (Lit.int .i64 x).wf = true) : -9223372036854775808 ≤ x ∧ x ≤ 9223372036854775807 := by
  simp [Lit.wf, IntKind.min, IntKind.max, IntKind.signed, IntKind.bits] at h
  omega
theorem pow_pos_int (d : Nat) : (0 : Int) < 2 ^ d := Int.pow_pos (by decide)
theorem pow_le_int {a b : Nat} (h : a ≤ b) : (2 : Int) ^ a ≤ 2 ^ b := by
  have := Nat.pow_le_pow_right (n := 2) (by decide) h
  exact_mod_cast this

theorem ev_pos {α : Type} {c : Prop} [Decidable c] {g h : Nat → Option α} {r : α} (hc : c) (hg : Ev g r) : Ev (fun k => if c then g k else h k) r := by
  obtain ⟨K, hK⟩ := hg
  exact ⟨K, fun k hk => (if_pos hc).trans (hK k hk)⟩
theorem ev_neg {α : Type} {c : Prop} [Decidable c] {g h : Nat → Option α} {r : α} (hc : ¬ c) (hg : Ev h r) : Ev (fun k => if c then g k else h k) r := by
  obtain ⟨K, hK⟩ := hg
  exact ⟨K, fun k hk => (if_neg hc).trans (hK k hk)⟩
theorem ev_some {α β : Type} {f : Nat → α → Option β} {a : α} {r : β} (h : Ev (fun k => f k a) r) : Ev (fun k => (some a).bind (f k)) r := h
theorem ev_to {α β : Type} {x : Option α} {f : Nat → α → Option β} {a : α} {r : β} (e : x = some a) (h : Ev (fun k => f k a) r) : Ev (fun k => x.bind (f k)) r := by subst e; exact h
theorem ev_det {α : Type} {g : Nat → Option α} {r r' : α} (h : Ev g r) (h' : Ev g r') : r = r' := by
  obtain ⟨K, hK⟩ := h
  obtain ⟨K', hK'⟩ := h'
  have h1 := hK (max K K') (Nat.le_max_left _ _)
  have h2 := hK' (max K K') (Nat.le_max_right _ _)
  rw [h1] at h2
  exact Option.some.inj h2
theorem wrap_succ {j n : Nat} (h : j < n) (hn : n ≤ 9223372036854775807) : wrap64 ((j : Int) + 1) = ((j + 1 : Nat) : Int) := by
  rw [wrap64_in (by omega) (by omega)]; omega
theorem nat0 (j : Nat) : (0 : Int) ≤ (j : Int) := Int.natCast_nonneg j
theorem rd_nat (l : List Int) (j : Nat) : rd l (j : Int) = l.getD j 0 := by unfold rd; rw [Int.toNat_natCast]
theorem rd_get (l : List Int) (j : Nat) (h : j < l.length) : rd l (j : Int) = l[j] := by rw [rd_nat, List.getD_eq_getElem?_getD, List.getElem?_eq_getElem h]; rfl
theorem drop_cons {α : Type} (l : List α) (j : Nat) (h : j < l.length) : l.drop j = l[j] :: l.drop (j + 1) := List.drop_eq_getElem_cons h
theorem take_snoc' {α : Type} (l : List α) (j : Nat) (h : j < l.length) : l.take (j + 1) = l.take j ++ [l[j]] := List.take_succ_eq_append_getElem h
theorem set_take {α : Type} (acc : List α) (j : Nat) (x : α) (h : j < acc.length) : (acc.set j x).take (j + 1) = acc.take j ++ [x] := by
  rw [List.take_set, List.take_succ_eq_append_getElem h, List.set_append_right _ _ (by simp; omega)]
  have : (acc.take j).length = j := by rw [List.length_take]; omega
  rw [this, Nat.sub_self]
  rfl
theorem take_all {α : Type} {a b : List α} {n : Nat} (ha : a.length = n) (hb : b.length = n) (h : a.take n = b.take n) : a = b := by
  rw [List.take_of_length_le (by omega), List.take_of_length_le (by omega)] at h; exact h
theorem w01 : wrap64 (0 + 1) = 1 := by unfold wrap64; decide
theorem w11 : wrap64 (1 + 1) = 2 := by unfold wrap64; decide

theorem spec_in (a b c : Int) : spec_l00In.f a b c = some (decide (b ≤ a ∧ a ≤ c)) := by
  unfold spec_l00In.f
  by_cases h : a ≥ b
  · rw [if_pos h]; congr 1; have : b ≤ a := h; simp [this]
  · rw [if_neg h]; congr 1; have : ¬ b ≤ a := h; simp [this]
theorem impl_in (a b c : Int) : impl_within.f a b c = some (decide (b ≤ a ∧ a ≤ c)) := by
  unfold impl_within.f
  by_cases h : a ≥ b
  · rw [if_pos h]; congr 1; have : b ≤ a := h; simp [this]
  · rw [if_neg h]; congr 1; have : ¬ b ≤ a := h; simp [this]

def isBit (b : UInt8) : Bool := b.toNat == 48 || b.toNat == 49
def areB (l : List UInt8) : Bool := l.all isBit
theorem size_l (s : ByteArray) : s.size = s.data.toList.length := by rw [Array.length_toList]; rfl
theorem bt_l (s : ByteArray) (j : Nat) (h : j < s.data.toList.length) : bt s (j : Int) = ((s.data.toList[j].toNat : Nat) : Int) := by
  have h2 : ((j : Int)).toNat < s.size := by rw [Int.toNat_natCast, size_l]; exact h
  have h3 : j < s.data.size := by rw [Array.length_toList] at h; exact h
  have e : s[((j : Int)).toNat]'h2 = s.data[j] := rfl
  rw [← bt_at s j h2, e, Array.getElem_toList]
theorem cs_bit (b : UInt8) : ([48, 49] : List UInt8).contains b = isBit b := by
  have h1 : (b == 48) = (b.toNat == 48) := by rw [Bool.eq_iff_iff]; simp [← UInt8.toNat_inj]
  have h2 : (b == 49) = (b.toNat == 49) := by rw [Bool.eq_iff_iff]; simp [← UInt8.toNat_inj]
  unfold isBit
  rw [← h1, ← h2]
  show (match b == 48 with | true => true | false => (match b == 49 with | true => true | false => false)) = (b == 48 || b == 49)
  cases (b == 48) <;> cases (b == 49) <;> rfl
theorem drop_nil {p : UInt8 → Bool} (l : List UInt8) : l.dropWhile p = [] ↔ ∀ x ∈ l, p x = true := by
  induction l with
  | nil => simp
  | cons a t ih =>
    rw [List.dropWhile_cons]
    cases e : p a with
    | true => rw [if_pos rfl, ih]; simp [e]
    | false => rw [if_neg (by decide)]; simp [e]
theorem drop_all {p : UInt8 → Bool} (l : List UInt8) (h : (l.dropWhile p).all p = true) : l.all p = true := by
  induction l with
  | nil => rfl
  | cons a t ih =>
    rw [List.dropWhile_cons] at h
    cases e : p a with
    | true => rw [e, if_pos rfl] at h; rw [List.all_cons, e, ih h]; rfl
    | false => rw [e, if_neg (by decide)] at h; exact h
theorem trim_nil (l : List UInt8) : (Lib.trimS l [48, 49] == []) = areB l := by
  have e : (fun b => ([48, 49] : List UInt8).contains b) = isBit := funext cs_bit
  unfold Lib.trimS Lib.trimLeftS Lib.trimRightS areB
  rw [e]
  rw [Bool.eq_iff_iff, beq_iff_eq, drop_nil]
  constructor
  · intro h
    have h1 : (l.reverse.dropWhile isBit).all isBit = true := List.all_eq_true.2 (fun x hx => h x (List.mem_reverse.2 hx))
    have h2 := drop_all _ h1
    rw [List.all_reverse] at h2
    exact h2
  · intro h x hx
    have h3 := List.mem_reverse.1 hx
    have h4 : x ∈ l.reverse := (List.dropWhile_sublist _).subset h3
    exact List.all_eq_true.1 h x (List.mem_reverse.1 h4)

theorem specBits_loop (s : ByteArray) (hn : s.size ≤ 9223372036854775807) (d : Nat) : ∀ j : Nat, j + d = s.data.toList.length → Ev (fun k => spec_l01Bits.l0 k s (j : Int)) (areB (s.data.toList.drop j) && decide ((s.size : Int) ≤ 400)) := by
  have hs := size_l s
  induction d with
  | zero =>
    intro j h
    rw [List.drop_eq_nil_of_le (by omega)]
    exact ev_one (fun k => by rw [spec_l01Bits.l0, if_neg (by omega)]; rfl)
  | succ d ih =>
    intro j h
    have hj : j < s.data.toList.length := by omega
    have hb := bt_l s j hj
    have hw := wrap_succ hj (by omega)
    rw [drop_cons _ _ hj]
    unfold areB
    rw [List.all_cons]
    by_cases c1 : bt s (j : Int) = 48
    · have e : isBit s.data.toList[j] = true := by unfold isBit; have : s.data.toList[j].toNat = 48 := by omega
                                                   rw [this]; rfl
      rw [e, Bool.true_and]
      exact Ev.step (fun k => by rw [spec_l01Bits.l0, if_pos (by omega), if_pos (by omega), if_pos c1, hw]) (ih (j + 1) (by omega))
    · by_cases c2 : bt s (j : Int) = 49
      · have e : isBit s.data.toList[j] = true := by unfold isBit; have : s.data.toList[j].toNat = 49 := by omega
                                                     rw [this]; rfl
        rw [e, Bool.true_and]
        exact Ev.step (fun k => by rw [spec_l01Bits.l0, if_pos (by omega), if_pos (by omega), if_neg c1, if_pos c2, hw]) (ih (j + 1) (by omega))
      · have e : isBit s.data.toList[j] = false := by
          unfold isBit
          obtain ⟨n, hn⟩ : ∃ n, n = s.data.toList[j].toNat := ⟨_, rfl⟩
          rw [← hn] at hb ⊢
          have h1 : (n == 48) = false := beq_eq_false_iff_ne.2 (by omega)
          have h2 : (n == 49) = false := beq_eq_false_iff_ne.2 (by omega)
          rw [h1, h2]; rfl
        rw [e, Bool.false_and, Bool.false_and]
        exact ev_one (fun k => by rw [spec_l01Bits.l0, if_pos (by omega), if_pos (by omega), if_neg c1, if_neg c2])
def IB (s : ByteArray) : Bool := areB s.data.toList && decide ((s.size : Int) ≤ 400)
theorem specBits_ev (s : ByteArray) (hn : s.size ≤ 9223372036854775807) : Ev (fun k => spec_l01Bits.f k s) (IB s) := specBits_loop s hn s.data.toList.length 0 (by omega)

theorem areBits_f (s : ByteArray) (hn : s.size ≤ 9223372036854775807) : impl_areBits.f s = some (areB s.data.toList) := by
  unfold impl_areBits.f strings_Trim.f
  rw [if_pos ⟨rfl, hn⟩, Option.bind_some]
  have e : (⟨(Lib.trimS s.data.toList [48, 49]).toArray⟩ : ByteArray).toList = Lib.trimS s.data.toList [48, 49] := by
    rw [Lib.toList_data]
  rw [e, ← trim_nil]

theorem ones_loop (s : ByteArray) (hn : s.size ≤ 1000) (hb : areB s.data.toList = true) (d : Nat) : ∀ (j : Nat) (acc : Int), j + d = s.size → 0 ≤ acc → acc ≤ j →
    Ev (fun k => spec_l01Ones.l0 k s acc (j : Int)) (acc + Lib.countByte (s.data.toList.drop j) 49) := by
  have hs := size_l s
  induction d with
  | zero =>
    intro j acc h _ _
    rw [List.drop_eq_nil_of_le (by omega)]
    exact ev_one (fun k => by rw [spec_l01Ones.l0, if_neg (by omega)]; simp [Lib.countByte])
  | succ d ih =>
    intro j acc h h0 h1
    have hj : j < s.data.toList.length := by omega
    have hw := wrap_succ (j := j) (n := s.size) (by omega) (by omega)
    have hbt := bt_l s j hj
    have hbit : s.data.toList[j].toNat = 48 ∨ s.data.toList[j].toNat = 49 := by
      have := List.all_eq_true.1 hb _ (List.getElem_mem hj)
      unfold isBit at this
      rw [Bool.or_eq_true, beq_iff_eq, beq_iff_eq] at this
      exact this
    rw [drop_cons _ _ hj]
    rcases hbit with hbit | hbit
    · have e0 : ((bt s (j : Int)) - 48) % 256 = 0 := by omega
      have ew : wrap64 (acc + 0) = acc := by rw [Int.add_zero, wrap64_in (by omega) (by omega)]
      have ne : (s.data.toList[j] == 49) = false := by
        rw [beq_eq_false_iff_ne]
        intro hh
        rw [hh] at hbit
        exact absurd hbit (by decide)
      have ec : Lib.countByte (s.data.toList[j] :: s.data.toList.drop (j + 1)) 49 = Lib.countByte (s.data.toList.drop (j + 1)) 49 := by unfold Lib.countByte; rw [List.count_cons, ne]; rfl
      rw [ec]
      exact Ev.step (fun k => by rw [spec_l01Ones.l0, if_pos (by omega), if_pos (by omega), e0, ew, hw]) (ih (j + 1) acc (by omega) h0 (by omega))
    · have e0 : ((bt s (j : Int)) - 48) % 256 = 1 := by omega
      have ew : wrap64 (acc + 1) = acc + 1 := wrap64_in (by omega) (by omega)
      have ne : s.data.toList[j] = 49 := by rw [← UInt8.toNat_inj]; exact hbit
      have ec : ((Lib.countByte (s.data.toList[j] :: s.data.toList.drop (j + 1)) 49 : Nat) : Int) = 1 + ((Lib.countByte (s.data.toList.drop (j + 1)) 49 : Nat) : Int) := by unfold Lib.countByte; rw [List.count_cons, ne]; simp; omega
      have := ih (j + 1) (acc + 1) (by omega) (by omega) (by omega)
      rw [ec, ← Int.add_assoc]
      exact Ev.step (fun k => by rw [spec_l01Ones.l0, if_pos (by omega), if_pos (by omega), e0, ew, hw]) this

theorem rdS_get (l : List ByteArray) (j : Nat) (h : j < l.length) : rdOf ByteArray.empty l (j : Int) = l[j] := by
  unfold rdOf; rw [Int.toNat_natCast, List.getD_eq_getElem?_getD, List.getElem?_eq_getElem h]; rfl
theorem idx_both (L : List ByteArray) (s : ByteArray) (hn : L.length ≤ 1048576) (d : Nat) : ∀ j : Nat, j + d = L.length → ∃ r, Ev (fun k => spec_l03Index.l0 k L s (j : Int)) r ∧ Ev (fun k => slices_Index_string_string.l0 k L s (L.length : Int) (j : Int)) r ∧ (r ≥ 0 ↔ s.toList ∈ (L.drop j).map ByteArray.toList) ∧ (r < 0 → r = -1) ∧ (0 ≤ r → ∃ i : Nat, r = i ∧ j ≤ i ∧ ∃ h : i < L.length, L[i].toList = s.toList) := by
  induction d with
  | zero =>
    intro j h
    refine ⟨-1, ev_one (fun k => by rw [spec_l03Index.l0, if_neg (by omega)]), ev_one (fun k => by rw [slices_Index_string_string.l0, if_neg (by omega)]), ?_, fun _ => rfl, fun h => by omega⟩
    rw [List.drop_eq_nil_of_le (by omega)]; simp
  | succ d ih =>
    intro j h
    have hj : j < L.length := by omega
    have hw := wrap_succ hj (by omega)
    rw [drop_cons _ _ hj, List.map_cons, List.mem_cons]
    by_cases c : L[j].toList = s.toList
    · exact ⟨(j : Int), ev_one (fun k => by rw [spec_l03Index.l0, if_pos (by omega), if_pos (by omega), rdS_get _ _ hj, if_pos c]), ev_one (fun k => by rw [slices_Index_string_string.l0, if_pos (by omega), if_pos (by omega), if_pos (by omega), rdS_get _ _ hj, if_pos c.symm]), ⟨fun _ => .inl c.symm, fun _ => by omega⟩, fun h => by omega, fun _ => ⟨j, rfl, Nat.le_refl _, hj, c⟩⟩
    · obtain ⟨r, r1, r2, r3, r4, r5⟩ := ih (j + 1) (by omega)
      exact ⟨r, Ev.step (fun k => by rw [spec_l03Index.l0, if_pos (by omega), if_pos (by omega), rdS_get _ _ hj, if_neg c, hw]) r1, Ev.step (fun k => by rw [slices_Index_string_string.l0, if_pos (by omega), if_pos (by omega), if_pos (by omega), rdS_get _ _ hj, if_neg (fun e => c e.symm), hw]) r2, r3.trans ⟨.inr, fun h => h.resolve_left (fun e => c e.symm)⟩, r4, fun h0 => by
        obtain ⟨i, e1, e2, e3⟩ := r5 h0
        exact ⟨i, e1, by omega, e3⟩⟩

def dsp (s : ByteArray) : Int := wrap64 ((wrap64 (2 * ((Lib.countByte s.data.toList 49 : Nat) : Int))) - (s.size : Int))
theorem disp_f (s : ByteArray) : impl_disparity.f s = some (dsp s) := by
  unfold impl_disparity.f strings_Count.f
  rw [if_pos rfl]
  rfl
theorem ones_any (s : ByteArray) (hn : s.size ≤ 1048576) (d : Nat) : ∀ (j : Nat) (acc : Int), j + d = s.size → ∃ v, Ev (fun k => spec_l01Ones.l0 k s acc (j : Int)) v := by
  induction d with
  | zero => intro j acc h; exact ⟨acc, ev_one (fun k => by rw [spec_l01Ones.l0, if_neg (by omega)])⟩
  | succ d ih =>
    intro j acc h
    have hw := wrap_succ (j := j) (n := s.size) (by omega) (by omega)
    obtain ⟨v, hv⟩ := ih (j + 1) (wrap64 (acc + (((bt s (j : Int)) - 48) % 256))) (by omega)
    exact ⟨v, Ev.step (fun k => by rw [spec_l01Ones.l0, if_pos (by omega), if_pos (by omega), hw]) hv⟩
theorem IB_parts {s : ByteArray} (h : IB s = true) : areB s.data.toList = true ∧ s.size ≤ 400 := by
  unfold IB at h
  rw [Bool.and_eq_true, decide_eq_true_iff] at h
  exact ⟨h.1, by omega⟩
theorem specDisp_any (s : ByteArray) (hn : s.size ≤ 1048576) : ∃ v, Ev (fun k => spec_l03Disparity.f k s) v ∧ (IB s = true → v = dsp s) := by
  cases e : IB s with
  | false =>
    obtain ⟨v, hv⟩ := ones_any s hn s.size 0 0 (by omega)
    refine ⟨wrap64 ((wrap64 (2 * v)) - (s.size : Int)), ?_, fun h => by cases h⟩
    unfold spec_l03Disparity.f
    exact Ev.bind (f := fun k t => some (wrap64 ((wrap64 (2 * t)) - (s.size : Int)))) (show Ev (fun k => spec_l01Ones.f k s) v from hv) (Ev.now _)
  | true =>
    obtain ⟨e1, e2⟩ := IB_parts e
    have h := ones_loop s (by omega) e1 s.size 0 0 (by omega) (by omega) (by omega)
    rw [Int.zero_add, List.drop_zero] at h
    refine ⟨dsp s, ?_, fun _ => rfl⟩
    unfold spec_l03Disparity.f
    exact Ev.bind (f := fun k t => some (wrap64 ((wrap64 (2 * t)) - (s.size : Int)))) h (Ev.now _)
/-- A word of a list of a valid code. -/
def WOK (L : List ByteArray) (c1 o : Int) (i : Nat) (h : i < L.length) : Prop := areB L[i].data.toList = true ∧ (L[i].size : Int) = c1 ∧ (dsp L[i] = 0 ∨ dsp L[i] = o) ∧ ∀ (i' : Nat) (h' : i' < i), L[i'].toList ≠ L[i].toList
theorem words_both (L : List ByteArray) (c1 o : Int) (hc : c1 ≤ 400) (hn : L.length ≤ 1000) (hs : ∀ s ∈ L, s.size ≤ 1048576) (d : Nat) : ∀ (j : Nat) (seen : List (List UInt8)), j + d = L.length → seen.length ≤ j → (∀ y, y ∈ seen ↔ y ∈ (L.take j).map ByteArray.toList) →
    ∃ r, Ev (fun k => spec_l03Words.l0 k L c1 o (j : Int)) r ∧ Ev (fun k => impl_BlockCode_areWords.l0 k c1 L o seen (j : Int)) r ∧ (r = true → ∀ i : Nat, j ≤ i → ∀ h : i < L.length, WOK L c1 o i h) := by
  induction d with
  | zero => intro j seen h h1 h2; exact ⟨true, ev_one (fun k => by rw [spec_l03Words.l0, if_neg (by omega)]), ev_one (fun k => by rw [impl_BlockCode_areWords.l0, if_neg (by omega)]), fun _ i h1 h2 => by omega⟩
  | succ d ih =>
    intro j seen h h1 h2
    have hj : j < L.length := by omega
    have hw := wrap_succ hj (by omega)
    have hz := hs _ (List.getElem_mem hj)
    have hrd := rdS_get L j hj
    have htk := take_snoc' L j hj
    obtain ⟨s, hsj⟩ : ∃ s, s = L[j] := ⟨_, rfl⟩
    rw [← hsj] at hz hrd htk
    obtain ⟨v, hv, hv2⟩ := specDisp_any s hz
    have hb := specBits_ev s (by omega)
    have ia := areBits_f s (by omega)
    have st : ∀ R, Ev (fun k => if IB s = true then (if (s.size : Int) = c1 then (if v = 0 then ((spec_l03Index.f k (L.take j) s).bind fun t => (if t ≥ 0 then (some false) else (spec_l03Words.l0 k L c1 o ((j + 1 : Nat) : Int)))) else (if v = o then ((spec_l03Index.f k (L.take j) s).bind fun t => (if t ≥ 0 then (some false) else (spec_l03Words.l0 k L c1 o ((j + 1 : Nat) : Int)))) else some false)) else some false) else some false) R → Ev (fun k => spec_l03Words.l0 k L c1 o (j : Int)) R := by
      intro R hR
      refine Ev.step (fun k => by rw [spec_l03Words.l0, if_pos (by omega), if_pos (by omega), hrd, Int.toNat_natCast, hw, if_pos (show (j : Int) ≤ (L.length : Int) by omega)]) (Ev.bind hv (Ev.bind hb hR))
    have im : ∀ R, Ev (fun k => if (s.size : Int) = c1 then (if areB s.data.toList = true then (if dsp s = 0 ∨ dsp s = o then (if s.data.toList ∈ seen then some false else impl_BlockCode_areWords.l0 k c1 L o (s.data.toList :: seen) ((j + 1 : Nat) : Int)) else some false) else some false) else some false) R → Ev (fun k => impl_BlockCode_areWords.l0 k c1 L o seen (j : Int)) R := by
      intro R hR
      refine Ev.step (fun k => by rw [impl_BlockCode_areWords.l0, if_pos (by omega), if_pos (by omega), hrd, if_pos hz, disp_f, Option.bind_some, ia, Option.bind_some, if_pos (show seen.length < 1000000 by omega), hw]) hR
    cases e : IB s with
    | false =>
      refine ⟨false, st _ (ev_neg (by rw [e]; decide) (Ev.now _)), im _ ?_, (fun q => absurd q Bool.false_ne_true)⟩
      by_cases c : (s.size : Int) = c1
      · have hB : areB s.data.toList = false := by
          unfold IB at e
          rw [decide_eq_true (show (s.size : Int) ≤ 400 by omega), Bool.and_true] at e
          exact e
        exact ev_pos c (ev_neg (by rw [hB]; decide) (Ev.now _))
      · exact ev_neg c (Ev.now _)
    | true =>
      obtain ⟨p1, p2⟩ := IB_parts e
      obtain rfl := hv2 e
      by_cases c : (s.size : Int) = c1
      · obtain ⟨i, i1, _, i3, _, _⟩ := idx_both (L.take j) s (by rw [List.length_take]; omega) (L.take j).length 0 (by omega)
        rw [List.drop_zero, ← h2, Lib.toList_data] at i3
        have i1' : Ev (fun k => spec_l03Index.f k (L.take j) s) i := i1
        by_cases c9 : s.data.toList ∈ seen
        · have go : Ev (fun k => (spec_l03Index.f k (L.take j) s).bind fun t => (if t ≥ 0 then (some false) else (spec_l03Words.l0 k L c1 o ((j + 1 : Nat) : Int)))) false := Ev.bind i1' (ev_pos (i3.2 c9) (Ev.now _))
          refine ⟨false, st _ (ev_pos e (ev_pos c ?_)), im _ (ev_pos c (ev_pos p1 ?_)), (fun q => absurd q Bool.false_ne_true)⟩
          · by_cases c8 : dsp s = 0
            · exact ev_pos c8 go
            · by_cases c7 : dsp s = o
              · exact ev_neg c8 (ev_pos c7 go)
              · exact ev_neg c8 (ev_neg c7 (Ev.now _))
          · by_cases c8 : dsp s = 0 ∨ dsp s = o
            · exact ev_pos c8 (ev_pos c9 (Ev.now _))
            · exact ev_neg c8 (Ev.now _)
        · by_cases c8 : dsp s = 0 ∨ dsp s = o
          · obtain ⟨r, r1, r2, r3⟩ := ih (j + 1) (s.data.toList :: seen) (by omega) (by simp; omega) (by
              intro y
              rw [htk, List.map_append, List.mem_append, List.mem_cons, h2, Or.comm]
              simp [Lib.toList_data])
            have go : Ev (fun k => (spec_l03Index.f k (L.take j) s).bind fun t => (if t ≥ 0 then (some false) else (spec_l03Words.l0 k L c1 o ((j + 1 : Nat) : Int)))) r := Ev.bind i1' (ev_neg (fun hh => c9 (i3.1 hh)) r1)
            refine ⟨r, st _ (ev_pos e (ev_pos c ?_)), im _ (ev_pos c (ev_pos p1 (ev_pos c8 (ev_neg c9 r2)))), fun q i h1 h2' => ?_⟩
            rotate_left
            · by_cases ci : i = j
              · subst ci
                refine ⟨by rw [← hsj]; exact p1, by rw [← hsj]; exact c, by rw [← hsj]; exact c8, fun i' hi' he => ?_⟩
                apply c9
                rw [h2, ← Lib.toList_data, hsj, ← he]
                exact List.mem_map.2 ⟨L[i'], List.mem_take_iff_getElem.2 ⟨i', by omega, rfl⟩, rfl⟩
              · exact r3 q i (by omega) h2'
            by_cases c7 : dsp s = 0
            · exact ev_pos c7 go
            · exact ev_neg c7 (ev_pos (c8.resolve_left c7) go)
          · exact ⟨false, st _ (ev_pos e (ev_pos c (ev_neg (fun hh => c8 (.inl hh)) (ev_neg (fun hh => c8 (.inr hh)) (Ev.now _))))), im _ (ev_pos c (ev_pos p1 (ev_neg c8 (Ev.now _)))), (fun q => absurd q Bool.false_ne_true)⟩
      · exact ⟨false, st _ (ev_pos e (ev_neg c (Ev.now _))), im _ (ev_neg c (Ev.now _)), (fun q => absurd q Bool.false_ne_true)⟩

theorem last_both (L2 L3 : List ByteArray) (hn2 : L2.length ≤ 1048576) (hn3 : L3.length ≤ 1048576) (a0 a1 : Int) (d : Nat) : ∀ j : Nat, j + d = L2.length →
    ∃ r, Ev (fun k => spec_l03Is.l0 k (L2.length : Int) (j : Int) a0 a1 L2 L3) r ∧ Ev (fun k => impl_ValidBlockCode.l0 k L2 (L2.length : Int) (j : Int) a0 a1 L2 L3) r ∧ (r = true → ∀ i : Nat, j ≤ i → ∀ (h : i < L2.length) (i' : Nat) (h' : i' < L3.length), L2[i].toList = L3[i'].toList → (∀ (p q : Nat) (hp : p < L3.length) (hq : q < L3.length), p < q → L3[p].toList ≠ L3[q].toList) → i = i') := by
  induction d with
  | zero => intro j h; exact ⟨true, ev_one (fun k => by rw [spec_l03Is.l0, if_neg (by omega)]), ev_one (fun k => by rw [impl_ValidBlockCode.l0, if_neg (by omega)]), fun _ i h1 h2 => by omega⟩
  | succ d ih =>
    intro j h
    have hj : j < L2.length := by omega
    have hw := wrap_succ hj (by omega)
    have hrd := rdS_get L2 j hj
    obtain ⟨i, i1, i2, i3, _, i5⟩ := idx_both L3 L2[j] hn3 L3.length 0 (by omega)
    rw [List.drop_zero] at i3
    have i1' : Ev (fun k => spec_l03Index.f k L3 L2[j]) i := i1
    have i2' : Ev (fun k => slices_Index_string_string.f k L3 L2[j]) i := i2
    obtain ⟨r, r1, r2, r3⟩ := ih (j + 1) (by omega)
    have sp : ∀ R, Ev (fun k => if i ≥ 0 then (if i = (j : Int) then spec_l03Is.l0 k (L2.length : Int) ((j + 1 : Nat) : Int) a0 a1 L2 L3 else some false) else spec_l03Is.l0 k (L2.length : Int) ((j + 1 : Nat) : Int) a0 a1 L2 L3) R → Ev (fun k => spec_l03Is.l0 k (L2.length : Int) (j : Int) a0 a1 L2 L3) R :=
      fun R hR => Ev.step (fun k => by rw [spec_l03Is.l0, if_pos (by omega), if_pos (by omega), if_pos (by omega), hrd, hw]) (Ev.bind i1' hR)
    have im : ∀ R, Ev (fun k => if i ≥ 0 then (if i = (j : Int) then impl_ValidBlockCode.l0 k L2 (L2.length : Int) ((j + 1 : Nat) : Int) a0 a1 L2 L3 else some false) else impl_ValidBlockCode.l0 k L2 (L2.length : Int) ((j + 1 : Nat) : Int) a0 a1 L2 L3) R → Ev (fun k => impl_ValidBlockCode.l0 k L2 (L2.length : Int) (j : Int) a0 a1 L2 L3) R :=
      fun R hR => Ev.step (fun k => by rw [impl_ValidBlockCode.l0, if_pos (by omega), if_pos (by omega), if_pos (by omega), hrd, hw]) (Ev.bind i2' hR)
    by_cases c : i ≥ 0
    · by_cases c2 : i = (j : Int)
      · refine ⟨r, sp _ (ev_pos c (ev_pos c2 r1)), im _ (ev_pos c (ev_pos c2 r2)), fun q z h1 h2 i' h' he hd => ?_⟩
        by_cases cz : z = j
        · subst cz
          obtain ⟨y, e1, _, e2, e3⟩ := i5 c
          have ey : y = z := by omega
          subst ey
          rcases Nat.lt_trichotomy y i' with g | g | g
          · exact absurd (e3.trans he) (hd y i' e2 h' g)
          · exact g
          · exact absurd (e3.trans he).symm (hd i' y h' e2 g)
        · exact r3 q z (by omega) h2 i' h' he hd
      · exact ⟨false, sp _ (ev_pos c (ev_neg c2 (Ev.now _))), im _ (ev_pos c (ev_neg c2 (Ev.now _))), (fun q => absurd q Bool.false_ne_true)⟩
    · refine ⟨r, sp _ (ev_neg c r1), im _ (ev_neg c r2), fun q z h1 h2 i' h' he hd => ?_⟩
      by_cases cz : z = j
      · subst cz
        exact absurd (i3.2 (by rw [he]; exact List.mem_map.2 ⟨L3[i'], List.getElem_mem h', rfl⟩)) c
      · exact r3 q z (by omega) h2 i' h' he hd
theorem shl_data (a : Int) (h : 1 ≤ a ∧ a ≤ 6) : shl .i64 1 a = wrap64 (2 ^ min a.toNat 64) ∧ shl .i64 1 a ≤ 64 := by
  have : a = 1 ∨ a = 2 ∨ a = 3 ∨ a = 4 ∨ a = 5 ∨ a = 6 := by omega
  rcases this with rfl | rfl | rfl | rfl | rfl | rfl <;> decide +kernel
theorem isData_f (a : Int) : impl_isData.f a = some (decide (1 ≤ a ∧ a ≤ 6)) := by
  unfold impl_isData.f
  rw [impl_in]; rfl
theorem isWidth_f (a : Int) : impl_isWidth.f a = some (decide (2 ≤ a ∧ a ≤ 12) && ((Int.tmod a 2) == 0)) := by
  unfold impl_isWidth.f
  rw [impl_in, Option.bind_some]
  by_cases c : 2 ≤ a ∧ a ≤ 12
  · rw [decide_eq_true c, if_pos rfl, Bool.true_and]
  · rw [decide_eq_false c, if_neg Bool.false_ne_true, Bool.false_and]
/-- A valid block code. -/
structure VC (a0 a1 : Int) (L2 L3 : List ByteArray) : Prop where
  data : 1 ≤ a0 ∧ a0 ≤ 6
  width : 2 ≤ a1 ∧ a1 ≤ 12
  even : Int.tmod a1 2 = 0
  n2 : (L2.length : Int) = shl .i64 1 a0
  n3 : (L3.length : Int) = shl .i64 1 a0
  w2 : ∀ (i : Nat) (h : i < L2.length), WOK L2 a1 2 i h
  w3 : ∀ (i : Nat) (h : i < L3.length), WOK L3 a1 (-2) i h
  cross : ∀ (i : Nat) (h : i < L2.length) (i' : Nat) (h' : i' < L3.length), L2[i].toList = L3[i'].toList → i = i'
theorem code_both (a0 a1 : Int) (L2 L3 : List ByteArray) (h2 : L2.length ≤ 1048576) (h3 : L3.length ≤ 1048576) (s2 : ∀ s ∈ L2, s.size ≤ 1048576) (s3 : ∀ s ∈ L3, s.size ≤ 1048576) :
    ∃ r, Ev (fun k => spec_l03Is.f k a0 a1 L2 L3) r ∧ Ev (fun k => impl_ValidBlockCode.f k a0 a1 L2 L3) r ∧ (r = true → VC a0 a1 L2 L3) := by
  have sno : Ev (fun k => spec_l03Is.j0 k true a0 a1 L2 L3) false := ev_one (fun k => by rw [spec_l03Is.j0, if_pos rfl])
  have sn1 : ∀ n, Ev (fun k => spec_l03Is.j1 k n true a0 a1 L2 L3) false := fun n => ev_one (fun k => by rw [spec_l03Is.j1, if_pos rfl])
  have ino : Ev (fun k => impl_ValidBlockCode.j0 k true a0 a1 L2 L3) false := ev_one (fun k => by rw [impl_ValidBlockCode.j0, if_pos rfl])
  unfold spec_l03Is.f impl_ValidBlockCode.f
  by_cases c0 : 1 ≤ a0 ∧ a0 ≤ 6
  · by_cases c1 : 2 ≤ a1 ∧ a1 ≤ 12
    · by_cases ct : (Int.tmod a1 2) = 0
      · have hd := isData_f a0
        have hwd := isWidth_f a1
        rw [decide_eq_true c0] at hd
        rw [decide_eq_true c1, ct] at hwd
        have hs0 := spec_in a0 1 6
        have hs1 := spec_in a1 2 12
        rw [decide_eq_true c0] at hs0
        rw [decide_eq_true c1] at hs1
        have hu : IntKind.u64.wrap a0 = a0 := u64_in (by omega) (by omega)
        obtain ⟨hsh, hle⟩ := shl_data a0 c0
        suffices h : ∃ r, (r = true → VC a0 a1 L2 L3) ∧ Ev (fun k => if (L2.length : Int) = shl .i64 1 a0 then (if (L3.length : Int) = shl .i64 1 a0 then ((spec_l03Words.f k L2 a1 2).bind fun t => (if t = true then ((spec_l03Words.f k L3 a1 (-2)).bind fun t2 => (spec_l03Is.j1 k (shl .i64 1 a0) (!t2) a0 a1 L2 L3)) else (spec_l03Is.j1 k (shl .i64 1 a0) true a0 a1 L2 L3))) else (spec_l03Is.j1 k (shl .i64 1 a0) true a0 a1 L2 L3)) else (spec_l03Is.j1 k (shl .i64 1 a0) true a0 a1 L2 L3)) r ∧
            Ev (fun k => (impl_BlockCode_areWords.f k a0 a1 L2 L3 L2 2).bind fun t => (if t = true then ((impl_BlockCode_areWords.f k a0 a1 L2 L3 L3 (-2)).bind fun t2 => (impl_ValidBlockCode.j0 k (!t2) a0 a1 L2 L3)) else (impl_ValidBlockCode.j0 k true a0 a1 L2 L3))) r by
          obtain ⟨r, r0, r1, r2⟩ := h
          refine ⟨r, ev_to hs0 (ev_pos rfl (ev_to hs1 (ev_pos rfl ?_))), ev_to hd (ev_pos rfl (ev_to hwd (ev_pos rfl r2))), r0⟩
          exact Ev.step (fun k => by rw [ct, spec_l03Is.j0, if_neg (by decide), hu, if_pos (by omega)]) r1
        have aw : ∀ (L : List ByteArray) (o : Int) (R : Bool), (L.length : Int) = shl .i64 1 a0 → Ev (fun k => impl_BlockCode_areWords.l0 k a1 L o [] 0) R → Ev (fun k => impl_BlockCode_areWords.f k a0 a1 L2 L3 L o) R := by
          intro L o R hL hR
          unfold impl_BlockCode_areWords.f
          exact ev_pos (by omega) (ev_pos (by rw [hL, hsh]) hR)
        have an : ∀ (L : List ByteArray) (o : Int), (L.length : Int) ≠ shl .i64 1 a0 → Ev (fun k => impl_BlockCode_areWords.f k a0 a1 L2 L3 L o) false := by
          intro L o hL
          unfold impl_BlockCode_areWords.f
          exact ev_pos (by omega) (ev_neg (by rw [← hsh]; exact hL) (Ev.now _))
        by_cases e2 : (L2.length : Int) = shl .i64 1 a0
        · obtain ⟨w2, w2s, w2i, w2k⟩ := words_both L2 a1 2 (by omega) (by omega) s2 L2.length 0 [] (by omega) (by simp) (by simp)
          have w2s' : Ev (fun k => spec_l03Words.f k L2 a1 2) w2 := w2s
          have w2i' := aw L2 2 w2 e2 w2i
          by_cases e3 : (L3.length : Int) = shl .i64 1 a0
          · obtain ⟨w3, w3s, w3i, w3k⟩ := words_both L3 a1 (-2) (by omega) (by omega) s3 L3.length 0 [] (by omega) (by simp) (by simp)
            have w3s' : Ev (fun k => spec_l03Words.f k L3 a1 (-2)) w3 := w3s
            have w3i' := aw L3 (-2) w3 e3 w3i
            cases w2 with
            | false => exact ⟨false, (fun q => absurd q Bool.false_ne_true), ev_pos e2 (ev_pos e3 (Ev.bind w2s' (ev_neg Bool.false_ne_true (sn1 _)))), Ev.bind w2i' (ev_neg Bool.false_ne_true ino)⟩
            | true =>
              cases w3 with
              | false => exact ⟨false, (fun q => absurd q Bool.false_ne_true), ev_pos e2 (ev_pos e3 (Ev.bind w2s' (ev_pos rfl (Ev.bind w3s' (sn1 _))))), Ev.bind w2i' (ev_pos rfl (Ev.bind w3i' ino))⟩
              | true =>
                obtain ⟨r, r1, r2, r3⟩ := last_both L2 L3 h2 h3 a0 a1 L2.length 0 (by omega)
                refine ⟨r, fun q => ⟨c0, c1, ct, e2, e3, fun i h => w2k rfl i (Nat.zero_le _) h, fun i h => w3k rfl i (Nat.zero_le _) h, fun i h i' h' he => r3 q i (Nat.zero_le _) h i' h' he (fun p q' hp hq hpq => (w3k rfl q' (Nat.zero_le _) hq).2.2.2 p hpq)⟩, ev_pos e2 (ev_pos e3 (Ev.bind w2s' (ev_pos rfl (Ev.bind w3s' ?_)))), Ev.bind w2i' (ev_pos rfl (Ev.bind w3i' ?_))⟩
                · exact Ev.step (f := fun k => spec_l03Is.l0 k (L2.length : Int) 0 a0 a1 L2 L3) (fun k => by rw [spec_l03Is.j1, if_neg (by decide), e2]) r1
                · exact Ev.step (f := fun k => impl_ValidBlockCode.l0 k L2 (L2.length : Int) 0 a0 a1 L2 L3) (fun k => by rw [impl_ValidBlockCode.j0, if_neg (by decide)]) r2
          · refine ⟨false, (fun q => absurd q Bool.false_ne_true), ev_pos e2 (ev_neg e3 (sn1 _)), Ev.bind w2i' ?_⟩
            cases w2 with
            | false => exact ev_neg Bool.false_ne_true ino
            | true => exact ev_pos rfl (Ev.bind (an L3 (-2) e3) ino)
        · exact ⟨false, (fun q => absurd q Bool.false_ne_true), ev_neg e2 (sn1 _), Ev.bind (an L2 2 e2) (ev_neg Bool.false_ne_true ino)⟩
      · have hd := isData_f a0
        have hwd := isWidth_f a1
        rw [decide_eq_true c0] at hd
        rw [decide_eq_true c1, Bool.true_and, show ((Int.tmod a1 2) == 0) = false from by simpa using ct] at hwd
        have hs0 := spec_in a0 1 6
        have hs1 := spec_in a1 2 12
        rw [decide_eq_true c0] at hs0
        rw [decide_eq_true c1] at hs1
        refine ⟨false, ev_to hs0 (ev_pos rfl (ev_to hs1 (ev_pos rfl ?_))), ev_to hd (ev_pos rfl (ev_to hwd (ev_neg Bool.false_ne_true ino))), (fun q => absurd q Bool.false_ne_true)⟩
        rw [show ((Int.tmod a1 2) != 0) = true from by simpa using ct]
        exact sno
    · have hd := isData_f a0
      have hwd := isWidth_f a1
      rw [decide_eq_true c0] at hd
      rw [decide_eq_false c1, Bool.false_and] at hwd
      have hs0 := spec_in a0 1 6
      have hs1 := spec_in a1 2 12
      rw [decide_eq_true c0] at hs0
      rw [decide_eq_false c1] at hs1
      exact ⟨false, ev_to hs0 (ev_pos rfl (ev_to hs1 (ev_neg Bool.false_ne_true sno))), ev_to hd (ev_pos rfl (ev_to hwd (ev_neg Bool.false_ne_true ino))), (fun q => absurd q Bool.false_ne_true)⟩
  · have hd := isData_f a0
    have hs0 := spec_in a0 1 6
    rw [decide_eq_false c0] at hd hs0
    exact ⟨false, ev_to hs0 (ev_neg Bool.false_ne_true sno), ev_to hd (ev_neg Bool.false_ne_true ino), (fun q => absurd q Bool.false_ne_true)⟩

theorem VC.le64 {a0 a1 : Int} {L2 L3 : List ByteArray} (h : VC a0 a1 L2 L3) : L2.length ≤ 64 ∧ L3.length ≤ 64 := by
  have h1 := (shl_data a0 h.data).2
  have h2 := h.n2
  have h3 := h.n3
  omega
/-- A word's bits, whichever list it is of. -/
theorem VC.mem {a0 a1 : Int} {L2 L3 : List ByteArray} (h : VC a0 a1 L2 L3) {w : ByteArray} (hw : w ∈ L2 ∨ w ∈ L3) : IB w = true ∧ (w.size : Int) = a1 ∧ w.size ≤ 12 := by
  have hd := h.width
  rcases hw with hw | hw
  · obtain ⟨i, hi, rfl⟩ := List.mem_iff_getElem.1 hw
    obtain ⟨p1, p2, _⟩ := h.w2 i hi
    exact ⟨by unfold IB; rw [p1, decide_eq_true (by omega)]; rfl, p2, by omega⟩
  · obtain ⟨i, hi, rfl⟩ := List.mem_iff_getElem.1 hw
    obtain ⟨p1, p2, _⟩ := h.w3 i hi
    exact ⟨by unfold IB; rw [p1, decide_eq_true (by omega)]; rfl, p2, by omega⟩
/-- The state behind a word. -/
def nxt (st : Int) (w : ByteArray) : Int := if dsp w > 0 then 1 else if dsp w < 0 then -1 else st
theorem implBehindS_f (st : Int) (w : ByteArray) : impl_stateBehind.f st w = some (nxt st w) := by
  unfold impl_stateBehind.f nxt
  rw [disp_f, Option.bind_some]
  by_cases c : dsp w > 0
  · rw [if_pos c, if_pos c]
  · rw [if_neg c, if_neg c]
    by_cases c2 : dsp w < 0
    · rw [if_pos c2, if_pos c2]
    · rw [if_neg c2, if_neg c2]
theorem specNext_ev (st : Int) (w : ByteArray) (h : IB w = true) : Ev (fun k => spec_l03Next.f k st w) (nxt st w) := by
  obtain ⟨p1, p2⟩ := IB_parts h
  obtain ⟨v, hv, hv2⟩ := specDisp_any w (by omega)
  obtain rfl := hv2 h
  obtain ⟨r, hr⟩ : ∃ r, r = nxt st w := ⟨_, rfl⟩
  rw [← hr]
  unfold nxt at hr
  unfold spec_l03Next.f
  refine Ev.bind hv ?_
  by_cases c : dsp w > 0
  · rw [if_pos c] at hr
    rw [hr]
    exact ev_pos c (Ev.now _)
  · rw [if_neg c] at hr
    refine ev_neg c ?_
    by_cases c2 : dsp w < 0
    · rw [if_pos c2] at hr
      rw [hr]
      exact ev_pos c2 (Ev.now _)
    · rw [if_neg c2] at hr
      rw [hr]
      exact ev_neg c2 (Ev.now _)
def lst (L2 L3 : List ByteArray) (st : Int) : List ByteArray := if st < 0 then L2 else L3
theorem lst_mem {L2 L3 : List ByteArray} {st : Int} {w : ByteArray} (h : w ∈ lst L2 L3 st) : w ∈ L2 ∨ w ∈ L3 := by
  unfold lst at h
  split at h
  · exact .inl h
  · exact .inr h

theorem take_prefix (t l : List UInt8) : (l.take t.length == t) = t.isPrefixOf l := by
  rw [Bool.eq_iff_iff, beq_iff_eq, List.isPrefixOf_iff_prefix, List.prefix_iff_eq_take]
  exact eq_comm
theorem occAt_short (s t : List UInt8) (j : Nat) (h : s.length < j + t.length) (ht : 0 < t.length) : Lib.occAt s t j = false := by
  unfold Lib.occAt
  rw [Bool.eq_false_iff, ne_eq, List.isPrefixOf_iff_prefix]
  intro q
  have := q.length_le
  rw [List.length_drop] at this
  omega
theorem extract_list (s : ByteArray) (i j : Nat) : (s.extract i j).toList = (s.data.toList.drop i).take (j - i) := by
  rw [Lib.toList_data, ByteArray.data_extract, Array.toList_extract, List.extract_eq_take_drop]
theorem occAt_drop (s t : List UInt8) (i j : Nat) : Lib.occAt (s.drop i) t j = Lib.occAt s t (i + j) := by
  unfold Lib.occAt
  rw [List.drop_drop]

theorem areB_extract (s : ByteArray) (i j : Nat) (h : areB s.data.toList = true) : areB (s.extract i j).data.toList = true := by
  unfold areB at h ⊢
  rw [List.all_eq_true] at h ⊢
  intro x hx
  apply h
  rw [ByteArray.data_extract, Array.toList_extract] at hx
  exact List.mem_of_mem_drop (List.mem_of_mem_take hx)
theorem nxt_pm {st : Int} (h : st = 1 ∨ st = -1) (w : ByteArray) : nxt st w = 1 ∨ nxt st w = -1 := by
  unfold nxt
  split
  · exact .inl rfl
  · split
    · exact .inr rfl
    · exact h
theorem slneg (a0 a1 : Int) (L2 L3 : List ByteArray) : spec_l03List_neg.f a0 a1 L2 L3 (-1) = some () := if_pos (by decide)
theorem slpos (a0 a1 : Int) (L2 L3 : List ByteArray) : spec_l03List_pos.f a0 a1 L2 L3 1 = some () := if_pos (by decide)
theorem app_l (s u : ByteArray) : (s ++ u).data.toList = s.data.toList ++ u.data.toList := by simp [ByteArray.data_append]
def cutL (t : List UInt8) (n p : Nat) : List UInt8 := (t.drop p).take n
/-- z is a part of t, n long, that begins within its first half. -/
def Part (W n : Nat) (t z : List UInt8) : Prop := ∃ p, p < W ∧ p + n ≤ 2 * W ∧ z = cutL t n p
theorem parts_l3 (L2 L3 : List ByteArray) (y : List Int) (x st : Int) (l : List ByteArray) (j : Int) (s : ByteArray) (m : List ByteArray) (i : Int) (t : ByteArray) (W n : Nat) (hs : s.size = W) (ht : t.size = 2 * W) (hW : W ≤ 12) (hn : n ≤ 13) (d : Nat) : ∀ (q : Nat) (seen : List (List UInt8)), q + d = W → seen.length + d < 1000000 →
    ∃ seen', (∀ z, z ∈ seen' ↔ z ∈ seen ∨ ∃ p, q ≤ p ∧ p < W ∧ p + n ≤ 2 * W ∧ z = cutL t.data.toList n p) ∧ seen'.length ≤ seen.length + d ∧ ∀ R, Ev (fun k => impl_BlockCode_parts.l2 k L2 L3 (n : Int) y x st l j s m (wrap64 (i + 1)) seen') R → Ev (fun k => impl_BlockCode_parts.l3 k L2 L3 (n : Int) y x st l j s m i t (q : Int) seen) R := by
  induction d with
  | zero =>
    intro q seen h h1
    refine ⟨seen, fun z => ⟨.inl, fun hh => hh.elim id fun ⟨p, p1, p2, _⟩ => by omega⟩, by omega, fun R hR => ?_⟩
    refine Ev.step (fun k => ?_) hR
    simp only [impl_BlockCode_parts.l3]
    by_cases c : wrap64 ((q : Int) + (n : Int)) ≤ (t.size : Int)
    · rw [if_pos c, if_neg (by omega)]
    · rw [if_neg c]
  | succ d ih =>
    intro q seen h h1
    have hw : wrap64 ((q : Int) + (n : Int)) = ((q + n : Nat) : Int) := by rw [wrap64_in (by omega) (by omega)]; omega
    have hq : wrap64 ((q : Int) + 1) = ((q + 1 : Nat) : Int) := by rw [wrap64_in (by omega) (by omega)]; omega
    by_cases c : q + n ≤ 2 * W
    · have ez : (t.extract q (q + n)).data.toList = cutL t.data.toList n q := by
        rw [ByteArray.data_extract, Array.toList_extract, List.extract_eq_take_drop, show q + n - q = n by omega]
        rfl
      obtain ⟨seen', e1, e2, e3⟩ := ih (q + 1) (cutL t.data.toList n q :: seen) (by omega) (by simp; omega)
      refine ⟨seen', fun z => ?_, by simp at e2; omega, fun R hR => ?_⟩
      · rw [e1, List.mem_cons]
        constructor
        · rintro ((rfl | hh) | ⟨p, p1, p2, p3, p4⟩)
          · exact .inr ⟨q, Nat.le_refl _, by omega, c, rfl⟩
          · exact .inl hh
          · exact .inr ⟨p, by omega, p2, p3, p4⟩
        · rintro (hh | ⟨p, p1, p2, p3, p4⟩)
          · exact .inl (.inr hh)
          · by_cases e : p = q
            · subst e; exact .inl (.inl p4)
            · exact .inr ⟨p, by omega, p2, p3, p4⟩
      · refine Ev.step (fun k => ?_) (e3 R hR)
        simp only [impl_BlockCode_parts.l3]
        rw [hw, hq, Int.toNat_natCast, Int.toNat_natCast, ez, if_pos (by omega), if_pos (by omega), if_pos (by omega), if_pos (by omega), if_pos (by rw [ByteArray.size_extract]; omega), if_pos (by omega)]
    · refine ⟨seen, fun z => ⟨.inl, fun hh => hh.elim id fun ⟨p, p1, p2, p3, _⟩ => by omega⟩, by omega, fun R hR => ?_⟩
      refine Ev.step (fun k => ?_) hR
      simp only [impl_BlockCode_parts.l3]
      rw [hw, if_neg (by omega)]
theorem parts_l2 (L2 L3 : List ByteArray) (y : List Int) (x st : Int) (l : List ByteArray) (j : Int) (s : ByteArray) (m : List ByteArray) (W n : Nat) (hs : s.size = W) (hm : ∀ v ∈ m, v.size = W) (hml : m.length ≤ 64) (hW : W ≤ 12) (hn : n ≤ 13) (d : Nat) : ∀ (i : Nat) (seen : List (List UInt8)), i + d = m.length → seen.length + 12 * d < 1000000 →
    ∃ seen', (∀ z, z ∈ seen' ↔ z ∈ seen ∨ ∃ v ∈ m.drop i, Part W n (s ++ v).data.toList z) ∧ seen'.length ≤ seen.length + 12 * d ∧ ∀ R, Ev (fun k => impl_BlockCode_parts.l1 k L2 L3 (n : Int) y x st l (wrap64 (j + 1)) seen') R → Ev (fun k => impl_BlockCode_parts.l2 k L2 L3 (n : Int) y x st l j s m (i : Int) seen) R := by
  induction d with
  | zero =>
    intro i seen h h1
    refine ⟨seen, fun z => ⟨.inl, fun hh => hh.elim id fun ⟨v, hv, _⟩ => ?_⟩, by omega, fun R hR => Ev.step (fun k => by simp only [impl_BlockCode_parts.l2]; rw [if_neg (by omega)]) hR⟩
    rw [List.drop_eq_nil_of_le (by omega)] at hv; cases hv
  | succ d ih =>
    intro i seen h h1
    have hi : i < m.length := by omega
    have hrd := rdS_get m i hi
    have hv := hm _ (List.getElem_mem hi)
    have hd := drop_cons m i hi
    generalize m[i] = v at hrd hv hd
    have hsz : (s ++ v).size = 2 * W := by rw [ByteArray.size_append]; omega
    obtain ⟨s1, f1, f2, f3⟩ := parts_l3 L2 L3 y x st l j s m (i : Int) (s ++ v) W n hs hsz hW hn W 0 seen (by omega) (by omega)
    have hw := wrap_succ hi (by omega)
    rw [hw] at f3
    obtain ⟨s2, e1, e2, e3⟩ := ih (i + 1) s1 (by omega) (by omega)
    refine ⟨s2, fun z => ?_, by omega, fun R hR => ?_⟩
    · rw [e1, f1, hd]
      constructor
      · rintro ((hh | ⟨p, p1, p2, p3, p4⟩) | ⟨v', hv', hh⟩)
        · exact .inl hh
        · exact .inr ⟨v, List.mem_cons_self, p, p2, p3, p4⟩
        · exact .inr ⟨v', List.mem_cons_of_mem _ hv', hh⟩
      · rintro (hh | ⟨v', hv', p, p2, p3, p4⟩)
        · exact .inl (.inl hh)
        · rcases List.mem_cons.1 hv' with rfl | hv'
          · exact .inl (.inr ⟨p, Nat.zero_le _, p2, p3, p4⟩)
          · exact .inr ⟨v', hv', p, p2, p3, p4⟩
    · refine Ev.step (fun k => ?_) (f3 R (e3 R hR))
      simp only [impl_BlockCode_parts.l2]
      rw [hrd, if_pos (by omega), if_pos (nat0 i), if_pos (by omega)]
      rfl
theorem parts_l1 (L2 L3 : List ByteArray) (y : List Int) (x st : Int) (l : List ByteArray) (W n : Nat) (hl : ∀ v ∈ l, v.size = W) (hll : l.length ≤ 64) (h2 : ∀ v ∈ L2, v.size = W) (hl2 : L2.length ≤ 64) (h3 : ∀ v ∈ L3, v.size = W) (hl3 : L3.length ≤ 64) (hW : W ≤ 12) (hn : n ≤ 13) (d : Nat) : ∀ (j : Nat) (seen : List (List UInt8)), j + d = l.length → seen.length + 768 * d < 1000000 →
    ∃ seen', (∀ z, z ∈ seen' ↔ z ∈ seen ∨ ∃ w ∈ l.drop j, ∃ v ∈ lst L2 L3 (nxt st w), Part W n (w ++ v).data.toList z) ∧ seen'.length ≤ seen.length + 768 * d ∧ ∀ R, Ev (fun k => impl_BlockCode_parts.l0 k L2 L3 (n : Int) y (wrap64 (x + 1)) seen') R → Ev (fun k => impl_BlockCode_parts.l1 k L2 L3 (n : Int) y x st l (j : Int) seen) R := by
  induction d with
  | zero =>
    intro j seen h h1
    refine ⟨seen, fun z => ⟨.inl, fun hh => hh.elim id fun ⟨v, hv, _⟩ => ?_⟩, by omega, fun R hR => Ev.step (fun k => by simp only [impl_BlockCode_parts.l1]; rw [if_neg (by omega)]) hR⟩
    rw [List.drop_eq_nil_of_le (by omega)] at hv; cases hv
  | succ d ih =>
    intro j seen h h1
    have hj : j < l.length := by omega
    have hrd := rdS_get l j hj
    have hv := hl _ (List.getElem_mem hj)
    have hd := drop_cons l j hj
    generalize l[j] = w at hrd hv hd
    have hm : ∀ v ∈ lst L2 L3 (nxt st w), v.size = W := fun v hh => (lst_mem hh).elim (h2 v) (h3 v)
    have hml : (lst L2 L3 (nxt st w)).length ≤ 64 := by unfold lst; split <;> omega
    obtain ⟨s1, f1, f2, f3⟩ := parts_l2 L2 L3 y x st l (j : Int) w (lst L2 L3 (nxt st w)) W n hv hm hml hW hn (lst L2 L3 (nxt st w)).length 0 seen (by omega) (by omega)
    have hw := wrap_succ hj (by omega)
    rw [hw] at f3
    rw [List.drop_zero] at f1
    obtain ⟨s2, e1, e2, e3⟩ := ih (j + 1) s1 (by omega) (by omega)
    refine ⟨s2, fun z => ?_, by omega, fun R hR => ?_⟩
    · rw [e1, f1, hd]
      constructor
      · rintro ((hh | ⟨v, hv', hh⟩) | ⟨w', hw', hh⟩)
        · exact .inl hh
        · exact .inr ⟨w, List.mem_cons_self, v, hv', hh⟩
        · exact .inr ⟨w', List.mem_cons_of_mem _ hw', hh⟩
      · rintro (hh | ⟨w', hw', hh⟩)
        · exact .inl (.inl hh)
        · rcases List.mem_cons.1 hw' with rfl | hw'
          · exact .inl (.inr hh)
          · exact .inr ⟨w', hw', hh⟩
    · refine Ev.step (fun k => ?_) (f3 R (e3 R hR))
      simp only [impl_BlockCode_parts.l1]
      rw [hrd, if_pos (by omega), if_pos (nat0 j), implBehindS_f, Option.bind_some]
      rfl
/-- A text is a part of two words that follow one another. -/
def Arises (L2 L3 : List ByteArray) (W n : Nat) (z : List UInt8) : Prop := (∃ w ∈ L2, ∃ v ∈ lst L2 L3 (nxt (-1) w), Part W n (w ++ v).data.toList z) ∨ (∃ w ∈ L3, ∃ v ∈ lst L2 L3 (nxt 1 w), Part W n (w ++ v).data.toList z)
theorem VC.sizes {a0 a1 : Int} {L2 L3 : List ByteArray} (hv : VC a0 a1 L2 L3) : ∃ W : Nat, a1 = (W : Int) ∧ 2 ≤ W ∧ W ≤ 12 ∧ (∀ v ∈ L2, v.size = W) ∧ (∀ v ∈ L3, v.size = W) := by
  have hd := hv.width
  refine ⟨a1.toNat, by omega, by omega, by omega, fun v h => ?_, fun v h => ?_⟩
  · have := (hv.mem (.inl h)).2.1; omega
  · have := (hv.mem (.inr h)).2.1; omega
theorem parts_ev (a0 a1 : Int) (L2 L3 : List ByteArray) (hv : VC a0 a1 L2 L3) (W n : Nat) (hW : W ≤ 12) (h2 : ∀ v ∈ L2, v.size = W) (h3 : ∀ v ∈ L3, v.size = W) (hn : n ≤ 13) :
    ∃ z, (∀ u, u ∈ z ↔ Arises L2 L3 W n u) ∧ Ev (fun k => impl_BlockCode_parts.f k a0 a1 L2 L3 (n : Int)) z := by
  obtain ⟨hl2, hl3⟩ := hv.le64
  obtain ⟨s1, e1, e2, e3⟩ := parts_l1 L2 L3 [-1, 1] 0 (-1) L2 W n h2 hl2 h2 hl2 h3 hl3 hW hn L2.length 0 [] (by omega) (by simp; omega)
  obtain ⟨s2, f1, f2, f3⟩ := parts_l1 L2 L3 [-1, 1] 1 1 L3 W n h3 hl3 h2 hl2 h3 hl3 hW hn L3.length 0 s1 (by omega) (by simp at e2; omega)
  rw [List.drop_zero] at e1 f1
  rw [w01] at e3
  rw [w11] at f3
  refine ⟨s2, fun u => ?_, ?_⟩
  · rw [f1, e1]
    unfold Arises
    simp
  · unfold impl_BlockCode_parts.f
    have r0 : rd [-1, 1] 0 = -1 := rfl
    have r1 : rd [-1, 1] 1 = 1 := rfl
    refine Ev.step (fun k => ?_) (e3 s2 (Ev.step (fun k => ?_) (f3 s2 (ev_one (fun k => ?_)))))
    · simp only [impl_BlockCode_parts.l0]
      rw [if_pos (by decide), if_pos (by decide), r0]
      rfl
    · simp only [impl_BlockCode_parts.l0]
      rw [if_pos (by decide), if_pos (by decide), r1]
      rfl
    · simp only [impl_BlockCode_parts.l0]
      rw [if_neg (by decide)]

def OC (pat t : ByteArray) : Prop := ∃ p, p < t.size ∧ Lib.occAt t.data.toList pat.data.toList p = true
def Occ2 (L2 L3 : List ByteArray) (pat : ByteArray) : Prop := (∃ w ∈ L2, ∃ v ∈ lst L2 L3 (nxt (-1) w), OC pat (w ++ v)) ∨ (∃ w ∈ L3, ∃ v ∈ lst L2 L3 (nxt 1 w), OC pat (w ++ v))
theorem VC.pos {a0 a1 : Int} {L2 L3 : List ByteArray} (hv : VC a0 a1 L2 L3) : 0 < L2.length ∧ 0 < L3.length := by
  have h1 : 0 < shl .i64 1 a0 := by
    have hd := hv.data
    have : a0 = 1 ∨ a0 = 2 ∨ a0 = 3 ∨ a0 = 4 ∨ a0 = 5 ∨ a0 = 6 := by omega
    rcases this with rfl | rfl | rfl | rfl | rfl | rfl <;> decide
  have h2 := hv.n2
  have h3 := hv.n3
  omega
theorem occ_cut (t p : List UInt8) (j : Nat) : Lib.occAt t p j = true ↔ p = cutL t p.length j := by
  unfold Lib.occAt cutL
  rw [← take_prefix, beq_iff_eq]
  exact eq_comm
theorem part_oc {W : Nat} {pat w v : ByteArray} (hw : w.size = W) (hv : v.size = W) (h : Part W pat.size (w ++ v).data.toList pat.data.toList) : OC pat (w ++ v) := by
  obtain ⟨p, p1, p2, p3⟩ := h
  refine ⟨p, by rw [ByteArray.size_append]; omega, ?_⟩
  rw [occ_cut, ← size_l]
  exact p3
theorem occ_arises {a0 a1 : Int} {L2 L3 : List ByteArray} (hv : VC a0 a1 L2 L3) (W : Nat) (h2 : ∀ v ∈ L2, v.size = W) (h3 : ∀ v ∈ L3, v.size = W) (hW : 0 < W) (pat : ByteArray) (h0 : 0 < pat.size) :
    Arises L2 L3 W pat.size pat.data.toList ↔ Occ2 L2 L3 pat := by
  have hsz : ∀ st w, w ∈ lst L2 L3 st → w.size = W := fun st w h => (lst_mem h).elim (h2 w) (h3 w)
  have one : ∀ st w v, (st = 1 ∨ st = -1) → w ∈ lst L2 L3 st → v ∈ lst L2 L3 (nxt st w) → OC pat (w ++ v) → ∃ st' w' v', (st' = 1 ∨ st' = -1) ∧ w' ∈ lst L2 L3 st' ∧ v' ∈ lst L2 L3 (nxt st' w') ∧ Part W pat.size (w' ++ v').data.toList pat.data.toList := by
    rintro st w v hst hw hv' ⟨p, p1, p2⟩
    have zw := hsz _ _ hw
    have zv := hsz _ _ hv'
    have hp : p + pat.size ≤ 2 * W := by
      by_cases c : p + pat.size ≤ 2 * W
      · exact c
      · exfalso
        rw [occAt_short _ _ _ (by rw [← size_l, ← size_l, ByteArray.size_append]; omega) (by rw [← size_l]; exact h0)] at p2
        cases p2
    rw [occ_cut, ← size_l] at p2
    by_cases c : p < W
    · exact ⟨st, w, v, hst, hw, hv', p, c, hp, p2⟩
    · obtain ⟨q1, q2⟩ := hv.pos
      have hne : 0 < (lst L2 L3 (nxt (nxt st w) v)).length := by unfold lst; split <;> omega
      have hv2 := List.getElem_mem hne
      generalize (lst L2 L3 (nxt (nxt st w) v))[0] = v2 at hv2
      refine ⟨nxt st w, v, v2, nxt_pm hst w, hv', hv2, p - W, by rw [ByteArray.size_append] at p1; omega, by omega, ?_⟩
      rw [p2]
      unfold cutL
      rw [app_l, app_l, List.drop_append, List.drop_append, List.drop_eq_nil_of_le (by rw [← size_l]; omega), List.nil_append, ← size_l, zw, List.take_append_of_le_length (by rw [List.length_drop, ← size_l]; omega)]
  have em : lst L2 L3 (-1) = L2 := rfl
  have ep : lst L2 L3 1 = L3 := rfl
  unfold Arises Occ2
  constructor
  · rintro (⟨w, hw, v, hv', h⟩ | ⟨w, hw, v, hv', h⟩)
    · exact .inl ⟨w, hw, v, hv', part_oc (h2 w hw) (hsz _ _ hv') h⟩
    · exact .inr ⟨w, hw, v, hv', part_oc (h3 w hw) (hsz _ _ hv') h⟩
  · rintro (⟨w, hw, v, hv', h⟩ | ⟨w, hw, v, hv', h⟩)
    · obtain ⟨st', w', v', h1, h2', h3', h4⟩ := one (-1) w v (.inr rfl) hw hv' h
      rcases h1 with rfl | rfl
      · exact .inr ⟨w', h2', v', h3', h4⟩
      · exact .inl ⟨w', h2', v', h3', h4⟩
    · obtain ⟨st', w', v', h1, h2', h3', h4⟩ := one 1 w v (.inl rfl) hw hv' h
      rcases h1 with rfl | rfl
      · exact .inr ⟨w', h2', v', h3', h4⟩
      · exact .inl ⟨w', h2', v', h3', h4⟩
/-- A list of 48 and 49 is a text of bits. -/
def bitsL (l : List Int) : Prop := ∀ x ∈ l, x = 48 ∨ x = 49
theorem areB_strOf (l : List Int) (h : bitsL l) : areB (strOfNums l).data.toList = true := by
  rw [strOfNums_data]
  unfold areB
  rw [List.all_eq_true]
  intro b hb
  obtain ⟨x, hx, rfl⟩ := List.mem_map.1 hb
  rcases h x hx with rfl | rfl <;> decide
theorem size_strOf (l : List Int) : (strOfNums l).size = l.length := by rw [size_l, strOfNums_data, List.length_map]
/-- The lowest d binary digits of n as letters, the greatest one first. -/
def digs (n : Int) : Nat → List Int
  | 0 => []
  | d + 1 => (48 + (n / 2 ^ d) % 2) :: digs n d
theorem digs_length (n : Int) (d : Nat) : (digs n d).length = d := by
  induction d with
  | zero => rfl
  | succ d ih => simp [digs, ih]
theorem shr_nat (n : Int) (d : Nat) (h : d ≤ 64) : shr .i64 n (d : Int) = n / 2 ^ d := by
  unfold shr; rw [Int.toNat_natCast]; congr 2; exact Nat.min_eq_left h

theorem spec_digits_ev (n : Int) (d : Nat) : ∀ l : List Int, d ≤ 64 → l.length + d ≤ 1000 → Ev (fun k => spec_l01Digits.l0 k n l ((d : Int) - 1)) (strOfNums (l ++ digs n d)) := by
  induction d with
  | zero =>
    intro l _ _
    exact ev_one (fun k => by rw [spec_l01Digits.l0, if_neg (by omega)]; simp [digs])
  | succ d ih =>
    intro l hd hl
    have e : ((d + 1 : Nat) : Int) - 1 = (d : Int) := by omega
    have hs := shr_nat n d (by omega)
    have hu : IntKind.u64.wrap (d : Int) = d := u64_in (by omega) (by omega)
    have hw : wrap64 ((d : Int) - 1) = (d : Int) - 1 := wrap64_in (by omega) (by omega)
    have h := ih (l ++ [48 + (n / 2 ^ d) % 2]) (by omega) (by simp; omega)
    have e2 : l ++ digs n (d + 1) = l ++ [48 + (n / 2 ^ d) % 2] ++ digs n d := by simp [digs]
    rw [e2]
    refine Ev.step (fun k => ?_) h
    rw [e, spec_l01Digits.l0, hu, if_pos (by omega), if_pos (by omega), if_pos (by omega), hs, and_one, hw, wrap64_in (by omega) (by omega)]
    congr 3
    omega
theorem spec_digits_f (n : Int) (w : Int) (h0 : 0 ≤ w) (h1 : w ≤ 64) : Ev (fun k => spec_l01Digits.f k n w) (strOfNums (digs n w.toNat)) := by
  obtain ⟨d, rfl⟩ := Int.eq_ofNat_of_zero_le h0
  have h := spec_digits_ev n d [] (by omega) (by simp; omega)
  refine Ev.congr (fun k => ?_) h
  unfold spec_l01Digits.f
  rw [wrap64_in (by omega) (by omega)]

theorem impl_digits_ev (n : Int) (d : Nat) : ∀ l : List Int, d ≤ 64 → l.length + d ≤ 1000 → Ev (fun k => impl_digits.l0 k n l ((d : Int) - 1)) (strOfNums (l ++ digs n d)) := by
  induction d with
  | zero =>
    intro l _ _
    exact ev_one (fun k => by rw [impl_digits.l0, if_neg (by omega)]; simp [digs])
  | succ d ih =>
    intro l hd hl
    have e : ((d + 1 : Nat) : Int) - 1 = (d : Int) := by omega
    have hs := shr_nat n d (by omega)
    have hw : wrap64 ((d : Int) - 1) = (d : Int) - 1 := wrap64_in (by omega) (by omega)
    have h := ih (l ++ [48 + (n / 2 ^ d) % 2]) (by omega) (by simp; omega)
    have e2 : l ++ digs n (d + 1) = l ++ [48 + (n / 2 ^ d) % 2] ++ digs n d := by simp [digs]
    rw [e2]
    refine Ev.step (fun k => ?_) h
    rw [e, impl_digits.l0, if_pos (by omega), if_pos (by omega), if_pos (by omega), hs, and_one, hw]
    congr 3
    omega
theorem impl_digits_f (n : Int) (w : Int) (h0 : 0 ≤ w) (h1 : w ≤ 64) : Ev (fun k => impl_digits.f k n w) (strOfNums (digs n w.toNat)) := by
  obtain ⟨d, rfl⟩ := Int.eq_ofNat_of_zero_le h0
  have h := impl_digits_ev n d [] (by omega) (by simp; omega)
  refine Ev.congr (fun k => ?_) h
  unfold impl_digits.f
  rw [wrap64_in (by omega) (by omega)]

theorem bt_strOf (r : List Int) (hr : bitsL r) (j : Nat) (h : j < r.length) : bt (strOfNums r) (j : Int) = rd r (j : Int) := by
  have h2 : j < (strOfNums r).data.toList.length := by rw [strOfNums_data, List.length_map]; exact h
  rw [bt_l _ j h2, rd_get _ _ h]
  have e : (strOfNums r).data.toList[j] = UInt8.ofNat r[j].toNat := by simp [strOfNums_data]
  rw [e]
  rcases hr _ (List.getElem_mem h) with q | q <;> rw [q] <;> decide
theorem rd_bit (r : List Int) (hr : bitsL r) (j : Nat) (h : j < r.length) : rd r (j : Int) = 48 ∨ rd r (j : Int) = 49 := by
  rw [rd_get _ _ h]; exact hr _ (List.getElem_mem h)
/-- The number of the first j bits. -/
def nJ (r : List Int) : Nat → Nat
  | 0 => 0
  | j + 1 => 2 * nJ r j + (rd r (j : Int) - 48).toNat
theorem nJ_lt (r : List Int) (hr : bitsL r) : ∀ j, j ≤ r.length → nJ r j < 2 ^ j := by
  intro j
  induction j with
  | zero => intro _; show (0 : Nat) < 2 ^ 0; decide
  | succ j ih =>
    intro h
    have h1 := ih (by omega)
    have h2 : (rd r (j : Int) - 48).toNat ≤ 1 := by rcases rd_bit r hr j (by omega) with q | q <;> rw [q] <;> decide
    rw [nJ, Nat.pow_succ]
    omega
/-- A number's digits are the bits that it was made of. -/
theorem nJ_div (r : List Int) (j i : Nat) (hr : bitsL r) (h : j + i ≤ r.length) : nJ r (j + i) / 2 ^ i = nJ r j := by
  induction i with
  | zero => simp
  | succ i ih =>
    have h2 : (rd r ((j + i : Nat) : Int) - 48).toNat ≤ 1 := by rcases rd_bit r hr (j + i) (by omega) with q | q <;> rw [q] <;> decide
    rw [show j + (i + 1) = (j + i) + 1 by omega, nJ, Nat.pow_succ, Nat.mul_comm (2 ^ i) 2, ← Nat.div_div_eq_div_mul]
    rw [show (2 * nJ r (j + i) + (rd r ((j + i : Nat) : Int) - 48).toNat) / 2 = nJ r (j + i) by omega]
    exact ih (by omega)
theorem digs_nJ (r : List Int) (hr : bitsL r) (d : Nat) (h : d ≤ r.length) : digs ((nJ r r.length : Nat) : Int) d = r.drop (r.length - d) := by
  induction d with
  | zero => rw [Nat.sub_zero, List.drop_length]; rfl
  | succ d ih =>
    have h3 : r.length - (d + 1) < r.length := by omega
    rw [digs, ih (by omega), drop_cons r _ h3, show r.length - (d + 1) + 1 = r.length - d by omega]
    congr 1
    have e := nJ_div r (r.length - d) d hr (by omega)
    rw [show r.length - d + d = r.length by omega] at e
    have e2 : ((nJ r r.length : Nat) : Int) / 2 ^ d = ((nJ r (r.length - d) : Nat) : Int) := by
      rw [← e]; push_cast; rfl
    rw [e2, show r.length - d = (r.length - (d + 1)) + 1 by omega, nJ, ← rd_get _ _ h3]
    rcases rd_bit r hr _ h3 with q | q <;> rw [q] <;> omega
theorem digs_bits (n : Int) (d : Nat) : bitsL (digs n d) := by
  induction d with
  | zero => intro x hx; cases hx
  | succ d ih =>
    intro x hx
    rw [digs, List.mem_cons] at hx
    rcases hx with rfl | hx
    · omega
    · exact ih x hx
theorem digs_inj (x y : Nat) (d : Nat) : digs (x : Int) d = digs (y : Int) d → x % 2 ^ d = y % 2 ^ d := by
  induction d with
  | zero => intro _; simp [Nat.mod_one]
  | succ d ih =>
    intro h
    rw [digs, digs, List.cons.injEq] at h
    have h2 := ih h.2
    have h1 := h.1
    have e : ∀ z : Nat, ((z : Int) / 2 ^ d) % 2 = ((z / 2 ^ d % 2 : Nat) : Int) := fun z => by push_cast; rfl
    rw [e, e] at h1
    rw [Nat.mod_pow_succ, Nat.mod_pow_succ, h2, show x / 2 ^ d % 2 = y / 2 ^ d % 2 by omega]
def numsOf (l : List UInt8) : List Int := l.map fun u => ((u.toNat : Nat) : Int)
theorem numsOf_bits (l : List UInt8) (h : areB l = true) : bitsL (numsOf l) := by
  intro x hx
  obtain ⟨u, hu, rfl⟩ := List.mem_map.1 hx
  unfold areB at h
  have := List.all_eq_true.1 h u hu
  unfold isBit at this
  simp at this
  omega
theorem numsOf_str (l : List UInt8) : (strOfNums (numsOf l)).data.toList = l := by
  rw [strOfNums_data, numsOf, List.map_map]
  conv => rhs; rw [← List.map_id l]
  apply List.map_congr_left
  intro u _
  show UInt8.ofNat ((u.toNat : Nat) : Int).toNat = u
  rw [Int.toNat_natCast]
  exact UInt8.ofNat_toNat
theorem str_numsOf (r : List Int) (h : bitsL r) : numsOf (strOfNums r).data.toList = r := by
  rw [strOfNums_data, numsOf, List.map_map]
  conv => rhs; rw [← List.map_id r]
  apply List.map_congr_left
  intro x hx
  show (((UInt8.ofNat x.toNat).toNat : Nat) : Int) = x
  rcases h x hx with rfl | rfl <;> decide
/-- The text of a number's digits. -/
def patL (n x : Nat) : List UInt8 := (strOfNums (digs (x : Int) n)).data.toList
theorem patL_length (n x : Nat) : (patL n x).length = n := by
  unfold patL; rw [← size_l, size_strOf, digs_length]
theorem app_areB (s u : ByteArray) (h1 : areB s.data.toList = true) (h2 : areB u.data.toList = true) : areB (s ++ u).data.toList = true := by
  rw [show (s ++ u).data.toList = s.data.toList ++ u.data.toList by simp [ByteArray.data_append]]
  unfold areB at h1 h2 ⊢
  rw [List.all_append, h1, h2]
  rfl
/-- A number's digits in a width. -/
def dg (w x : Nat) : ByteArray := strOfNums (digs (x : Int) w)
theorem dg_size (w x : Nat) : (dg w x).size = w := by unfold dg; rw [size_strOf, digs_length]
theorem dg_bits (w x : Nat) : areB (dg w x).data.toList = true := areB_strOf _ (digs_bits _ _)
def popW : Nat → Nat → Nat
  | _, 0 => 0
  | x, d + 1 => (x / 2 ^ d) % 2 + popW x d
theorem popW_le (x d : Nat) : popW x d ≤ d := by
  induction d with
  | zero => exact Nat.le_refl _
  | succ d ih => rw [popW]; omega
theorem dg_count (w x : Nat) : (dg w x).data.toList.count 49 = popW x w := by
  unfold dg
  rw [strOfNums_data]
  induction w with
  | zero => rfl
  | succ w ih =>
    rw [digs, List.map_cons, List.count_cons, ih, popW]
    have e : ((x : Int) / 2 ^ w) % 2 = ((x / 2 ^ w % 2 : Nat) : Int) := by push_cast; rfl
    rw [e]
    rcases Nat.mod_two_eq_zero_or_one (x / 2 ^ w) with q | q <;> rw [q]
    · show popW x w + (if (UInt8.ofNat ((48 : Int) + ((0 : Nat) : Int)).toNat == 49) = true then 1 else 0) = _
      rw [if_neg (by decide)]; omega
    · show popW x w + (if (UInt8.ofNat ((48 : Int) + ((1 : Nat) : Int)).toNat == 49) = true then 1 else 0) = _
      rw [if_pos (by decide)]; omega
theorem dsp_in (s : ByteArray) (c : Nat) (hs : s.size ≤ 1000) (hc : s.data.toList.count 49 = c) : dsp s = 2 * (c : Int) - (s.size : Int) := by
  have hle : c ≤ s.size := by rw [← hc, size_l]; exact List.count_le_length
  unfold dsp Lib.countByte
  rw [hc, wrap64_in (x := 2 * _) (by omega) (by omega), wrap64_in (by omega) (by omega)]
theorem dg_dsp (w x : Nat) (hw : w ≤ 1000) : dsp (dg w x) = 2 * (popW x w : Int) - (w : Int) := by
  rw [dsp_in _ _ (by rw [dg_size]; exact hw) (dg_count w x), dg_size]
theorem dg_inj (w x y : Nat) (hx : x < 2 ^ w) (hy : y < 2 ^ w) (h : (dg w x).data.toList = (dg w y).data.toList) : x = y := by
  have e : digs (x : Int) w = digs (y : Int) w := by
    rw [← str_numsOf _ (digs_bits (x : Int) w), ← str_numsOf _ (digs_bits (y : Int) w)]
    unfold dg at h
    rw [h]
  have := digs_inj x y w e
  rw [Nat.mod_eq_of_lt hx, Nat.mod_eq_of_lt hy] at this
  exact this
/-- All bits changed. -/
def flipB (b : UInt8) : UInt8 := if b = 49 then 48 else 49
def oth (s : ByteArray) : ByteArray := ⟨(s.data.toList.map flipB).toArray⟩
theorem oth_l (s : ByteArray) : (oth s).data.toList = s.data.toList.map flipB := rfl
theorem oth_size (s : ByteArray) : (oth s).size = s.size := by rw [size_l, oth_l, List.length_map, ← size_l]
theorem bit_or {b : UInt8} (h : isBit b = true) : b = 48 ∨ b = 49 := by
  unfold isBit at h
  simp at h
  rcases h with h | h
  · exact .inl (UInt8.toNat_inj.1 h)
  · exact .inr (UInt8.toNat_inj.1 h)
theorem oth_bits (s : ByteArray) : areB (oth s).data.toList = true := by
  rw [oth_l]
  unfold areB
  rw [List.all_eq_true]
  intro b hb
  obtain ⟨x, _, rfl⟩ := List.mem_map.1 hb
  unfold flipB
  split <;> decide
theorem flip_count (l : List UInt8) (h : areB l = true) : (l.map flipB).count 49 + l.count 49 = l.length := by
  induction l with
  | nil => rfl
  | cons b l ih =>
    unfold areB at h ih
    rw [List.all_cons, Bool.and_eq_true] at h
    have := ih h.2
    rw [List.map_cons, List.count_cons, List.count_cons, List.length_cons]
    rcases bit_or h.1 with rfl | rfl
    · rw [show (flipB 48 == 49) = true by decide, show ((48 : UInt8) == 49) = false by decide, if_pos rfl, if_neg Bool.false_ne_true]; omega
    · rw [show (flipB 49 == 49) = false by decide, show ((49 : UInt8) == 49) = true by decide, if_pos rfl, if_neg Bool.false_ne_true]; omega
theorem oth_dsp (s : ByteArray) (h : areB s.data.toList = true) (hs : s.size ≤ 1000) : dsp (oth s) = - dsp s := by
  have hf := flip_count _ h
  rw [← size_l] at hf
  rw [dsp_in (oth s) _ (by rw [oth_size]; exact hs) rfl, dsp_in s _ hs rfl, oth_size, oth_l]
  omega
theorem flip_inj {l m : List UInt8} (hl : areB l = true) (hm : areB m = true) (h : l.map flipB = m.map flipB) : l = m := by
  induction l generalizing m with
  | nil =>
    cases m with
    | nil => rfl
    | cons b m => cases h
  | cons a l ih =>
    cases m with
    | nil => cases h
    | cons b m =>
      unfold areB at hl hm ih
      rw [List.all_cons, Bool.and_eq_true] at hl hm
      rw [List.map_cons, List.map_cons, List.cons.injEq] at h
      rw [ih hl.2 hm.2 h.2]
      congr 1
      have h1 := h.1
      rcases bit_or hl.1 with rfl | rfl <;> rcases bit_or hm.1 with rfl | rfl
      · rfl
      · exact absurd h1 (by decide)
      · exact absurd h1 (by decide)
      · rfl
theorem other_loop (s : ByteArray) (hB : areB s.data.toList = true) (hs : s.size ≤ 1000) (d : Nat) : ∀ (j : Nat) (o : List Int), j + d = s.size → o.length = j → o.map (fun n => UInt8.ofNat n.toNat) = (s.data.toList.map flipB).take j →
    Ev (fun k => spec_l03Other.l0 k s o (j : Int)) (oth s) := by
  have hsl := size_l s
  induction d with
  | zero =>
    intro j o h ho ht
    refine ev_one (fun k => ?_)
    rw [spec_l03Other.l0, if_neg (by omega)]
    congr 1
    apply ByteArray.ext
    apply Array.ext'
    rw [strOfNums_data, ht, oth_l, List.take_of_length_le (by rw [List.length_map]; omega)]
  | succ d ih =>
    intro j o h ho ht
    have hj : j < s.data.toList.length := by omega
    have hw := wrap_succ (j := j) (n := s.size) (by omega) (by omega)
    have hb := bt_l s j hj
    have hbit : isBit s.data.toList[j] = true := by
      unfold areB at hB
      exact List.all_eq_true.1 hB _ (List.getElem_mem hj)
    refine Ev.step (fun k => by rw [spec_l03Other.l0, if_pos (by omega), if_pos (by omega), if_pos (by omega), hw]) (ih (j + 1) (o ++ [(97 - bt s (j : Int)) % 256]) (by omega) (by rw [List.length_append, ho]; rfl) ?_)
    rw [List.map_append, ht, take_snoc' _ _ (by rw [List.length_map]; exact hj), List.getElem_map, hb]
    congr 1
    rcases bit_or hbit with q | q <;> rw [q] <;> decide
theorem other_ev (s : ByteArray) (hB : areB s.data.toList = true) (hs : s.size ≤ 1000) : Ev (fun k => spec_l03Other.f k s) (oth s) := other_loop s hB hs s.size 0 [] (by omega) rfl (by simp)
/-- A list of words by their numbers: the words of one disparity, and what stands beside them in the other list. -/
def mL (w : Nat) (Y : List Nat) : List ByteArray := Y.map (dg w)
def pL (w : Nat) (Y : List Nat) : List ByteArray := Y.map fun y => if dsp (dg w y) = 0 then dg w y else oth (dg w y)
structure Made (w n : Nat) (ph : Int) (x : Nat) (Y : List Nat) : Prop where
  nodup : Y.Nodup
  len : Y.length ≤ n
  mem : ∀ y ∈ Y, y < 2 ^ w ∧ ((dsp (dg w y) = 0 ∧ (ph = 0 → y < x)) ∨ (dsp (dg w y) = 2 ∧ ph = 2 ∧ y < x))
  all : Y.length < n → ∀ y, y < 2 ^ w → (ph = 0 → y < x) → dsp (dg w y) = 0 → y ∈ Y
theorem made_loop (w n : Nat) (hw : w ≤ 12) (hn : n ≤ 64) (a0 a1 : Int) (hw1 : a1 = (w : Int)) (hsh : shl .i64 1 (IntKind.u64.wrap a1) = ((2 ^ w : Nat) : Int)) (S : List Int) (x19 x20 : Int) (ph : Int) (hph : ph = 0 ∨ ph = 2) (d : Nat) : ∀ (x : Nat) (Y : List Nat), x + d = 2 ^ w → Made w n ph x Y →
    ∃ Y', Made w n ph (2 ^ w) Y' ∧ ∀ R, Ev (fun k => spec_l03Make.l0 k a1 (n : Int) S x19 (wrap64 (x20 + 1)) a0 a1 (mL w Y') (pL w Y')) R → Ev (fun k => spec_l03Make.l1 k a1 (n : Int) ph (x : Int) S x19 x20 a0 a1 (mL w Y) (pL w Y)) R := by
  have h12 : 2 ^ w ≤ 2 ^ 12 := Nat.pow_le_pow_right (by decide) hw
  have h12' : (2 : Nat) ^ 12 = 4096 := by decide
  have hu : 0 ≤ IntKind.u64.wrap a1 := by rw [hw1, u64_in (by omega) (by omega)]; omega
  have stop : ∀ (x : Nat) (Y : List Nat), Made w n ph x Y → (x = 2 ^ w ∨ Y.length = n) → x ≤ 2 ^ w → ∀ R, Ev (fun k => spec_l03Make.l0 k a1 (n : Int) S x19 (wrap64 (x20 + 1)) a0 a1 (mL w Y) (pL w Y)) R → Ev (fun k => spec_l03Make.l1 k a1 (n : Int) ph (x : Int) S x19 x20 a0 a1 (mL w Y) (pL w Y)) R := by
    intro x Y hm hc hx R hR
    have h2 : Ev (fun k => spec_l03Make.j2 k a1 (n : Int) ph (x : Int) S x19 x20 false a0 a1 (mL w Y) (pL w Y)) R := Ev.step (fun k => by rw [spec_l03Make.j2, if_neg Bool.false_ne_true]) hR
    have hml : (mL w Y).length = Y.length := by unfold mL; rw [List.length_map]
    refine Ev.step (fun k => ?_) h2
    rw [spec_l03Make.l1, if_pos hu, hsh]
    by_cases c : (x : Int) < ((2 ^ w : Nat) : Int)
    · rw [if_pos c, decide_eq_false (by omega)]
    · rw [if_neg c]
  induction d with
  | zero =>
    intro x Y h hm
    obtain rfl : x = 2 ^ w := by omega
    exact ⟨Y, hm, stop _ Y hm (.inl rfl) (Nat.le_refl _)⟩
  | succ d ih =>
    intro x Y h hm
    by_cases cn : Y.length = n
    · refine ⟨Y, ⟨hm.nodup, hm.len, fun y hy => ?_, fun hh => by omega⟩, stop x Y hm (.inr cn) (by omega)⟩
      obtain ⟨m1, m2⟩ := hm.mem y hy
      refine ⟨m1, m2.elim (fun q => .inl ⟨q.1, fun _ => m1⟩) (fun q => .inr ⟨q.1, q.2.1, m1⟩)⟩
    · have hlt : Y.length < n := by have := hm.len; omega
      have hx : x < 2 ^ w := by omega
      have hml : (mL w Y).length = Y.length := by unfold mL; rw [List.length_map]
      have hpl : (pL w Y).length = Y.length := by unfold pL; rw [List.length_map]
      have hwx : wrap64 ((x : Int) + 1) = ((x + 1 : Nat) : Int) := by rw [wrap64_in (by omega) (by omega)]; omega
      obtain ⟨K1, d1_⟩ := spec_digits_f (x : Int) a1 (by omega) (by omega)
      have d1 : ∀ k, K1 ≤ k → spec_l01Digits.f k (x : Int) a1 = some (dg w x) := fun k hk => by have := d1_ k hk; rw [hw1, Int.toNat_natCast] at this; rw [hw1]; exact this
      obtain ⟨v, ⟨K2, hv⟩, hv2⟩ := specDisp_any (dg w x) (by rw [dg_size]; omega)
      have hIB : IB (dg w x) = true := by unfold IB; rw [dg_bits, dg_size, decide_eq_true (by omega)]; rfl
      obtain rfl := hv2 hIB
      have d2 : ∀ k, K2 ≤ k → spec_l03Disparity.f k (dg w x) = some (dsp (dg w x)) := hv
      by_cases c : dsp (dg w x) = ph
      · have hnot : x ∉ Y := fun hy => by
          obtain ⟨_, m⟩ := hm.mem x hy
          rcases hph with rfl | rfl
          · rcases m with m | m
            · exact absurd (m.2 rfl) (Nat.lt_irrefl x)
            · exact absurd m.2.1 (by decide)
          · rcases m with m | m
            · rw [c] at m; exact absurd m.1 (by decide)
            · exact absurd m.2.2 (Nat.lt_irrefl x)
        have hm' : Made w n ph (x + 1) (Y ++ [x]) := by
          refine ⟨?_, by rw [List.length_append]; exact hlt, fun y hy => ?_, fun hh y hy hp hd => ?_⟩
          · rw [List.nodup_append]
            exact ⟨hm.nodup, by simp, fun a ha b hb => by rw [List.mem_singleton] at hb; subst hb; exact fun e => hnot (e ▸ ha)⟩
          · rcases List.mem_append.1 hy with hy | hy
            · obtain ⟨m1, m2⟩ := hm.mem y hy
              exact ⟨m1, m2.elim (fun q => .inl ⟨q.1, fun e => Nat.lt_succ_of_lt (q.2 e)⟩) (fun q => .inr ⟨q.1, q.2.1, Nat.lt_succ_of_lt q.2.2⟩)⟩
            · rw [List.mem_singleton] at hy
              subst hy
              rcases hph with rfl | rfl
              · exact ⟨hx, .inl ⟨c, fun _ => Nat.lt_succ_self y⟩⟩
              · exact ⟨hx, .inr ⟨c, rfl, Nat.lt_succ_self y⟩⟩
          · rw [List.mem_append, List.mem_singleton]
            by_cases e : y = x
            · exact .inr e
            · exact .inl (hm.all hlt y hy (fun q => Nat.lt_of_le_of_ne (Nat.le_of_lt_succ (hp q)) e) hd)
        have eM : mL w Y ++ [dg w x] = mL w (Y ++ [x]) := by unfold mL; rw [List.map_append]; rfl
        obtain ⟨Y', y1, y2⟩ := ih (x + 1) (Y ++ [x]) (by omega) hm'
        refine ⟨Y', y1, fun R hR => ?_⟩
        obtain ⟨K3, g⟩ := y2 R hR
        by_cases cp : ph = 0
        · have eP : pL w Y ++ [dg w x] = pL w (Y ++ [x]) := by unfold pL; rw [List.map_append, List.map_cons, List.map_nil, if_pos (c.trans cp)]
          refine ⟨K1 + K2 + K3 + 2, fun k hk => ?_⟩
          obtain ⟨k, rfl⟩ : ∃ q, k = q + 2 := ⟨k - 2, by omega⟩
          show spec_l03Make.l1 (k + 1 + 1) a1 (n : Int) ph (x : Int) S x19 x20 a0 a1 (mL w Y) (pL w Y) = _
          rw [spec_l03Make.l1, if_pos hu, hsh, if_pos (by omega), decide_eq_true (by omega), spec_l03Make.j2, if_pos rfl, d1 k (by omega), Option.bind_some, d2 k (by omega), Option.bind_some, if_pos c, if_pos (by omega), Option.bind_some, if_pos cp, if_pos (by omega), hwx, eM, eP]
          exact g k (by omega)
        · obtain ⟨K4, o4⟩ := other_ev (dg w x) (dg_bits w x) (by rw [dg_size]; omega)
          have d4 : ∀ k, K4 ≤ k → spec_l03Other.f k (dg w x) = some (oth (dg w x)) := o4
          have eP : pL w Y ++ [oth (dg w x)] = pL w (Y ++ [x]) := by unfold pL; rw [List.map_append, List.map_cons, List.map_nil, if_neg (by rw [c]; exact cp)]
          refine ⟨K1 + K2 + K3 + K4 + 2, fun k hk => ?_⟩
          obtain ⟨k, rfl⟩ : ∃ q, k = q + 2 := ⟨k - 2, by omega⟩
          show spec_l03Make.l1 (k + 1 + 1) a1 (n : Int) ph (x : Int) S x19 x20 a0 a1 (mL w Y) (pL w Y) = _
          rw [spec_l03Make.l1, if_pos hu, hsh, if_pos (by omega), decide_eq_true (by omega), spec_l03Make.j2, if_pos rfl, d1 k (by omega), Option.bind_some, d2 k (by omega), Option.bind_some, if_pos c, if_pos (by omega), Option.bind_some, if_neg cp, d4 k (by omega), Option.bind_some, if_pos (by omega), hwx, eM, eP]
          exact g k (by omega)
      · have hm' : Made w n ph (x + 1) Y := by
          refine ⟨hm.nodup, hm.len, fun y hy => ?_, fun hh y hy hp hd => ?_⟩
          · obtain ⟨m1, m2⟩ := hm.mem y hy
            exact ⟨m1, m2.elim (fun q => .inl ⟨q.1, fun e => Nat.lt_succ_of_lt (q.2 e)⟩) (fun q => .inr ⟨q.1, q.2.1, Nat.lt_succ_of_lt q.2.2⟩)⟩
          · refine hm.all hh y hy (fun q => ?_) hd
            have := hp q
            by_cases e : y = x
            · subst e; exact absurd (hd.trans q.symm) c
            · exact Nat.lt_of_le_of_ne (Nat.le_of_lt_succ this) e
        obtain ⟨Y', y1, y2⟩ := ih (x + 1) Y (by omega) hm'
        refine ⟨Y', y1, fun R hR => ?_⟩
        obtain ⟨K3, g⟩ := y2 R hR
        refine ⟨K1 + K2 + K3 + 2, fun k hk => ?_⟩
        obtain ⟨k, rfl⟩ : ∃ q, k = q + 2 := ⟨k - 2, by omega⟩
        show spec_l03Make.l1 (k + 1 + 1) a1 (n : Int) ph (x : Int) S x19 x20 a0 a1 (mL w Y) (pL w Y) = _
        rw [spec_l03Make.l1, if_pos hu, hsh, if_pos (by omega), decide_eq_true (by omega), spec_l03Make.j2, if_pos rfl, d1 k (by omega), Option.bind_some, d2 k (by omega), Option.bind_some, if_neg c, hwx]
        exact g k (by omega)
/-- What is made: words by their numbers, and whether there are enough. -/
theorem make_ev (w m : Nat) (hw : w ≤ 12) (hm0 : 1 ≤ m) (hm : m ≤ 6) (hw0 : 2 ≤ w) : ∃ Y : List Nat, Made w (2 ^ m) 2 (2 ^ w) Y ∧ Ev (fun k => spec_l03Make.f k (m : Int) (w : Int)) ((m : Int), (w : Int), mL w Y, pL w Y, decide (Y.length = 2 ^ m)) := by
  have h6 : 2 ^ m ≤ 2 ^ 6 := Nat.pow_le_pow_right (by decide) hm
  have h6' : (2 : Nat) ^ 6 = 64 := by decide
  have h12 : 2 ^ w ≤ 2 ^ 12 := Nat.pow_le_pow_right (by decide) hw
  have h12' : (2 : Nat) ^ 12 = 4096 := by decide
  have sh : ∀ q : Nat, q ≤ 12 → shl .i64 1 (IntKind.u64.wrap (q : Int)) = ((2 ^ q : Nat) : Int) := by
    intro q hq
    rw [u64_in (by omega) (by omega)]
    have : q = 0 ∨ q = 1 ∨ q = 2 ∨ q = 3 ∨ q = 4 ∨ q = 5 ∨ q = 6 ∨ q = 7 ∨ q = 8 ∨ q = 9 ∨ q = 10 ∨ q = 11 ∨ q = 12 := by omega
    rcases this with rfl | rfl | rfl | rfl | rfl | rfl | rfl | rfl | rfl | rfl | rfl | rfl | rfl <;> decide
  have hpos : 0 < 2 ^ m := Nat.pow_pos (by decide)
  obtain ⟨Y1, a1, a2⟩ := made_loop w (2 ^ m) hw (by omega) (m : Int) (w : Int) rfl (sh w hw) [0, 2] 2 0 0 (.inl rfl) (2 ^ w) 0 [] (by omega) ⟨List.nodup_nil, Nat.zero_le _, (fun y hy => by cases hy), (fun _ y _ hp _ => absurd (hp rfl) (Nat.not_lt_zero _))⟩
  have hm2 : Made w (2 ^ m) 2 0 Y1 := ⟨a1.nodup, a1.len, fun y hy => (by
    obtain ⟨m1, m2⟩ := a1.mem y hy
    refine ⟨m1, m2.elim (fun q => .inl ⟨q.1, fun e => absurd e (by decide)⟩) (fun q => absurd q.2.1 (by decide))⟩), fun hh y hy _ hd => a1.all hh y hy (fun _ => hy) hd⟩
  obtain ⟨Y2, b1, b2⟩ := made_loop w (2 ^ m) hw (by omega) (m : Int) (w : Int) rfl (sh w hw) [0, 2] 2 1 2 (.inr rfl) (2 ^ w) 0 Y1 (by omega) hm2
  have hml : (mL w Y2).length = Y2.length := by unfold mL; rw [List.length_map]
  have zero : ((0 : Nat) : Int) = 0 := rfl
  rw [w01, zero] at a2
  rw [w11, zero] at b2
  refine ⟨Y2, b1, ?_⟩
  have e3 : Ev (fun k => spec_l03Make.l0 k (w : Int) ((2 ^ m : Nat) : Int) [0, 2] 2 2 (m : Int) (w : Int) (mL w Y2) (pL w Y2)) ((m : Int), (w : Int), mL w Y2, pL w Y2, decide (Y2.length = 2 ^ m)) := by
    refine ev_one (fun k => ?_)
    rw [spec_l03Make.l0, if_neg (by decide), hml]
    have : (((Y2.length : Nat) : Int) == ((2 ^ m : Nat) : Int)) = decide (Y2.length = 2 ^ m) := by
      rw [Bool.eq_iff_iff, beq_iff_eq, decide_eq_true_iff]; omega
    rw [this]
  have e2 : Ev (fun k => spec_l03Make.l0 k (w : Int) ((2 ^ m : Nat) : Int) [0, 2] 2 1 (m : Int) (w : Int) (mL w Y1) (pL w Y1)) ((m : Int), (w : Int), mL w Y2, pL w Y2, decide (Y2.length = 2 ^ m)) := Ev.step (fun k => by rw [spec_l03Make.l0, if_pos (by decide), if_pos (by decide), if_pos (by decide)]; rfl) (b2 _ e3)
  have e1 : Ev (fun k => spec_l03Make.l0 k (w : Int) ((2 ^ m : Nat) : Int) [0, 2] 2 0 (m : Int) (w : Int) [] []) ((m : Int), (w : Int), mL w Y2, pL w Y2, decide (Y2.length = 2 ^ m)) := Ev.step (fun k => by rw [spec_l03Make.l0, if_pos (by decide), if_pos (by decide), if_pos (by decide)]; rfl) (a2 _ e2)
  unfold spec_l03Make.f
  rw [sh m (by omega), u64_in (by omega) (by omega)]
  exact ev_pos (by omega) e1

theorem mL_get (w : Nat) (Y : List Nat) (i : Nat) (h : i < (mL w Y).length) (h' : i < Y.length) : (mL w Y)[i] = dg w Y[i] := by unfold mL; exact List.getElem_map _
theorem pL_get (w : Nat) (Y : List Nat) (i : Nat) (h : i < (pL w Y).length) (h' : i < Y.length) : (pL w Y)[i] = if dsp (dg w Y[i]) = 0 then dg w Y[i] else oth (dg w Y[i]) := by unfold pL; exact List.getElem_map _
theorem mL_length (w : Nat) (Y : List Nat) : (mL w Y).length = Y.length := by unfold mL; exact List.length_map _
theorem pL_length (w : Nat) (Y : List Nat) : (pL w Y).length = Y.length := by unfold pL; exact List.length_map _
theorem nodup_at {Y : List Nat} (h : Y.Nodup) {i j : Nat} (hi : i < Y.length) (hj : j < Y.length) (e : Y[i] = Y[j]) : i = j := by
  rcases Nat.lt_trichotomy i j with c | c | c
  · exact absurd e (List.pairwise_iff_getElem.1 h i j hi hj c)
  · exact c
  · exact absurd e.symm (List.pairwise_iff_getElem.1 h j i hj hi c)
theorem bytes_ext {a b : ByteArray} (h : a.toList = b.toList) : a.data.toList = b.data.toList := by rw [← Lib.toList_data, ← Lib.toList_data, h]
/-- A made code with enough words is valid. -/
theorem made_VC (w m : Nat) (hw0 : 2 ≤ w) (hw : w ≤ 12) (hev : w % 2 = 0) (hm0 : 1 ≤ m) (hm : m ≤ 6) (Y : List Nat) (h : Made w (2 ^ m) 2 (2 ^ w) Y) (hY : Y.length = 2 ^ m) : VC (m : Int) (w : Int) (mL w Y) (pL w Y) := by
  have hsh : shl .i64 1 (m : Int) = ((2 ^ m : Nat) : Int) := by
    have : m = 1 ∨ m = 2 ∨ m = 3 ∨ m = 4 ∨ m = 5 ∨ m = 6 := by omega
    rcases this with rfl | rfl | rfl | rfl | rfl | rfl <;> decide
  have hmem : ∀ (i : Nat) (hi : i < Y.length), Y[i] < 2 ^ w ∧ (dsp (dg w Y[i]) = 0 ∨ dsp (dg w Y[i]) = 2) := fun i hi => by
    obtain ⟨m1, m2⟩ := h.mem _ (List.getElem_mem hi)
    exact ⟨m1, m2.elim (fun q => .inl q.1) (fun q => .inr q.1)⟩
  have hdo : ∀ y, dsp (oth (dg w y)) = - dsp (dg w y) := fun y => oth_dsp _ (dg_bits w y) (by rw [dg_size]; omega)
  have key2 : ∀ (i j : Nat) (hi : i < Y.length) (hj : j < Y.length), (dg w Y[i]).toList = (dg w Y[j]).toList → i = j := fun i j hi hj e =>
    nodup_at h.nodup hi hj (dg_inj w _ _ (hmem i hi).1 (hmem j hj).1 (bytes_ext e))
  have key3 : ∀ (i j : Nat) (hi : i < Y.length) (hj : j < Y.length), (oth (dg w Y[i])).toList = (oth (dg w Y[j])).toList → i = j := fun i j hi hj e =>
    nodup_at h.nodup hi hj (dg_inj w _ _ (hmem i hi).1 (hmem j hj).1 (flip_inj (dg_bits _ _) (dg_bits _ _) (bytes_ext e)))
  have hdeq : ∀ a b : ByteArray, a.toList = b.toList → dsp a = dsp b := fun a b e => by
    have : a = b := by apply ByteArray.ext; apply Array.ext'; exact bytes_ext e
    rw [this]
  refine ⟨⟨by omega, by omega⟩, ⟨by omega, by omega⟩, ?_, by rw [mL_length, hY, hsh], by rw [pL_length, hY, hsh], fun i hi => ?_, fun i hi => ?_, fun i hi j hj e => ?_⟩
  · rw [Int.tmod_eq_emod_of_nonneg (by omega)]; omega
  · have hi' : i < Y.length := by rw [mL_length] at hi; exact hi
    unfold WOK
    rw [mL_get w Y i hi hi']
    refine ⟨dg_bits _ _, by rw [dg_size], (hmem i hi').2, fun i' h' e => ?_⟩
    rw [mL_get w Y i' (by omega) (by omega)] at e
    have := key2 i' i (by omega) hi' e
    omega
  · have hi' : i < Y.length := by rw [pL_length] at hi; exact hi
    unfold WOK
    rw [pL_get w Y i hi hi']
    by_cases c : dsp (dg w Y[i]) = 0
    · rw [if_pos c]
      refine ⟨dg_bits _ _, by rw [dg_size], .inl c, fun i' h' e => ?_⟩
      rw [pL_get w Y i' (Nat.lt_trans h' hi) (Nat.lt_trans h' hi')] at e
      by_cases c' : dsp (dg w (Y[i']'(Nat.lt_trans h' hi'))) = 0
      · rw [if_pos c'] at e
        exact absurd (key2 i' i (Nat.lt_trans h' hi') hi' e) (Nat.ne_of_lt h')
      · rw [if_neg c'] at e
        have := hdeq _ _ e
        rw [hdo, c] at this
        exact c' (Int.neg_eq_zero.1 this)
    · rw [if_neg c]
      have c2 := (hmem i hi').2.resolve_left c
      refine ⟨oth_bits _, by rw [oth_size, dg_size], .inr (by rw [hdo, c2]), fun i' h' e => ?_⟩
      rw [pL_get w Y i' (Nat.lt_trans h' hi) (Nat.lt_trans h' hi')] at e
      by_cases c' : dsp (dg w (Y[i']'(Nat.lt_trans h' hi'))) = 0
      · rw [if_pos c'] at e
        have := hdeq _ _ e
        rw [hdo, c'] at this
        exact c (Int.neg_eq_zero.1 this.symm)
      · rw [if_neg c'] at e
        exact absurd (key3 i' i (Nat.lt_trans h' hi') hi' e) (Nat.ne_of_lt h')
  · have hi' : i < Y.length := by rw [mL_length] at hi; exact hi
    have hj' : j < Y.length := by rw [pL_length] at hj; exact hj
    rw [mL_get w Y i hi hi', pL_get w Y j hj hj'] at e
    by_cases c' : dsp (dg w Y[j]) = 0
    · rw [if_pos c'] at e
      exact key2 i j hi' hj' e
    · rw [if_neg c'] at e
      have c2 := (hmem j hj').2.resolve_left c'
      have := hdeq _ _ e
      rw [hdo, c2] at this
      rcases (hmem i hi').2 with q | q
      · rw [q] at this; exact absurd this (by decide)
      · rw [q] at this; exact absurd this (by decide)
def balN (w : Nat) : Nat := ((List.range (2 ^ w)).filter fun x => decide (2 * popW x w = w)).length
theorem bal6 : 20 ≤ balN 6 := by decide +kernel
theorem bal8 : 64 ≤ balN 8 := by decide +kernel
theorem bal10 : 64 ≤ balN 10 := by decide +kernel
/-- Where there are enough words of disparity 0, enough are made. -/
theorem made_enough (w n : Nat) (hw : w ≤ 12) (hb : n ≤ balN w) (Y : List Nat) (h : Made w n 2 (2 ^ w) Y) : Y.length = n := by
  by_cases c : Y.length < n
  · exfalso
    have hsub : ((List.range (2 ^ w)).filter fun x => decide (2 * popW x w = w)) ⊆ Y := by
      intro y hy
      rw [List.mem_filter, List.mem_range, decide_eq_true_iff] at hy
      refine h.all c y hy.1 (fun q => absurd q (by decide)) ?_
      rw [dg_dsp w y (by omega)]
      omega
    have hnd : ((List.range (2 ^ w)).filter fun x => decide (2 * popW x w = w)).Nodup := List.nodup_range.filter _
    have := hnd.length_le_of_subset hsub
    unfold balN at hb
    omega
  · have := h.len
    omega
theorem words_yes (L : List ByteArray) (c1 o : Int) (hc : c1 ≤ 400) (hn : L.length ≤ 1000) (hok : ∀ (i : Nat) (h : i < L.length), WOK L c1 o i h) (d : Nat) : ∀ j : Nat, j + d = L.length → Ev (fun k => spec_l03Words.l0 k L c1 o (j : Int)) true := by
  induction d with
  | zero => intro j h; exact ev_one (fun k => by rw [spec_l03Words.l0, if_neg (by omega)])
  | succ d ih =>
    intro j h
    have hj : j < L.length := by omega
    have hw := wrap_succ hj (by omega)
    have hrd := rdS_get L j hj
    obtain ⟨w1, w2, w3, w4⟩ := hok j hj
    have W3 := Aside0.mk w3
    clear w3
    obtain ⟨i, i1, _, i3, _, _⟩ := idx_both (L.take j) L[j] (by rw [List.length_take]; omega) (L.take j).length 0 (by omega)
    rw [List.drop_zero] at i3
    have i1' : Ev (fun k => spec_l03Index.f k (L.take j) L[j]) i := i1
    have hneg : ¬ i ≥ 0 := fun hh => by
      obtain ⟨x, hx, e⟩ := List.mem_map.1 (i3.1 hh)
      obtain ⟨y, hy, rfl⟩ := List.mem_iff_getElem.1 hx
      rw [List.length_take] at hy
      rw [List.getElem_take] at e
      exact w4 y (by omega) e
    generalize L[j] = s at hrd w1 w2 W3 i1'
    have hIB : IB s = true := by unfold IB; rw [w1, decide_eq_true (by omega)]; rfl
    have hb := specBits_ev s (by omega)
    rw [hIB] at hb
    obtain ⟨v, hv, hv2⟩ := specDisp_any s (by omega)
    obtain rfl := hv2 hIB
    have go : Ev (fun k => (spec_l03Index.f k (L.take j) s).bind fun t => (if t ≥ 0 then (some false) else (spec_l03Words.l0 k L c1 o ((j + 1 : Nat) : Int)))) true := Ev.bind i1' (ev_neg hneg (ih (j + 1) (by omega)))
    refine Ev.step (fun k => by rw [spec_l03Words.l0, if_pos (by omega), if_pos (by omega), hrd, Int.toNat_natCast, hw, if_pos (show (j : Int) ≤ (L.length : Int) by omega)]) (Ev.bind hv (Ev.bind hb (ev_pos rfl (ev_pos w2 ?_))))
    by_cases c : dsp s = 0
    · exact ev_pos c go
    · exact ev_neg c (ev_pos (W3.out.resolve_left c) go)
theorem last_yes (L2 L3 : List ByteArray) (hn2 : L2.length ≤ 1048576) (hn3 : L3.length ≤ 1048576) (a0 a1 : Int) (hx : ∀ (i : Nat) (h : i < L2.length) (i' : Nat) (h' : i' < L3.length), L2[i].toList = L3[i'].toList → i = i') (d : Nat) : ∀ j : Nat, j + d = L2.length → Ev (fun k => spec_l03Is.l0 k (L2.length : Int) (j : Int) a0 a1 L2 L3) true := by
  induction d with
  | zero => intro j h; exact ev_one (fun k => by rw [spec_l03Is.l0, if_neg (by omega)])
  | succ d ih =>
    intro j h
    have hj : j < L2.length := by omega
    have hw := wrap_succ hj (by omega)
    have hrd := rdS_get L2 j hj
    obtain ⟨i, i1, _, _, _, i5⟩ := idx_both L3 L2[j] hn3 L3.length 0 (by omega)
    have i1' : Ev (fun k => spec_l03Index.f k L3 L2[j]) i := i1
    have sp : ∀ R, Ev (fun k => if i ≥ 0 then (if i = (j : Int) then spec_l03Is.l0 k (L2.length : Int) ((j + 1 : Nat) : Int) a0 a1 L2 L3 else some false) else spec_l03Is.l0 k (L2.length : Int) ((j + 1 : Nat) : Int) a0 a1 L2 L3) R → Ev (fun k => spec_l03Is.l0 k (L2.length : Int) (j : Int) a0 a1 L2 L3) R :=
      fun R hR => Ev.step (fun k => by rw [spec_l03Is.l0, if_pos (by omega), if_pos (by omega), if_pos (by omega), hrd, hw]) (Ev.bind i1' hR)
    have hi := ih (j + 1) (by omega)
    by_cases c : i ≥ 0
    · obtain ⟨y, e1, _, e2, e3⟩ := i5 c
      have := hx j hj y e2 e3.symm
      exact sp _ (ev_pos c (ev_pos (by omega) hi))
    · exact sp _ (ev_neg c hi)
theorem code_yes (a0 a1 : Int) (L2 L3 : List ByteArray) (hv : VC a0 a1 L2 L3) : Ev (fun k => spec_l03Is.f k a0 a1 L2 L3) true := by
  have hda := hv.data
  have hwi := hv.width
  obtain ⟨hl2, hl3⟩ := hv.le64
  have hs0 := spec_in a0 1 6
  have hs1 := spec_in a1 2 12
  rw [decide_eq_true hda] at hs0
  rw [decide_eq_true hwi] at hs1
  have hu : IntKind.u64.wrap a0 = a0 := u64_in (by omega) (by omega)
  have w2 : Ev (fun k => spec_l03Words.f k L2 a1 2) true := words_yes L2 a1 2 (by omega) (by omega) hv.w2 L2.length 0 (by omega)
  have w3 : Ev (fun k => spec_l03Words.f k L3 a1 (-2)) true := words_yes L3 a1 (-2) (by omega) (by omega) hv.w3 L3.length 0 (by omega)
  have la := last_yes L2 L3 (by omega) (by omega) a0 a1 hv.cross L2.length 0 (by omega)
  unfold spec_l03Is.f
  refine ev_to hs0 (ev_pos rfl (ev_to hs1 (ev_pos rfl ?_)))
  have e1 : Ev (fun k => spec_l03Is.j1 k (shl .i64 1 a0) (!true) a0 a1 L2 L3) true := Ev.step (fun k => by rw [Bool.not_true, spec_l03Is.j1, if_neg Bool.false_ne_true, ← hv.n2]; rfl) la
  refine Ev.step (fun k => by rw [hv.even, spec_l03Is.j0, if_neg (by decide), hu, if_pos (by omega), if_pos hv.n2, if_pos hv.n3]) (Ev.bind w2 (ev_pos rfl (Ev.bind w3 e1)))
theorem code_no {a0 a1 : Int} {L2 L3 : List ByteArray} {r : Bool} (hv : VC a0 a1 L2 L3) (h : Ev (fun k => spec_l03Is.f k a0 a1 L2 L3) r) : r = true := ev_det h (code_yes a0 a1 L2 L3 hv)

theorem wf_u8 {x : Int} (h : (Lit.int .u8 x).wf = true) : 0 ≤ x ∧ x ≤ 255 := by
  simp [Lit.wf, IntKind.min, IntKind.max, IntKind.signed, IntKind.bits] at h
  omega
theorem tmod_in {x n : Int} (h0 : 0 ≤ x) (hn : 0 < n) : 0 ≤ Int.tmod x n ∧ Int.tmod x n < n := by
  rw [Int.tmod_eq_emod_of_nonneg h0]
  exact ⟨Int.emod_nonneg _ (by omega), Int.emod_lt_of_pos _ hn⟩
theorem and_255 (x : Int) : 0 ≤ Go.bits .and .u64 x 255 ∧ Go.bits .and .u64 x 255 ≤ 255 := by
  show 0 ≤ IntKind.u64.wrap (((BitVec.ofInt 64 x &&& BitVec.ofInt 64 255).toNat : Nat) : Int) ∧ IntKind.u64.wrap (((BitVec.ofInt 64 x &&& BitVec.ofInt 64 255).toNat : Nat) : Int) ≤ 255
  have e1 : (BitVec.ofInt 64 255).toNat = 255 := by decide
  have h : (BitVec.ofInt 64 x &&& BitVec.ofInt 64 255).toNat ≤ 255 := by
    rw [BitVec.toNat_and, e1]
    exact Nat.and_le_right
  rw [u64_in (by omega) (by omega)]
  omega
theorem byte_of (l : List Int) (hb : ∀ x ∈ l, (Lit.int .u8 x).wf = true) (i : Int) (h0 : 0 ≤ i) (h1 : i < l.length) : 0 ≤ rd l i ∧ rd l i ≤ 255 := by
  obtain ⟨j, rfl⟩ := Int.eq_ofNat_of_zero_le h0
  rw [rd_get _ _ (by omega)]
  exact wf_u8 (hb _ (List.getElem_mem _))

theorem next_f (l : List Int) (hl : l.length ≤ 9223372036854775807) (hb : ∀ x ∈ l, (Lit.int .u8 x).wf = true) (at_ seed : Int) (h0 : 0 ≤ at_) (h1 : at_ ≤ 4611686018427387904) :
    ∃ v seed', spec_l00Src_next.f l at_ seed = some (v, at_ + 1, seed') ∧ 0 ≤ v ∧ v ≤ 255 := by
  unfold spec_l00Src_next.f
  rw [wrap64_in (x := at_ + 1) (by omega) (by omega)]
  by_cases c : at_ < (l.length : Int)
  · have hr := byte_of l hb at_ h0 c
    rw [if_pos c, if_pos h0, wrap64_in (x := rd l at_) (by omega) (by omega)]
    rw [if_pos (by omega)]
    exact ⟨_, _, rfl, hr⟩
  · rw [if_neg c]
    rw [if_neg (by omega)]
    refine ⟨_, _, rfl, ?_⟩
    have h := and_255 ((IntKind.u64.wrap ((IntKind.u64.wrap ((IntKind.u64.wrap (seed * 6364136223846793005)))) + 1442695040888963407)) / 1099511627776)
    rw [wrap64_in (by omega) (by omega)]
    exact h
theorem pick_f (l : List Int) (hl : l.length ≤ 9223372036854775807) (hb : ∀ x ∈ l, (Lit.int .u8 x).wf = true) (at_ seed n : Int) (h0 : 0 ≤ at_) (h1 : at_ ≤ 4611686018427387904) (hn : n ≤ 200) :
    ∃ v at' seed', spec_l00Src_pick.f l at_ seed n = some (v, at', seed') ∧ 0 ≤ v ∧ (v < n ∨ v = 0) ∧ at_ ≤ at' ∧ at' ≤ at_ + 1 := by
  unfold spec_l00Src_pick.f
  by_cases c : n ≤ 1
  · rw [if_pos c]; exact ⟨0, at_, seed, rfl, by omega, by omega, by omega, by omega⟩
  · rw [if_neg c]
    obtain ⟨v, seed', e, h2, h3⟩ := next_f l hl hb at_ seed h0 h1
    rw [e, Option.bind_some, if_neg (by omega), if_neg (by omega)]
    have := tmod_in h2 (show 0 < n by omega)
    exact ⟨_, _, _, rfl, this.1, .inl this.2, by show at_ ≤ at_ + 1; omega, by show at_ + 1 ≤ at_ + 1; omega⟩
theorem one_f (l : List Int) (hl : l.length ≤ 9223372036854775807) (hb : ∀ x ∈ l, (Lit.int .u8 x).wf = true) (at_ seed n : Int) (h0 : 0 ≤ at_) (h1 : at_ ≤ 4611686018427387904) (hn : n ≤ 200) :
    ∃ v at' seed', spec_l00Src_one.f l at_ seed n = some (v, at', seed') ∧ at_ ≤ at' ∧ at' ≤ at_ + 1 := by
  unfold spec_l00Src_one.f
  obtain ⟨v, at', seed', e, _, _, h3, h4⟩ := pick_f l hl hb at_ seed n h0 h1 hn
  rw [e, Option.bind_some]
  exact ⟨_, _, _, rfl, h3, h4⟩

def tr (i j p : Nat) : Nat := if p = j then i else if p = i then j else p
theorem tr_lt {i j p n : Nat} (hi : i < n) (hj : j < n) (hp : p < n) : tr i j p < n := by unfold tr; split; exact hi; split; exact hj; exact hp
theorem tr_tr (i j p : Nat) : tr i j (tr i j p) = p := by
  unfold tr
  by_cases c : p = j
  · subst c
    rw [if_pos rfl]
    by_cases c2 : i = p
    · rw [if_pos c2, c2]
    · rw [if_neg c2, if_pos rfl]
  · rw [if_neg c]
    by_cases c2 : p = i
    · subst c2
      rw [if_pos rfl, if_pos rfl]
    · rw [if_neg c2, if_neg c, if_neg c2]
theorem tr_inj {i j p q : Nat} (h : tr i j p = tr i j q) : p = q := by rw [← tr_tr i j p, h, tr_tr]
def sw (L : List ByteArray) (i j : Nat) : List ByteArray := (L.set i (rdOf ByteArray.empty L (j : Int))).set j (rdOf ByteArray.empty L (i : Int))
theorem sw_length (L : List ByteArray) (i j : Nat) : (sw L i j).length = L.length := by unfold sw; rw [List.length_set, List.length_set]
theorem sw_get (L : List ByteArray) (i j : Nat) (hi : i < L.length) (hj : j < L.length) (p : Nat) (h : p < (sw L i j).length) (hp : p < L.length) : (sw L i j)[p] = L[tr i j p]'(tr_lt hi hj hp) := by
  have r1 := rdS_get L i hi
  have r2 := rdS_get L j hj
  have e : (sw L i j)[p]? = some (L[tr i j p]'(tr_lt hi hj hp)) := by
    unfold sw
    rw [r1, r2, List.getElem?_set, List.getElem?_set, List.length_set]
    by_cases c : j = p
    · subst c
      rw [if_pos rfl, if_pos hj]
      congr 1
      have : tr i j j = i := by unfold tr; rw [if_pos rfl]
      simp only [this]
    · rw [if_neg c]
      by_cases c2 : i = p
      · subst c2
        rw [if_pos rfl, if_pos hi]
        congr 1
        have : tr i j i = j := by unfold tr; rw [if_neg (fun e => c e.symm), if_pos rfl]
        simp only [this]
      · rw [if_neg c2, List.getElem?_eq_getElem hp]
        congr 1
        have : tr i j p = p := by unfold tr; rw [if_neg (fun e => c e.symm), if_neg (fun e => c2 e.symm)]
        simp only [this]
  rw [List.getElem?_eq_getElem h] at e
  exact Option.some.inj e
theorem sw_sw (L : List ByteArray) (i j : Nat) (hi : i < L.length) (hj : j < L.length) : sw (sw L i j) i j = L := by
  apply List.ext_getElem (by rw [sw_length, sw_length])
  intro p h1 h2
  have hl := sw_length L i j
  rw [sw_get (sw L i j) i j (hl ▸ hi) (hl ▸ hj) p h1 (hl ▸ h2), sw_get L i j hi hj _ _ (tr_lt hi hj h2)]
  simp only [tr_tr]
theorem sw_mem {L : List ByteArray} {i j : Nat} (hi : i < L.length) (hj : j < L.length) {s : ByteArray} (h : s ∈ sw L i j) : s ∈ L := by
  obtain ⟨p, hp, rfl⟩ := List.mem_iff_getElem.1 h
  rw [sw_get L i j hi hj p hp (by rw [sw_length] at hp; exact hp)]
  exact List.getElem_mem _
theorem WOK.ne {L : List ByteArray} {c o : Int} (h : ∀ (i : Nat) (hi : i < L.length), WOK L c o i hi) {p q : Nat} (hp : p < L.length) (hq : q < L.length) (e : L[p].toList = L[q].toList) : p = q := by
  rcases Nat.lt_trichotomy p q with g | g | g
  · exact absurd e ((h q hq).2.2.2 p g)
  · exact g
  · exact absurd e.symm ((h p hp).2.2.2 q g)
theorem WOK.sw {L : List ByteArray} {c o : Int} (h : ∀ (i : Nat) (hi : i < L.length), WOK L c o i hi) {i j : Nat} (hi : i < L.length) (hj : j < L.length) : ∀ (p : Nat) (hp : p < (sw L i j).length), WOK (sw L i j) c o p hp := by
  intro p hp
  have hp' : p < L.length := by rw [sw_length] at hp; exact hp
  obtain ⟨w1, w2, w3, _⟩ := h (tr i j p) (tr_lt hi hj hp')
  unfold WOK
  rw [sw_get L i j hi hj p hp hp']
  refine ⟨w1, w2, w3, fun q hq e => ?_⟩
  rw [sw_get L i j hi hj q (Nat.lt_trans hq hp) (Nat.lt_trans hq hp')] at e
  exact absurd (tr_inj (WOK.ne h _ _ e)) (Nat.ne_of_lt hq)
theorem VC.sw {a0 a1 : Int} {L2 L3 : List ByteArray} (h : VC a0 a1 L2 L3) {i j : Nat} (hi : i < L2.length) (hj : j < L2.length) : VC a0 a1 (sw L2 i j) (sw L3 i j) := by
  have hl : L3.length = L2.length := by have := h.n2; have := h.n3; omega
  have hi3 : i < L3.length := by rw [hl]; exact hi
  have hj3 : j < L3.length := by rw [hl]; exact hj
  refine ⟨h.data, h.width, h.even, by rw [sw_length]; exact h.n2, by rw [sw_length]; exact h.n3, WOK.sw h.w2 hi hj, WOK.sw h.w3 hi3 hj3, fun p hp q hq e => ?_⟩
  rw [sw_get L2 i j hi hj p hp (by rw [sw_length] at hp; exact hp), sw_get L3 i j hi3 hj3 q hq (by rw [sw_length] at hq; exact hq)] at e
  exact tr_inj (h.cross _ _ _ _ e)
theorem among_f (l : List Int) (hl : l.length ≤ 9223372036854775807) (hb : ∀ x ∈ l, (Lit.int .u8 x).wf = true) (at_ seed : Int) (h0 : 0 ≤ at_) (h1 : at_ ≤ 4611686018427387904) (x y : Int) :
    ∃ v at' seed', spec_l00Src_among.f l at_ seed [x, y] = some (v, at', seed') ∧ (v = x ∨ v = y) ∧ at_ ≤ at' ∧ at' ≤ at_ + 1 := by
  obtain ⟨v, at', seed', e, v1, v2, v3, v4⟩ := pick_f l hl hb at_ seed 2 h0 h1 (by decide)
  unfold spec_l00Src_among.f
  rw [show (([x, y] : List Int).length : Int) = 2 from rfl, e, Option.bind_some, if_pos v1, if_pos (by omega)]
  refine ⟨_, _, _, rfl, ?_, v3, v4⟩
  have : v = 0 ∨ v = 1 := by omega
  rcases this with rfl | rfl
  · exact .inl rfl
  · exact .inr rfl
theorem draw_loop (l : List Int) (hl : l.length ≤ 9223372036854775807) (hb : ∀ x ∈ l, (Lit.int .u8 x).wf = true) (a0 a1 : Int) (n : Nat) (c : Nat) : ∀ (at_ seed : Int) (L2 L3 : List ByteArray), VC a0 a1 L2 L3 → L2.length = n → 0 ≤ at_ → at_ + 3 * c ≤ 1000 → c ≤ 100 →
    ∃ L2' L3' at' seed', VC a0 a1 L2' L3' ∧ Ev (fun k => spec_l03DrawOk.l0 k (n : Int) (c : Int) l at_ seed a0 a1 L2 L3) (a0, a1, L2', L3', at', seed') := by
  induction c with
  | zero => intro at_ seed L2 L3 hv hn h0 h1 _; exact ⟨L2, L3, at_, seed, hv, ev_one (fun k => by rw [spec_l03DrawOk.l0, if_neg (by decide)])⟩
  | succ c ih =>
    intro at_ seed L2 L3 hv hn h0 h1 hc
    obtain ⟨hl2, hl3⟩ := hv.le64
    obtain ⟨hp2, hp3⟩ := hv.pos
    have h23 : L3.length = L2.length := by have := hv.n2; have := hv.n3; omega
    obtain ⟨i, at1, sd1, e1, i1, i2, i3, i4⟩ := pick_f l hl hb at_ seed (n : Int) h0 (by omega) (by omega)
    obtain ⟨j, at2, sd2, e2, j1, j2, j3, j4⟩ := pick_f l hl hb at1 sd1 (n : Int) (by omega) (by omega) (by omega)
    obtain ⟨b, at3, sd3, e3, b3, b4⟩ := one_f l hl hb at2 sd2 3 (by omega) (by omega) (by decide)
    obtain ⟨p, rfl⟩ := Int.eq_ofNat_of_zero_le i1
    obtain ⟨q, rfl⟩ := Int.eq_ofNat_of_zero_le j1
    have hp : p < L2.length := by omega
    have hq : q < L2.length := by omega
    have hwc : wrap64 (((c + 1 : Nat) : Int) - 1) = (c : Int) := by rw [wrap64_in (by omega) (by omega)]; omega
    have s2 : ∀ s ∈ sw L2 p q, s.size ≤ 1048576 := fun s h => by have := (hv.mem (.inl (sw_mem hp hq h))).2.2; omega
    have s3 : ∀ s ∈ L3, s.size ≤ 1048576 := fun s h => by have := (hv.mem (.inr h)).2.2; omega
    have hsl := sw_length L2 p q
    have fin : ∀ (M2 M3 : List ByteArray), VC a0 a1 M2 M3 → M2.length = n → ∃ L2' L3' at' seed', VC a0 a1 L2' L3' ∧ Ev (fun k => spec_l03DrawOk.l0 k (n : Int) (c : Int) l at3 sd3 a0 a1 M2 M3) (a0, a1, L2', L3', at', seed') := fun M2 M3 hm hmn => ih at3 sd3 M2 M3 hm hmn (by omega) (by omega) (by omega)
    have toN1 : ((p : Int)).toNat = p := Int.toNat_natCast p
    have toN2 : ((q : Int)).toNat = q := Int.toNat_natCast q
    have hp3' : p < L3.length := by rw [h23]; exact hp
    have hq3' : q < L3.length := by rw [h23]; exact hq
    have c1 : ((p : Nat) : Int) < (L2.length : Int) := by omega
    have c2 : ((q : Nat) : Int) < (L2.length : Int) := by omega
    have c3 : ((p : Nat) : Int) < (L3.length : Int) := by omega
    have c4 : ((q : Nat) : Int) < (L3.length : Int) := by omega
    have cpos : ((c + 1 : Nat) : Int) > 0 := by omega
    cases b with
    | true =>
      obtain ⟨r, r1, _, r3⟩ := code_both a0 a1 (sw L2 p q) L3 (by omega) (by omega) s2 s3
      obtain ⟨K, hr⟩ := r1
      have hr' := fun k hk => (show spec_l03Is.f k a0 a1 (sw L2 p q) L3 = some r from hr k hk)
      cases r with
      | true =>
        obtain ⟨L2', L3', at', sd', v', K2, g⟩ := fin (sw L2 p q) L3 (r3 rfl) (by omega)
        refine ⟨L2', L3', at', sd', v', K + K2 + 1, fun k hk => ?_⟩
        obtain ⟨k, rfl⟩ : ∃ q, k = q + 1 := ⟨k - 1, by omega⟩
        show spec_l03DrawOk.l0 (k + 1) (n : Int) ((c + 1 : Nat) : Int) l at_ seed a0 a1 L2 L3 = _
        rw [spec_l03DrawOk.l0, if_pos cpos, e1, Option.bind_some, e2, Option.bind_some, if_pos i1, if_pos c1, if_pos j1, if_pos c2, toN1, toN2, Option.bind_some, e3, Option.bind_some, if_pos rfl]
        show ((spec_l03Is.f k a0 a1 (sw L2 p q) L3).bind _) = _
        rw [hr' k (by omega), Option.bind_some, if_pos rfl, hwc]
        exact g k (by omega)
      | false =>
        obtain ⟨L2', L3', at', sd', v', K2, g⟩ := fin L2 L3 hv hn
        refine ⟨L2', L3', at', sd', v', K + K2 + 1, fun k hk => ?_⟩
        obtain ⟨k, rfl⟩ : ∃ q, k = q + 1 := ⟨k - 1, by omega⟩
        show spec_l03DrawOk.l0 (k + 1) (n : Int) ((c + 1 : Nat) : Int) l at_ seed a0 a1 L2 L3 = _
        rw [spec_l03DrawOk.l0, if_pos cpos, e1, Option.bind_some, e2, Option.bind_some, if_pos i1, if_pos c1, if_pos j1, if_pos c2, toN1, toN2, Option.bind_some, e3, Option.bind_some, if_pos rfl]
        show ((spec_l03Is.f k a0 a1 (sw L2 p q) L3).bind _) = _
        rw [hr' k (by omega), Option.bind_some, if_neg Bool.false_ne_true, hwc]
        have e := sw_sw L2 p q hp hq
        show spec_l03DrawOk.l0 k (n : Int) (c : Int) l at3 sd3 a0 a1 (sw (sw L2 p q) p q) L3 = _
        rw [e]
        exact g k (by omega)
    | false =>
      have hv2 := hv.sw hp hq
      obtain ⟨K, hr⟩ := code_yes a0 a1 _ _ hv2
      have hr' := fun k hk => (show spec_l03Is.f k a0 a1 (sw L2 p q) (sw L3 p q) = some true from hr k hk)
      obtain ⟨L2', L3', at', sd', v', K2, g⟩ := fin (sw L2 p q) (sw L3 p q) hv2 (by omega)
      refine ⟨L2', L3', at', sd', v', K + K2 + 1, fun k hk => ?_⟩
      obtain ⟨k, rfl⟩ : ∃ q, k = q + 1 := ⟨k - 1, by omega⟩
      show spec_l03DrawOk.l0 (k + 1) (n : Int) ((c + 1 : Nat) : Int) l at_ seed a0 a1 L2 L3 = _
      rw [spec_l03DrawOk.l0, if_pos cpos, e1, Option.bind_some, e2, Option.bind_some, if_pos i1, if_pos c1, if_pos j1, if_pos c2, toN1, toN2, Option.bind_some, e3, Option.bind_some, if_neg Bool.false_ne_true, if_pos c3, if_pos c4, Option.bind_some]
      show ((spec_l03Is.f k a0 a1 (sw L2 p q) (sw L3 p q)).bind _) = _
      rw [hr' k (by omega), Option.bind_some, if_pos rfl, hwc]
      exact g k (by omega)
theorem draw_j1 (l : List Int) (hl : l.length ≤ 9223372036854775807) (hb : ∀ x ∈ l, (Lit.int .u8 x).wf = true) (a0 a1 at_ seed : Int) (L2 L3 : List ByteArray) (hv : VC a0 a1 L2 L3) (h0 : 0 ≤ at_) (h1 : at_ ≤ 500) :
    ∃ L2' L3' at' seed', VC a0 a1 L2' L3' ∧ Ev (fun k => spec_l03DrawOk.j1 k l at_ seed a0 a1 L2 L3) (a0, a1, L2', L3', at', seed') := by
  obtain ⟨c, at1, sd1, e1, c1, c2, c3, c4⟩ := pick_f l hl hb at_ seed 4 h0 (by omega) (by decide)
  obtain ⟨p, rfl⟩ := Int.eq_ofNat_of_zero_le c1
  obtain ⟨L2', L3', at', sd', v', g⟩ := draw_loop l hl hb a0 a1 L2.length p at1 sd1 L2 L3 hv rfl (by omega) (by omega) (by omega)
  exact ⟨L2', L3', at', sd', v', Ev.step (fun k => by rw [spec_l03DrawOk.j1, e1, Option.bind_some]) g⟩
theorem draw_j0 (l : List Int) (hl : l.length ≤ 9223372036854775807) (hb : ∀ x ∈ l, (Lit.int .u8 x).wf = true) (at_ seed : Int) (h0 : 0 ≤ at_) (h1 : at_ ≤ 500) (m w : Nat) (h : 1 ≤ m ∧ m ≤ 3 ∧ (w = 2 ∨ w = 4 ∨ w = 6) ∨ (m = 5 ∨ m = 6) ∧ (w = 8 ∨ w = 10)) :
    ∃ a1 L2' L3' at' seed', VC (m : Int) a1 L2' L3' ∧ Ev (fun k => spec_l03DrawOk.j0 k (m : Int) (w : Int) l at_ seed) ((m : Int), a1, L2', L3', at', seed') := by
  obtain ⟨Y, y1, K, y2⟩ := make_ev w m (by omega) (by omega) (by omega) (by omega)
  have y2' := fun k hk => (show spec_l03Make.f k (m : Int) (w : Int) = some ((m : Int), (w : Int), mL w Y, pL w Y, decide (Y.length = 2 ^ m)) from y2 k hk)
  by_cases c : Y.length = 2 ^ m
  · have hv := made_VC w m (by omega) (by omega) (by omega) (by omega) (by omega) Y y1 c
    obtain ⟨L2', L3', at', sd', v', K2, g⟩ := draw_j1 l hl hb _ _ at_ seed _ _ hv h0 h1
    refine ⟨_, L2', L3', at', sd', v', K + K2 + 1, fun k hk => ?_⟩
    obtain ⟨k, rfl⟩ : ∃ q, k = q + 1 := ⟨k - 1, by omega⟩
    show spec_l03DrawOk.j0 (k + 1) (m : Int) (w : Int) l at_ seed = _
    rw [spec_l03DrawOk.j0, y2' k (by omega), Option.bind_some, if_pos (decide_eq_true c)]
    exact g k (by omega)
  · have hm3 : m ≤ 3 := by
      rcases h with h | ⟨h, h'⟩
      · omega
      · exfalso
        have p5 : (2 : Nat) ^ 5 = 32 := by decide
        have p6 : (2 : Nat) ^ 6 = 64 := by decide
        have b8 := bal8
        have b10 := bal10
        refine c (made_enough w (2 ^ m) (by omega) ?_ Y y1)
        rcases h with rfl | rfl <;> rcases h' with rfl | rfl <;> omega
    have p3 : 2 ^ m ≤ 2 ^ 3 := Nat.pow_le_pow_right (by decide) hm3
    have p3' : (2 : Nat) ^ 3 = 8 := by decide
    have b6 := bal6
    obtain ⟨Z, z1, K3, z2⟩ := make_ev 6 m (by decide) (by omega) (by omega) (by decide)
    have z2' := fun k hk => (show spec_l03Make.f k (m : Int) 6 = some ((m : Int), 6, mL 6 Z, pL 6 Z, decide (Z.length = 2 ^ m)) from z2 k hk)
    have cz := made_enough 6 (2 ^ m) (by decide) (by omega) Z z1
    have hv := made_VC 6 m (by decide) (by decide) (by decide) (by omega) (by omega) Z z1 cz
    obtain ⟨L2', L3', at', sd', v', K2, g⟩ := draw_j1 l hl hb _ _ at_ seed _ _ hv h0 h1
    refine ⟨_, L2', L3', at', sd', v', K + K2 + K3 + 1, fun k hk => ?_⟩
    obtain ⟨k, rfl⟩ : ∃ q, k = q + 1 := ⟨k - 1, by omega⟩
    show spec_l03DrawOk.j0 (k + 1) (m : Int) (w : Int) l at_ seed = _
    rw [spec_l03DrawOk.j0, y2' k (by omega), Option.bind_some, if_neg (by rw [decide_eq_true_iff]; exact c), z2' k (by omega), Option.bind_some]
    exact g k (by omega)
/-- A drawn code is valid. -/
theorem block_ev (l : List Int) (hl : l.length ≤ 9223372036854775807) (hb : ∀ x ∈ l, (Lit.int .u8 x).wf = true) : ∃ a0 a1 L2 L3, VC a0 a1 L2 L3 ∧ Ev (fun k => spec_B10Block.f k l) (a0, a1, L2, L3) := by
  obtain ⟨d, at1, sd1, e1, d1, d2, d3, d4⟩ := pick_f l hl hb 0 0 3 (by decide) (by decide) (by decide)
  obtain ⟨v, at2, sd2, e2, v1, v2, v3, v4⟩ := pick_f l hl hb at1 sd1 3 (by omega) (by omega) (by decide)
  obtain ⟨b, at3, sd3, e3, b3, b4⟩ := one_f l hl hb at2 sd2 12 (by omega) (by omega) (by decide)
  have main : ∃ a0 a1 L2 L3 at' sd', VC a0 a1 L2 L3 ∧ Ev (fun k => spec_l03DrawOk.f k l 0 0) (a0, a1, L2, L3, at', sd') := by
    unfold spec_l03DrawOk.f
    cases b with
    | true =>
      obtain ⟨x, at4, sd4, e4, x1, x3, x4⟩ := among_f l hl hb at3 sd3 (by omega) (by omega) 5 6
      obtain ⟨y, at5, sd5, e5, y1, y3, y4⟩ := among_f l hl hb at4 sd4 (by omega) (by omega) 8 10
      obtain ⟨m, rfl⟩ := Int.eq_ofNat_of_zero_le (show 0 ≤ x by omega)
      obtain ⟨w, rfl⟩ := Int.eq_ofNat_of_zero_le (show 0 ≤ y by omega)
      obtain ⟨a1, L2, L3, at', sd', hv, g⟩ := draw_j0 l hl hb at5 sd5 (by omega) (by omega) m w (.inr ⟨by omega, by omega⟩)
      exact ⟨_, a1, L2, L3, at', sd', hv, ev_to e1 (ev_to e2 (ev_to e3 (ev_pos rfl (ev_to e4 (ev_to e5 g)))))⟩
    | false =>
      obtain ⟨dn, rfl⟩ := Int.eq_ofNat_of_zero_le d1
      obtain ⟨vn, rfl⟩ := Int.eq_ofNat_of_zero_le v1
      have w1 : wrap64 (1 + (dn : Int)) = ((dn + 1 : Nat) : Int) := by rw [wrap64_in (by omega) (by omega)]; omega
      have w2 : wrap64 (2 * wrap64 (1 + (vn : Int))) = ((2 * (vn + 1) : Nat) : Int) := by
        rw [wrap64_in (x := 1 + (vn : Int)) (by omega) (by omega), wrap64_in (by omega) (by omega)]; omega
      obtain ⟨a1, L2, L3, at', sd', hv, g⟩ := draw_j0 l hl hb at3 sd3 (by omega) (by omega) (dn + 1) (2 * (vn + 1)) (.inl ⟨by omega, by omega, by omega⟩)
      refine ⟨_, a1, L2, L3, at', sd', hv, ev_to e1 (ev_to e2 (ev_to e3 (ev_neg Bool.false_ne_true ?_)))⟩
      show Ev (fun k => spec_l03DrawOk.j0 k (wrap64 (1 + (dn : Int))) (wrap64 (2 * wrap64 (1 + (vn : Int)))) l at3 sd3) _
      rw [w1, w2]
      exact g
  obtain ⟨a0, a1, L2, L3, at', sd', hv, g⟩ := main
  refine ⟨a0, a1, L2, L3, hv, ?_⟩
  unfold spec_B10Block.f spec_l00From.f
  exact ev_some (Ev.bind (f := fun k (t : Int × Int × List ByteArray × List ByteArray × Int × Int) => some (t.1, t.2.1, t.2.2.1, t.2.2.2.1)) g (Ev.now _))
theorem data_loop (l : List Int) (hl : l.length ≤ 9223372036854775807) (hb : ∀ x ∈ l, (Lit.int .u8 x).wf = true) (a0 a1 : Int) (L2 L3 : List ByteArray) (ha : 1 ≤ a0 ∧ a0 ≤ 6) (hs : shl .i64 1 a0 ≤ 64) (hs0 : 0 < shl .i64 1 a0) (c : Nat) : ∀ (at_ seed : Int) (o : List Int), 0 ≤ at_ → at_ + c ≤ 100 → o.length + c ≤ 100 → (∀ x ∈ o, 0 ≤ x ∧ x ≤ wrap64 (shl .i64 1 a0 - 1)) →
    ∃ D, D.length = o.length + c ∧ (∀ x ∈ D, 0 ≤ x ∧ x ≤ wrap64 (shl .i64 1 a0 - 1)) ∧ Ev (fun k => spec_B10Data.l0 k o (c : Int) a0 a1 L2 L3 l at_ seed) D := by
  have hu : IntKind.u64.wrap a0 = a0 := u64_in (by omega) (by omega)
  have hw : wrap64 (shl .i64 1 a0 - 1) = shl .i64 1 a0 - 1 := wrap64_in (by omega) (by omega)
  induction c with
  | zero => intro at_ seed o h0 h1 h2 h3; exact ⟨o, rfl, h3, ev_one (fun k => by rw [spec_B10Data.l0, if_neg (by decide)])⟩
  | succ c ih =>
    intro at_ seed o h0 h1 h2 h3
    obtain ⟨v, at1, sd1, e1, v1, v2, v3, v4⟩ := pick_f l hl hb at_ seed (shl .i64 1 a0) h0 (by omega) (by omega)
    have hwc : wrap64 (((c + 1 : Nat) : Int) - 1) = (c : Int) := by rw [wrap64_in (by omega) (by omega)]; omega
    obtain ⟨D, d1, d2, d3⟩ := ih at1 sd1 (o ++ [v]) (by omega) (by omega) (by rw [List.length_append]; show o.length + 1 + c ≤ 100; omega) (fun x hx => by
      rcases List.mem_append.1 hx with hx | hx
      · exact h3 x hx
      · rw [List.mem_singleton] at hx
        subst hx
        rw [hw]
        exact ⟨v1, by omega⟩)
    refine ⟨D, by rw [d1, List.length_append]; show o.length + 1 + c = _; omega, d2, Ev.step (fun k => ?_) d3⟩
    rw [spec_B10Data.l0, if_pos (by omega), hu, if_pos (by omega), e1, Option.bind_some, if_pos (by omega), hwc]
theorem data_ev (l : List Int) (hl : l.length ≤ 9223372036854775807) (hb : ∀ x ∈ l, (Lit.int .u8 x).wf = true) {a0 a1 : Int} {L2 L3 : List ByteArray} (hv : VC a0 a1 L2 L3) : ∃ D : List Int, D.length ≤ 8 ∧ (∀ x ∈ D, 0 ≤ x ∧ x ≤ wrap64 (shl .i64 1 a0 - 1)) ∧ Ev (fun k => spec_B10Data.f k l a0 a1 L2 L3) D := by
  obtain ⟨v, at1, sd1, e1, v1, v2, v3, v4⟩ := pick_f l hl hb 0 0 9 (by decide) (by decide) (by decide)
  obtain ⟨p, rfl⟩ := Int.eq_ofNat_of_zero_le v1
  have hpos := hv.pos
  have hn2 := hv.n2
  obtain ⟨D, d1, d2, d3⟩ := data_loop l hl hb a0 a1 L2 L3 hv.data (shl_data a0 hv.data).2 (by omega) p at1 sd1 [] (by omega) (by omega) (by simp; omega) (fun x hx => by cases hx)
  refine ⟨D, by rw [d1]; show 0 + p ≤ 8; omega, d2, ?_⟩
  unfold spec_B10Data.f spec_l00From.f
  exact ev_some (ev_to e1 d3)
theorem b10At_f (l : List Int) (hl : l.length ≤ 9223372036854775807) (hb : ∀ x ∈ l, (Lit.int .u8 x).wf = true) (i n : Int) (hi : 0 ≤ i) (hi2 : i ≤ 1000) (hn : 1 < n) : ∃ v, laws_b10At.f l i n = some v ∧ 0 ≤ v ∧ v < n := by
  unfold laws_b10At.f
  rw [if_neg (by omega)]
  by_cases c2 : i < (l.length : Int)
  · rw [if_pos c2, if_pos hi, if_neg (by omega)]
    have h := byte_of l hb i hi c2
    rw [wrap64_in (x := rd l i) (by omega) (by omega)]
    have := tmod_in h.1 (show 0 < n by omega)
    exact ⟨_, rfl, this.1, this.2⟩
  · rw [if_neg c2, if_neg (by omega)]
    rw [wrap64_in (x := i * 37) (by omega) (by omega), wrap64_in (x := i * 37 + 11) (by omega) (by omega)]
    have := tmod_in (show 0 ≤ i * 37 + 11 by omega) (show 0 < n by omega)
    exact ⟨_, rfl, this.1, this.2⟩

theorem hasPrefix_f (s t : ByteArray) (j : Nat) (hj : j ≤ s.size) (h0 : 0 < t.size) : strings_HasPrefix.f (s.extract j s.size) t = some (Lib.occAt s.data.toList t.data.toList j) := by
  have hu : (s.extract j s.size).size = s.size - j := by simp
  have es := size_l s
  have et := size_l t
  unfold strings_HasPrefix.f stringslite_HasPrefix.f
  by_cases c : j + t.size ≤ s.size
  · rw [if_pos (by omega), if_pos (by omega), if_pos (by omega), Option.bind_some, Int.toNat_natCast]
    have e : (s.extract j s.size).extract 0 t.size = s.extract j (j + t.size) := by
      rw [ByteArray.extract_extract, Nat.add_zero, Nat.min_eq_left c]
    rw [e, extract_list, Lib.toList_data, show j + t.size - j = t.data.toList.length by omega, take_prefix]
    rfl
  · rw [if_neg (by omega), Option.bind_some, occAt_short _ _ _ (by omega) (by omega)]
def Cut2 (W n : Nat) (t z : List UInt8) : Prop := ∃ p, p + n ≤ 2 * W ∧ z = cutL t n p
theorem cut_oc {W : Nat} {w v : ByteArray} (hw : w.size = W) (hv : v.size = W) (pat : ByteArray) (h0 : 0 < pat.size) : OC pat (w ++ v) ↔ Cut2 W pat.size (w ++ v).data.toList pat.data.toList := by
  constructor
  · rintro ⟨p, p1, p2⟩
    have hp : p + pat.size ≤ 2 * W := by
      by_cases c : p + pat.size ≤ 2 * W
      · exact c
      · exfalso
        rw [occAt_short _ _ _ (by rw [← size_l, ← size_l, ByteArray.size_append]; omega) (by rw [← size_l]; exact h0)] at p2
        cases p2
    rw [occ_cut, ← size_l] at p2
    exact ⟨p, hp, p2⟩
  · rintro ⟨p, p1, p2⟩
    refine ⟨p, by rw [ByteArray.size_append]; omega, ?_⟩
    rw [occ_cut, ← size_l]
    exact p2
theorem shl_pow (n : Nat) (h0 : 1 ≤ n) (hn : n ≤ 8) : shl .i64 1 (n : Int) = ((2 ^ n : Nat) : Int) := by
  have : n = 1 ∨ n = 2 ∨ n = 3 ∨ n = 4 ∨ n = 5 ∨ n = 6 ∨ n = 7 ∨ n = 8 := by omega
  rcases this with rfl | rfl | rfl | rfl | rfl | rfl | rfl | rfl <;> decide
/-- Every part of what was sent, n long, stands in two words that can follow one another. -/
def Sent (L2 L3 : List ByteArray) (W n : Nat) (out : List UInt8) : Prop := ∀ p, p + n ≤ out.length → ∃ st w v, (st = 1 ∨ st = -1) ∧ w ∈ lst L2 L3 st ∧ v ∈ lst L2 L3 (nxt st w) ∧ Cut2 W n (w ++ v).data.toList (cutL out n p)
def Tail (L2 L3 : List ByteArray) (st : Int) (out : List UInt8) : Prop := out = [] ∨ ∃ st0 w o0, (st0 = 1 ∨ st0 = -1) ∧ out = o0 ++ ByteArray.toList w ∧ w ∈ lst L2 L3 st0 ∧ st = nxt st0 w
theorem sent_next {L2 L3 : List ByteArray} {W n : Nat} (hn : n ≤ W + 1) (h1 : 1 ≤ n) (h2 : ∀ v ∈ L2, v.size = W) (h3 : ∀ v ∈ L3, v.size = W) (hp2 : 0 < L2.length) (hp3 : 0 < L3.length) {st : Int} (hst : st = 1 ∨ st = -1) {out v : ByteArray} (hv : v ∈ lst L2 L3 st) (hs : Sent L2 L3 W n out.data.toList) (ht : Tail L2 L3 st out.data.toList) : Sent L2 L3 W n (out ++ v).data.toList := by
  have hsz : ∀ st w, w ∈ lst L2 L3 st → w.data.toList.length = W := fun st w h => by rw [← size_l]; exact (lst_mem h).elim (h2 w) (h3 w)
  have lv := hsz _ _ hv
  intro p hp
  rw [app_l, List.length_append, lv] at hp
  by_cases c : p + n ≤ out.data.toList.length
  · obtain ⟨s, w, u, a1, a2, a3, a4⟩ := hs p c
    refine ⟨s, w, u, a1, a2, a3, ?_⟩
    have e : cutL (out ++ v).data.toList n p = cutL out.data.toList n p := by
      unfold cutL
      rw [app_l, List.drop_append_of_le_length (by omega), List.take_append_of_le_length (by rw [List.length_drop]; omega)]
    rw [e]
    exact a4
  · rcases ht with ht | ⟨s0, w, o0, b1, b2, b3, b4⟩
    · have hne : 0 < (lst L2 L3 (nxt st v)).length := by unfold lst; split <;> omega
      have hv2 := List.getElem_mem hne
      generalize (lst L2 L3 (nxt st v))[0] = u at hv2
      rw [ht] at hp
      have hp' : p + n ≤ W := by simpa using hp
      refine ⟨st, v, u, hst, hv, hv2, p, by omega, ?_⟩
      unfold cutL
      rw [app_l, app_l, ht, List.nil_append, List.drop_append_of_le_length (by omega), List.take_append_of_le_length (by rw [List.length_drop]; omega)]
    · rw [Lib.toList_data] at b2
      have lw := hsz _ _ b3
      have lo : out.data.toList.length = o0.length + W := by rw [b2, List.length_append, lw]
      have hq : o0.length ≤ p := by omega
      rw [b4] at hv
      refine ⟨s0, w, v, b1, b3, hv, p - o0.length, by omega, ?_⟩
      unfold cutL
      rw [app_l, app_l, b2, List.append_assoc, List.drop_append, List.drop_eq_nil_of_le hq, List.nil_append]
theorem tail_next {L2 L3 : List ByteArray} {st : Int} (hst : st = 1 ∨ st = -1) {out v : ByteArray} (hv : v ∈ lst L2 L3 st) : Tail L2 L3 (nxt st v) (out ++ v).data.toList :=
  .inr ⟨st, v, out.data.toList, hst, by rw [app_l, Lib.toList_data], hv, rfl⟩
theorem enc_sent (a0 : Int) (L2 L3 : List ByteArray) (W n : Nat) (hv : VC a0 (W : Int) L2 L3) (hn : n ≤ W + 1) (h1 : 1 ≤ n) (D : List Int) (hD : D.length ≤ 8) (hall : ∀ x ∈ D, 0 ≤ x ∧ x ≤ wrap64 (shl .i64 1 a0 - 1)) (d : Nat) : ∀ (j : Nat) (st : Int) (out : ByteArray), j + d = D.length → out.size = W * j → areB out.data.toList = true → (st = 1 ∨ st = -1) → Sent L2 L3 W n out.data.toList → Tail L2 L3 st out.data.toList →
    ∃ s t, areB s.data.toList = true ∧ s.size = W * D.length ∧ Sent L2 L3 W n s.data.toList ∧ Ev (fun k => spec_l03Encode.l0 k st D out (j : Int) a0 (W : Int) L2 L3) (s, t, true) := by
  have hu : IntKind.u64.wrap a0 = a0 := u64_in (by have := hv.data; omega) (by have := hv.data; omega)
  obtain ⟨hle2, hle3⟩ := hv.le64
  obtain ⟨hp2, hp3⟩ := hv.pos
  have hn2 := hv.n2
  have hn3 := hv.n3
  have hda := hv.data
  have hwi := hv.width
  have z2 : ∀ v ∈ L2, v.size = W := fun v h => by have := (hv.mem (.inl h)).2.1; omega
  have z3 : ∀ v ∈ L3, v.size = W := fun v h => by have := (hv.mem (.inr h)).2.1; omega
  induction d with
  | zero =>
    intro j st out h ho hB _ hS _
    obtain rfl : j = D.length := by omega
    exact ⟨out, st, hB, ho, hS, ev_one (fun k => by rw [spec_l03Encode.l0, if_neg (by omega)])⟩
  | succ d ih =>
    intro j st out h ho hB hst hS hT
    have hj : j < D.length := by omega
    have hjl : W * j ≤ 12 * 8 := Nat.mul_le_mul (by omega) (by omega)
    have c := hall _ (List.getElem_mem hj)
    have c' : 0 ≤ D[j] ∧ D[j] ≤ shl .i64 1 a0 - 1 := by rw [wrap64_in (by omega) (by omega)] at c; exact c
    obtain ⟨m, hm⟩ := Int.eq_ofNat_of_zero_le c'.1
    have hll : ((lst L2 L3 st).length : Int) = shl .i64 1 a0 := by unfold lst; split <;> assumption
    have hml : m < (lst L2 L3 st).length := by omega
    have hmem := List.getElem_mem hml
    have hrd := rdS_get (lst L2 L3 st) m hml
    generalize (lst L2 L3 st)[m] = v at hmem hrd
    have hvm := hv.mem (lst_mem hmem)
    obtain ⟨s, t, q1, q2, q3, K, q4⟩ := ih (j + 1) (nxt st v) (out ++ v) (by omega) (by rw [ByteArray.size_append, Nat.mul_succ]; omega) (app_areB _ _ hB (IB_parts hvm.1).1) (nxt_pm hst v) (sent_next hn h1 z2 z3 hp2 hp3 hst hmem hS hT) (tail_next hst hmem)
    obtain ⟨K2, hx_⟩ := specNext_ev st v hvm.1
    have hx := fun k hk => (show spec_l03Next.f k st v = some (nxt st v) from hx_ k hk)
    have hcat : out.size + v.size ≤ 9223372036854775807 := Nat.le_trans (show out.size + v.size ≤ 200 by omega) (by decide)
    have hwj : wrap64 ((j : Int) + 1) = ((j + 1 : Nat) : Int) := wrap_succ hj (by omega)
    have hml' : (m : Int) < ((lst L2 L3 st).length : Int) := Int.ofNat_lt.2 hml
    have hj' : (j : Int) < (D.length : Int) := Int.ofNat_lt.2 hj
    have hu0 : (0 : Int) ≤ a0 := by omega
    refine ⟨s, t, q1, q2, q3, K + K2 + 1, fun k hk => ?_⟩
    obtain ⟨k, rfl⟩ : ∃ q, k = q + 1 := ⟨k - 1, by omega⟩
    have g := q4 k (by omega)
    have hxk := hx k (by omega)
    show spec_l03Encode.l0 (k + 1) st D out (j : Int) a0 (W : Int) L2 L3 = _
    rcases hst with rfl | rfl
    · have el : lst L2 L3 1 = L3 := rfl
      rw [el] at hrd hml'
      rw [spec_l03Encode.l0, if_pos hj', if_pos (nat0 j), hu, if_pos hu0, rd_get _ _ hj, spec_in, decide_eq_true c, Option.bind_some, if_pos rfl, if_neg (by decide), slpos, Option.bind_some, hm, hrd, if_pos (nat0 m), if_pos hml', if_pos hcat, hxk, Option.bind_some, hwj]
      exact g
    · have el : lst L2 L3 (-1) = L2 := rfl
      rw [el] at hrd hml'
      rw [spec_l03Encode.l0, if_pos hj', if_pos (nat0 j), hu, if_pos hu0, rd_get _ _ hj, spec_in, decide_eq_true c, Option.bind_some, if_pos rfl, if_pos (by decide), slneg, Option.bind_some, hm, hrd, if_pos (nat0 m), if_pos hml', if_pos hcat, hxk, Option.bind_some, hwj]
      exact g
theorem encode_ev (a0 : Int) (L2 L3 : List ByteArray) (W n : Nat) (hv : VC a0 (W : Int) L2 L3) (hn : n ≤ W + 1) (h1 : 1 ≤ n) (D : List Int) (hD : D.length ≤ 8) (hall : ∀ x ∈ D, 0 ≤ x ∧ x ≤ wrap64 (shl .i64 1 a0 - 1)) (st : Int) (hst : st = 1 ∨ st = -1) :
    ∃ s t, areB s.data.toList = true ∧ s.size ≤ 96 ∧ Sent L2 L3 W n s.data.toList ∧ Ev (fun k => spec_EncodeBlocks.f k a0 (W : Int) L2 L3 st D) (s, t, true) := by
  have hwi := hv.width
  have hS0 : Sent L2 L3 W n ([] : List UInt8) := fun p hp => by
    have : ([] : List UInt8).length = 0 := rfl
    omega
  obtain ⟨s, t, q1, q2, q3, q4⟩ := enc_sent a0 L2 L3 W n hv hn h1 D hD hall D.length 0 st ⟨#[]⟩ (by omega) rfl rfl hst hS0 (.inl rfl)
  have hle : W * D.length ≤ 12 * 8 := Nat.mul_le_mul (by omega) hD
  have hb1 : spec_l03State.f st = some true := by
    unfold spec_l03State.f
    rcases hst with rfl | rfl
    · rw [if_neg (by decide)]; rfl
    · rw [if_pos rfl]
  have hq0 : Int.tdiv 400 (W : Int) = 400 / (W : Int) := Int.tdiv_eq_ediv_of_nonneg (by decide)
  have hq : ¬ (D.length : Int) > wrap64 (Int.tdiv (400 : Int) (W : Int)) := by
    rw [hq0]
    have q1 : (400 : Int) / 12 ≤ 400 / (W : Int) := by
      have hq : (400 : Int) / 12 * (W : Int) ≤ 400 := by rw [show (400 : Int) / 12 = 33 by decide]; omega
      exact (Int.le_ediv_iff_mul_le (by omega)).2 hq
    have q2 : (400 : Int) / (W : Int) ≤ 400 := Int.ediv_le_self _ (by decide)
    have q3 : (400 : Int) / 12 = 33 := by decide
    rw [wrap64_in (by omega) (by omega)]
    omega
  refine ⟨s, t, q1, by omega, q3, ?_⟩
  unfold spec_EncodeBlocks.f
  refine Ev.bind (code_yes a0 (W : Int) L2 L3 hv) (ev_pos rfl (ev_to hb1 (ev_pos rfl (Ev.bind (f := fun k (t : ByteArray × Int × Bool) => some (t.1, t.2.1, t.2.2)) (a := (s, t, true)) ?_ (Ev.now _)))))
  unfold spec_l03Encode.f
  exact ev_neg (by omega) (ev_neg hq q4)
theorem count_zero (s t : ByteArray) (hs : s.size ≤ 400) (h0 : 0 < t.size) (hno : ∀ p, p < s.size → Lib.occAt s.data.toList t.data.toList p = false) (d : Nat) : ∀ p : Nat, p + d = s.size → Ev (fun k => impl_CountBits.l0 k s t 0 (s.size : Int) (p : Int)) (0, true) := by
  induction d with
  | zero => intro p h; exact ev_one (fun k => by rw [impl_CountBits.l0, if_neg (by omega)])
  | succ d ih =>
    intro p h
    have hw := wrap_succ (j := p) (n := s.size) (by omega) (by omega)
    have hp := hasPrefix_f s t p (by omega) h0
    rw [hno p (by omega)] at hp
    exact Ev.step (fun k => by rw [impl_CountBits.l0, if_pos (by omega), if_pos (by omega), if_pos (by omega), Int.toNat_natCast, hp, Option.bind_some, if_neg Bool.false_ne_true, hw]) (ih (p + 1) (by omega))
theorem count_ev (s t : ByteArray) (hB : areB s.data.toList = true) (hs : s.size ≤ 400) (tB : areB t.data.toList = true) (ht : t.size ≤ 400) (h0 : 0 < t.size) (hno : ∀ p, p < s.size → Lib.occAt s.data.toList t.data.toList p = false) : Ev (fun k => impl_CountBits.f k s t) (0, true) := by
  have hi : ∀ u : ByteArray, areB u.data.toList = true → u.size ≤ 400 → impl_IsBits.f u = some true := fun u h1 h2 => by
    unfold impl_IsBits.f
    rw [if_pos (by omega), areBits_f u (by omega), h1, Option.bind_some]
  have hne : (t.toList == ([] : List UInt8)) = false := by
    rw [Lib.toList_data, beq_eq_false_iff_ne]
    intro e
    have := size_l t
    rw [e] at this
    have : t.size = 0 := this
    omega
  unfold impl_CountBits.f
  refine ev_to (hi s hB hs) (ev_pos rfl (ev_to (hi t tB ht) (ev_pos rfl ?_)))
  rw [hne]
  exact Ev.step (fun k => by rw [impl_CountBits.j0, if_neg Bool.false_ne_true]; rfl) (count_zero s t hs h0 hno s.size 0 (by omega))
/-- The numbers below x whose digits are no part. -/
noncomputable def cms (z : List (List UInt8)) (n x : Nat) : List Nat := (List.range x).filter fun y => decide (patL n y ∉ z)
theorem cms_succ (z : List (List UInt8)) (n x : Nat) : cms z n (x + 1) = cms z n x ++ (if patL n x ∈ z then [] else [x]) := by
  unfold cms
  rw [List.range_succ, List.filter_append]
  congr 1
  by_cases c : patL n x ∈ z
  · rw [if_pos c, List.filter_cons_of_neg (by simp [c]), List.filter_nil]
  · rw [if_neg c, List.filter_cons_of_pos (by simp [c]), List.filter_nil]
theorem cms_split (z : List (List UInt8)) (n x : Nat) (d : Nat) : ∃ r, cms z n (x + d) = cms z n x ++ r := by
  induction d with
  | zero => exact ⟨[], by rw [List.append_nil]; rfl⟩
  | succ d ih =>
    obtain ⟨r, hr⟩ := ih
    exact ⟨r ++ (if patL n (x + d) ∈ z then [] else [x + d]), by rw [show x + (d + 1) = (x + d) + 1 by omega, cms_succ, hr, List.append_assoc]⟩
theorem cms_len (z : List (List UInt8)) (n x : Nat) : (cms z n x).length ≤ x := by
  unfold cms
  exact Nat.le_trans (List.length_filter_le _ _) (by rw [List.length_range]; exact Nat.le_refl _)
theorem out_impl (z : List (List UInt8)) (n : Nat) (h0 : 1 ≤ n) (hn : n ≤ 8) (d : Nat) : ∀ x : Nat, x + d = 2 ^ n → Ev (fun k => impl_CommasOf.l0 k z (n : Int) ((cms z n x).map (dg n)) ((2 ^ n : Nat) : Int) (x : Int)) ((cms z n (2 ^ n)).map (dg n), true) := by
  have h8 : 2 ^ n ≤ 2 ^ 8 := Nat.pow_le_pow_right (by decide) hn
  have h8' : (2 : Nat) ^ 8 = 256 := by decide
  induction d with
  | zero =>
    intro x h
    obtain rfl : x = 2 ^ n := by omega
    exact ev_one (fun k => by rw [impl_CommasOf.l0, if_neg (by omega)])
  | succ d ih =>
    intro x h
    have HW := Aside0.mk (show wrap64 ((x : Int) + 1) = ((x + 1 : Nat) : Int) by rw [wrap64_in (by omega) (by omega)]; omega)
    have hx : x < 2 ^ n := by omega
    have cx : (x : Int) < ((2 ^ n : Nat) : Int) := Int.ofNat_lt.2 hx
    have hx256 : x ≤ 256 := by omega
    obtain ⟨K2, d2_⟩ := impl_digits_f (x : Int) (n : Int) (by omega) (by omega)
    rw [Int.toNat_natCast] at d2_
    have d2 : ∀ k, K2 ≤ k → impl_digits.f k (x : Int) (n : Int) = some (dg n x) := d2_
    have hsz : (dg n x).size ≤ 1048576 := by rw [dg_size]; omega
    have hcl := cms_len z n x
    have hml : ((cms z n x).map (dg n)).length < 8796093022208 := by rw [List.length_map]; exact Nat.lt_of_le_of_lt (Nat.le_trans hcl hx256) (by decide)
    obtain ⟨K, g_⟩ := ih (x + 1) (by omega)
    have g := fun k hk => (show impl_CommasOf.l0 k z (n : Int) ((cms z n (x + 1)).map (dg n)) ((2 ^ n : Nat) : Int) ((x + 1 : Nat) : Int) = some ((cms z n (2 ^ n)).map (dg n), true) from g_ k hk)
    refine ⟨K + K2 + 1, fun k hk => ?_⟩
    obtain ⟨k, rfl⟩ : ∃ q, k = q + 1 := ⟨k - 1, by omega⟩
    have gk := g k (by omega)
    show impl_CommasOf.l0 (k + 1) z (n : Int) ((cms z n x).map (dg n)) ((2 ^ n : Nat) : Int) (x : Int) = _
    rw [impl_CommasOf.l0, if_pos cx, d2 k (by omega), Option.bind_some, if_pos hsz, show (dg n x).data.toList = patL n x from rfl, HW.out]
    by_cases c : patL n x ∈ z
    · have e : cms z n (x + 1) = cms z n x := by rw [cms_succ, if_pos c, List.append_nil]
      rw [e] at gk
      rw [if_pos c]
      exact gk
    · have e : (cms z n (x + 1)).map (dg n) = (cms z n x).map (dg n) ++ [dg n x] := by rw [cms_succ, if_neg c, List.map_append, List.map_cons, List.map_nil]
      rw [e] at gk
      rw [if_neg c, if_pos hml]
      exact gk
theorem bitsOf_dg (n x : Nat) (h0 : 1 ≤ n) (hn : n ≤ 8) (hx : x < 2 ^ n) : Ev (fun k => spec_BitsOf.f k (x : Int) (n : Int)) (dg n x, true) := by
  have hu : IntKind.u64.wrap (n : Int) = (n : Int) := u64_in (by omega) (by omega)
  have hsh : shr .i64 (x : Int) (n : Int) = 0 := by
    rw [shr_nat _ _ (by omega)]
    have e : ((x : Int) / 2 ^ n) = ((x / 2 ^ n : Nat) : Int) := by push_cast; rfl
    rw [e, Nat.div_eq_of_lt hx]
    rfl
  have hd := spec_digits_f (x : Int) (n : Int) (by omega) (by omega)
  rw [Int.toNat_natCast] at hd
  unfold spec_BitsOf.f
  refine ev_to (spec_in _ _ _) ?_
  rw [decide_eq_true (show (0 : Int) ≤ (n : Int) ∧ (n : Int) ≤ 60 by omega), hu, hsh]
  exact ev_pos rfl (ev_neg (by omega) (ev_pos (by omega) (ev_pos rfl (Ev.bind (f := fun k t => some (t, true)) hd (Ev.now _)))))
theorem valid_impl (a0 a1 : Int) (L2 L3 : List ByteArray) (hv : VC a0 a1 L2 L3) : Ev (fun k => impl_ValidBlockCode.f k a0 a1 L2 L3) true := by
  obtain ⟨hl2, hl3⟩ := hv.le64
  obtain ⟨r, r1, r2, _⟩ := code_both a0 a1 L2 L3 (by omega) (by omega) (fun s h => by have := (hv.mem (.inl h)).2.2; omega) (fun s h => by have := (hv.mem (.inr h)).2.2; omega)
  obtain rfl := code_no hv r1
  exact r2
theorem isComma_ev (a0 : Int) (L2 L3 : List ByteArray) (W n : Nat) (hv : VC a0 (W : Int) L2 L3) (z : List (List UInt8)) (hz : Ev (fun k => impl_BlockCode_parts.f k a0 (W : Int) L2 L3 (n : Int)) z) (pat : ByteArray) (hp : pat.size = n) (hB : areB pat.data.toList = true) (h1 : 1 ≤ n) (hn : n ≤ W + 1) : Ev (fun k => impl_IsComma.f k a0 (W : Int) L2 L3 pat) (!(decide (pat.data.toList ∈ z))) := by
  have hwi := hv.width
  have hwr : wrap64 ((W : Int) + 1) = ((W + 1 : Nat) : Int) := by rw [wrap64_in (by omega) (by omega)]; omega
  unfold impl_IsComma.f
  rw [hwr, areBits_f pat (by omega), hB, hp]
  exact Ev.bind (valid_impl a0 (W : Int) L2 L3 hv) (ev_pos rfl (ev_neg (by omega) (ev_neg (by omega) (ev_some (ev_pos rfl (ev_pos (by omega) (Ev.bind (f := fun k z => some (!(decide (pat.data.toList ∈ z)))) hz (Ev.now _))))))))
theorem law_loop (a0 : Int) (L2 L3 : List ByteArray) (W n : Nat) (hv : VC a0 (W : Int) L2 L3) (z : List (List UInt8)) (hz : Ev (fun k => impl_BlockCode_parts.f k a0 (W : Int) L2 L3 (n : Int)) z) (h1 : 1 ≤ n) (hn : n ≤ W + 1) (hn8 : n ≤ 8) (bits : ByteArray) (hcount : ∀ x, x < 2 ^ n → patL n x ∉ z → Ev (fun k => impl_CountBits.f k bits (dg n x)) (0, true)) (d : Nat) : ∀ x : Nat, x + d = 2 ^ n → Ev (fun k => laws_FnCommas.l0 k (n : Int) bits ((cms z n (2 ^ n)).map (dg n)) ((cms z n x).length : Int) (x : Int) a0 (W : Int) L2 L3) true := by
  have h8 : 2 ^ n ≤ 2 ^ 8 := Nat.pow_le_pow_right (by decide) hn8
  have h8' : (2 : Nat) ^ 8 = 256 := by decide
  have HU := Aside0.mk (show IntKind.u64.wrap (n : Int) = (n : Int) from u64_in (by omega) (by omega))
  have HSH := Aside0.mk (shl_pow n h1 hn8)
  have hol : ((cms z n (2 ^ n)).map (dg n)).length = (cms z n (2 ^ n)).length := List.length_map _
  induction d with
  | zero =>
    intro x h
    obtain rfl : x = 2 ^ n := by omega
    refine ev_one (fun k => ?_)
    rw [laws_FnCommas.l0, HU.out, if_pos (by omega), HSH.out, if_neg (by omega), hol]
    simp
  | succ d ih =>
    intro x h
    have hx : x < 2 ^ n := by omega
    have hcl := cms_len z n x
    have HW := Aside0.mk (show wrap64 ((x : Int) + 1) = ((x + 1 : Nat) : Int) by rw [wrap64_in (by omega) (by omega)]; omega)
    have HWC := Aside0.mk (show wrap64 (((cms z n x).length : Int) + 1) = (((cms z n x).length + 1 : Nat) : Int) by rw [wrap64_in (by omega) (by omega)]; omega)
    obtain ⟨K1, b1_⟩ := bitsOf_dg n x h1 hn8 hx
    have b1 := fun k hk => (show spec_BitsOf.f k (x : Int) (n : Int) = some (dg n x, true) from b1_ k hk)
    obtain ⟨K2, b2_⟩ := isComma_ev a0 L2 L3 W n hv z hz (dg n x) (dg_size n x) (dg_bits n x) h1 hn
    have b2 := fun k hk => (show impl_IsComma.f k a0 (W : Int) L2 L3 (dg n x) = some (!(decide ((dg n x).data.toList ∈ z))) from b2_ k hk)
    have ep : (dg n x).data.toList = patL n x := rfl
    obtain ⟨K, g_⟩ := ih (x + 1) (by omega)
    have g := fun k hk => (show laws_FnCommas.l0 k (n : Int) bits ((cms z n (2 ^ n)).map (dg n)) ((cms z n (x + 1)).length : Int) ((x + 1 : Nat) : Int) a0 (W : Int) L2 L3 = some true from g_ k hk)
    have c0 : (0 : Int) ≤ (n : Int) := nat0 n
    have cx : (x : Int) < ((2 ^ n : Nat) : Int) := Int.ofNat_lt.2 hx
    by_cases c : patL n x ∈ z
    · have e : cms z n (x + 1) = cms z n x := by rw [cms_succ, if_pos c, List.append_nil]
      rw [e] at g
      refine ⟨K + K1 + K2 + 1, fun k hk => ?_⟩
      obtain ⟨k, rfl⟩ : ∃ q, k = q + 1 := ⟨k - 1, by omega⟩
      show laws_FnCommas.l0 (k + 1) (n : Int) bits _ ((cms z n x).length : Int) (x : Int) a0 (W : Int) L2 L3 = some true
      rw [laws_FnCommas.l0, HU.out, if_pos c0, HSH.out, if_pos cx, b1 k (by omega), Option.bind_some, if_pos rfl, b2 k (by omega), Option.bind_some, ep, decide_eq_true c, HW.out]
      show (if (!true) = true then _ else laws_FnCommas.l0 k _ _ _ _ _ _ _ _ _) = _
      rw [if_neg (by decide)]
      exact g k (by omega)
    · have e : cms z n (x + 1) = cms z n x ++ [x] := by rw [cms_succ, if_neg c]
      obtain ⟨r, hr⟩ := cms_split z n (x + 1) d
      rw [show x + 1 + d = 2 ^ n by omega, e, List.append_assoc, List.singleton_append] at hr
      have hlt : (cms z n x).length < (cms z n (2 ^ n)).length := by rw [hr, List.length_append, List.length_cons]; omega
      have hlt' : (cms z n x).length < ((cms z n (2 ^ n)).map (dg n)).length := by rw [hol]; exact hlt
      have hget : ((cms z n (2 ^ n)).map (dg n))[(cms z n x).length] = dg n x := by
        rw [List.getElem_map]
        congr 1
        simp only [hr]
        rw [List.getElem_append_right (Nat.le_refl _)]
        simp
      have hrd := rdS_get _ _ hlt'
      rw [hget] at hrd
      obtain ⟨K4, c4_⟩ := hcount x hx c
      have c4 := fun k hk => (show impl_CountBits.f k bits (dg n x) = some (0, true) from c4_ k hk)
      have e' : (cms z n (x + 1)).length = (cms z n x).length + 1 := by rw [e, List.length_append]; rfl
      rw [e'] at g
      have cl1 : ¬ ((cms z n x).length : Int) ≥ (((cms z n (2 ^ n)).map (dg n)).length : Int) := by omega
      have cl2 : ((cms z n x).length : Int) < (((cms z n (2 ^ n)).map (dg n)).length : Int) := Int.ofNat_lt.2 hlt'
      have cl0 := nat0 (cms z n x).length
      refine ⟨K + K1 + K2 + K4 + 1, fun k hk => ?_⟩
      obtain ⟨k, rfl⟩ : ∃ q, k = q + 1 := ⟨k - 1, by omega⟩
      show laws_FnCommas.l0 (k + 1) (n : Int) bits _ ((cms z n x).length : Int) (x : Int) a0 (W : Int) L2 L3 = some true
      rw [laws_FnCommas.l0, HU.out, if_pos c0, HSH.out, if_pos cx, b1 k (by omega), Option.bind_some, if_pos rfl, b2 k (by omega), Option.bind_some, ep, decide_eq_false c, HW.out, HWC.out]
      show (if (!false) = true then _ else laws_FnCommas.l0 k _ _ _ _ _ _ _ _ _) = _
      rw [if_pos (by decide), c4 k (by omega), Option.bind_some, if_neg cl1, if_pos cl0, if_pos cl2, hrd, if_pos rfl, if_pos rfl, if_pos rfl]
      exact g k (by omega)
theorem FnCommas : laws_FnCommas.Pure := by
  intro l0 l1 n0 b0 n1 b1
  apply Ev.rounds
  unfold laws_FnCommas.f laws_b10Long.f
  by_cases c0 : (l0.length : Int) > 1048576
  · rw [if_pos c0]; exact ev_some (ev_pos rfl (Ev.now _))
  rw [if_neg c0]
  refine ev_some ?_
  by_cases c1 : (l1.length : Int) > 1048576
  · rw [decide_eq_true c1]; exact ev_pos rfl (Ev.now _)
  rw [decide_eq_false c1]
  refine ev_neg Bool.false_ne_true ?_
  obtain ⟨a0, a1, L2, L3, hv, hblock⟩ := block_ev l0 n0 b0
  obtain ⟨D, hD, hall, hdata⟩ := data_ev l1 n1 b1 hv
  obtain ⟨u, hu, u0, u1⟩ := b10At_f l1 n1 b1 0 2 (by decide) (by decide) (by decide)
  obtain ⟨y, hy, y0, y1⟩ := b10At_f l1 n1 b1 1 5 (by decide) (by decide) (by decide)
  obtain ⟨W, rfl, w1, w2, z2, z3⟩ := hv.sizes
  have hwr : wrap64 ((W : Int) + 1) = ((W + 1 : Nat) : Int) := by rw [wrap64_in (by omega) (by omega)]; omega
  have hst : wrap64 (wrap64 (2 * u) - 1) = 1 ∨ wrap64 (wrap64 (2 * u) - 1) = -1 := by
    rw [wrap64_in (x := 2 * u) (by omega) (by omega), wrap64_in (by omega) (by omega)]; omega
  have hwy : wrap64 (1 + y) = 1 + y := wrap64_in (by omega) (by omega)
  obtain ⟨st, hste⟩ : ∃ st, wrap64 (wrap64 (2 * u) - 1) = st := ⟨_, rfl⟩
  rw [hste] at hst
  have main : ∀ n : Nat, 1 ≤ n → n ≤ W + 1 → n ≤ 8 → Ev (fun k => laws_FnCommas.j0 k D st (n : Int) a0 (W : Int) L2 L3) true := by
    intro n hn1 hn hn8
    obtain ⟨bits, t, e1, e2, e3, e4⟩ := encode_ev a0 L2 L3 W n hv hn hn1 D hD hall st hst
    obtain ⟨z, y1, y2⟩ := parts_ev a0 (W : Int) L2 L3 hv W n w2 z2 z3 (by omega)
    have hcm : Ev (fun k => impl_CommasOf.f k a0 (W : Int) L2 L3 (n : Int)) ((cms z n (2 ^ n)).map (dg n), true) := by
      have hsh := shl_pow n hn1 hn8
      have hB : (n : Int) ≤ mn 8 ((W + 1 : Nat) : Int) := by unfold mn; split <;> omega
      have i2 := impl_in (n : Int) 1 (mn 8 ((W + 1 : Nat) : Int))
      rw [decide_eq_true (show (1 : Int) ≤ (n : Int) ∧ (n : Int) ≤ mn 8 ((W + 1 : Nat) : Int) from ⟨by omega, hB⟩)] at i2
      unfold impl_CommasOf.f
      rw [hwr]
      refine Ev.bind (valid_impl a0 (W : Int) L2 L3 hv) (ev_pos rfl (ev_to i2 ?_))
      obtain ⟨K1, y2⟩ := y2
      obtain ⟨K2, o3⟩ := out_impl z n hn1 hn8 (2 ^ n) 0 (by omega)
      have y2' := fun k hk => (show impl_BlockCode_parts.f k a0 (W : Int) L2 L3 (n : Int) = some z from y2 k hk)
      refine ⟨K1 + K2 + 1, fun k hk => ?_⟩
      obtain ⟨k, rfl⟩ : ∃ q, k = q + 1 := ⟨k - 1, by omega⟩
      show impl_CommasOf.j0 (k + 1) (n : Int) (!true) a0 (W : Int) L2 L3 = _
      rw [Bool.not_true, impl_CommasOf.j0, if_neg Bool.false_ne_true, y2' k (by omega), Option.bind_some, if_pos (by omega), hsh]
      exact o3 k (by omega)
    have hcount : ∀ x, x < 2 ^ n → patL n x ∉ z → Ev (fun k => impl_CountBits.f k bits (dg n x)) (0, true) := by
      intro x hx hz
      refine count_ev bits (dg n x) e1 (by omega) (dg_bits n x) (by rw [dg_size]; omega) (by rw [dg_size]; omega) (fun p hp => ?_)
      rw [Bool.eq_false_iff]
      intro ho
      have hpn : p + n ≤ bits.data.toList.length := by
        by_cases c : p + n ≤ bits.data.toList.length
        · exact c
        · exfalso
          have hds : (dg n x).data.toList.length = n := by rw [← size_l, dg_size]
          rw [occAt_short _ _ _ (by rw [hds]; omega) (by rw [hds]; omega)] at ho
          cases ho
      rw [occ_cut, ← size_l, dg_size] at ho
      obtain ⟨s, w, v, q1, q2, q3, q4⟩ := e3 p hpn
      rw [← ho] at q4
      have hsz : ∀ st w, w ∈ lst L2 L3 st → w.size = W := fun st w h => (lst_mem h).elim (z2 w) (z3 w)
      have hoc : OC (dg n x) (w ++ v) := (cut_oc (hsz _ _ q2) (hsz _ _ q3) (dg n x) (by rw [dg_size]; omega)).2 (by rw [dg_size]; exact q4)
      have h2 : Occ2 L2 L3 (dg n x) := by
        rcases q1 with rfl | rfl
        · exact .inr ⟨w, q2, v, q3, hoc⟩
        · exact .inl ⟨w, q2, v, q3, hoc⟩
      have key := (occ_arises hv W z2 z3 (by omega) (dg n x) (by rw [dg_size]; omega)).2 h2
      rw [dg_size] at key
      exact hz ((y1 _).2 key)
    have hl := law_loop a0 L2 L3 W n hv z y2 hn1 hn hn8 bits hcount (2 ^ n) 0 (by omega)
    have hj1 : Ev (fun k => laws_FnCommas.j1 k (n : Int) bits ((cms z n (2 ^ n)).map (dg n)) (!true) a0 (W : Int) L2 L3) true := Ev.step (fun k => by rw [Bool.not_true, laws_FnCommas.j1, if_neg Bool.false_ne_true]; rfl) hl
    exact Ev.step (fun k => by rw [laws_FnCommas.j0]) (Ev.bind e4 (Ev.bind hcm (ev_pos rfl hj1)))
  refine Ev.bind hblock (Ev.bind hdata (ev_to hu (ev_to hy ?_)))
  show Ev (fun k => if wrap64 (1 + y) > wrap64 ((W : Int) + 1) then laws_FnCommas.j0 k D (wrap64 (wrap64 (2 * u) - 1)) (wrap64 ((W : Int) + 1)) a0 (W : Int) L2 L3 else laws_FnCommas.j0 k D (wrap64 (wrap64 (2 * u) - 1)) (wrap64 (1 + y)) a0 (W : Int) L2 L3) true
  rw [hwr, hwy, hste]
  by_cases c : 1 + y > ((W + 1 : Nat) : Int)
  · exact ev_pos c (main (W + 1) (by omega) (Nat.le_refl _) (by omega))
  · obtain ⟨m, hm⟩ := Int.eq_ofNat_of_zero_le (show 0 ≤ 1 + y by omega)
    rw [hm] at c ⊢
    exact ev_neg c (main m (by omega) (by omega) (by omega))

end Go.Proofs.YtegeaoiclepkkabDoor.Pure
