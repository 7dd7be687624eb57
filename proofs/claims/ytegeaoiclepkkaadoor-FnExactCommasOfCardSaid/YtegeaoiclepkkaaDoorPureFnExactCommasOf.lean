/-
The plain law of FnExactCommasOf: both tell the same patterns that occur in no two words that follow one another, and the result may be written to; conditions: those of the statement.
-/
import Derived.Test.YtegeaoiclepkkaaDoorQFnExactCommasOfx10
import Derived.Lib.IndexMore
namespace Go.Proofs.YtegeaoiclepkkaaDoor.Pure
open Go.RowKit Go.Proofs.YtegeaoiclepkkaaDoor.QFnExactCommasOf Go.Proofs.YtegeaoiclepkkaaDoorW.PrintWords Go.Proofs.YtegeaoiclepkkaaDoorW.PrintLast Go.Proofs.YtegeaoiclepkkaaDoorW.PrintMore
set_option linter.unusedVariables false

theorem ev_one {α : Type} {g : Nat → Option α} {r : α} (h : ∀ k, g (k + 1) = some r) : Ev g r :=
  ⟨1, fun k hk => by obtain ⟨m, rfl⟩ : ∃ m, k = m + 1 := ⟨k - 1, by omega⟩; exact h m⟩
theorem wrap64_in {x : Int} (h0 : -9223372036854775808 ≤ x) (h1 : x ≤ 9223372036854775807) : wrap64 x = x := by
  unfold wrap64; omega
theorem u64_in {x : Int} (h0 : 0 ≤ x) (h1 : x ≤ 18446744073709551615) : IntKind.u64.wrap x = x := by
  simp [IntKind.wrap, IntKind.bits, IntKind.signed]; omega
theorem i64_in {x : Int} (h0 : -9223372036854775808 ≤ x) (h1 : x ≤ 9223372036854775807) : IntKind.i64.wrap x = x := by
  rw [IntKind.wrap_i64]; omega
theorem and_one (x : Int) : Go.bits .and .i64 x 1 = x % 2 := by
  have h : (BitVec.ofInt 64 x &&& BitVec.ofInt 64 1).toNat = (x % 2).toNat := by
    have e1 : BitVec.ofInt 64 1 = 1#64 := by decide
    rw [e1, BitVec.toNat_and, BitVec.toNat_ofInt]
    have e2 : (1#64).toNat = 1 := by decide
    rw [e2, Nat.and_one_is_mod]
    omega
  show IntKind.i64.wrap (((BitVec.ofInt 64 x &&& BitVec.ofInt 64 1).toNat : Nat) : Int) = x % 2
  rw [h, i64_in (by omega) (by omega)]
  omega
theorem wf_i64 {x : Int} (h : (Lit.int .i64 x).wf = true) : -9223372036854775808 ≤ x ∧ x ≤ 9223372036854775807 := by
  simp [Lit.wf, IntKind.min, IntKind.max, IntKind.signed, IntKind.bits] at h
  omega
theorem pow_pos_int (d : Nat) : (0 : Int) < 2 ^ d := Int.pow_pos (by decide)
theorem pow_le_int {a b : Nat} (h : a ≤ b) : (2 : Int) ^ a ≤ 2 ^ b := by
  have := Nat.pow_le_pow_right (n := 2) (by decide) h
  exact_mod_cast this

theorem ev_pos {α : Type} {c : Prop} [Decidable c] {g h : Nat → Option α} {r : α} (hc : c) (hg : Ev g r) : Ev (fun k => if c then g k else h k) r := by
  obtain ⟨K, hK⟩ := hg
  exact ⟨K, fun k hk => (if_pos hc).trans (hK k hk)⟩
theorem ev_neg {α : Type} {c : Prop} [Decidable c] {g h : Nat → Option α} {r : α} (hc : ¬ c) (hg : Ev h r) : Ev (fun k => if c then g k else h k) r := by
  obtain ⟨K, hK⟩ := hg
  exact ⟨K, fun k hk => (if_neg hc).trans (hK k hk)⟩
theorem ev_some {α β : Type} {f : Nat → α → Option β} {a : α} {r : β} (h : Ev (fun k => f k a) r) : Ev (fun k => (some a).bind (f k)) r := h
theorem ev_to {α β : Type} {x : Option α} {f : Nat → α → Option β} {a : α} {r : β} (e : x = some a) (h : Ev (fun k => f k a) r) : Ev (fun k => x.bind (f k)) r := by subst e; exact h
theorem ev_det {α : Type} {g : Nat → Option α} {r r' : α} (h : Ev g r) (h' : Ev g r') : r = r' := by
  obtain ⟨K, hK⟩ := h
  obtain ⟨K', hK'⟩ := h'
  have h1 := hK (max K K') (Nat.le_max_left _ _)
  have h2 := hK' (max K K') (Nat.le_max_right _ _)
  rw [h1] at h2
  exact Option.some.inj h2
theorem wrap_succ {j n : Nat} (h : j < n) (hn : n ≤ 9223372036854775807) : wrap64 ((j : Int) + 1) = ((j + 1 : Nat) : Int) := by
  rw [wrap64_in (by omega) (by omega)]; omega
theorem nat0 (j : Nat) : (0 : Int) ≤ (j : Int) := Int.natCast_nonneg j
theorem rd_nat (l : List Int) (j : Nat) : rd l (j : Int) = l.getD j 0 := by unfold rd; rw [Int.toNat_natCast]
theorem rd_get (l : List Int) (j : Nat) (h : j < l.length) : rd l (j : Int) = l[j] := by rw [rd_nat, List.getD_eq_getElem?_getD, List.getElem?_eq_getElem h]; rfl
theorem drop_cons {α : Type} (l : List α) (j : Nat) (h : j < l.length) : l.drop j = l[j] :: l.drop (j + 1) := List.drop_eq_getElem_cons h
theorem take_snoc' {α : Type} (l : List α) (j : Nat) (h : j < l.length) : l.take (j + 1) = l.take j ++ [l[j]] := List.take_succ_eq_append_getElem h
theorem set_take {α : Type} (acc : List α) (j : Nat) (x : α) (h : j < acc.length) : (acc.set j x).take (j + 1) = acc.take j ++ [x] := by
  rw [List.take_set, List.take_succ_eq_append_getElem h, List.set_append_right _ _ (by simp; omega)]
  have : (acc.take j).length = j := by rw [List.length_take]; omega
  rw [this, Nat.sub_self]
  rfl
theorem take_all {α : Type} {a b : List α} {n : Nat} (ha : a.length = n) (hb : b.length = n) (h : a.take n = b.take n) : a = b := by
  rw [List.take_of_length_le (by omega), List.take_of_length_le (by omega)] at h; exact h
theorem w01 : wrap64 (0 + 1) = 1 := by unfold wrap64; decide
theorem w11 : wrap64 (1 + 1) = 2 := by unfold wrap64; decide

theorem spec_in (a b c : Int) : spec_l00In.f a b c = some (decide (b ≤ a ∧ a ≤ c)) := by
  unfold spec_l00In.f
  by_cases h : a ≥ b
  · rw [if_pos h]; congr 1; have : b ≤ a := h; simp [this]
  · rw [if_neg h]; congr 1; have : ¬ b ≤ a := h; simp [this]
theorem impl_in (a b c : Int) : impl_within.f a b c = some (decide (b ≤ a ∧ a ≤ c)) := by
  unfold impl_within.f
  by_cases h : a ≥ b
  · rw [if_pos h]; congr 1; have : b ≤ a := h; simp [this]
  · rw [if_neg h]; congr 1; have : ¬ b ≤ a := h; simp [this]

def isBit (b : UInt8) : Bool := b.toNat == 48 || b.toNat == 49
def areB (l : List UInt8) : Bool := l.all isBit
theorem size_l (s : ByteArray) : s.size = s.data.toList.length := by rw [Array.length_toList]; rfl
theorem bt_l (s : ByteArray) (j : Nat) (h : j < s.data.toList.length) : bt s (j : Int) = ((s.data.toList[j].toNat : Nat) : Int) := by
  have h2 : ((j : Int)).toNat < s.size := by rw [Int.toNat_natCast, size_l]; exact h
  have h3 : j < s.data.size := by rw [Array.length_toList] at h; exact h
  have e : s[((j : Int)).toNat]'h2 = s.data[j] := rfl
  rw [← bt_at s j h2, e, Array.getElem_toList]
theorem cs_bit (b : UInt8) : ([48, 49] : List UInt8).contains b = isBit b := by
  have h1 : (b == 48) = (b.toNat == 48) := by rw [Bool.eq_iff_iff]; simp [← UInt8.toNat_inj]
  have h2 : (b == 49) = (b.toNat == 49) := by rw [Bool.eq_iff_iff]; simp [← UInt8.toNat_inj]
  unfold isBit
  rw [← h1, ← h2]
  show (match b == 48 with | true => true | false => (match b == 49 with | true => true | false => false)) = (b == 48 || b == 49)
  cases (b == 48) <;> cases (b == 49) <;> rfl
theorem drop_nil {p : UInt8 → Bool} (l : List UInt8) : l.dropWhile p = [] ↔ ∀ x ∈ l, p x = true := by
  induction l with
  | nil => simp
  | cons a t ih =>
    rw [List.dropWhile_cons]
    cases e : p a with
    | true => rw [if_pos rfl, ih]; simp [e]
    | false => rw [if_neg (by decide)]; simp [e]
theorem drop_all {p : UInt8 → Bool} (l : List UInt8) (h : (l.dropWhile p).all p = true) : l.all p = true := by
  induction l with
  | nil => rfl
  | cons a t ih =>
    rw [List.dropWhile_cons] at h
    cases e : p a with
    | true => rw [e, if_pos rfl] at h; rw [List.all_cons, e, ih h]; rfl
    | false => rw [e, if_neg (by decide)] at h; exact h
theorem trim_nil (l : List UInt8) : (Lib.trimS l [48, 49] == []) = areB l := by
  have e : (fun b => ([48, 49] : List UInt8).contains b) = isBit := funext cs_bit
  unfold Lib.trimS Lib.trimLeftS Lib.trimRightS areB
  rw [e]
  rw [Bool.eq_iff_iff, beq_iff_eq, drop_nil]
  constructor
  · intro h
    have h1 : (l.reverse.dropWhile isBit).all isBit = true := List.all_eq_true.2 (fun x hx => h x (List.mem_reverse.2 hx))
    have h2 := drop_all _ h1
    rw [List.all_reverse] at h2
    exact h2
  · intro h x hx
    have h3 := List.mem_reverse.1 hx
    have h4 : x ∈ l.reverse := (List.dropWhile_sublist _).subset h3
    exact List.all_eq_true.1 h x (List.mem_reverse.1 h4)

theorem specBits_loop (s : ByteArray) (hn : s.size ≤ 9223372036854775807) (d : Nat) : ∀ j : Nat, j + d = s.data.toList.length → Ev (fun k => spec_l01Bits.l0 k s (j : Int)) (areB (s.data.toList.drop j) && decide ((s.size : Int) ≤ 400)) := by
  have hs := size_l s
  induction d with
  | zero =>
    intro j h
    rw [List.drop_eq_nil_of_le (by omega)]
    exact ev_one (fun k => by rw [spec_l01Bits.l0, if_neg (by omega)]; rfl)
  | succ d ih =>
    intro j h
    have hj : j < s.data.toList.length := by omega
    have hb := bt_l s j hj
    have hw := wrap_succ hj (by omega)
    rw [drop_cons _ _ hj]
    unfold areB
    rw [List.all_cons]
    by_cases c1 : bt s (j : Int) = 48
    · have e : isBit s.data.toList[j] = true := by unfold isBit; have : s.data.toList[j].toNat = 48 := by omega
                                                   rw [this]; rfl
      rw [e, Bool.true_and]
      exact Ev.step (fun k => by rw [spec_l01Bits.l0, if_pos (by omega), if_pos (by omega), if_pos c1, hw]) (ih (j + 1) (by omega))
    · by_cases c2 : bt s (j : Int) = 49
      · have e : isBit s.data.toList[j] = true := by unfold isBit; have : s.data.toList[j].toNat = 49 := by omega
                                                     rw [this]; rfl
        rw [e, Bool.true_and]
        exact Ev.step (fun k => by rw [spec_l01Bits.l0, if_pos (by omega), if_pos (by omega), if_neg c1, if_pos c2, hw]) (ih (j + 1) (by omega))
      · have e : isBit s.data.toList[j] = false := by
          unfold isBit
          obtain ⟨n, hn⟩ : ∃ n, n = s.data.toList[j].toNat := ⟨_, rfl⟩
          rw [← hn] at hb ⊢
          have h1 : (n == 48) = false := beq_eq_false_iff_ne.2 (by omega)
          have h2 : (n == 49) = false := beq_eq_false_iff_ne.2 (by omega)
          rw [h1, h2]; rfl
        rw [e, Bool.false_and, Bool.false_and]
        exact ev_one (fun k => by rw [spec_l01Bits.l0, if_pos (by omega), if_pos (by omega), if_neg c1, if_neg c2])
def IB (s : ByteArray) : Bool := areB s.data.toList && decide ((s.size : Int) ≤ 400)
theorem specBits_ev (s : ByteArray) (hn : s.size ≤ 9223372036854775807) : Ev (fun k => spec_l01Bits.f k s) (IB s) := specBits_loop s hn s.data.toList.length 0 (by omega)

theorem areBits_f (s : ByteArray) (hn : s.size ≤ 9223372036854775807) : impl_areBits.f s = some (areB s.data.toList) := by
  unfold impl_areBits.f strings_Trim.f
  rw [if_pos ⟨rfl, hn⟩, Option.bind_some]
  have e : (⟨(Lib.trimS s.data.toList [48, 49]).toArray⟩ : ByteArray).toList = Lib.trimS s.data.toList [48, 49] := by
    rw [Lib.toList_data]
  rw [e, ← trim_nil]

theorem ones_loop (s : ByteArray) (hn : s.size ≤ 1000) (hb : areB s.data.toList = true) (d : Nat) : ∀ (j : Nat) (acc : Int), j + d = s.size → 0 ≤ acc → acc ≤ j →
    Ev (fun k => spec_l01Ones.l0 k s acc (j : Int)) (acc + Lib.countByte (s.data.toList.drop j) 49) := by
  have hs := size_l s
  induction d with
  | zero =>
    intro j acc h _ _
    rw [List.drop_eq_nil_of_le (by omega)]
    exact ev_one (fun k => by rw [spec_l01Ones.l0, if_neg (by omega)]; simp [Lib.countByte])
  | succ d ih =>
    intro j acc h h0 h1
    have hj : j < s.data.toList.length := by omega
    have hw := wrap_succ (j := j) (n := s.size) (by omega) (by omega)
    have hbt := bt_l s j hj
    have hbit : s.data.toList[j].toNat = 48 ∨ s.data.toList[j].toNat = 49 := by
      have := List.all_eq_true.1 hb _ (List.getElem_mem hj)
      unfold isBit at this
      rw [Bool.or_eq_true, beq_iff_eq, beq_iff_eq] at this
      exact this
    rw [drop_cons _ _ hj]
    rcases hbit with hbit | hbit
    · have e0 : ((bt s (j : Int)) - 48) % 256 = 0 := by omega
      have ew : wrap64 (acc + 0) = acc := by rw [Int.add_zero, wrap64_in (by omega) (by omega)]
      have ne : (s.data.toList[j] == 49) = false := by
        rw [beq_eq_false_iff_ne]
        intro hh
        rw [hh] at hbit
        exact absurd hbit (by decide)
      have ec : Lib.countByte (s.data.toList[j] :: s.data.toList.drop (j + 1)) 49 = Lib.countByte (s.data.toList.drop (j + 1)) 49 := by unfold Lib.countByte; rw [List.count_cons, ne]; rfl
      rw [ec]
      exact Ev.step (fun k => by rw [spec_l01Ones.l0, if_pos (by omega), if_pos (by omega), e0, ew, hw]) (ih (j + 1) acc (by omega) h0 (by omega))
    · have e0 : ((bt s (j : Int)) - 48) % 256 = 1 := by omega
      have ew : wrap64 (acc + 1) = acc + 1 := wrap64_in (by omega) (by omega)
      have ne : s.data.toList[j] = 49 := by rw [← UInt8.toNat_inj]; exact hbit
      have ec : ((Lib.countByte (s.data.toList[j] :: s.data.toList.drop (j + 1)) 49 : Nat) : Int) = 1 + ((Lib.countByte (s.data.toList.drop (j + 1)) 49 : Nat) : Int) := by unfold Lib.countByte; rw [List.count_cons, ne]; simp; omega
      have := ih (j + 1) (acc + 1) (by omega) (by omega) (by omega)
      rw [ec, ← Int.add_assoc]
      exact Ev.step (fun k => by rw [spec_l01Ones.l0, if_pos (by omega), if_pos (by omega), e0, ew, hw]) this

theorem rdS_get (l : List ByteArray) (j : Nat) (h : j < l.length) : rdOf ByteArray.empty l (j : Int) = l[j] := by
  unfold rdOf; rw [Int.toNat_natCast, List.getD_eq_getElem?_getD, List.getElem?_eq_getElem h]; rfl
theorem toStringS_loop (l : List ByteArray) (hn : l.length ≤ 1048576) (d : Nat) : ∀ (j : Nat) (acc : List ByteArray), j + d = l.length → acc.length = l.length → acc.take j = l.take j →
    Ev (fun k => laws_toStringS.l0 k l acc (j : Int)) l := by
  induction d with
  | zero =>
    intro j acc h ha ht
    have e : acc = l := take_all (n := j) (by omega) (by omega) ht
    exact ev_one (fun k => by rw [laws_toStringS.l0, if_neg (by omega), e])
  | succ d ih =>
    intro j acc h ha ht
    have hj : j < l.length := by omega
    have hw := wrap_succ hj (by omega)
    have hi := ih (j + 1) (acc.set j l[j]) (by omega) (by rw [List.length_set]; exact ha) (by rw [set_take _ _ _ (by omega), ht, take_snoc' _ _ hj])
    exact Ev.step (fun k => by rw [laws_toStringS.l0, if_pos (by omega), if_pos (by omega), if_pos (by omega), rdS_get _ _ hj, Int.toNat_natCast, hw]) hi
theorem toStringS_ev (l : List ByteArray) (hn : l.length ≤ 1048576) : Ev (fun k => laws_toStringS.f k l) l := by
  refine Ev.congr (fun k => ?_) (toStringS_loop l hn l.length 0 (List.replicate l.length ⟨#[]⟩) (by omega) (by simp) rfl)
  unfold laws_toStringS.f
  rw [if_pos (by omega), Int.toNat_natCast, if_pos (by omega)]
  rfl
theorem eqStringS_loop (l : List ByteArray) (hn : l.length ≤ 1048576) (d : Nat) : ∀ j : Nat, j + d = l.length → Ev (fun k => laws_eqStringS.l0 k l l (j : Int)) true := by
  induction d with
  | zero => intro j h; exact ev_one (fun k => by rw [laws_eqStringS.l0, if_neg (by omega)])
  | succ d ih =>
    intro j h
    refine Ev.step (fun k => ?_) (ih (j + 1) (by omega))
    rw [laws_eqStringS.l0, if_pos (by omega), if_pos (by omega), if_pos (by omega), if_pos rfl, wrap_succ (n := l.length) (by omega) (by omega)]
theorem eqStringS_ev (l : List ByteArray) (hn : l.length ≤ 1048576) : Ev (fun k => laws_eqStringS.f k l l) true := by
  refine Ev.congr (fun k => ?_) (eqStringS_loop l hn l.length 0 (by omega))
  unfold laws_eqStringS.f
  rw [if_pos rfl]
  rfl
theorem szStringS_loop (l : List ByteArray) (hn : l.length ≤ 9223372036854775807) (hl : ∀ s ∈ l, s.size ≤ 9223372036854775807) (d : Nat) : ∀ (j : Nat) (left : Int), j + d = l.length → 0 ≤ left → left ≤ 1048576 →
    (∃ r, Ev (fun k => laws_szStringS.l0 k l left (j : Int)) r ∧ r ≤ left ∧ (0 ≤ r → ∀ x ∈ l.drop j, x.size ≤ 1048576)) := by
  induction d with
  | zero =>
    intro j left h h0 h1
    refine ⟨left, ev_one (fun k => by rw [laws_szStringS.l0, if_neg (by omega)]), Int.le_refl _, fun _ x hx => ?_⟩
    rw [List.drop_eq_nil_of_le (by omega)] at hx
    cases hx
  | succ d ih =>
    intro j left h h0 h1
    have hj : j < l.length := by omega
    have hlen := hl _ (List.getElem_mem hj)
    have hw : wrap64 (left - (l[j].size : Int)) = left - (l[j].size : Int) := wrap64_in (by omega) (by omega)
    by_cases c : left - (l[j].size : Int) < 0
    · refine ⟨-1, ev_one (fun k => ?_), by omega, fun h => by omega⟩
      rw [laws_szStringS.l0, if_pos (by omega), if_pos (by omega), rdS_get _ _ hj, hw, if_pos c]
    · obtain ⟨r, hr, hle, hp⟩ := ih (j + 1) (left - (l[j].size : Int)) (by omega) (by omega) (by omega)
      refine ⟨r, Ev.step (fun k => ?_) hr, by omega, fun h0 x hx => ?_⟩
      · rw [laws_szStringS.l0, if_pos (by omega), if_pos (by omega), rdS_get _ _ hj, hw, if_neg c, wrap_succ hj (by omega)]
      · rw [drop_cons _ _ hj] at hx
        rcases List.mem_cons.1 hx with rfl | hx
        · omega
        · exact hp h0 x hx
theorem szStringS_ev (l : List ByteArray) (hn : l.length ≤ 9223372036854775807) (hl : ∀ s ∈ l, s.size ≤ 9223372036854775807) (left : Int) (h0 : 0 ≤ left) (h1 : left ≤ 1048576) :
    ∃ r, Ev (fun k => laws_szStringS.f k l left) r ∧ r ≤ left ∧ (0 ≤ r → l.length ≤ 1048576 ∧ ∀ x ∈ l, x.size ≤ 1048576) := by
  have hw : wrap64 (left - (l.length : Int)) = left - (l.length : Int) := wrap64_in (by omega) (by omega)
  by_cases c : left - (l.length : Int) < 0
  · refine ⟨-1, Ev.congr (fun k => ?_) (Ev.now _), by omega, fun h => by omega⟩
    unfold laws_szStringS.f
    rw [hw, if_pos c]
  · obtain ⟨r, hr, hle, hp⟩ := szStringS_loop l hn hl l.length 0 (left - (l.length : Int)) (by omega) (by omega) (by omega)
    refine ⟨r, Ev.congr (fun k => ?_) hr, by omega, fun h => ⟨by omega, fun x hx => hp h x (by simpa using hx)⟩⟩
    unfold laws_szStringS.f
    rw [hw, if_neg c]
    rfl
theorem idx_both (L : List ByteArray) (s : ByteArray) (hn : L.length ≤ 1048576) (d : Nat) : ∀ j : Nat, j + d = L.length → ∃ r, Ev (fun k => spec_l03Index.l0 k L s (j : Int)) r ∧ Ev (fun k => slices_Index_string_string.l0 k L s (L.length : Int) (j : Int)) r ∧ (r ≥ 0 ↔ s.toList ∈ (L.drop j).map ByteArray.toList) ∧ (r < 0 → r = -1) ∧ (0 ≤ r → ∃ i : Nat, r = i ∧ j ≤ i ∧ ∃ h : i < L.length, L[i].toList = s.toList) := by
  induction d with
  | zero =>
    intro j h
    refine ⟨-1, ev_one (fun k => by rw [spec_l03Index.l0, if_neg (by omega)]), ev_one (fun k => by rw [slices_Index_string_string.l0, if_neg (by omega)]), ?_, fun _ => rfl, fun h => by omega⟩
    rw [List.drop_eq_nil_of_le (by omega)]; simp
  | succ d ih =>
    intro j h
    have hj : j < L.length := by omega
    have hw := wrap_succ hj (by omega)
    rw [drop_cons _ _ hj, List.map_cons, List.mem_cons]
    by_cases c : L[j].toList = s.toList
    · exact ⟨(j : Int), ev_one (fun k => by rw [spec_l03Index.l0, if_pos (by omega), if_pos (by omega), rdS_get _ _ hj, if_pos c]), ev_one (fun k => by rw [slices_Index_string_string.l0, if_pos (by omega), if_pos (by omega), if_pos (by omega), rdS_get _ _ hj, if_pos c.symm]), ⟨fun _ => .inl c.symm, fun _ => by omega⟩, fun h => by omega, fun _ => ⟨j, rfl, Nat.le_refl _, hj, c⟩⟩
    · obtain ⟨r, r1, r2, r3, r4, r5⟩ := ih (j + 1) (by omega)
      exact ⟨r, Ev.step (fun k => by rw [spec_l03Index.l0, if_pos (by omega), if_pos (by omega), rdS_get _ _ hj, if_neg c, hw]) r1, Ev.step (fun k => by rw [slices_Index_string_string.l0, if_pos (by omega), if_pos (by omega), if_pos (by omega), rdS_get _ _ hj, if_neg (fun e => c e.symm), hw]) r2, r3.trans ⟨.inr, fun h => h.resolve_left (fun e => c e.symm)⟩, r4, fun h0 => by
        obtain ⟨i, e1, e2, e3⟩ := r5 h0
        exact ⟨i, e1, by omega, e3⟩⟩

def dsp (s : ByteArray) : Int := wrap64 ((wrap64 (2 * ((Lib.countByte s.data.toList 49 : Nat) : Int))) - (s.size : Int))
theorem disp_f (s : ByteArray) : impl_disparity.f s = some (dsp s) := by
  unfold impl_disparity.f strings_Count.f
  rw [if_pos rfl]
  rfl
theorem ones_any (s : ByteArray) (hn : s.size ≤ 1048576) (d : Nat) : ∀ (j : Nat) (acc : Int), j + d = s.size → ∃ v, Ev (fun k => spec_l01Ones.l0 k s acc (j : Int)) v := by
  induction d with
  | zero => intro j acc h; exact ⟨acc, ev_one (fun k => by rw [spec_l01Ones.l0, if_neg (by omega)])⟩
  | succ d ih =>
    intro j acc h
    have hw := wrap_succ (j := j) (n := s.size) (by omega) (by omega)
    obtain ⟨v, hv⟩ := ih (j + 1) (wrap64 (acc + (((bt s (j : Int)) - 48) % 256))) (by omega)
    exact ⟨v, Ev.step (fun k => by rw [spec_l01Ones.l0, if_pos (by omega), if_pos (by omega), hw]) hv⟩
theorem IB_parts {s : ByteArray} (h : IB s = true) : areB s.data.toList = true ∧ s.size ≤ 400 := by
  unfold IB at h
  rw [Bool.and_eq_true, decide_eq_true_iff] at h
  exact ⟨h.1, by omega⟩
theorem specDisp_any (s : ByteArray) (hn : s.size ≤ 1048576) : ∃ v, Ev (fun k => spec_l03Disparity.f k s) v ∧ (IB s = true → v = dsp s) := by
  cases e : IB s with
  | false =>
    obtain ⟨v, hv⟩ := ones_any s hn s.size 0 0 (by omega)
    refine ⟨wrap64 ((wrap64 (2 * v)) - (s.size : Int)), ?_, fun h => by cases h⟩
    unfold spec_l03Disparity.f
    exact Ev.bind (f := fun k t => some (wrap64 ((wrap64 (2 * t)) - (s.size : Int)))) (show Ev (fun k => spec_l01Ones.f k s) v from hv) (Ev.now _)
  | true =>
    obtain ⟨e1, e2⟩ := IB_parts e
    have h := ones_loop s (by omega) e1 s.size 0 0 (by omega) (by omega) (by omega)
    rw [Int.zero_add, List.drop_zero] at h
    refine ⟨dsp s, ?_, fun _ => rfl⟩
    unfold spec_l03Disparity.f
    exact Ev.bind (f := fun k t => some (wrap64 ((wrap64 (2 * t)) - (s.size : Int)))) h (Ev.now _)
/-- A word of a list of a valid code. -/
def WOK (L : List ByteArray) (c1 o : Int) (i : Nat) (h : i < L.length) : Prop := areB L[i].data.toList = true ∧ (L[i].size : Int) = c1 ∧ (dsp L[i] = 0 ∨ dsp L[i] = o) ∧ ∀ (i' : Nat) (h' : i' < i), L[i'].toList ≠ L[i].toList
theorem words_both (L : List ByteArray) (c1 o : Int) (hc : c1 ≤ 400) (hn : L.length ≤ 1000) (hs : ∀ s ∈ L, s.size ≤ 1048576) (d : Nat) : ∀ (j : Nat) (seen : List (List UInt8)), j + d = L.length → seen.length ≤ j → (∀ y, y ∈ seen ↔ y ∈ (L.take j).map ByteArray.toList) →
    ∃ r, Ev (fun k => spec_l03Words.l0 k L c1 o (j : Int)) r ∧ Ev (fun k => impl_BlockCode_areWords.l0 k c1 L o seen (j : Int)) r ∧ (r = true → ∀ i : Nat, j ≤ i → ∀ h : i < L.length, WOK L c1 o i h) := by
  induction d with
  | zero => intro j seen h h1 h2; exact ⟨true, ev_one (fun k => by rw [spec_l03Words.l0, if_neg (by omega)]), ev_one (fun k => by rw [impl_BlockCode_areWords.l0, if_neg (by omega)]), fun _ i h1 h2 => by omega⟩
  | succ d ih =>
    intro j seen h h1 h2
    have hj : j < L.length := by omega
    have hw := wrap_succ hj (by omega)
    have hz := hs _ (List.getElem_mem hj)
    have hrd := rdS_get L j hj
    have htk := take_snoc' L j hj
    obtain ⟨s, hsj⟩ : ∃ s, s = L[j] := ⟨_, rfl⟩
    rw [← hsj] at hz hrd htk
    obtain ⟨v, hv, hv2⟩ := specDisp_any s hz
    have hb := specBits_ev s (by omega)
    have ia := areBits_f s (by omega)
    have st : ∀ R, Ev (fun k => if IB s = true then (if (s.size : Int) = c1 then (if v = 0 then ((spec_l03Index.f k (L.take j) s).bind fun t => (if t ≥ 0 then (some false) else (spec_l03Words.l0 k L c1 o ((j + 1 : Nat) : Int)))) else (if v = o then ((spec_l03Index.f k (L.take j) s).bind fun t => (if t ≥ 0 then (some false) else (spec_l03Words.l0 k L c1 o ((j + 1 : Nat) : Int)))) else some false)) else some false) else some false) R → Ev (fun k => spec_l03Words.l0 k L c1 o (j : Int)) R := by
      intro R hR
      refine Ev.step (fun k => by rw [spec_l03Words.l0, if_pos (by omega), if_pos (by omega), hrd, Int.toNat_natCast, hw, if_pos (show (j : Int) ≤ (L.length : Int) by omega)]) (Ev.bind hv (Ev.bind hb hR))
    have im : ∀ R, Ev (fun k => if (s.size : Int) = c1 then (if areB s.data.toList = true then (if dsp s = 0 ∨ dsp s = o then (if s.data.toList ∈ seen then some false else impl_BlockCode_areWords.l0 k c1 L o (s.data.toList :: seen) ((j + 1 : Nat) : Int)) else some false) else some false) else some false) R → Ev (fun k => impl_BlockCode_areWords.l0 k c1 L o seen (j : Int)) R := by
      intro R hR
      refine Ev.step (fun k => by rw [impl_BlockCode_areWords.l0, if_pos (by omega), if_pos (by omega), hrd, if_pos hz, disp_f, Option.bind_some, ia, Option.bind_some, if_pos (show seen.length < 1000000 by omega), hw]) hR
    cases e : IB s with
    | false =>
      refine ⟨false, st _ (ev_neg (by rw [e]; decide) (Ev.now _)), im _ ?_, (fun q => absurd q Bool.false_ne_true)⟩
      by_cases c : (s.size : Int) = c1
      · have hB : areB s.data.toList = false := by
          unfold IB at e
          rw [decide_eq_true (show (s.size : Int) ≤ 400 by omega), Bool.and_true] at e
          exact e
        exact ev_pos c (ev_neg (by rw [hB]; decide) (Ev.now _))
      · exact ev_neg c (Ev.now _)
    | true =>
      obtain ⟨p1, p2⟩ := IB_parts e
      obtain rfl := hv2 e
      by_cases c : (s.size : Int) = c1
      · obtain ⟨i, i1, _, i3, _, _⟩ := idx_both (L.take j) s (by rw [List.length_take]; omega) (L.take j).length 0 (by omega)
        rw [List.drop_zero, ← h2, Lib.toList_data] at i3
        have i1' : Ev (fun k => spec_l03Index.f k (L.take j) s) i := i1
        by_cases c9 : s.data.toList ∈ seen
        · have go : Ev (fun k => (spec_l03Index.f k (L.take j) s).bind fun t => (if t ≥ 0 then (some false) else (spec_l03Words.l0 k L c1 o ((j + 1 : Nat) : Int)))) false := Ev.bind i1' (ev_pos (i3.2 c9) (Ev.now _))
          refine ⟨false, st _ (ev_pos e (ev_pos c ?_)), im _ (ev_pos c (ev_pos p1 ?_)), (fun q => absurd q Bool.false_ne_true)⟩
          · by_cases c8 : dsp s = 0
            · exact ev_pos c8 go
            · by_cases c7 : dsp s = o
              · exact ev_neg c8 (ev_pos c7 go)
              · exact ev_neg c8 (ev_neg c7 (Ev.now _))
          · by_cases c8 : dsp s = 0 ∨ dsp s = o
            · exact ev_pos c8 (ev_pos c9 (Ev.now _))
            · exact ev_neg c8 (Ev.now _)
        · by_cases c8 : dsp s = 0 ∨ dsp s = o
          · obtain ⟨r, r1, r2, r3⟩ := ih (j + 1) (s.data.toList :: seen) (by omega) (by simp; omega) (by
              intro y
              rw [htk, List.map_append, List.mem_append, List.mem_cons, h2, Or.comm]
              simp [Lib.toList_data])
            have go : Ev (fun k => (spec_l03Index.f k (L.take j) s).bind fun t => (if t ≥ 0 then (some false) else (spec_l03Words.l0 k L c1 o ((j + 1 : Nat) : Int)))) r := Ev.bind i1' (ev_neg (fun hh => c9 (i3.1 hh)) r1)
            refine ⟨r, st _ (ev_pos e (ev_pos c ?_)), im _ (ev_pos c (ev_pos p1 (ev_pos c8 (ev_neg c9 r2)))), fun q i h1 h2' => ?_⟩
            rotate_left
            · by_cases ci : i = j
              · subst ci
                refine ⟨by rw [← hsj]; exact p1, by rw [← hsj]; exact c, by rw [← hsj]; exact c8, fun i' hi' he => ?_⟩
                apply c9
                rw [h2, ← Lib.toList_data, hsj, ← he]
                exact List.mem_map.2 ⟨L[i'], List.mem_take_iff_getElem.2 ⟨i', by omega, rfl⟩, rfl⟩
              · exact r3 q i (by omega) h2'
            by_cases c7 : dsp s = 0
            · exact ev_pos c7 go
            · exact ev_neg c7 (ev_pos (c8.resolve_left c7) go)
          · exact ⟨false, st _ (ev_pos e (ev_pos c (ev_neg (fun hh => c8 (.inl hh)) (ev_neg (fun hh => c8 (.inr hh)) (Ev.now _))))), im _ (ev_pos c (ev_pos p1 (ev_neg c8 (Ev.now _)))), (fun q => absurd q Bool.false_ne_true)⟩
      · exact ⟨false, st _ (ev_pos e (ev_neg c (Ev.now _))), im _ (ev_neg c (Ev.now _)), (fun q => absurd q Bool.false_ne_true)⟩

theorem last_both (L2 L3 : List ByteArray) (hn2 : L2.length ≤ 1048576) (hn3 : L3.length ≤ 1048576) (a0 a1 : Int) (d : Nat) : ∀ j : Nat, j + d = L2.length →
    ∃ r, Ev (fun k => spec_l03Is.l0 k (L2.length : Int) (j : Int) a0 a1 L2 L3) r ∧ Ev (fun k => impl_ValidBlockCode.l0 k L2 (L2.length : Int) (j : Int) a0 a1 L2 L3) r ∧ (r = true → ∀ i : Nat, j ≤ i → ∀ (h : i < L2.length) (i' : Nat) (h' : i' < L3.length), L2[i].toList = L3[i'].toList → (∀ (p q : Nat) (hp : p < L3.length) (hq : q < L3.length), p < q → L3[p].toList ≠ L3[q].toList) → i = i') := by
  induction d with
  | zero => intro j h; exact ⟨true, ev_one (fun k => by rw [spec_l03Is.l0, if_neg (by omega)]), ev_one (fun k => by rw [impl_ValidBlockCode.l0, if_neg (by omega)]), fun _ i h1 h2 => by omega⟩
  | succ d ih =>
    intro j h
    have hj : j < L2.length := by omega
    have hw := wrap_succ hj (by omega)
    have hrd := rdS_get L2 j hj
    obtain ⟨i, i1, i2, i3, _, i5⟩ := idx_both L3 L2[j] hn3 L3.length 0 (by omega)
    rw [List.drop_zero] at i3
    have i1' : Ev (fun k => spec_l03Index.f k L3 L2[j]) i := i1
    have i2' : Ev (fun k => slices_Index_string_string.f k L3 L2[j]) i := i2
    obtain ⟨r, r1, r2, r3⟩ := ih (j + 1) (by omega)
    have sp : ∀ R, Ev (fun k => if i ≥ 0 then (if i = (j : Int) then spec_l03Is.l0 k (L2.length : Int) ((j + 1 : Nat) : Int) a0 a1 L2 L3 else some false) else spec_l03Is.l0 k (L2.length : Int) ((j + 1 : Nat) : Int) a0 a1 L2 L3) R → Ev (fun k => spec_l03Is.l0 k (L2.length : Int) (j : Int) a0 a1 L2 L3) R :=
      fun R hR => Ev.step (fun k => by rw [spec_l03Is.l0, if_pos (by omega), if_pos (by omega), if_pos (by omega), hrd, hw]) (Ev.bind i1' hR)
    have im : ∀ R, Ev (fun k => if i ≥ 0 then (if i = (j : Int) then impl_ValidBlockCode.l0 k L2 (L2.length : Int) ((j + 1 : Nat) : Int) a0 a1 L2 L3 else some false) else impl_ValidBlockCode.l0 k L2 (L2.length : Int) ((j + 1 : Nat) : Int) a0 a1 L2 L3) R → Ev (fun k => impl_ValidBlockCode.l0 k L2 (L2.length : Int) (j : Int) a0 a1 L2 L3) R :=
      fun R hR => Ev.step (fun k => by rw [impl_ValidBlockCode.l0, if_pos (by omega), if_pos (by omega), if_pos (by omega), hrd, hw]) (Ev.bind i2' hR)
    by_cases c : i ≥ 0
    · by_cases c2 : i = (j : Int)
      · refine ⟨r, sp _ (ev_pos c (ev_pos c2 r1)), im _ (ev_pos c (ev_pos c2 r2)), fun q z h1 h2 i' h' he hd => ?_⟩
        by_cases cz : z = j
        · subst cz
          obtain ⟨y, e1, _, e2, e3⟩ := i5 c
          have ey : y = z := by omega
          subst ey
          rcases Nat.lt_trichotomy y i' with g | g | g
          · exact absurd (e3.trans he) (hd y i' e2 h' g)
          · exact g
          · exact absurd (e3.trans he).symm (hd i' y h' e2 g)
        · exact r3 q z (by omega) h2 i' h' he hd
      · exact ⟨false, sp _ (ev_pos c (ev_neg c2 (Ev.now _))), im _ (ev_pos c (ev_neg c2 (Ev.now _))), (fun q => absurd q Bool.false_ne_true)⟩
    · refine ⟨r, sp _ (ev_neg c r1), im _ (ev_neg c r2), fun q z h1 h2 i' h' he hd => ?_⟩
      by_cases cz : z = j
      · subst cz
        exact absurd (i3.2 (by rw [he]; exact List.mem_map.2 ⟨L3[i'], List.getElem_mem h', rfl⟩)) c
      · exact r3 q z (by omega) h2 i' h' he hd
theorem shl_data (a : Int) (h : 1 ≤ a ∧ a ≤ 6) : shl .i64 1 a = wrap64 (2 ^ min a.toNat 64) ∧ shl .i64 1 a ≤ 64 := by
  have : a = 1 ∨ a = 2 ∨ a = 3 ∨ a = 4 ∨ a = 5 ∨ a = 6 := by omega
  rcases this with rfl | rfl | rfl | rfl | rfl | rfl <;> decide +kernel
theorem isData_f (a : Int) : impl_isData.f a = some (decide (1 ≤ a ∧ a ≤ 6)) := by
  unfold impl_isData.f
  rw [impl_in]; rfl
theorem isWidth_f (a : Int) : impl_isWidth.f a = some (decide (2 ≤ a ∧ a ≤ 12) && ((Int.tmod a 2) == 0)) := by
  unfold impl_isWidth.f
  rw [impl_in, Option.bind_some]
  by_cases c : 2 ≤ a ∧ a ≤ 12
  · rw [decide_eq_true c, if_pos rfl, Bool.true_and]
  · rw [decide_eq_false c, if_neg Bool.false_ne_true, Bool.false_and]
/-- A valid block code. -/
structure VC (a0 a1 : Int) (L2 L3 : List ByteArray) : Prop where
  data : 1 ≤ a0 ∧ a0 ≤ 6
  width : 2 ≤ a1 ∧ a1 ≤ 12
  even : Int.tmod a1 2 = 0
  n2 : (L2.length : Int) = shl .i64 1 a0
  n3 : (L3.length : Int) = shl .i64 1 a0
  w2 : ∀ (i : Nat) (h : i < L2.length), WOK L2 a1 2 i h
  w3 : ∀ (i : Nat) (h : i < L3.length), WOK L3 a1 (-2) i h
  cross : ∀ (i : Nat) (h : i < L2.length) (i' : Nat) (h' : i' < L3.length), L2[i].toList = L3[i'].toList → i = i'
theorem code_both (a0 a1 : Int) (L2 L3 : List ByteArray) (h2 : L2.length ≤ 1048576) (h3 : L3.length ≤ 1048576) (s2 : ∀ s ∈ L2, s.size ≤ 1048576) (s3 : ∀ s ∈ L3, s.size ≤ 1048576) :
    ∃ r, Ev (fun k => spec_l03Is.f k a0 a1 L2 L3) r ∧ Ev (fun k => impl_ValidBlockCode.f k a0 a1 L2 L3) r ∧ (r = true → VC a0 a1 L2 L3) := by
  have sno : Ev (fun k => spec_l03Is.j0 k true a0 a1 L2 L3) false := ev_one (fun k => by rw [spec_l03Is.j0, if_pos rfl])
  have sn1 : ∀ n, Ev (fun k => spec_l03Is.j1 k n true a0 a1 L2 L3) false := fun n => ev_one (fun k => by rw [spec_l03Is.j1, if_pos rfl])
  have ino : Ev (fun k => impl_ValidBlockCode.j0 k true a0 a1 L2 L3) false := ev_one (fun k => by rw [impl_ValidBlockCode.j0, if_pos rfl])
  unfold spec_l03Is.f impl_ValidBlockCode.f
  by_cases c0 : 1 ≤ a0 ∧ a0 ≤ 6
  · by_cases c1 : 2 ≤ a1 ∧ a1 ≤ 12
    · by_cases ct : (Int.tmod a1 2) = 0
      · have hd := isData_f a0
        have hwd := isWidth_f a1
        rw [decide_eq_true c0] at hd
        rw [decide_eq_true c1, ct] at hwd
        have hs0 := spec_in a0 1 6
        have hs1 := spec_in a1 2 12
        rw [decide_eq_true c0] at hs0
        rw [decide_eq_true c1] at hs1
        have hu : IntKind.u64.wrap a0 = a0 := u64_in (by omega) (by omega)
        obtain ⟨hsh, hle⟩ := shl_data a0 c0
        suffices h : ∃ r, (r = true → VC a0 a1 L2 L3) ∧ Ev (fun k => if (L2.length : Int) = shl .i64 1 a0 then (if (L3.length : Int) = shl .i64 1 a0 then ((spec_l03Words.f k L2 a1 2).bind fun t => (if t = true then ((spec_l03Words.f k L3 a1 (-2)).bind fun t2 => (spec_l03Is.j1 k (shl .i64 1 a0) (!t2) a0 a1 L2 L3)) else (spec_l03Is.j1 k (shl .i64 1 a0) true a0 a1 L2 L3))) else (spec_l03Is.j1 k (shl .i64 1 a0) true a0 a1 L2 L3)) else (spec_l03Is.j1 k (shl .i64 1 a0) true a0 a1 L2 L3)) r ∧
            Ev (fun k => (impl_BlockCode_areWords.f k a0 a1 L2 L3 L2 2).bind fun t => (if t = true then ((impl_BlockCode_areWords.f k a0 a1 L2 L3 L3 (-2)).bind fun t2 => (impl_ValidBlockCode.j0 k (!t2) a0 a1 L2 L3)) else (impl_ValidBlockCode.j0 k true a0 a1 L2 L3))) r by
          obtain ⟨r, r0, r1, r2⟩ := h
          refine ⟨r, ev_to hs0 (ev_pos rfl (ev_to hs1 (ev_pos rfl ?_))), ev_to hd (ev_pos rfl (ev_to hwd (ev_pos rfl r2))), r0⟩
          exact Ev.step (fun k => by rw [ct, spec_l03Is.j0, if_neg (by decide), hu, if_pos (by omega)]) r1
        have aw : ∀ (L : List ByteArray) (o : Int) (R : Bool), (L.length : Int) = shl .i64 1 a0 → Ev (fun k => impl_BlockCode_areWords.l0 k a1 L o [] 0) R → Ev (fun k => impl_BlockCode_areWords.f k a0 a1 L2 L3 L o) R := by
          intro L o R hL hR
          unfold impl_BlockCode_areWords.f
          exact ev_pos (by omega) (ev_pos (by rw [hL, hsh]) hR)
        have an : ∀ (L : List ByteArray) (o : Int), (L.length : Int) ≠ shl .i64 1 a0 → Ev (fun k => impl_BlockCode_areWords.f k a0 a1 L2 L3 L o) false := by
          intro L o hL
          unfold impl_BlockCode_areWords.f
          exact ev_pos (by omega) (ev_neg (by rw [← hsh]; exact hL) (Ev.now _))
        by_cases e2 : (L2.length : Int) = shl .i64 1 a0
        · obtain ⟨w2, w2s, w2i, w2k⟩ := words_both L2 a1 2 (by omega) (by omega) s2 L2.length 0 [] (by omega) (by simp) (by simp)
          have w2s' : Ev (fun k => spec_l03Words.f k L2 a1 2) w2 := w2s
          have w2i' := aw L2 2 w2 e2 w2i
          by_cases e3 : (L3.length : Int) = shl .i64 1 a0
          · obtain ⟨w3, w3s, w3i, w3k⟩ := words_both L3 a1 (-2) (by omega) (by omega) s3 L3.length 0 [] (by omega) (by simp) (by simp)
            have w3s' : Ev (fun k => spec_l03Words.f k L3 a1 (-2)) w3 := w3s
            have w3i' := aw L3 (-2) w3 e3 w3i
            cases w2 with
            | false => exact ⟨false, (fun q => absurd q Bool.false_ne_true), ev_pos e2 (ev_pos e3 (Ev.bind w2s' (ev_neg Bool.false_ne_true (sn1 _)))), Ev.bind w2i' (ev_neg Bool.false_ne_true ino)⟩
            | true =>
              cases w3 with
              | false => exact ⟨false, (fun q => absurd q Bool.false_ne_true), ev_pos e2 (ev_pos e3 (Ev.bind w2s' (ev_pos rfl (Ev.bind w3s' (sn1 _))))), Ev.bind w2i' (ev_pos rfl (Ev.bind w3i' ino))⟩
              | true =>
                obtain ⟨r, r1, r2, r3⟩ := last_both L2 L3 h2 h3 a0 a1 L2.length 0 (by omega)
                refine ⟨r, fun q => ⟨c0, c1, ct, e2, e3, fun i h => w2k rfl i (Nat.zero_le _) h, fun i h => w3k rfl i (Nat.zero_le _) h, fun i h i' h' he => r3 q i (Nat.zero_le _) h i' h' he (fun p q' hp hq hpq => (w3k rfl q' (Nat.zero_le _) hq).2.2.2 p hpq)⟩, ev_pos e2 (ev_pos e3 (Ev.bind w2s' (ev_pos rfl (Ev.bind w3s' ?_)))), Ev.bind w2i' (ev_pos rfl (Ev.bind w3i' ?_))⟩
                · exact Ev.step (f := fun k => spec_l03Is.l0 k (L2.length : Int) 0 a0 a1 L2 L3) (fun k => by rw [spec_l03Is.j1, if_neg (by decide), e2]) r1
                · exact Ev.step (f := fun k => impl_ValidBlockCode.l0 k L2 (L2.length : Int) 0 a0 a1 L2 L3) (fun k => by rw [impl_ValidBlockCode.j0, if_neg (by decide)]) r2
          · refine ⟨false, (fun q => absurd q Bool.false_ne_true), ev_pos e2 (ev_neg e3 (sn1 _)), Ev.bind w2i' ?_⟩
            cases w2 with
            | false => exact ev_neg Bool.false_ne_true ino
            | true => exact ev_pos rfl (Ev.bind (an L3 (-2) e3) ino)
        · exact ⟨false, (fun q => absurd q Bool.false_ne_true), ev_neg e2 (sn1 _), Ev.bind (an L2 2 e2) (ev_neg Bool.false_ne_true ino)⟩
      · have hd := isData_f a0
        have hwd := isWidth_f a1
        rw [decide_eq_true c0] at hd
        rw [decide_eq_true c1, Bool.true_and, show ((Int.tmod a1 2) == 0) = false from by simpa using ct] at hwd
        have hs0 := spec_in a0 1 6
        have hs1 := spec_in a1 2 12
        rw [decide_eq_true c0] at hs0
        rw [decide_eq_true c1] at hs1
        refine ⟨false, ev_to hs0 (ev_pos rfl (ev_to hs1 (ev_pos rfl ?_))), ev_to hd (ev_pos rfl (ev_to hwd (ev_neg Bool.false_ne_true ino))), (fun q => absurd q Bool.false_ne_true)⟩
        rw [show ((Int.tmod a1 2) != 0) = true from by simpa using ct]
        exact sno
    · have hd := isData_f a0
      have hwd := isWidth_f a1
      rw [decide_eq_true c0] at hd
      rw [decide_eq_false c1, Bool.false_and] at hwd
      have hs0 := spec_in a0 1 6
      have hs1 := spec_in a1 2 12
      rw [decide_eq_true c0] at hs0
      rw [decide_eq_false c1] at hs1
      exact ⟨false, ev_to hs0 (ev_pos rfl (ev_to hs1 (ev_neg Bool.false_ne_true sno))), ev_to hd (ev_pos rfl (ev_to hwd (ev_neg Bool.false_ne_true ino))), (fun q => absurd q Bool.false_ne_true)⟩
  · have hd := isData_f a0
    have hs0 := spec_in a0 1 6
    rw [decide_eq_false c0] at hd hs0
    exact ⟨false, ev_to hs0 (ev_neg Bool.false_ne_true sno), ev_to hd (ev_neg Bool.false_ne_true ino), (fun q => absurd q Bool.false_ne_true)⟩

theorem szCode_ev (a0 a1 : Int) (L2 L3 : List ByteArray) (n2 : L2.length ≤ 9223372036854775807) (z2 : ∀ s ∈ L2, s.size ≤ 9223372036854775807) (n3 : L3.length ≤ 9223372036854775807) (z3 : ∀ s ∈ L3, s.size ≤ 9223372036854775807) :
    ∃ t, Ev (fun k => laws_szBlockCode.f k a0 a1 L2 L3 1048576) t ∧ (0 ≤ t → (L2.length ≤ 1048576 ∧ ∀ x ∈ L2, x.size ≤ 1048576) ∧ (L3.length ≤ 1048576 ∧ ∀ x ∈ L3, x.size ≤ 1048576)) := by
  obtain ⟨t1, e1, l1, p1⟩ := szStringS_ev L2 n2 z2 1048576 (by decide) (by decide)
  unfold laws_szBlockCode.f
  by_cases c : t1 < 0
  · exact ⟨-1, Ev.bind e1 (ev_pos c (Ev.now _)), fun h => by omega⟩
  · obtain ⟨t2, e2, l2, p2⟩ := szStringS_ev L3 n3 z3 t1 (by omega) (by omega)
    by_cases c2 : t2 < 0
    · exact ⟨-1, Ev.bind e1 (ev_neg c (Ev.bind e2 (ev_pos c2 (Ev.now _)))), fun h => by omega⟩
    · exact ⟨t2, Ev.bind e1 (ev_neg c (Ev.bind e2 (ev_neg c2 (Ev.now _)))), fun h => ⟨p1 (by omega), p2 h⟩⟩
theorem toCode_ev (a0 a1 : Int) (L2 L3 : List ByteArray) (h2 : L2.length ≤ 1048576) (h3 : L3.length ≤ 1048576) : Ev (fun k => laws_toBlockCode.f k a0 a1 L2 L3) (a0, a1, L2, L3) := by
  unfold laws_toBlockCode.f
  exact Ev.bind (toStringS_ev L2 h2) (Ev.bind (toStringS_ev L3 h3) (Ev.now _))
theorem eqCode_ev (a0 a1 : Int) (L2 L3 : List ByteArray) (h2 : L2.length ≤ 1048576) (h3 : L3.length ≤ 1048576) : Ev (fun k => laws_eqBlockCode.f k a0 a1 L2 L3 a0 a1 L2 L3) true := by
  unfold laws_eqBlockCode.f
  exact ev_pos rfl (ev_pos rfl (Ev.bind (eqStringS_ev L2 h2) (ev_pos rfl (Ev.bind (eqStringS_ev L3 h3) (ev_pos rfl (Ev.now _))))))

theorem VC.le64 {a0 a1 : Int} {L2 L3 : List ByteArray} (h : VC a0 a1 L2 L3) : L2.length ≤ 64 ∧ L3.length ≤ 64 := by
  have h1 := (shl_data a0 h.data).2
  have h2 := h.n2
  have h3 := h.n3
  omega
/-- A word's bits, whichever list it is of. -/
theorem VC.mem {a0 a1 : Int} {L2 L3 : List ByteArray} (h : VC a0 a1 L2 L3) {w : ByteArray} (hw : w ∈ L2 ∨ w ∈ L3) : IB w = true ∧ (w.size : Int) = a1 ∧ w.size ≤ 12 := by
  have hd := h.width
  rcases hw with hw | hw
  · obtain ⟨i, hi, rfl⟩ := List.mem_iff_getElem.1 hw
    obtain ⟨p1, p2, _⟩ := h.w2 i hi
    exact ⟨by unfold IB; rw [p1, decide_eq_true (by omega)]; rfl, p2, by omega⟩
  · obtain ⟨i, hi, rfl⟩ := List.mem_iff_getElem.1 hw
    obtain ⟨p1, p2, _⟩ := h.w3 i hi
    exact ⟨by unfold IB; rw [p1, decide_eq_true (by omega)]; rfl, p2, by omega⟩
/-- The state behind a word. -/
def nxt (st : Int) (w : ByteArray) : Int := if dsp w > 0 then 1 else if dsp w < 0 then -1 else st
theorem implBehindS_f (st : Int) (w : ByteArray) : impl_stateBehind.f st w = some (nxt st w) := by
  unfold impl_stateBehind.f nxt
  rw [disp_f, Option.bind_some]
  by_cases c : dsp w > 0
  · rw [if_pos c, if_pos c]
  · rw [if_neg c, if_neg c]
    by_cases c2 : dsp w < 0
    · rw [if_pos c2, if_pos c2]
    · rw [if_neg c2, if_neg c2]
theorem specNext_ev (st : Int) (w : ByteArray) (h : IB w = true) : Ev (fun k => spec_l03Next.f k st w) (nxt st w) := by
  obtain ⟨p1, p2⟩ := IB_parts h
  obtain ⟨v, hv, hv2⟩ := specDisp_any w (by omega)
  obtain rfl := hv2 h
  obtain ⟨r, hr⟩ : ∃ r, r = nxt st w := ⟨_, rfl⟩
  rw [← hr]
  unfold nxt at hr
  unfold spec_l03Next.f
  refine Ev.bind hv ?_
  by_cases c : dsp w > 0
  · rw [if_pos c] at hr
    rw [hr]
    exact ev_pos c (Ev.now _)
  · rw [if_neg c] at hr
    refine ev_neg c ?_
    by_cases c2 : dsp w < 0
    · rw [if_pos c2] at hr
      rw [hr]
      exact ev_pos c2 (Ev.now _)
    · rw [if_neg c2] at hr
      rw [hr]
      exact ev_neg c2 (Ev.now _)
def lst (L2 L3 : List ByteArray) (st : Int) : List ByteArray := if st < 0 then L2 else L3
theorem lst_mem {L2 L3 : List ByteArray} {st : Int} {w : ByteArray} (h : w ∈ lst L2 L3 st) : w ∈ L2 ∨ w ∈ L3 := by
  unfold lst at h
  split at h
  · exact .inl h
  · exact .inr h

theorem take_prefix (t l : List UInt8) : (l.take t.length == t) = t.isPrefixOf l := by
  rw [Bool.eq_iff_iff, beq_iff_eq, List.isPrefixOf_iff_prefix, List.prefix_iff_eq_take]
  exact eq_comm
theorem occAt_short (s t : List UInt8) (j : Nat) (h : s.length < j + t.length) (ht : 0 < t.length) : Lib.occAt s t j = false := by
  unfold Lib.occAt
  rw [Bool.eq_false_iff, ne_eq, List.isPrefixOf_iff_prefix]
  intro q
  have := q.length_le
  rw [List.length_drop] at this
  omega
theorem extract_list (s : ByteArray) (i j : Nat) : (s.extract i j).toList = (s.data.toList.drop i).take (j - i) := by
  rw [Lib.toList_data, ByteArray.data_extract, Array.toList_extract, List.extract_eq_take_drop]
theorem occAt_drop (s t : List UInt8) (i j : Nat) : Lib.occAt (s.drop i) t j = Lib.occAt s t (i + j) := by
  unfold Lib.occAt
  rw [List.drop_drop]

theorem areB_extract (s : ByteArray) (i j : Nat) (h : areB s.data.toList = true) : areB (s.extract i j).data.toList = true := by
  unfold areB at h ⊢
  rw [List.all_eq_true] at h ⊢
  intro x hx
  apply h
  rw [ByteArray.data_extract, Array.toList_extract] at hx
  exact List.mem_of_mem_drop (List.mem_of_mem_take hx)
theorem nxt_pm {st : Int} (h : st = 1 ∨ st = -1) (w : ByteArray) : nxt st w = 1 ∨ nxt st w = -1 := by
  unfold nxt
  split
  · exact .inl rfl
  · split
    · exact .inr rfl
    · exact h
theorem slneg (a0 a1 : Int) (L2 L3 : List ByteArray) : spec_l03List_neg.f a0 a1 L2 L3 (-1) = some () := if_pos (by decide)
theorem slpos (a0 a1 : Int) (L2 L3 : List ByteArray) : spec_l03List_pos.f a0 a1 L2 L3 1 = some () := if_pos (by decide)
theorem markText_loop (n : Nat) : ∀ (x : Int) (t : ByteArray), x ≤ n → n ≤ 4611686018427387904 → t.size + n ≤ 4611686018427387904 → ∃ v, Ev (fun k => laws_markText.l0 k x t) v := by
  induction n with
  | zero =>
    intro x t h _ h2
    exact ⟨_, ev_one (fun k => by rw [laws_markText.l0, if_neg (by omega), if_pos (by omega)])⟩
  | succ n ih =>
    intro x t h h1 h2
    by_cases c : x > 0
    · have hd : wrap64 (Int.tdiv x 10) = x / 10 := by rw [Int.tdiv_eq_ediv_of_nonneg (by omega), wrap64_in (by omega) (by omega)]
      have hz : ∀ a : Int, (strOfNums [a]).size = 1 := fun a => by simp [strOfNums, ByteArray.size]
      obtain ⟨v, hv⟩ := ih (x / 10) (strOfNums [(wrap64 (48 + (Int.tmod x 10))) % 256] ++ t) (by omega) (by omega) (by rw [ByteArray.size_append, hz]; omega)
      refine ⟨v, Ev.step (fun k => ?_) hv⟩
      rw [laws_markText.l0, if_pos c, Option.bind_some, if_pos (by rw [hz]; omega), hd]
    · exact ⟨_, ev_one (fun k => by rw [laws_markText.l0, if_neg c, if_pos (by omega)])⟩
theorem markText_ev (x : Int) (h : x ≤ 4611686018427387904) : ∃ v, Ev (fun k => laws_markText.f k x) v := by
  unfold laws_markText.f
  by_cases c : x ≤ 0
  · exact ⟨_, ev_pos c (Ev.now _)⟩
  · obtain ⟨v, hv⟩ := markText_loop x.toNat x ⟨#[]⟩ (by omega) (by omega) (by show 0 + x.toNat ≤ _; omega)
    exact ⟨v, ev_neg c hv⟩
theorem markS_loop (n : Nat) (hn : n ≤ 1048576) (d : Nat) : ∀ (j : Nat) (L : List ByteArray) (a : Int), j + d = n → L.length = n → 0 ≤ a → a + d ≤ 1000000000 →
    ∃ v : Int × List ByteArray, Ev (fun k => laws_markStringS.l0 k L a (j : Int)) v ∧ v.1 = a + d ∧ v.2.length = n := by
  induction d with
  | zero => intro j L a h hl h0 h1; exact ⟨(a, L), ev_one (fun k => by rw [laws_markStringS.l0, if_neg (by omega)]), by show a = _; omega, hl⟩
  | succ d ih =>
    intro j L a h hl h0 h1
    obtain ⟨t, ⟨n1, ht0⟩⟩ := markText_ev a (by omega)
    have ht : ∀ k, n1 ≤ k → laws_markText.f k a = some t := ht0
    have hw := wrap_succ (j := j) (n := n) (by omega) (by omega)
    have hwa : wrap64 (a + 1) = a + 1 := wrap64_in (by omega) (by omega)
    obtain ⟨v, ⟨n2, hv⟩, v1, v2⟩ := ih (j + 1) (L.set j t) (a + 1) (by omega) (by rw [List.length_set]; exact hl) (by omega) (by omega)
    refine ⟨v, ⟨n1 + n2 + 1, fun k hk => ?_⟩, by omega, v2⟩
    obtain ⟨k, rfl⟩ : ∃ q, k = q + 1 := ⟨k - 1, by omega⟩
    simp only [laws_markStringS.l0]
    rw [if_pos (by omega), ht k (by omega), Option.bind_some, if_pos (nat0 j), hwa, hw, Int.toNat_natCast]
    exact hv k (by omega)
theorem markCode_ev (a0 a1 : Int) (L2 L3 : List ByteArray) (h2 : L2.length ≤ 1048576) (h3 : L3.length ≤ 1048576) : ∃ v : Int × List ByteArray × List ByteArray, Ev (fun k => laws_markBlockCode.f k a0 a1 L2 L3 1) v ∧ ¬ v.1 < 0 := by
  obtain ⟨v, hv, v1, v2⟩ := markS_loop L2.length h2 L2.length 0 L2 1 (by omega) rfl (by omega) (by omega)
  obtain ⟨u, hu, u1, u2⟩ := markS_loop L3.length h3 L3.length 0 L3 v.1 (by omega) rfl (by omega) (by omega)
  refine ⟨(u.1, v.2, u.2), Ev.bind (f := fun k (bt256 : Int × List ByteArray) => (laws_markStringS.f k L3 bt256.1).bind fun bt258 => (some (bt258.1, bt256.2, bt258.2))) hv (Ev.bind (f := fun k (bt258 : Int × List ByteArray) => some (bt258.1, v.2, bt258.2)) hu (Ev.now _)), ?_⟩
  show ¬ u.1 < 0
  omega

theorem app_l (s u : ByteArray) : (s ++ u).data.toList = s.data.toList ++ u.data.toList := by simp [ByteArray.data_append]
def cutL (t : List UInt8) (n p : Nat) : List UInt8 := (t.drop p).take n
/-- z is a part of t, n long, that begins within its first half. -/
def Part (W n : Nat) (t z : List UInt8) : Prop := ∃ p, p < W ∧ p + n ≤ 2 * W ∧ z = cutL t n p
theorem parts_l3 (L2 L3 : List ByteArray) (y : List Int) (x st : Int) (l : List ByteArray) (j : Int) (s : ByteArray) (m : List ByteArray) (i : Int) (t : ByteArray) (W n : Nat) (hs : s.size = W) (ht : t.size = 2 * W) (hW : W ≤ 12) (hn : n ≤ 13) (d : Nat) : ∀ (q : Nat) (seen : List (List UInt8)), q + d = W → seen.length + d < 1000000 →
    ∃ seen', (∀ z, z ∈ seen' ↔ z ∈ seen ∨ ∃ p, q ≤ p ∧ p < W ∧ p + n ≤ 2 * W ∧ z = cutL t.data.toList n p) ∧ seen'.length ≤ seen.length + d ∧ ∀ R, Ev (fun k => impl_BlockCode_parts.l2 k L2 L3 (n : Int) y x st l j s m (wrap64 (i + 1)) seen') R → Ev (fun k => impl_BlockCode_parts.l3 k L2 L3 (n : Int) y x st l j s m i t (q : Int) seen) R := by
  induction d with
  | zero =>
    intro q seen h h1
    refine ⟨seen, fun z => ⟨.inl, fun hh => hh.elim id fun ⟨p, p1, p2, _⟩ => by omega⟩, by omega, fun R hR => ?_⟩
    refine Ev.step (fun k => ?_) hR
    simp only [impl_BlockCode_parts.l3]
    by_cases c : wrap64 ((q : Int) + (n : Int)) ≤ (t.size : Int)
    · rw [if_pos c, if_neg (by omega)]
    · rw [if_neg c]
  | succ d ih =>
    intro q seen h h1
    have hw : wrap64 ((q : Int) + (n : Int)) = ((q + n : Nat) : Int) := by rw [wrap64_in (by omega) (by omega)]; omega
    have hq : wrap64 ((q : Int) + 1) = ((q + 1 : Nat) : Int) := by rw [wrap64_in (by omega) (by omega)]; omega
    by_cases c : q + n ≤ 2 * W
    · have ez : (t.extract q (q + n)).data.toList = cutL t.data.toList n q := by
        rw [ByteArray.data_extract, Array.toList_extract, List.extract_eq_take_drop, show q + n - q = n by omega]
        rfl
      obtain ⟨seen', e1, e2, e3⟩ := ih (q + 1) (cutL t.data.toList n q :: seen) (by omega) (by simp; omega)
      refine ⟨seen', fun z => ?_, by simp at e2; omega, fun R hR => ?_⟩
      · rw [e1, List.mem_cons]
        constructor
        · rintro ((rfl | hh) | ⟨p, p1, p2, p3, p4⟩)
          · exact .inr ⟨q, Nat.le_refl _, by omega, c, rfl⟩
          · exact .inl hh
          · exact .inr ⟨p, by omega, p2, p3, p4⟩
        · rintro (hh | ⟨p, p1, p2, p3, p4⟩)
          · exact .inl (.inr hh)
          · by_cases e : p = q
            · subst e; exact .inl (.inl p4)
            · exact .inr ⟨p, by omega, p2, p3, p4⟩
      · refine Ev.step (fun k => ?_) (e3 R hR)
        simp only [impl_BlockCode_parts.l3]
        rw [hw, hq, Int.toNat_natCast, Int.toNat_natCast, ez, if_pos (by omega), if_pos (by omega), if_pos (by omega), if_pos (by omega), if_pos (by rw [ByteArray.size_extract]; omega), if_pos (by omega)]
    · refine ⟨seen, fun z => ⟨.inl, fun hh => hh.elim id fun ⟨p, p1, p2, p3, _⟩ => by omega⟩, by omega, fun R hR => ?_⟩
      refine Ev.step (fun k => ?_) hR
      simp only [impl_BlockCode_parts.l3]
      rw [hw, if_neg (by omega)]
theorem parts_l2 (L2 L3 : List ByteArray) (y : List Int) (x st : Int) (l : List ByteArray) (j : Int) (s : ByteArray) (m : List ByteArray) (W n : Nat) (hs : s.size = W) (hm : ∀ v ∈ m, v.size = W) (hml : m.length ≤ 64) (hW : W ≤ 12) (hn : n ≤ 13) (d : Nat) : ∀ (i : Nat) (seen : List (List UInt8)), i + d = m.length → seen.length + 12 * d < 1000000 →
    ∃ seen', (∀ z, z ∈ seen' ↔ z ∈ seen ∨ ∃ v ∈ m.drop i, Part W n (s ++ v).data.toList z) ∧ seen'.length ≤ seen.length + 12 * d ∧ ∀ R, Ev (fun k => impl_BlockCode_parts.l1 k L2 L3 (n : Int) y x st l (wrap64 (j + 1)) seen') R → Ev (fun k => impl_BlockCode_parts.l2 k L2 L3 (n : Int) y x st l j s m (i : Int) seen) R := by
  induction d with
  | zero =>
    intro i seen h h1
    refine ⟨seen, fun z => ⟨.inl, fun hh => hh.elim id fun ⟨v, hv, _⟩ => ?_⟩, by omega, fun R hR => Ev.step (fun k => by simp only [impl_BlockCode_parts.l2]; rw [if_neg (by omega)]) hR⟩
    rw [List.drop_eq_nil_of_le (by omega)] at hv; cases hv
  | succ d ih =>
    intro i seen h h1
    have hi : i < m.length := by omega
    have hrd := rdS_get m i hi
    have hv := hm _ (List.getElem_mem hi)
    have hd := drop_cons m i hi
    generalize m[i] = v at hrd hv hd
    have hsz : (s ++ v).size = 2 * W := by rw [ByteArray.size_append]; omega
    obtain ⟨s1, f1, f2, f3⟩ := parts_l3 L2 L3 y x st l j s m (i : Int) (s ++ v) W n hs hsz hW hn W 0 seen (by omega) (by omega)
    have hw := wrap_succ hi (by omega)
    rw [hw] at f3
    obtain ⟨s2, e1, e2, e3⟩ := ih (i + 1) s1 (by omega) (by omega)
    refine ⟨s2, fun z => ?_, by omega, fun R hR => ?_⟩
    · rw [e1, f1, hd]
      constructor
      · rintro ((hh | ⟨p, p1, p2, p3, p4⟩) | ⟨v', hv', hh⟩)
        · exact .inl hh
        · exact .inr ⟨v, List.mem_cons_self, p, p2, p3, p4⟩
        · exact .inr ⟨v', List.mem_cons_of_mem _ hv', hh⟩
      · rintro (hh | ⟨v', hv', p, p2, p3, p4⟩)
        · exact .inl (.inl hh)
        · rcases List.mem_cons.1 hv' with rfl | hv'
          · exact .inl (.inr ⟨p, Nat.zero_le _, p2, p3, p4⟩)
          · exact .inr ⟨v', hv', p, p2, p3, p4⟩
    · refine Ev.step (fun k => ?_) (f3 R (e3 R hR))
      simp only [impl_BlockCode_parts.l2]
      rw [hrd, if_pos (by omega), if_pos (nat0 i), if_pos (by omega)]
      rfl
theorem parts_l1 (L2 L3 : List ByteArray) (y : List Int) (x st : Int) (l : List ByteArray) (W n : Nat) (hl : ∀ v ∈ l, v.size = W) (hll : l.length ≤ 64) (h2 : ∀ v ∈ L2, v.size = W) (hl2 : L2.length ≤ 64) (h3 : ∀ v ∈ L3, v.size = W) (hl3 : L3.length ≤ 64) (hW : W ≤ 12) (hn : n ≤ 13) (d : Nat) : ∀ (j : Nat) (seen : List (List UInt8)), j + d = l.length → seen.length + 768 * d < 1000000 →
    ∃ seen', (∀ z, z ∈ seen' ↔ z ∈ seen ∨ ∃ w ∈ l.drop j, ∃ v ∈ lst L2 L3 (nxt st w), Part W n (w ++ v).data.toList z) ∧ seen'.length ≤ seen.length + 768 * d ∧ ∀ R, Ev (fun k => impl_BlockCode_parts.l0 k L2 L3 (n : Int) y (wrap64 (x + 1)) seen') R → Ev (fun k => impl_BlockCode_parts.l1 k L2 L3 (n : Int) y x st l (j : Int) seen) R := by
  induction d with
  | zero =>
    intro j seen h h1
    refine ⟨seen, fun z => ⟨.inl, fun hh => hh.elim id fun ⟨v, hv, _⟩ => ?_⟩, by omega, fun R hR => Ev.step (fun k => by simp only [impl_BlockCode_parts.l1]; rw [if_neg (by omega)]) hR⟩
    rw [List.drop_eq_nil_of_le (by omega)] at hv; cases hv
  | succ d ih =>
    intro j seen h h1
    have hj : j < l.length := by omega
    have hrd := rdS_get l j hj
    have hv := hl _ (List.getElem_mem hj)
    have hd := drop_cons l j hj
    generalize l[j] = w at hrd hv hd
    have hm : ∀ v ∈ lst L2 L3 (nxt st w), v.size = W := fun v hh => (lst_mem hh).elim (h2 v) (h3 v)
    have hml : (lst L2 L3 (nxt st w)).length ≤ 64 := by unfold lst; split <;> omega
    obtain ⟨s1, f1, f2, f3⟩ := parts_l2 L2 L3 y x st l (j : Int) w (lst L2 L3 (nxt st w)) W n hv hm hml hW hn (lst L2 L3 (nxt st w)).length 0 seen (by omega) (by omega)
    have hw := wrap_succ hj (by omega)
    rw [hw] at f3
    rw [List.drop_zero] at f1
    obtain ⟨s2, e1, e2, e3⟩ := ih (j + 1) s1 (by omega) (by omega)
    refine ⟨s2, fun z => ?_, by omega, fun R hR => ?_⟩
    · rw [e1, f1, hd]
      constructor
      · rintro ((hh | ⟨v, hv', hh⟩) | ⟨w', hw', hh⟩)
        · exact .inl hh
        · exact .inr ⟨w, List.mem_cons_self, v, hv', hh⟩
        · exact .inr ⟨w', List.mem_cons_of_mem _ hw', hh⟩
      · rintro (hh | ⟨w', hw', hh⟩)
        · exact .inl (.inl hh)
        · rcases List.mem_cons.1 hw' with rfl | hw'
          · exact .inl (.inr hh)
          · exact .inr ⟨w', hw', hh⟩
    · refine Ev.step (fun k => ?_) (f3 R (e3 R hR))
      simp only [impl_BlockCode_parts.l1]
      rw [hrd, if_pos (by omega), if_pos (nat0 j), implBehindS_f, Option.bind_some]
      rfl
/-- A text is a part of two words that follow one another. -/
def Arises (L2 L3 : List ByteArray) (W n : Nat) (z : List UInt8) : Prop := (∃ w ∈ L2, ∃ v ∈ lst L2 L3 (nxt (-1) w), Part W n (w ++ v).data.toList z) ∨ (∃ w ∈ L3, ∃ v ∈ lst L2 L3 (nxt 1 w), Part W n (w ++ v).data.toList z)
theorem VC.sizes {a0 a1 : Int} {L2 L3 : List ByteArray} (hv : VC a0 a1 L2 L3) : ∃ W : Nat, a1 = (W : Int) ∧ 2 ≤ W ∧ W ≤ 12 ∧ (∀ v ∈ L2, v.size = W) ∧ (∀ v ∈ L3, v.size = W) := by
  have hd := hv.width
  refine ⟨a1.toNat, by omega, by omega, by omega, fun v h => ?_, fun v h => ?_⟩
  · have := (hv.mem (.inl h)).2.1; omega
  · have := (hv.mem (.inr h)).2.1; omega
theorem parts_ev (a0 a1 : Int) (L2 L3 : List ByteArray) (hv : VC a0 a1 L2 L3) (W n : Nat) (hW : W ≤ 12) (h2 : ∀ v ∈ L2, v.size = W) (h3 : ∀ v ∈ L3, v.size = W) (hn : n ≤ 13) :
    ∃ z, (∀ u, u ∈ z ↔ Arises L2 L3 W n u) ∧ Ev (fun k => impl_BlockCode_parts.f k a0 a1 L2 L3 (n : Int)) z := by
  obtain ⟨hl2, hl3⟩ := hv.le64
  obtain ⟨s1, e1, e2, e3⟩ := parts_l1 L2 L3 [-1, 1] 0 (-1) L2 W n h2 hl2 h2 hl2 h3 hl3 hW hn L2.length 0 [] (by omega) (by simp; omega)
  obtain ⟨s2, f1, f2, f3⟩ := parts_l1 L2 L3 [-1, 1] 1 1 L3 W n h3 hl3 h2 hl2 h3 hl3 hW hn L3.length 0 s1 (by omega) (by simp at e2; omega)
  rw [List.drop_zero] at e1 f1
  rw [w01] at e3
  rw [w11] at f3
  refine ⟨s2, fun u => ?_, ?_⟩
  · rw [f1, e1]
    unfold Arises
    simp
  · unfold impl_BlockCode_parts.f
    have r0 : rd [-1, 1] 0 = -1 := rfl
    have r1 : rd [-1, 1] 1 = 1 := rfl
    refine Ev.step (fun k => ?_) (e3 s2 (Ev.step (fun k => ?_) (f3 s2 (ev_one (fun k => ?_)))))
    · simp only [impl_BlockCode_parts.l0]
      rw [if_pos (by decide), if_pos (by decide), r0]
      rfl
    · simp only [impl_BlockCode_parts.l0]
      rw [if_pos (by decide), if_pos (by decide), r1]
      rfl
    · simp only [impl_BlockCode_parts.l0]
      rw [if_neg (by decide)]

def OC (pat t : ByteArray) : Prop := ∃ p, p < t.size ∧ Lib.occAt t.data.toList pat.data.toList p = true
def Occ2 (L2 L3 : List ByteArray) (pat : ByteArray) : Prop := (∃ w ∈ L2, ∃ v ∈ lst L2 L3 (nxt (-1) w), OC pat (w ++ v)) ∨ (∃ w ∈ L3, ∃ v ∈ lst L2 L3 (nxt 1 w), OC pat (w ++ v))
theorem VC.pos {a0 a1 : Int} {L2 L3 : List ByteArray} (hv : VC a0 a1 L2 L3) : 0 < L2.length ∧ 0 < L3.length := by
  have h1 : 0 < shl .i64 1 a0 := by
    have hd := hv.data
    have : a0 = 1 ∨ a0 = 2 ∨ a0 = 3 ∨ a0 = 4 ∨ a0 = 5 ∨ a0 = 6 := by omega
    rcases this with rfl | rfl | rfl | rfl | rfl | rfl <;> decide
  have h2 := hv.n2
  have h3 := hv.n3
  omega
theorem occ_cut (t p : List UInt8) (j : Nat) : Lib.occAt t p j = true ↔ p = cutL t p.length j := by
  unfold Lib.occAt cutL
  rw [← take_prefix, beq_iff_eq]
  exact eq_comm
theorem part_oc {W : Nat} {pat w v : ByteArray} (hw : w.size = W) (hv : v.size = W) (h : Part W pat.size (w ++ v).data.toList pat.data.toList) : OC pat (w ++ v) := by
  obtain ⟨p, p1, p2, p3⟩ := h
  refine ⟨p, by rw [ByteArray.size_append]; omega, ?_⟩
  rw [occ_cut, ← size_l]
  exact p3
theorem occ_arises {a0 a1 : Int} {L2 L3 : List ByteArray} (hv : VC a0 a1 L2 L3) (W : Nat) (h2 : ∀ v ∈ L2, v.size = W) (h3 : ∀ v ∈ L3, v.size = W) (hW : 0 < W) (pat : ByteArray) (h0 : 0 < pat.size) :
    Arises L2 L3 W pat.size pat.data.toList ↔ Occ2 L2 L3 pat := by
  have hsz : ∀ st w, w ∈ lst L2 L3 st → w.size = W := fun st w h => (lst_mem h).elim (h2 w) (h3 w)
  have one : ∀ st w v, (st = 1 ∨ st = -1) → w ∈ lst L2 L3 st → v ∈ lst L2 L3 (nxt st w) → OC pat (w ++ v) → ∃ st' w' v', (st' = 1 ∨ st' = -1) ∧ w' ∈ lst L2 L3 st' ∧ v' ∈ lst L2 L3 (nxt st' w') ∧ Part W pat.size (w' ++ v').data.toList pat.data.toList := by
    rintro st w v hst hw hv' ⟨p, p1, p2⟩
    have zw := hsz _ _ hw
    have zv := hsz _ _ hv'
    have hp : p + pat.size ≤ 2 * W := by
      by_cases c : p + pat.size ≤ 2 * W
      · exact c
      · exfalso
        rw [occAt_short _ _ _ (by rw [← size_l, ← size_l, ByteArray.size_append]; omega) (by rw [← size_l]; exact h0)] at p2
        cases p2
    rw [occ_cut, ← size_l] at p2
    by_cases c : p < W
    · exact ⟨st, w, v, hst, hw, hv', p, c, hp, p2⟩
    · obtain ⟨q1, q2⟩ := hv.pos
      have hne : 0 < (lst L2 L3 (nxt (nxt st w) v)).length := by unfold lst; split <;> omega
      have hv2 := List.getElem_mem hne
      generalize (lst L2 L3 (nxt (nxt st w) v))[0] = v2 at hv2
      refine ⟨nxt st w, v, v2, nxt_pm hst w, hv', hv2, p - W, by rw [ByteArray.size_append] at p1; omega, by omega, ?_⟩
      rw [p2]
      unfold cutL
      rw [app_l, app_l, List.drop_append, List.drop_append, List.drop_eq_nil_of_le (by rw [← size_l]; omega), List.nil_append, ← size_l, zw, List.take_append_of_le_length (by rw [List.length_drop, ← size_l]; omega)]
  have em : lst L2 L3 (-1) = L2 := rfl
  have ep : lst L2 L3 1 = L3 := rfl
  unfold Arises Occ2
  constructor
  · rintro (⟨w, hw, v, hv', h⟩ | ⟨w, hw, v, hv', h⟩)
    · exact .inl ⟨w, hw, v, hv', part_oc (h2 w hw) (hsz _ _ hv') h⟩
    · exact .inr ⟨w, hw, v, hv', part_oc (h3 w hw) (hsz _ _ hv') h⟩
  · rintro (⟨w, hw, v, hv', h⟩ | ⟨w, hw, v, hv', h⟩)
    · obtain ⟨st', w', v', h1, h2', h3', h4⟩ := one (-1) w v (.inr rfl) hw hv' h
      rcases h1 with rfl | rfl
      · exact .inr ⟨w', h2', v', h3', h4⟩
      · exact .inl ⟨w', h2', v', h3', h4⟩
    · obtain ⟨st', w', v', h1, h2', h3', h4⟩ := one 1 w v (.inl rfl) hw hv' h
      rcases h1 with rfl | rfl
      · exact .inr ⟨w', h2', v', h3', h4⟩
      · exact .inl ⟨w', h2', v', h3', h4⟩
theorem l00Min_f (a b : Int) : spec_l00Min.f a b = some (mn a b) := by
  unfold spec_l00Min.f mn
  by_cases c : a < b
  · rw [if_pos c, if_neg (by omega)]
  · rw [if_neg c]
    by_cases c2 : b < a
    · rw [if_pos c2]
    · rw [if_neg c2, show a = b by omega]
/-- A list of 48 and 49 is a text of bits. -/
def bitsL (l : List Int) : Prop := ∀ x ∈ l, x = 48 ∨ x = 49
theorem areB_strOf (l : List Int) (h : bitsL l) : areB (strOfNums l).data.toList = true := by
  rw [strOfNums_data]
  unfold areB
  rw [List.all_eq_true]
  intro b hb
  obtain ⟨x, hx, rfl⟩ := List.mem_map.1 hb
  rcases h x hx with rfl | rfl <;> decide
theorem size_strOf (l : List Int) : (strOfNums l).size = l.length := by rw [size_l, strOfNums_data, List.length_map]
/-- The lowest d binary digits of n as letters, the greatest one first. -/
def digs (n : Int) : Nat → List Int
  | 0 => []
  | d + 1 => (48 + (n / 2 ^ d) % 2) :: digs n d
theorem digs_length (n : Int) (d : Nat) : (digs n d).length = d := by
  induction d with
  | zero => rfl
  | succ d ih => simp [digs, ih]
theorem shr_nat (n : Int) (d : Nat) (h : d ≤ 64) : shr .i64 n (d : Int) = n / 2 ^ d := by
  unfold shr; rw [Int.toNat_natCast]; congr 2; exact Nat.min_eq_left h

theorem spec_digits_ev (n : Int) (d : Nat) : ∀ l : List Int, d ≤ 64 → l.length + d ≤ 1000 → Ev (fun k => spec_l01Digits.l0 k n l ((d : Int) - 1)) (strOfNums (l ++ digs n d)) := by
  induction d with
  | zero =>
    intro l _ _
    exact ev_one (fun k => by rw [spec_l01Digits.l0, if_neg (by omega)]; simp [digs])
  | succ d ih =>
    intro l hd hl
    have e : ((d + 1 : Nat) : Int) - 1 = (d : Int) := by omega
    have hs := shr_nat n d (by omega)
    have hu : IntKind.u64.wrap (d : Int) = d := u64_in (by omega) (by omega)
    have hw : wrap64 ((d : Int) - 1) = (d : Int) - 1 := wrap64_in (by omega) (by omega)
    have h := ih (l ++ [48 + (n / 2 ^ d) % 2]) (by omega) (by simp; omega)
    have e2 : l ++ digs n (d + 1) = l ++ [48 + (n / 2 ^ d) % 2] ++ digs n d := by simp [digs]
    rw [e2]
    refine Ev.step (fun k => ?_) h
    rw [e, spec_l01Digits.l0, hu, if_pos (by omega), if_pos (by omega), if_pos (by omega), hs, and_one, hw, wrap64_in (by omega) (by omega)]
    congr 3
    omega
theorem spec_digits_f (n : Int) (w : Int) (h0 : 0 ≤ w) (h1 : w ≤ 64) : Ev (fun k => spec_l01Digits.f k n w) (strOfNums (digs n w.toNat)) := by
  obtain ⟨d, rfl⟩ := Int.eq_ofNat_of_zero_le h0
  have h := spec_digits_ev n d [] (by omega) (by simp; omega)
  refine Ev.congr (fun k => ?_) h
  unfold spec_l01Digits.f
  rw [wrap64_in (by omega) (by omega)]

theorem impl_digits_ev (n : Int) (d : Nat) : ∀ l : List Int, d ≤ 64 → l.length + d ≤ 1000 → Ev (fun k => impl_digits.l0 k n l ((d : Int) - 1)) (strOfNums (l ++ digs n d)) := by
  induction d with
  | zero =>
    intro l _ _
    exact ev_one (fun k => by rw [impl_digits.l0, if_neg (by omega)]; simp [digs])
  | succ d ih =>
    intro l hd hl
    have e : ((d + 1 : Nat) : Int) - 1 = (d : Int) := by omega
    have hs := shr_nat n d (by omega)
    have hw : wrap64 ((d : Int) - 1) = (d : Int) - 1 := wrap64_in (by omega) (by omega)
    have h := ih (l ++ [48 + (n / 2 ^ d) % 2]) (by omega) (by simp; omega)
    have e2 : l ++ digs n (d + 1) = l ++ [48 + (n / 2 ^ d) % 2] ++ digs n d := by simp [digs]
    rw [e2]
    refine Ev.step (fun k => ?_) h
    rw [e, impl_digits.l0, if_pos (by omega), if_pos (by omega), if_pos (by omega), hs, and_one, hw]
    congr 3
    omega
theorem impl_digits_f (n : Int) (w : Int) (h0 : 0 ≤ w) (h1 : w ≤ 64) : Ev (fun k => impl_digits.f k n w) (strOfNums (digs n w.toNat)) := by
  obtain ⟨d, rfl⟩ := Int.eq_ofNat_of_zero_le h0
  have h := impl_digits_ev n d [] (by omega) (by simp; omega)
  refine Ev.congr (fun k => ?_) h
  unfold impl_digits.f
  rw [wrap64_in (by omega) (by omega)]

theorem bt_strOf (r : List Int) (hr : bitsL r) (j : Nat) (h : j < r.length) : bt (strOfNums r) (j : Int) = rd r (j : Int) := by
  have h2 : j < (strOfNums r).data.toList.length := by rw [strOfNums_data, List.length_map]; exact h
  rw [bt_l _ j h2, rd_get _ _ h]
  have e : (strOfNums r).data.toList[j] = UInt8.ofNat r[j].toNat := by simp [strOfNums_data]
  rw [e]
  rcases hr _ (List.getElem_mem h) with q | q <;> rw [q] <;> decide
theorem rd_bit (r : List Int) (hr : bitsL r) (j : Nat) (h : j < r.length) : rd r (j : Int) = 48 ∨ rd r (j : Int) = 49 := by
  rw [rd_get _ _ h]; exact hr _ (List.getElem_mem h)
/-- The number of the first j bits. -/
def nJ (r : List Int) : Nat → Nat
  | 0 => 0
  | j + 1 => 2 * nJ r j + (rd r (j : Int) - 48).toNat
theorem nJ_lt (r : List Int) (hr : bitsL r) : ∀ j, j ≤ r.length → nJ r j < 2 ^ j := by
  intro j
  induction j with
  | zero => intro _; show (0 : Nat) < 2 ^ 0; decide
  | succ j ih =>
    intro h
    have h1 := ih (by omega)
    have h2 : (rd r (j : Int) - 48).toNat ≤ 1 := by rcases rd_bit r hr j (by omega) with q | q <;> rw [q] <;> decide
    rw [nJ, Nat.pow_succ]
    omega
/-- A number's digits are the bits that it was made of. -/
theorem nJ_div (r : List Int) (j i : Nat) (hr : bitsL r) (h : j + i ≤ r.length) : nJ r (j + i) / 2 ^ i = nJ r j := by
  induction i with
  | zero => simp
  | succ i ih =>
    have h2 : (rd r ((j + i : Nat) : Int) - 48).toNat ≤ 1 := by rcases rd_bit r hr (j + i) (by omega) with q | q <;> rw [q] <;> decide
    rw [show j + (i + 1) = (j + i) + 1 by omega, nJ, Nat.pow_succ, Nat.mul_comm (2 ^ i) 2, ← Nat.div_div_eq_div_mul]
    rw [show (2 * nJ r (j + i) + (rd r ((j + i : Nat) : Int) - 48).toNat) / 2 = nJ r (j + i) by omega]
    exact ih (by omega)
theorem digs_nJ (r : List Int) (hr : bitsL r) (d : Nat) (h : d ≤ r.length) : digs ((nJ r r.length : Nat) : Int) d = r.drop (r.length - d) := by
  induction d with
  | zero => rw [Nat.sub_zero, List.drop_length]; rfl
  | succ d ih =>
    have h3 : r.length - (d + 1) < r.length := by omega
    rw [digs, ih (by omega), drop_cons r _ h3, show r.length - (d + 1) + 1 = r.length - d by omega]
    congr 1
    have e := nJ_div r (r.length - d) d hr (by omega)
    rw [show r.length - d + d = r.length by omega] at e
    have e2 : ((nJ r r.length : Nat) : Int) / 2 ^ d = ((nJ r (r.length - d) : Nat) : Int) := by
      rw [← e]; push_cast; rfl
    rw [e2, show r.length - d = (r.length - (d + 1)) + 1 by omega, nJ, ← rd_get _ _ h3]
    rcases rd_bit r hr _ h3 with q | q <;> rw [q] <;> omega
theorem digs_bits (n : Int) (d : Nat) : bitsL (digs n d) := by
  induction d with
  | zero => intro x hx; cases hx
  | succ d ih =>
    intro x hx
    rw [digs, List.mem_cons] at hx
    rcases hx with rfl | hx
    · omega
    · exact ih x hx
theorem digs_inj (x y : Nat) (d : Nat) : digs (x : Int) d = digs (y : Int) d → x % 2 ^ d = y % 2 ^ d := by
  induction d with
  | zero => intro _; simp [Nat.mod_one]
  | succ d ih =>
    intro h
    rw [digs, digs, List.cons.injEq] at h
    have h2 := ih h.2
    have h1 := h.1
    have e : ∀ z : Nat, ((z : Int) / 2 ^ d) % 2 = ((z / 2 ^ d % 2 : Nat) : Int) := fun z => by push_cast; rfl
    rw [e, e] at h1
    rw [Nat.mod_pow_succ, Nat.mod_pow_succ, h2, show x / 2 ^ d % 2 = y / 2 ^ d % 2 by omega]
def numsOf (l : List UInt8) : List Int := l.map fun u => ((u.toNat : Nat) : Int)
theorem numsOf_bits (l : List UInt8) (h : areB l = true) : bitsL (numsOf l) := by
  intro x hx
  obtain ⟨u, hu, rfl⟩ := List.mem_map.1 hx
  unfold areB at h
  have := List.all_eq_true.1 h u hu
  unfold isBit at this
  simp at this
  omega
theorem numsOf_str (l : List UInt8) : (strOfNums (numsOf l)).data.toList = l := by
  rw [strOfNums_data, numsOf, List.map_map]
  conv => rhs; rw [← List.map_id l]
  apply List.map_congr_left
  intro u _
  show UInt8.ofNat ((u.toNat : Nat) : Int).toNat = u
  rw [Int.toNat_natCast]
  exact UInt8.ofNat_toNat
theorem str_numsOf (r : List Int) (h : bitsL r) : numsOf (strOfNums r).data.toList = r := by
  rw [strOfNums_data, numsOf, List.map_map]
  conv => rhs; rw [← List.map_id r]
  apply List.map_congr_left
  intro x hx
  show (((UInt8.ofNat x.toNat).toNat : Nat) : Int) = x
  rcases h x hx with rfl | rfl <;> decide
theorem spec_number_loop (r : List Int) (hr : bitsL r) (hl : r.length ≤ 60) (d : Nat) : ∀ j : Nat, j + d = r.length →
    Ev (fun k => spec_l01Number.l0 k (strOfNums r) ((nJ r j : Nat) : Int) (j : Int)) ((nJ r r.length : Nat) : Int) := by
  have hs := size_strOf r
  induction d with
  | zero => intro j h; exact ev_one (fun k => by rw [spec_l01Number.l0, if_neg (by omega)]; rw [show j = r.length by omega])
  | succ d ih =>
    intro j h
    have hw := wrap_succ (j := j) (n := r.length) (by omega) (by omega)
    have hb := bt_strOf r hr j (by omega)
    have h1 := nJ_lt r hr j (by omega)
    have h2 : 2 ^ j ≤ 2 ^ 59 := Nat.pow_le_pow_right (by decide) (by omega)
    have h3 : (2 : Nat) ^ 59 = 576460752303423488 := by decide
    have e : wrap64 (wrap64 (2 * ((nJ r j : Nat) : Int)) + ((bt (strOfNums r) (j : Int)) - 48) % 256) = ((nJ r (j + 1) : Nat) : Int) := by
      rw [hb, nJ]
      rcases rd_bit r hr j (by omega) with q | q <;> rw [q]
      · rw [wrap64_in (x := 2 * _) (by omega) (by omega), wrap64_in (by omega) (by omega)]; omega
      · rw [wrap64_in (x := 2 * _) (by omega) (by omega), wrap64_in (by omega) (by omega)]; omega
    exact Ev.step (fun k => by rw [spec_l01Number.l0, if_pos (by omega), if_pos (by omega), e, hw]) (ih (j + 1) (by omega))
/-- The text of a number's digits. -/
def patL (n x : Nat) : List UInt8 := (strOfNums (digs (x : Int) n)).data.toList
theorem patL_length (n x : Nat) : (patL n x).length = n := by
  unfold patL; rw [← size_l, size_strOf, digs_length]
/-- A text of bits has a number, and no other one has its digits. -/
theorem number_cut (s : ByteArray) (n : Nat) (hs : s.size = n) (hn : n ≤ 60) (hB : areB s.data.toList = true) : ∃ v : Nat, v < 2 ^ n ∧ Ev (fun k => spec_l01Number.f k s) (v : Int) ∧ ∀ x, x < 2 ^ n → (patL n x = s.data.toList ↔ x = v) := by
  have hr := numsOf_bits _ hB
  have hl : (numsOf s.data.toList).length = n := by rw [numsOf, List.length_map, ← size_l, hs]
  have hstr : strOfNums (numsOf s.data.toList) = s := by
    apply ByteArray.ext
    apply Array.ext'
    exact numsOf_str _
  generalize numsOf s.data.toList = r at hr hl hstr
  subst hstr
  have hlt := nJ_lt r hr r.length (Nat.le_refl _)
  have hd := digs_nJ r hr r.length (Nat.le_refl _)
  rw [Nat.sub_self, List.drop_zero] at hd
  rw [hl] at hlt hd
  refine ⟨nJ r n, hlt, ?_, fun x hx => ⟨fun h => ?_, fun h => ?_⟩⟩
  · have := spec_number_loop r hr (by omega) r.length 0 (by omega)
    rw [hl] at this
    exact this
  · have e : digs (x : Int) n = digs ((nJ r n : Nat) : Int) n := by
      rw [hd, ← str_numsOf r hr, ← h]
      exact (str_numsOf _ (digs_bits _ _)).symm
    have := digs_inj x (nJ r n) n e
    rw [Nat.mod_eq_of_lt hx, Nat.mod_eq_of_lt hlt] at this
    exact this
  · rw [h, patL, hd]

theorem markText_any (x : Int) : ∃ v, x ≤ 4611686018427387904 → Ev (fun k => laws_markText.f k x) v := by
  by_cases h : x ≤ 4611686018427387904
  · obtain ⟨v, hv⟩ := markText_ev x h
    exact ⟨v, fun _ => hv⟩
  · exact ⟨ByteArray.empty, fun h' => absurd h' h⟩
noncomputable def mkT (x : Int) : ByteArray := Classical.choose (markText_any x)
theorem mkT_ev (x : Int) (h : x ≤ 4611686018427387904) : Ev (fun k => laws_markText.f k x) (mkT x) := Classical.choose_spec (markText_any x) h
noncomputable def seqS (a : Int) (n : Nat) : List ByteArray := (List.range n).map fun (i : Nat) => mkT (a + (i : Int))
theorem seqS_length (a : Int) (n : Nat) : (seqS a n).length = n := by simp [seqS]
theorem seqS_succ (a : Int) (n : Nat) : seqS a (n + 1) = seqS a n ++ [mkT (a + (n : Int))] := by simp [seqS, List.range_succ]
theorem markSeq_loop (a : Int) (n : Nat) (h0 : 0 ≤ a) (hn : n ≤ 1048576) (ha : a ≤ 2000000) (d : Nat) : ∀ (j : Nat) (l : List ByteArray), j + d = n → l.length = n → l.take j = seqS a j →
    Ev (fun k => laws_markStringS.l0 k l (a + (j : Int)) (j : Int)) (a + (n : Int), seqS a n) := by
  induction d with
  | zero =>
    intro j l h hl ht
    obtain rfl : j = n := by omega
    have e : l = seqS a j := by rw [← ht, List.take_of_length_le (by omega)]
    exact ev_one (fun k => by rw [laws_markStringS.l0, if_neg (by omega), e])
  | succ d ih =>
    intro j l h hl ht
    have hw := wrap_succ (j := j) (n := n) (by omega) (by omega)
    have hwa : wrap64 (a + (j : Int) + 1) = a + ((j + 1 : Nat) : Int) := by rw [wrap64_in (by omega) (by omega)]; omega
    obtain ⟨n1, ht0⟩ := mkT_ev (a + (j : Int)) (by omega)
    have ht1 : ∀ k, n1 ≤ k → laws_markText.f k (a + (j : Int)) = some (mkT (a + (j : Int))) := ht0
    obtain ⟨n2, hv⟩ := ih (j + 1) (l.set j (mkT (a + (j : Int)))) (by omega) (by rw [List.length_set]; exact hl) (by rw [set_take _ _ _ (by omega), ht, seqS_succ])
    refine ⟨n1 + n2 + 1, fun k hk => ?_⟩
    obtain ⟨k, rfl⟩ : ∃ q, k = q + 1 := ⟨k - 1, by omega⟩
    simp only [laws_markStringS.l0]
    rw [if_pos (by omega), ht1 k (by omega), Option.bind_some, if_pos (nat0 j), hwa, hw, Int.toNat_natCast]
    exact hv k (by omega)
theorem markSeq_ev (a : Int) (l : List ByteArray) (h0 : 0 ≤ a) (hn : l.length ≤ 1048576) (ha : a ≤ 2000000) : Ev (fun k => laws_markStringS.f k l a) (a + (l.length : Int), seqS a l.length) := by
  have := markSeq_loop a l.length h0 hn ha l.length 0 l (by omega) rfl rfl
  have zero : ((0 : Nat) : Int) = 0 := rfl
  rw [zero, Int.add_zero] at this
  exact this
theorem heldSeq_loop (a : Int) (n : Nat) (h0 : 0 ≤ a) (hn : n ≤ 1048576) (ha : a ≤ 2000000) (d : Nat) : ∀ j : Nat, j + d = n → Ev (fun k => laws_heldStringS.l0 k (seqS a n) (a + (j : Int)) (j : Int)) (a + (n : Int)) := by
  have hl := seqS_length a n
  induction d with
  | zero =>
    intro j h
    obtain rfl : j = n := by omega
    exact ev_one (fun k => by rw [laws_heldStringS.l0, if_neg (by omega)])
  | succ d ih =>
    intro j h
    have hw := wrap_succ (j := j) (n := n) (by omega) (by omega)
    have hwa : wrap64 (a + (j : Int) + 1) = a + ((j + 1 : Nat) : Int) := by rw [wrap64_in (by omega) (by omega)]; omega
    have hrd : rdOf ByteArray.empty (seqS a n) (j : Int) = mkT (a + (j : Int)) := by
      rw [rdS_get _ _ (by omega)]
      simp [seqS]
    obtain ⟨n1, ht0⟩ := mkT_ev (a + (j : Int)) (by omega)
    have ht1 : ∀ k, n1 ≤ k → laws_markText.f k (a + (j : Int)) = some (mkT (a + (j : Int))) := ht0
    obtain ⟨n2, hv⟩ := ih (j + 1) (by omega)
    refine ⟨n1 + n2 + 1, fun k hk => ?_⟩
    obtain ⟨k, rfl⟩ : ∃ q, k = q + 1 := ⟨k - 1, by omega⟩
    simp only [laws_heldStringS.l0]
    rw [if_pos (by omega), if_pos (nat0 j), ht1 k (by omega), Option.bind_some, hrd, if_pos rfl, hwa, hw]
    exact hv k (by omega)
theorem heldSeq_ev (a : Int) (n : Nat) (h0 : 0 ≤ a) (hn : n ≤ 1048576) (ha : a ≤ 2000000) : Ev (fun k => laws_heldStringS.f k (seqS a n) a) (a + (n : Int)) := by
  have := heldSeq_loop a n h0 hn ha n 0 (by omega)
  have zero : ((0 : Nat) : Int) = 0 := rfl
  rw [zero, Int.add_zero] at this
  exact this

theorem app_areB (s u : ByteArray) (h1 : areB s.data.toList = true) (h2 : areB u.data.toList = true) : areB (s ++ u).data.toList = true := by
  rw [show (s ++ u).data.toList = s.data.toList ++ u.data.toList by simp [ByteArray.data_append]]
  unfold areB at h1 h2 ⊢
  rw [List.all_append, h1, h2]
  rfl
def Cut2 (W n : Nat) (t z : List UInt8) : Prop := ∃ p, p + n ≤ 2 * W ∧ z = cutL t n p
/-- Marked are just the numbers whose digits fit. -/
def SeenIs (n : Nat) (seen : List Bool) (P : List UInt8 → Prop) : Prop := seen.length = 2 ^ n ∧ ∀ x, x < 2 ^ n → (seen.getD x false = true ↔ P (patL n x))
theorem SeenIs.set {n : Nat} {seen : List Bool} {P Q : List UInt8 → Prop} (h : SeenIs n seen P) (v : Nat) (hQ : ∀ x, x < 2 ^ n → (Q (patL n x) ↔ P (patL n x) ∨ x = v)) : SeenIs n (seen.set v true) Q := by
  refine ⟨by rw [List.length_set]; exact h.1, fun x hx => ?_⟩
  rw [hQ x hx, ← h.2 x hx, List.getD_eq_getElem?_getD, List.getD_eq_getElem?_getD, List.getElem?_set]
  by_cases c : v = x
  · subst c
    rw [if_pos rfl, if_pos (by rw [h.1]; exact hx)]
    simp
  · rw [if_neg c]
    constructor
    · exact fun h => .inl h
    · rintro (h | h)
      · exact h
      · exact absurd h.symm c
theorem cm_l3 (a0 : Int) (L2 L3 : List ByteArray) (st : Int) (l : List ByteArray) (j : Int) (m : List ByteArray) (i : Int) (t : ByteArray) (W n : Nat) (ht : t.size = 2 * W) (hB : areB t.data.toList = true) (hW : W ≤ 12) (hn : n ≤ 13) (d : Nat) : ∀ (q : Nat) (seen : List Bool) (P : List UInt8 → Prop), q + n + d = 2 * W + 1 → SeenIs n seen P →
    ∃ seen', SeenIs n seen' (fun z => P z ∨ ∃ p, q ≤ p ∧ p + n ≤ 2 * W ∧ z = cutL t.data.toList n p) ∧ ∀ R, Ev (fun k => spec_CommasOf.l2 k (n : Int) seen' st l j m (wrap64 (i + 1)) a0 (W : Int) L2 L3) R → Ev (fun k => spec_CommasOf.l3 k (n : Int) seen st l j m i t (q : Int) a0 (W : Int) L2 L3) R := by
  have h2W : wrap64 (2 * (W : Int)) = ((2 * W : Nat) : Int) := by rw [wrap64_in (by omega) (by omega)]; omega
  induction d with
  | zero =>
    intro q seen P h hS
    have hw : wrap64 ((q : Int) + (n : Int)) = ((q + n : Nat) : Int) := by rw [wrap64_in (by omega) (by omega)]; omega
    exact ⟨seen, ⟨hS.1, fun x hx => (hS.2 x hx).trans ⟨.inl, fun hh => hh.elim id fun ⟨p, p1, p2, _⟩ => by omega⟩⟩, fun R hR => Ev.step (fun k => by simp only [spec_CommasOf.l3]; rw [hw, h2W, if_neg (by omega)]) hR⟩
  | succ d ih =>
    intro q seen P h hS
    have hw : wrap64 ((q : Int) + (n : Int)) = ((q + n : Nat) : Int) := by rw [wrap64_in (by omega) (by omega)]; omega
    have hq : wrap64 ((q : Int) + 1) = ((q + 1 : Nat) : Int) := by rw [wrap64_in (by omega) (by omega)]; omega
    have ez : (t.extract q (q + n)).data.toList = cutL t.data.toList n q := by
      rw [ByteArray.data_extract, Array.toList_extract, List.extract_eq_take_drop, show q + n - q = n by omega]
      rfl
    obtain ⟨v, v1, ⟨K, v2⟩, v3⟩ := number_cut (t.extract q (q + n)) n (by rw [ByteArray.size_extract]; omega) (by omega) (areB_extract _ _ _ hB)
    have v2' := fun k hk => (show spec_l01Number.f k (t.extract q (q + n)) = some (v : Int) from v2 k hk)
    rw [ez] at v3
    obtain ⟨seen', e1, e2⟩ := ih (q + 1) (seen.set v true) (fun z => P z ∨ z = cutL t.data.toList n q) (by omega) (hS.set v (fun x hx => by rw [v3 x hx]))
    refine ⟨seen', ⟨e1.1, fun x hx => (e1.2 x hx).trans ⟨?_, ?_⟩⟩, fun R hR => ?_⟩
    · rintro ((hh | hh) | ⟨p, p1, p2, p3⟩)
      · exact .inl hh
      · exact .inr ⟨q, Nat.le_refl _, by omega, hh⟩
      · exact .inr ⟨p, by omega, p2, p3⟩
    · rintro (hh | ⟨p, p1, p2, p3⟩)
      · exact .inl (.inl hh)
      · by_cases e : p = q
        · subst e; exact .inl (.inr p3)
        · exact .inr ⟨p, by omega, p2, p3⟩
    · obtain ⟨K2, f⟩ := e2 R hR
      refine ⟨K + K2 + 1, fun k hk => ?_⟩
      obtain ⟨k, rfl⟩ : ∃ q, k = q + 1 := ⟨k - 1, by omega⟩
      have hl := hS.1
      simp only [spec_CommasOf.l3]
      rw [hw, hq, h2W, Int.toNat_natCast, Int.toNat_natCast, if_pos (by omega), if_pos (by omega), if_pos (by omega), if_pos (by omega), v2' k (by omega), Option.bind_some, if_pos (by omega), if_pos (by omega), Int.toNat_natCast]
      exact f k (by omega)
theorem cm_l2 (a0 : Int) (L2 L3 : List ByteArray) (st : Int) (l : List ByteArray) (j : Nat) (hj : j < l.length) (m : List ByteArray) (W n : Nat) (hs : l[j].size = W) (hsB : areB l[j].data.toList = true) (hm : ∀ v ∈ m, v.size = W ∧ areB v.data.toList = true) (hml : m.length ≤ 64) (hW : W ≤ 12) (hn : n ≤ W + 1) (d : Nat) : ∀ (i : Nat) (seen : List Bool) (P : List UInt8 → Prop), i + d = m.length → SeenIs n seen P →
    ∃ seen', SeenIs n seen' (fun z => P z ∨ ∃ v ∈ m.drop i, Cut2 W n (l[j] ++ v).data.toList z) ∧ ∀ R, Ev (fun k => spec_CommasOf.l1 k (n : Int) seen' st l (wrap64 ((j : Int) + 1)) a0 (W : Int) L2 L3) R → Ev (fun k => spec_CommasOf.l2 k (n : Int) seen st l (j : Int) m (i : Int) a0 (W : Int) L2 L3) R := by
  induction d with
  | zero =>
    intro i seen P h hS
    refine ⟨seen, ⟨hS.1, fun x hx => (hS.2 x hx).trans ⟨.inl, fun hh => hh.elim id fun ⟨v, hv, _⟩ => ?_⟩⟩, fun R hR => Ev.step (fun k => by simp only [spec_CommasOf.l2]; rw [if_neg (by omega)]) hR⟩
    rw [List.drop_eq_nil_of_le (by omega)] at hv; cases hv
  | succ d ih =>
    intro i seen P h hS
    have hi : i < m.length := by omega
    have r1 := rdS_get l j hj
    have r2 := rdS_get m i hi
    obtain ⟨hv, hvB⟩ := hm _ (List.getElem_mem hi)
    have hd := drop_cons m i hi
    generalize m[i] = v at r2 hv hvB hd
    have hsz : (l[j] ++ v).size = 2 * W := by rw [ByteArray.size_append]; omega
    have hcat : l[j].size + v.size ≤ 9223372036854775807 := by
      clear hS ih h
      rw [hs, hv]
      exact Nat.le_trans (show W + W ≤ 24 by omega) (by decide)
    obtain ⟨s1, f1, f2⟩ := cm_l3 a0 L2 L3 st l (j : Int) m (i : Int) (l[j] ++ v) W n hsz (app_areB _ _ hsB hvB) hW (by omega) (2 * W + 1 - n) 0 seen P (by omega) hS
    have hw := wrap_succ hi (by omega)
    have zero : ((0 : Nat) : Int) = 0 := rfl
    rw [hw, zero] at f2
    have q1 : (i : Int) < (m.length : Int) := Int.ofNat_lt.2 hi
    have q2 : (0 : Int) ≤ (j : Int) := nat0 j
    have q3 : (j : Int) < (l.length : Int) := Int.ofNat_lt.2 hj
    have q4 : (0 : Int) ≤ (i : Int) := nat0 i
    obtain ⟨s2, e1, e2⟩ := ih (i + 1) s1 _ (by omega) f1
    refine ⟨s2, ⟨e1.1, fun x hx => (e1.2 x hx).trans ?_⟩, fun R hR => Ev.step (fun k => ?_) (f2 R (e2 R hR))⟩
    · rw [hd]
      constructor
      · rintro ((hh | ⟨p, p1, p2, p3⟩) | ⟨v', hv', hh⟩)
        · exact .inl hh
        · exact .inr ⟨v, List.mem_cons_self, p, p2, p3⟩
        · exact .inr ⟨v', List.mem_cons_of_mem _ hv', hh⟩
      · rintro (hh | ⟨v', hv', p, p2, p3⟩)
        · exact .inl (.inl hh)
        · rcases List.mem_cons.1 hv' with rfl | hv'
          · exact .inl (.inr ⟨p, Nat.zero_le _, p2, p3⟩)
          · exact .inr ⟨v', hv', p, p2, p3⟩
    · simp only [spec_CommasOf.l2]
      rw [r1, r2]
      exact (if_pos q1).trans ((if_pos q2).trans ((if_pos q3).trans ((if_pos q4).trans (if_pos hcat))))
theorem cm_l103 (a0 : Int) (L2 L3 : List ByteArray) (st : Int) (l : List ByteArray) (j : Int) (m : List ByteArray) (i : Int) (t : ByteArray) (W n : Nat) (ht : t.size = 2 * W) (hB : areB t.data.toList = true) (hW : W ≤ 12) (hn : n ≤ 13) (d : Nat) : ∀ (q : Nat) (seen : List Bool) (P : List UInt8 → Prop), q + n + d = 2 * W + 1 → SeenIs n seen P →
    ∃ seen', SeenIs n seen' (fun z => P z ∨ ∃ p, q ≤ p ∧ p + n ≤ 2 * W ∧ z = cutL t.data.toList n p) ∧ ∀ R, Ev (fun k => spec_CommasOf.l102 k (n : Int) seen' st l j m (wrap64 (i + 1)) a0 (W : Int) L2 L3) R → Ev (fun k => spec_CommasOf.l103 k (n : Int) seen st l j m i t (q : Int) a0 (W : Int) L2 L3) R := by
  have h2W : wrap64 (2 * (W : Int)) = ((2 * W : Nat) : Int) := by rw [wrap64_in (by omega) (by omega)]; omega
  induction d with
  | zero =>
    intro q seen P h hS
    have hw : wrap64 ((q : Int) + (n : Int)) = ((q + n : Nat) : Int) := by rw [wrap64_in (by omega) (by omega)]; omega
    exact ⟨seen, ⟨hS.1, fun x hx => (hS.2 x hx).trans ⟨.inl, fun hh => hh.elim id fun ⟨p, p1, p2, _⟩ => by omega⟩⟩, fun R hR => Ev.step (fun k => by simp only [spec_CommasOf.l103]; rw [hw, h2W, if_neg (by omega)]) hR⟩
  | succ d ih =>
    intro q seen P h hS
    have hw : wrap64 ((q : Int) + (n : Int)) = ((q + n : Nat) : Int) := by rw [wrap64_in (by omega) (by omega)]; omega
    have hq : wrap64 ((q : Int) + 1) = ((q + 1 : Nat) : Int) := by rw [wrap64_in (by omega) (by omega)]; omega
    have ez : (t.extract q (q + n)).data.toList = cutL t.data.toList n q := by
      rw [ByteArray.data_extract, Array.toList_extract, List.extract_eq_take_drop, show q + n - q = n by omega]
      rfl
    obtain ⟨v, v1, ⟨K, v2⟩, v3⟩ := number_cut (t.extract q (q + n)) n (by rw [ByteArray.size_extract]; omega) (by omega) (areB_extract _ _ _ hB)
    have v2' := fun k hk => (show spec_l01Number.f k (t.extract q (q + n)) = some (v : Int) from v2 k hk)
    rw [ez] at v3
    obtain ⟨seen', e1, e2⟩ := ih (q + 1) (seen.set v true) (fun z => P z ∨ z = cutL t.data.toList n q) (by omega) (hS.set v (fun x hx => by rw [v3 x hx]))
    refine ⟨seen', ⟨e1.1, fun x hx => (e1.2 x hx).trans ⟨?_, ?_⟩⟩, fun R hR => ?_⟩
    · rintro ((hh | hh) | ⟨p, p1, p2, p3⟩)
      · exact .inl hh
      · exact .inr ⟨q, Nat.le_refl _, by omega, hh⟩
      · exact .inr ⟨p, by omega, p2, p3⟩
    · rintro (hh | ⟨p, p1, p2, p3⟩)
      · exact .inl (.inl hh)
      · by_cases e : p = q
        · subst e; exact .inl (.inr p3)
        · exact .inr ⟨p, by omega, p2, p3⟩
    · obtain ⟨K2, f⟩ := e2 R hR
      refine ⟨K + K2 + 1, fun k hk => ?_⟩
      obtain ⟨k, rfl⟩ : ∃ q, k = q + 1 := ⟨k - 1, by omega⟩
      have hl := hS.1
      simp only [spec_CommasOf.l103]
      rw [hw, hq, h2W, Int.toNat_natCast, Int.toNat_natCast, if_pos (by omega), if_pos (by omega), if_pos (by omega), if_pos (by omega), v2' k (by omega), Option.bind_some, if_pos (by omega), if_pos (by omega), Int.toNat_natCast]
      exact f k (by omega)
theorem cm_l102 (a0 : Int) (L2 L3 : List ByteArray) (st : Int) (l : List ByteArray) (j : Nat) (hj : j < l.length) (m : List ByteArray) (W n : Nat) (hs : l[j].size = W) (hsB : areB l[j].data.toList = true) (hm : ∀ v ∈ m, v.size = W ∧ areB v.data.toList = true) (hml : m.length ≤ 64) (hW : W ≤ 12) (hn : n ≤ W + 1) (d : Nat) : ∀ (i : Nat) (seen : List Bool) (P : List UInt8 → Prop), i + d = m.length → SeenIs n seen P →
    ∃ seen', SeenIs n seen' (fun z => P z ∨ ∃ v ∈ m.drop i, Cut2 W n (l[j] ++ v).data.toList z) ∧ ∀ R, Ev (fun k => spec_CommasOf.l1 k (n : Int) seen' st l (wrap64 ((j : Int) + 1)) a0 (W : Int) L2 L3) R → Ev (fun k => spec_CommasOf.l102 k (n : Int) seen st l (j : Int) m (i : Int) a0 (W : Int) L2 L3) R := by
  induction d with
  | zero =>
    intro i seen P h hS
    refine ⟨seen, ⟨hS.1, fun x hx => (hS.2 x hx).trans ⟨.inl, fun hh => hh.elim id fun ⟨v, hv, _⟩ => ?_⟩⟩, fun R hR => Ev.step (fun k => by simp only [spec_CommasOf.l102]; rw [if_neg (by omega)]) hR⟩
    rw [List.drop_eq_nil_of_le (by omega)] at hv; cases hv
  | succ d ih =>
    intro i seen P h hS
    have hi : i < m.length := by omega
    have r1 := rdS_get l j hj
    have r2 := rdS_get m i hi
    obtain ⟨hv, hvB⟩ := hm _ (List.getElem_mem hi)
    have hd := drop_cons m i hi
    generalize m[i] = v at r2 hv hvB hd
    have hsz : (l[j] ++ v).size = 2 * W := by rw [ByteArray.size_append]; omega
    have hcat : l[j].size + v.size ≤ 9223372036854775807 := by
      clear hS ih h
      rw [hs, hv]
      exact Nat.le_trans (show W + W ≤ 24 by omega) (by decide)
    obtain ⟨s1, f1, f2⟩ := cm_l103 a0 L2 L3 st l (j : Int) m (i : Int) (l[j] ++ v) W n hsz (app_areB _ _ hsB hvB) hW (by omega) (2 * W + 1 - n) 0 seen P (by omega) hS
    have hw := wrap_succ hi (by omega)
    have zero : ((0 : Nat) : Int) = 0 := rfl
    rw [hw, zero] at f2
    have q1 : (i : Int) < (m.length : Int) := Int.ofNat_lt.2 hi
    have q2 : (0 : Int) ≤ (j : Int) := nat0 j
    have q3 : (j : Int) < (l.length : Int) := Int.ofNat_lt.2 hj
    have q4 : (0 : Int) ≤ (i : Int) := nat0 i
    obtain ⟨s2, e1, e2⟩ := ih (i + 1) s1 _ (by omega) f1
    refine ⟨s2, ⟨e1.1, fun x hx => (e1.2 x hx).trans ?_⟩, fun R hR => Ev.step (fun k => ?_) (f2 R (e2 R hR))⟩
    · rw [hd]
      constructor
      · rintro ((hh | ⟨p, p1, p2, p3⟩) | ⟨v', hv', hh⟩)
        · exact .inl hh
        · exact .inr ⟨v, List.mem_cons_self, p, p2, p3⟩
        · exact .inr ⟨v', List.mem_cons_of_mem _ hv', hh⟩
      · rintro (hh | ⟨v', hv', p, p2, p3⟩)
        · exact .inl (.inl hh)
        · rcases List.mem_cons.1 hv' with rfl | hv'
          · exact .inl (.inr ⟨p, Nat.zero_le _, p2, p3⟩)
          · exact .inr ⟨v', hv', p, p2, p3⟩
    · simp only [spec_CommasOf.l102]
      rw [r1, r2]
      exact (if_pos q1).trans ((if_pos q2).trans ((if_pos q3).trans ((if_pos q4).trans (if_pos hcat))))
theorem cm_l203 (a0 : Int) (L2 L3 : List ByteArray) (st : Int) (l : List ByteArray) (j : Int) (m : List ByteArray) (i : Int) (t : ByteArray) (W n : Nat) (ht : t.size = 2 * W) (hB : areB t.data.toList = true) (hW : W ≤ 12) (hn : n ≤ 13) (d : Nat) : ∀ (q : Nat) (seen : List Bool) (P : List UInt8 → Prop), q + n + d = 2 * W + 1 → SeenIs n seen P →
    ∃ seen', SeenIs n seen' (fun z => P z ∨ ∃ p, q ≤ p ∧ p + n ≤ 2 * W ∧ z = cutL t.data.toList n p) ∧ ∀ R, Ev (fun k => spec_CommasOf.l202 k (n : Int) seen' st l j m (wrap64 (i + 1)) a0 (W : Int) L2 L3) R → Ev (fun k => spec_CommasOf.l203 k (n : Int) seen st l j m i t (q : Int) a0 (W : Int) L2 L3) R := by
  have h2W : wrap64 (2 * (W : Int)) = ((2 * W : Nat) : Int) := by rw [wrap64_in (by omega) (by omega)]; omega
  induction d with
  | zero =>
    intro q seen P h hS
    have hw : wrap64 ((q : Int) + (n : Int)) = ((q + n : Nat) : Int) := by rw [wrap64_in (by omega) (by omega)]; omega
    exact ⟨seen, ⟨hS.1, fun x hx => (hS.2 x hx).trans ⟨.inl, fun hh => hh.elim id fun ⟨p, p1, p2, _⟩ => by omega⟩⟩, fun R hR => Ev.step (fun k => by simp only [spec_CommasOf.l203]; rw [hw, h2W, if_neg (by omega)]) hR⟩
  | succ d ih =>
    intro q seen P h hS
    have hw : wrap64 ((q : Int) + (n : Int)) = ((q + n : Nat) : Int) := by rw [wrap64_in (by omega) (by omega)]; omega
    have hq : wrap64 ((q : Int) + 1) = ((q + 1 : Nat) : Int) := by rw [wrap64_in (by omega) (by omega)]; omega
    have ez : (t.extract q (q + n)).data.toList = cutL t.data.toList n q := by
      rw [ByteArray.data_extract, Array.toList_extract, List.extract_eq_take_drop, show q + n - q = n by omega]
      rfl
    obtain ⟨v, v1, ⟨K, v2⟩, v3⟩ := number_cut (t.extract q (q + n)) n (by rw [ByteArray.size_extract]; omega) (by omega) (areB_extract _ _ _ hB)
    have v2' := fun k hk => (show spec_l01Number.f k (t.extract q (q + n)) = some (v : Int) from v2 k hk)
    rw [ez] at v3
    obtain ⟨seen', e1, e2⟩ := ih (q + 1) (seen.set v true) (fun z => P z ∨ z = cutL t.data.toList n q) (by omega) (hS.set v (fun x hx => by rw [v3 x hx]))
    refine ⟨seen', ⟨e1.1, fun x hx => (e1.2 x hx).trans ⟨?_, ?_⟩⟩, fun R hR => ?_⟩
    · rintro ((hh | hh) | ⟨p, p1, p2, p3⟩)
      · exact .inl hh
      · exact .inr ⟨q, Nat.le_refl _, by omega, hh⟩
      · exact .inr ⟨p, by omega, p2, p3⟩
    · rintro (hh | ⟨p, p1, p2, p3⟩)
      · exact .inl (.inl hh)
      · by_cases e : p = q
        · subst e; exact .inl (.inr p3)
        · exact .inr ⟨p, by omega, p2, p3⟩
    · obtain ⟨K2, f⟩ := e2 R hR
      refine ⟨K + K2 + 1, fun k hk => ?_⟩
      obtain ⟨k, rfl⟩ : ∃ q, k = q + 1 := ⟨k - 1, by omega⟩
      have hl := hS.1
      simp only [spec_CommasOf.l203]
      rw [hw, hq, h2W, Int.toNat_natCast, Int.toNat_natCast, if_pos (by omega), if_pos (by omega), if_pos (by omega), if_pos (by omega), v2' k (by omega), Option.bind_some, if_pos (by omega), if_pos (by omega), Int.toNat_natCast]
      exact f k (by omega)
theorem cm_l202 (a0 : Int) (L2 L3 : List ByteArray) (st : Int) (l : List ByteArray) (j : Nat) (hj : j < l.length) (m : List ByteArray) (W n : Nat) (hs : l[j].size = W) (hsB : areB l[j].data.toList = true) (hm : ∀ v ∈ m, v.size = W ∧ areB v.data.toList = true) (hml : m.length ≤ 64) (hW : W ≤ 12) (hn : n ≤ W + 1) (d : Nat) : ∀ (i : Nat) (seen : List Bool) (P : List UInt8 → Prop), i + d = m.length → SeenIs n seen P →
    ∃ seen', SeenIs n seen' (fun z => P z ∨ ∃ v ∈ m.drop i, Cut2 W n (l[j] ++ v).data.toList z) ∧ ∀ R, Ev (fun k => spec_CommasOf.l101 k (n : Int) seen' st l (wrap64 ((j : Int) + 1)) a0 (W : Int) L2 L3) R → Ev (fun k => spec_CommasOf.l202 k (n : Int) seen st l (j : Int) m (i : Int) a0 (W : Int) L2 L3) R := by
  induction d with
  | zero =>
    intro i seen P h hS
    refine ⟨seen, ⟨hS.1, fun x hx => (hS.2 x hx).trans ⟨.inl, fun hh => hh.elim id fun ⟨v, hv, _⟩ => ?_⟩⟩, fun R hR => Ev.step (fun k => by simp only [spec_CommasOf.l202]; rw [if_neg (by omega)]) hR⟩
    rw [List.drop_eq_nil_of_le (by omega)] at hv; cases hv
  | succ d ih =>
    intro i seen P h hS
    have hi : i < m.length := by omega
    have r1 := rdS_get l j hj
    have r2 := rdS_get m i hi
    obtain ⟨hv, hvB⟩ := hm _ (List.getElem_mem hi)
    have hd := drop_cons m i hi
    generalize m[i] = v at r2 hv hvB hd
    have hsz : (l[j] ++ v).size = 2 * W := by rw [ByteArray.size_append]; omega
    have hcat : l[j].size + v.size ≤ 9223372036854775807 := by
      clear hS ih h
      rw [hs, hv]
      exact Nat.le_trans (show W + W ≤ 24 by omega) (by decide)
    obtain ⟨s1, f1, f2⟩ := cm_l203 a0 L2 L3 st l (j : Int) m (i : Int) (l[j] ++ v) W n hsz (app_areB _ _ hsB hvB) hW (by omega) (2 * W + 1 - n) 0 seen P (by omega) hS
    have hw := wrap_succ hi (by omega)
    have zero : ((0 : Nat) : Int) = 0 := rfl
    rw [hw, zero] at f2
    have q1 : (i : Int) < (m.length : Int) := Int.ofNat_lt.2 hi
    have q2 : (0 : Int) ≤ (j : Int) := nat0 j
    have q3 : (j : Int) < (l.length : Int) := Int.ofNat_lt.2 hj
    have q4 : (0 : Int) ≤ (i : Int) := nat0 i
    obtain ⟨s2, e1, e2⟩ := ih (i + 1) s1 _ (by omega) f1
    refine ⟨s2, ⟨e1.1, fun x hx => (e1.2 x hx).trans ?_⟩, fun R hR => Ev.step (fun k => ?_) (f2 R (e2 R hR))⟩
    · rw [hd]
      constructor
      · rintro ((hh | ⟨p, p1, p2, p3⟩) | ⟨v', hv', hh⟩)
        · exact .inl hh
        · exact .inr ⟨v, List.mem_cons_self, p, p2, p3⟩
        · exact .inr ⟨v', List.mem_cons_of_mem _ hv', hh⟩
      · rintro (hh | ⟨v', hv', p, p2, p3⟩)
        · exact .inl (.inl hh)
        · rcases List.mem_cons.1 hv' with rfl | hv'
          · exact .inl (.inr ⟨p, Nat.zero_le _, p2, p3⟩)
          · exact .inr ⟨v', hv', p, p2, p3⟩
    · simp only [spec_CommasOf.l202]
      rw [r1, r2]
      exact (if_pos q1).trans ((if_pos q2).trans ((if_pos q3).trans ((if_pos q4).trans (if_pos hcat))))
theorem cm_l303 (a0 : Int) (L2 L3 : List ByteArray) (st : Int) (l : List ByteArray) (j : Int) (m : List ByteArray) (i : Int) (t : ByteArray) (W n : Nat) (ht : t.size = 2 * W) (hB : areB t.data.toList = true) (hW : W ≤ 12) (hn : n ≤ 13) (d : Nat) : ∀ (q : Nat) (seen : List Bool) (P : List UInt8 → Prop), q + n + d = 2 * W + 1 → SeenIs n seen P →
    ∃ seen', SeenIs n seen' (fun z => P z ∨ ∃ p, q ≤ p ∧ p + n ≤ 2 * W ∧ z = cutL t.data.toList n p) ∧ ∀ R, Ev (fun k => spec_CommasOf.l302 k (n : Int) seen' st l j m (wrap64 (i + 1)) a0 (W : Int) L2 L3) R → Ev (fun k => spec_CommasOf.l303 k (n : Int) seen st l j m i t (q : Int) a0 (W : Int) L2 L3) R := by
  have h2W : wrap64 (2 * (W : Int)) = ((2 * W : Nat) : Int) := by rw [wrap64_in (by omega) (by omega)]; omega
  induction d with
  | zero =>
    intro q seen P h hS
    have hw : wrap64 ((q : Int) + (n : Int)) = ((q + n : Nat) : Int) := by rw [wrap64_in (by omega) (by omega)]; omega
    exact ⟨seen, ⟨hS.1, fun x hx => (hS.2 x hx).trans ⟨.inl, fun hh => hh.elim id fun ⟨p, p1, p2, _⟩ => by omega⟩⟩, fun R hR => Ev.step (fun k => by simp only [spec_CommasOf.l303]; rw [hw, h2W, if_neg (by omega)]) hR⟩
  | succ d ih =>
    intro q seen P h hS
    have hw : wrap64 ((q : Int) + (n : Int)) = ((q + n : Nat) : Int) := by rw [wrap64_in (by omega) (by omega)]; omega
    have hq : wrap64 ((q : Int) + 1) = ((q + 1 : Nat) : Int) := by rw [wrap64_in (by omega) (by omega)]; omega
    have ez : (t.extract q (q + n)).data.toList = cutL t.data.toList n q := by
      rw [ByteArray.data_extract, Array.toList_extract, List.extract_eq_take_drop, show q + n - q = n by omega]
      rfl
    obtain ⟨v, v1, ⟨K, v2⟩, v3⟩ := number_cut (t.extract q (q + n)) n (by rw [ByteArray.size_extract]; omega) (by omega) (areB_extract _ _ _ hB)
    have v2' := fun k hk => (show spec_l01Number.f k (t.extract q (q + n)) = some (v : Int) from v2 k hk)
    rw [ez] at v3
    obtain ⟨seen', e1, e2⟩ := ih (q + 1) (seen.set v true) (fun z => P z ∨ z = cutL t.data.toList n q) (by omega) (hS.set v (fun x hx => by rw [v3 x hx]))
    refine ⟨seen', ⟨e1.1, fun x hx => (e1.2 x hx).trans ⟨?_, ?_⟩⟩, fun R hR => ?_⟩
    · rintro ((hh | hh) | ⟨p, p1, p2, p3⟩)
      · exact .inl hh
      · exact .inr ⟨q, Nat.le_refl _, by omega, hh⟩
      · exact .inr ⟨p, by omega, p2, p3⟩
    · rintro (hh | ⟨p, p1, p2, p3⟩)
      · exact .inl (.inl hh)
      · by_cases e : p = q
        · subst e; exact .inl (.inr p3)
        · exact .inr ⟨p, by omega, p2, p3⟩
    · obtain ⟨K2, f⟩ := e2 R hR
      refine ⟨K + K2 + 1, fun k hk => ?_⟩
      obtain ⟨k, rfl⟩ : ∃ q, k = q + 1 := ⟨k - 1, by omega⟩
      have hl := hS.1
      simp only [spec_CommasOf.l303]
      rw [hw, hq, h2W, Int.toNat_natCast, Int.toNat_natCast, if_pos (by omega), if_pos (by omega), if_pos (by omega), if_pos (by omega), v2' k (by omega), Option.bind_some, if_pos (by omega), if_pos (by omega), Int.toNat_natCast]
      exact f k (by omega)
theorem cm_l302 (a0 : Int) (L2 L3 : List ByteArray) (st : Int) (l : List ByteArray) (j : Nat) (hj : j < l.length) (m : List ByteArray) (W n : Nat) (hs : l[j].size = W) (hsB : areB l[j].data.toList = true) (hm : ∀ v ∈ m, v.size = W ∧ areB v.data.toList = true) (hml : m.length ≤ 64) (hW : W ≤ 12) (hn : n ≤ W + 1) (d : Nat) : ∀ (i : Nat) (seen : List Bool) (P : List UInt8 → Prop), i + d = m.length → SeenIs n seen P →
    ∃ seen', SeenIs n seen' (fun z => P z ∨ ∃ v ∈ m.drop i, Cut2 W n (l[j] ++ v).data.toList z) ∧ ∀ R, Ev (fun k => spec_CommasOf.l101 k (n : Int) seen' st l (wrap64 ((j : Int) + 1)) a0 (W : Int) L2 L3) R → Ev (fun k => spec_CommasOf.l302 k (n : Int) seen st l (j : Int) m (i : Int) a0 (W : Int) L2 L3) R := by
  induction d with
  | zero =>
    intro i seen P h hS
    refine ⟨seen, ⟨hS.1, fun x hx => (hS.2 x hx).trans ⟨.inl, fun hh => hh.elim id fun ⟨v, hv, _⟩ => ?_⟩⟩, fun R hR => Ev.step (fun k => by simp only [spec_CommasOf.l302]; rw [if_neg (by omega)]) hR⟩
    rw [List.drop_eq_nil_of_le (by omega)] at hv; cases hv
  | succ d ih =>
    intro i seen P h hS
    have hi : i < m.length := by omega
    have r1 := rdS_get l j hj
    have r2 := rdS_get m i hi
    obtain ⟨hv, hvB⟩ := hm _ (List.getElem_mem hi)
    have hd := drop_cons m i hi
    generalize m[i] = v at r2 hv hvB hd
    have hsz : (l[j] ++ v).size = 2 * W := by rw [ByteArray.size_append]; omega
    have hcat : l[j].size + v.size ≤ 9223372036854775807 := by
      clear hS ih h
      rw [hs, hv]
      exact Nat.le_trans (show W + W ≤ 24 by omega) (by decide)
    obtain ⟨s1, f1, f2⟩ := cm_l303 a0 L2 L3 st l (j : Int) m (i : Int) (l[j] ++ v) W n hsz (app_areB _ _ hsB hvB) hW (by omega) (2 * W + 1 - n) 0 seen P (by omega) hS
    have hw := wrap_succ hi (by omega)
    have zero : ((0 : Nat) : Int) = 0 := rfl
    rw [hw, zero] at f2
    have q1 : (i : Int) < (m.length : Int) := Int.ofNat_lt.2 hi
    have q2 : (0 : Int) ≤ (j : Int) := nat0 j
    have q3 : (j : Int) < (l.length : Int) := Int.ofNat_lt.2 hj
    have q4 : (0 : Int) ≤ (i : Int) := nat0 i
    obtain ⟨s2, e1, e2⟩ := ih (i + 1) s1 _ (by omega) f1
    refine ⟨s2, ⟨e1.1, fun x hx => (e1.2 x hx).trans ?_⟩, fun R hR => Ev.step (fun k => ?_) (f2 R (e2 R hR))⟩
    · rw [hd]
      constructor
      · rintro ((hh | ⟨p, p1, p2, p3⟩) | ⟨v', hv', hh⟩)
        · exact .inl hh
        · exact .inr ⟨v, List.mem_cons_self, p, p2, p3⟩
        · exact .inr ⟨v', List.mem_cons_of_mem _ hv', hh⟩
      · rintro (hh | ⟨v', hv', p, p2, p3⟩)
        · exact .inl (.inl hh)
        · rcases List.mem_cons.1 hv' with rfl | hv'
          · exact .inl (.inr ⟨p, Nat.zero_le _, p2, p3⟩)
          · exact .inr ⟨v', hv', p, p2, p3⟩
    · simp only [spec_CommasOf.l302]
      rw [r1, r2]
      exact (if_pos q1).trans ((if_pos q2).trans ((if_pos q3).trans ((if_pos q4).trans (if_pos hcat))))
theorem cm_l1 (a0 : Int) (L2 L3 : List ByteArray) (W n : Nat) (hv : VC a0 (W : Int) L2 L3) (hn : n ≤ W + 1) (l : List ByteArray) (hll : l.length ≤ 64) (hl : ∀ w ∈ l, w ∈ L2 ∨ w ∈ L3) (st : Int) (hst : st = 1 ∨ st = -1) (d : Nat) : ∀ (j : Nat) (seen : List Bool) (P : List UInt8 → Prop), j + d = l.length → SeenIs n seen P →
    ∃ seen', SeenIs n seen' (fun z => P z ∨ ∃ w ∈ l.drop j, ∃ v ∈ lst L2 L3 (nxt st w), Cut2 W n (w ++ v).data.toList z) ∧ ∀ R, Ev (fun k => spec_CommasOf.l0 k (n : Int) seen' (wrap64 (st + 2)) a0 (W : Int) L2 L3) R → Ev (fun k => spec_CommasOf.l1 k (n : Int) seen st l (j : Int) a0 (W : Int) L2 L3) R := by
  obtain ⟨hl2, hl3⟩ := hv.le64
  have hwid := hv.width
  have c2 : ∀ v ∈ L2, v.size = W ∧ areB v.data.toList = true := fun v h => ⟨by have := (hv.mem (.inl h)).2.1; omega, (IB_parts (hv.mem (.inl h)).1).1⟩
  have c3 : ∀ v ∈ L3, v.size = W ∧ areB v.data.toList = true := fun v h => ⟨by have := (hv.mem (.inr h)).2.1; omega, (IB_parts (hv.mem (.inr h)).1).1⟩
  induction d with
  | zero =>
    intro j seen P h hS
    refine ⟨seen, ⟨hS.1, fun x hx => (hS.2 x hx).trans ⟨.inl, fun hh => hh.elim id fun ⟨v, hv, _⟩ => ?_⟩⟩, fun R hR => Ev.step (fun k => by simp only [spec_CommasOf.l1]; rw [if_neg (by omega)]) hR⟩
    rw [List.drop_eq_nil_of_le (by omega)] at hv; cases hv
  | succ d ih =>
    intro j seen P h hS
    have hj : j < l.length := by omega
    have r1 := rdS_get l j hj
    have hw := wrap_succ hj (by omega)
    have hmem := hl _ (List.getElem_mem hj)
    obtain ⟨b1, b2, b3⟩ := hv.mem hmem
    have hev := specNext_ev st l[j] b1
    have hd := drop_cons l j hj
    rcases nxt_pm hst l[j] with e | e
    · rw [e] at hev
      obtain ⟨s1, f1, f2⟩ := cm_l102 a0 L2 L3 st l j hj L3 W n (by omega) (IB_parts b1).1 c3 hl3 (by omega) hn L3.length 0 seen P (by omega) hS
      rw [hw] at f2
      obtain ⟨s2, e1, e2⟩ := ih (j + 1) s1 _ (by omega) f1
      refine ⟨s2, ⟨e1.1, fun x hx => (e1.2 x hx).trans ?_⟩, fun R hR => ?_⟩
      · rw [hd, List.drop_zero]
        constructor
        · rintro ((hh | ⟨v, v1, v2⟩) | ⟨w', hw', hh⟩)
          · exact .inl hh
          · exact .inr ⟨_, List.mem_cons_self, v, by rw [e]; exact v1, v2⟩
          · exact .inr ⟨w', List.mem_cons_of_mem _ hw', hh⟩
        · rintro (hh | ⟨w', hw', v, v1, v2⟩)
          · exact .inl (.inl hh)
          · rcases List.mem_cons.1 hw' with rfl | hw'
            · rw [e] at v1; exact .inl (.inr ⟨v, v1, v2⟩)
            · exact .inr ⟨w', hw', v, v1, v2⟩
      · obtain ⟨K1, h1⟩ := f2 R (e2 R hR)
        obtain ⟨K2, h2_⟩ := hev
        have h2 := fun k hk => (show spec_l03Next.f k st l[j] = some _ from h2_ k hk)
        refine ⟨K1 + K2 + 1, fun k hk => ?_⟩
        obtain ⟨k, rfl⟩ : ∃ q, k = q + 1 := ⟨k - 1, by omega⟩
        simp only [spec_CommasOf.l1]
        rw [if_pos (by omega), if_pos (by omega), r1, h2 k (by omega), Option.bind_some, if_neg (by decide), slpos, Option.bind_some]
        exact h1 k (by omega)
    · rw [e] at hev
      obtain ⟨s1, f1, f2⟩ := cm_l2 a0 L2 L3 st l j hj L2 W n (by omega) (IB_parts b1).1 c2 hl2 (by omega) hn L2.length 0 seen P (by omega) hS
      rw [hw] at f2
      obtain ⟨s2, e1, e2⟩ := ih (j + 1) s1 _ (by omega) f1
      refine ⟨s2, ⟨e1.1, fun x hx => (e1.2 x hx).trans ?_⟩, fun R hR => ?_⟩
      · rw [hd, List.drop_zero]
        constructor
        · rintro ((hh | ⟨v, v1, v2⟩) | ⟨w', hw', hh⟩)
          · exact .inl hh
          · exact .inr ⟨_, List.mem_cons_self, v, by rw [e]; exact v1, v2⟩
          · exact .inr ⟨w', List.mem_cons_of_mem _ hw', hh⟩
        · rintro (hh | ⟨w', hw', v, v1, v2⟩)
          · exact .inl (.inl hh)
          · rcases List.mem_cons.1 hw' with rfl | hw'
            · rw [e] at v1; exact .inl (.inr ⟨v, v1, v2⟩)
            · exact .inr ⟨w', hw', v, v1, v2⟩
      · obtain ⟨K1, h1⟩ := f2 R (e2 R hR)
        obtain ⟨K2, h2_⟩ := hev
        have h2 := fun k hk => (show spec_l03Next.f k st l[j] = some _ from h2_ k hk)
        refine ⟨K1 + K2 + 1, fun k hk => ?_⟩
        obtain ⟨k, rfl⟩ : ∃ q, k = q + 1 := ⟨k - 1, by omega⟩
        simp only [spec_CommasOf.l1]
        rw [if_pos (by omega), if_pos (by omega), r1, h2 k (by omega), Option.bind_some, if_pos (by decide), slneg, Option.bind_some]
        exact h1 k (by omega)
theorem cm_l101 (a0 : Int) (L2 L3 : List ByteArray) (W n : Nat) (hv : VC a0 (W : Int) L2 L3) (hn : n ≤ W + 1) (l : List ByteArray) (hll : l.length ≤ 64) (hl : ∀ w ∈ l, w ∈ L2 ∨ w ∈ L3) (st : Int) (hst : st = 1 ∨ st = -1) (d : Nat) : ∀ (j : Nat) (seen : List Bool) (P : List UInt8 → Prop), j + d = l.length → SeenIs n seen P →
    ∃ seen', SeenIs n seen' (fun z => P z ∨ ∃ w ∈ l.drop j, ∃ v ∈ lst L2 L3 (nxt st w), Cut2 W n (w ++ v).data.toList z) ∧ ∀ R, Ev (fun k => spec_CommasOf.l0 k (n : Int) seen' (wrap64 (st + 2)) a0 (W : Int) L2 L3) R → Ev (fun k => spec_CommasOf.l101 k (n : Int) seen st l (j : Int) a0 (W : Int) L2 L3) R := by
  obtain ⟨hl2, hl3⟩ := hv.le64
  have hwid := hv.width
  have c2 : ∀ v ∈ L2, v.size = W ∧ areB v.data.toList = true := fun v h => ⟨by have := (hv.mem (.inl h)).2.1; omega, (IB_parts (hv.mem (.inl h)).1).1⟩
  have c3 : ∀ v ∈ L3, v.size = W ∧ areB v.data.toList = true := fun v h => ⟨by have := (hv.mem (.inr h)).2.1; omega, (IB_parts (hv.mem (.inr h)).1).1⟩
  induction d with
  | zero =>
    intro j seen P h hS
    refine ⟨seen, ⟨hS.1, fun x hx => (hS.2 x hx).trans ⟨.inl, fun hh => hh.elim id fun ⟨v, hv, _⟩ => ?_⟩⟩, fun R hR => Ev.step (fun k => by simp only [spec_CommasOf.l101]; rw [if_neg (by omega)]) hR⟩
    rw [List.drop_eq_nil_of_le (by omega)] at hv; cases hv
  | succ d ih =>
    intro j seen P h hS
    have hj : j < l.length := by omega
    have r1 := rdS_get l j hj
    have hw := wrap_succ hj (by omega)
    have hmem := hl _ (List.getElem_mem hj)
    obtain ⟨b1, b2, b3⟩ := hv.mem hmem
    have hev := specNext_ev st l[j] b1
    have hd := drop_cons l j hj
    rcases nxt_pm hst l[j] with e | e
    · rw [e] at hev
      obtain ⟨s1, f1, f2⟩ := cm_l302 a0 L2 L3 st l j hj L3 W n (by omega) (IB_parts b1).1 c3 hl3 (by omega) hn L3.length 0 seen P (by omega) hS
      rw [hw] at f2
      obtain ⟨s2, e1, e2⟩ := ih (j + 1) s1 _ (by omega) f1
      refine ⟨s2, ⟨e1.1, fun x hx => (e1.2 x hx).trans ?_⟩, fun R hR => ?_⟩
      · rw [hd, List.drop_zero]
        constructor
        · rintro ((hh | ⟨v, v1, v2⟩) | ⟨w', hw', hh⟩)
          · exact .inl hh
          · exact .inr ⟨_, List.mem_cons_self, v, by rw [e]; exact v1, v2⟩
          · exact .inr ⟨w', List.mem_cons_of_mem _ hw', hh⟩
        · rintro (hh | ⟨w', hw', v, v1, v2⟩)
          · exact .inl (.inl hh)
          · rcases List.mem_cons.1 hw' with rfl | hw'
            · rw [e] at v1; exact .inl (.inr ⟨v, v1, v2⟩)
            · exact .inr ⟨w', hw', v, v1, v2⟩
      · obtain ⟨K1, h1⟩ := f2 R (e2 R hR)
        obtain ⟨K2, h2_⟩ := hev
        have h2 := fun k hk => (show spec_l03Next.f k st l[j] = some _ from h2_ k hk)
        refine ⟨K1 + K2 + 1, fun k hk => ?_⟩
        obtain ⟨k, rfl⟩ : ∃ q, k = q + 1 := ⟨k - 1, by omega⟩
        simp only [spec_CommasOf.l101]
        rw [if_pos (by omega), if_pos (by omega), r1, h2 k (by omega), Option.bind_some, if_neg (by decide), slpos, Option.bind_some]
        exact h1 k (by omega)
    · rw [e] at hev
      obtain ⟨s1, f1, f2⟩ := cm_l202 a0 L2 L3 st l j hj L2 W n (by omega) (IB_parts b1).1 c2 hl2 (by omega) hn L2.length 0 seen P (by omega) hS
      rw [hw] at f2
      obtain ⟨s2, e1, e2⟩ := ih (j + 1) s1 _ (by omega) f1
      refine ⟨s2, ⟨e1.1, fun x hx => (e1.2 x hx).trans ?_⟩, fun R hR => ?_⟩
      · rw [hd, List.drop_zero]
        constructor
        · rintro ((hh | ⟨v, v1, v2⟩) | ⟨w', hw', hh⟩)
          · exact .inl hh
          · exact .inr ⟨_, List.mem_cons_self, v, by rw [e]; exact v1, v2⟩
          · exact .inr ⟨w', List.mem_cons_of_mem _ hw', hh⟩
        · rintro (hh | ⟨w', hw', v, v1, v2⟩)
          · exact .inl (.inl hh)
          · rcases List.mem_cons.1 hw' with rfl | hw'
            · rw [e] at v1; exact .inl (.inr ⟨v, v1, v2⟩)
            · exact .inr ⟨w', hw', v, v1, v2⟩
      · obtain ⟨K1, h1⟩ := f2 R (e2 R hR)
        obtain ⟨K2, h2_⟩ := hev
        have h2 := fun k hk => (show spec_l03Next.f k st l[j] = some _ from h2_ k hk)
        refine ⟨K1 + K2 + 1, fun k hk => ?_⟩
        obtain ⟨k, rfl⟩ : ∃ q, k = q + 1 := ⟨k - 1, by omega⟩
        simp only [spec_CommasOf.l101]
        rw [if_pos (by omega), if_pos (by omega), r1, h2 k (by omega), Option.bind_some, if_pos (by decide), slneg, Option.bind_some]
        exact h1 k (by omega)
theorem cut_oc {W : Nat} {w v : ByteArray} (hw : w.size = W) (hv : v.size = W) (pat : ByteArray) (h0 : 0 < pat.size) : OC pat (w ++ v) ↔ Cut2 W pat.size (w ++ v).data.toList pat.data.toList := by
  constructor
  · rintro ⟨p, p1, p2⟩
    have hp : p + pat.size ≤ 2 * W := by
      by_cases c : p + pat.size ≤ 2 * W
      · exact c
      · exfalso
        rw [occAt_short _ _ _ (by rw [← size_l, ← size_l, ByteArray.size_append]; omega) (by rw [← size_l]; exact h0)] at p2
        cases p2
    rw [occ_cut, ← size_l] at p2
    exact ⟨p, hp, p2⟩
  · rintro ⟨p, p1, p2⟩
    refine ⟨p, by rw [ByteArray.size_append]; omega, ?_⟩
    rw [occ_cut, ← size_l]
    exact p2
theorem out_loop (z : List (List UInt8)) (n : Nat) (h0 : 1 ≤ n) (hn : n ≤ 8) (seen : List Bool) (hl : seen.length = 2 ^ n) (hS : ∀ x, x < 2 ^ n → (seen.getD x false = true ↔ patL n x ∈ z)) (d : Nat) : ∀ (x : Nat) (o : List ByteArray), x + d = 2 ^ n → o.length ≤ x →
    ∃ o', o'.length ≤ 2 ^ n ∧ Ev (fun k => spec_CommasOf.l4 k (n : Int) seen o (x : Int)) (o', true) ∧ Ev (fun k => impl_CommasOf.l0 k z (n : Int) o ((2 ^ n : Nat) : Int) (x : Int)) (o', true) := by
  have h8 : 2 ^ n ≤ 2 ^ 8 := Nat.pow_le_pow_right (by decide) hn
  have h8' : (2 : Nat) ^ 8 = 256 := by decide
  induction d with
  | zero =>
    intro x o h ho
    exact ⟨o, by omega, ev_one (fun k => by rw [spec_CommasOf.l4, if_neg (by omega)]), ev_one (fun k => by rw [impl_CommasOf.l0, if_neg (by omega)])⟩
  | succ d ih =>
    intro x o h ho
    have hx : x < 2 ^ n := by omega
    have hw : wrap64 ((x : Int) + 1) = ((x + 1 : Nat) : Int) := by rw [wrap64_in (by omega) (by omega)]; omega
    obtain ⟨K2, d2_⟩ := impl_digits_f (x : Int) (n : Int) (by omega) (by omega)
    rw [Int.toNat_natCast] at d2_
    have d2 : ∀ k, K2 ≤ k → impl_digits.f k (x : Int) (n : Int) = some (strOfNums (digs (x : Int) n)) := d2_
    have hsz : (strOfNums (digs (x : Int) n)).size ≤ 1048576 := by rw [size_strOf, digs_length]; omega
    have hrd : rdOf false seen (x : Int) = seen.getD x false := by unfold rdOf; rw [Int.toNat_natCast]
    have key := hS x hx
    unfold patL at key
    by_cases c : seen.getD x false = true
    · obtain ⟨o', o1, o2, K, o3⟩ := ih (x + 1) o (by omega) (by omega)
      refine ⟨o', o1, Ev.step (fun k => by rw [spec_CommasOf.l4, if_pos (by omega), if_pos (by omega), hrd, if_pos c, hw]) o2, K + K2 + 1, fun k hk => ?_⟩
      obtain ⟨k, rfl⟩ : ∃ q, k = q + 1 := ⟨k - 1, by omega⟩
      show impl_CommasOf.l0 (k + 1) z (n : Int) o ((2 ^ n : Nat) : Int) (x : Int) = _
      rw [impl_CommasOf.l0, if_pos (by omega), d2 k (by omega), Option.bind_some, if_pos hsz, if_pos (key.1 c), hw]
      exact o3 k (by omega)
    · obtain ⟨o', o1, ⟨K4, o2⟩, K, o3⟩ := ih (x + 1) (o ++ [strOfNums (digs (x : Int) n)]) (by omega) (by rw [List.length_append]; show o.length + 1 ≤ x + 1; omega)
      obtain ⟨K1, d1_⟩ := spec_digits_f (x : Int) (n : Int) (by omega) (by omega)
      rw [Int.toNat_natCast] at d1_
      have d1 : ∀ k, K1 ≤ k → spec_l01Digits.f k (x : Int) (n : Int) = some (strOfNums (digs (x : Int) n)) := d1_
      refine ⟨o', o1, ⟨K4 + K1 + 1, fun k hk => ?_⟩, K + K2 + 1, fun k hk => ?_⟩
      · obtain ⟨k, rfl⟩ : ∃ q, k = q + 1 := ⟨k - 1, by omega⟩
        show spec_CommasOf.l4 (k + 1) (n : Int) seen o (x : Int) = _
        rw [spec_CommasOf.l4, if_pos (by omega), if_pos (by omega), hrd, if_neg c, d1 k (by omega), Option.bind_some, if_pos (by omega), hw]
        exact o2 k (by omega)
      · obtain ⟨k, rfl⟩ : ∃ q, k = q + 1 := ⟨k - 1, by omega⟩
        show impl_CommasOf.l0 (k + 1) z (n : Int) o ((2 ^ n : Nat) : Int) (x : Int) = _
        rw [impl_CommasOf.l0, if_pos (by omega), d2 k (by omega), Option.bind_some, if_pos hsz, if_neg (fun h => c (key.2 h)), if_pos (by omega), hw]
        exact o3 k (by omega)
theorem shl_pow (n : Nat) (h0 : 1 ≤ n) (hn : n ≤ 8) : shl .i64 1 (n : Int) = ((2 ^ n : Nat) : Int) := by
  have : n = 1 ∨ n = 2 ∨ n = 3 ∨ n = 4 ∨ n = 5 ∨ n = 6 ∨ n = 7 ∨ n = 8 := by omega
  rcases this with rfl | rfl | rfl | rfl | rfl | rfl | rfl | rfl <;> decide
theorem commas_both (a0 a1 : Int) (L2 L3 : List ByteArray) (h2 : L2.length ≤ 1048576) (h3 : L3.length ≤ 1048576) (s2 : ∀ s ∈ L2, s.size ≤ 1048576) (s3 : ∀ s ∈ L3, s.size ≤ 1048576) (x : Int) :
    ∃ o b, o.length ≤ 1048576 ∧ Ev (fun k => spec_CommasOf.f k a0 a1 L2 L3 x) (o, b) ∧ Ev (fun k => impl_CommasOf.f k a0 a1 L2 L3 x) (o, b) := by
  have sno : Ev (fun k => spec_CommasOf.j0 k x true a0 a1 L2 L3) (([] : List ByteArray), false) := ev_one (fun k => by rw [spec_CommasOf.j0, if_pos rfl])
  have ino : Ev (fun k => impl_CommasOf.j0 k x true a0 a1 L2 L3) (([] : List ByteArray), false) := ev_one (fun k => by rw [impl_CommasOf.j0, if_pos rfl])
  obtain ⟨r, r1, r2, r3⟩ := code_both a0 a1 L2 L3 h2 h3 s2 s3
  unfold spec_CommasOf.f impl_CommasOf.f
  cases r with
  | false => exact ⟨[], false, by simp, Ev.bind r1 (ev_neg Bool.false_ne_true sno), Ev.bind r2 (ev_neg Bool.false_ne_true ino)⟩
  | true =>
    have hv := r3 rfl
    obtain ⟨W, rfl, w1, w2, z2, z3⟩ := hv.sizes
    obtain ⟨hl2, hl3⟩ := hv.le64
    have hwr : wrap64 ((W : Int) + 1) = ((W + 1 : Nat) : Int) := by rw [wrap64_in (by omega) (by omega)]; omega
    have hm : ∀ B : Int, B = mn 8 ((W + 1 : Nat) : Int) → (x ≤ B ↔ x ≤ 8 ∧ x ≤ (W : Int) + 1) := fun B h => by rw [h]; unfold mn; split <;> omega
    suffices h : ∃ o b, o.length ≤ 1048576 ∧ Ev (fun k => (spec_l00In.f x 1 (mn 8 (wrap64 ((W : Int) + 1)))).bind fun t => (spec_CommasOf.j0 k x (!t) a0 (W : Int) L2 L3)) (o, b) ∧ Ev (fun k => (impl_within.f x 1 (mn 8 (wrap64 ((W : Int) + 1)))).bind fun t => (impl_CommasOf.j0 k x (!t) a0 (W : Int) L2 L3)) (o, b) by
      obtain ⟨o, b, q0, q1, q2⟩ := h
      exact ⟨o, b, q0, Ev.bind r1 (ev_pos rfl (by simpa only [l00Min_f, Option.bind_some] using q1)), Ev.bind r2 (ev_pos rfl q2)⟩
    rw [hwr]
    obtain ⟨B, hB⟩ : ∃ B, B = mn 8 ((W + 1 : Nat) : Int) := ⟨_, rfl⟩
    rw [← hB]
    have hm' := hm B hB
    have i1 := spec_in x 1 B
    have i2 := impl_in x 1 B
    by_cases c : 1 ≤ x ∧ x ≤ B
    · rw [decide_eq_true c] at i1 i2
      obtain ⟨n, rfl⟩ := Int.eq_ofNat_of_zero_le (show 0 ≤ x by omega)
      have c2 := hm'.1 c.2
      have hn0 : 1 ≤ n := by omega
      have hn8 : n ≤ 8 := by omega
      have hnW : n ≤ W + 1 := by omega
      have hsh := shl_pow n hn0 hn8
      have h8 : 2 ^ n ≤ 2 ^ 8 := Nat.pow_le_pow_right (by decide) hn8
      have h8' : (2 : Nat) ^ 8 = 256 := by decide
      have hu : IntKind.u64.wrap (n : Int) = (n : Int) := u64_in (by omega) (by omega)
      obtain ⟨z, y1, y2⟩ := parts_ev a0 (W : Int) L2 L3 hv W n w2 z2 z3 (by omega)
      have hS0 : SeenIs n (List.replicate (2 ^ n) false) (fun _ => False) := ⟨by simp, fun x hx => by simp [List.getD_eq_getElem?_getD, hx]⟩
      obtain ⟨s1, f1, f2⟩ := cm_l1 a0 L2 L3 W n hv hnW L2 hl2 (fun w h => .inl h) (-1) (.inr rfl) L2.length 0 _ _ (by omega) hS0
      obtain ⟨s2', e1, e2⟩ := cm_l101 a0 L2 L3 W n hv hnW L3 hl3 (fun w h => .inr h) 1 (.inl rfl) L3.length 0 s1 _ (by omega) f1
      rw [show wrap64 ((-1 : Int) + 2) = 1 from wrap64_in (by decide) (by decide)] at f2
      rw [show wrap64 ((1 : Int) + 2) = 3 from wrap64_in (by decide) (by decide)] at e2
      have hS : ∀ x, x < 2 ^ n → (s2'.getD x false = true ↔ patL n x ∈ z) := by
        intro x hx
        rw [e1.2 x hx, y1, List.drop_zero, List.drop_zero]
        have hps : (⟨(patL n x).toArray⟩ : ByteArray).size = n := by rw [size_l]; exact patL_length n x
        have key := occ_arises hv W z2 z3 (by omega) ⟨(patL n x).toArray⟩ (by rw [hps]; omega)
        rw [hps] at key
        have em : (⟨(patL n x).toArray⟩ : ByteArray).data.toList = patL n x := rfl
        rw [em] at key
        rw [key]
        unfold Occ2
        have hsz : ∀ st w, w ∈ lst L2 L3 st → w.size = W := fun st w h => (lst_mem h).elim (z2 w) (z3 w)
        have conv : ∀ w v, w.size = W → v.size = W → (OC ⟨(patL n x).toArray⟩ (w ++ v) ↔ Cut2 W n (w ++ v).data.toList (patL n x)) := fun w v h1 h2 => by
          have := cut_oc h1 h2 ⟨(patL n x).toArray⟩ (by rw [hps]; omega)
          rw [hps] at this
          exact this
        constructor
        · rintro ((hh | ⟨w, hw, v, hv', hh⟩) | ⟨w, hw, v, hv', hh⟩)
          · exact hh.elim
          · exact .inl ⟨w, hw, v, hv', (conv w v (z2 w hw) (hsz _ _ hv')).2 hh⟩
          · exact .inr ⟨w, hw, v, hv', (conv w v (z3 w hw) (hsz _ _ hv')).2 hh⟩
        · rintro (⟨w, hw, v, hv', hh⟩ | ⟨w, hw, v, hv', hh⟩)
          · exact .inl (.inr ⟨w, hw, v, hv', (conv w v (z2 w hw) (hsz _ _ hv')).1 hh⟩)
          · exact .inr ⟨w, hw, v, hv', (conv w v (z3 w hw) (hsz _ _ hv')).1 hh⟩
      obtain ⟨o, o1, o2, o3⟩ := out_loop z n hn0 hn8 s2' e1.1 hS (2 ^ n) 0 [] (by omega) (by simp)
      have zero : ((0 : Nat) : Int) = 0 := rfl
      rw [zero] at o2 o3 f2 e2
      refine ⟨o, true, by omega, ev_to i1 ?_, ev_to i2 ?_⟩
      · have g1 : Ev (fun k => spec_CommasOf.l0 k (n : Int) s2' 3 a0 (W : Int) L2 L3) (o, true) := Ev.step (fun k => by rw [spec_CommasOf.l0, if_neg (by decide)]) o2
        have g2 : Ev (fun k => spec_CommasOf.l0 k (n : Int) s1 1 a0 (W : Int) L2 L3) (o, true) := Ev.step (fun k => by rw [spec_CommasOf.l0, if_pos (by decide), if_neg (by decide), slpos, Option.bind_some]) (e2 _ g1)
        have g3 : Ev (fun k => spec_CommasOf.l0 k (n : Int) (List.replicate (2 ^ n) false) (-1) a0 (W : Int) L2 L3) (o, true) := Ev.step (fun k => by rw [spec_CommasOf.l0, if_pos (by decide), if_pos (by decide), slneg, Option.bind_some]) (f2 _ g2)
        exact Ev.step (fun k => by rw [Bool.not_true, spec_CommasOf.j0, if_neg Bool.false_ne_true, hu, hsh, Int.toNat_natCast, if_pos (by omega), if_pos (by omega), if_pos (by omega)]) g3
      · obtain ⟨K1, y2⟩ := y2
        obtain ⟨K2, o3⟩ := o3
        have y2' := fun k hk => (show impl_BlockCode_parts.f k a0 (W : Int) L2 L3 (n : Int) = some z from y2 k hk)
        refine ⟨K1 + K2 + 1, fun k hk => ?_⟩
        obtain ⟨k, rfl⟩ : ∃ q, k = q + 1 := ⟨k - 1, by omega⟩
        show impl_CommasOf.j0 (k + 1) (n : Int) (!true) a0 (W : Int) L2 L3 = _
        rw [Bool.not_true, impl_CommasOf.j0, if_neg Bool.false_ne_true, y2' k (by omega), Option.bind_some, if_pos (by omega), hsh]
        exact o3 k (by omega)
    · rw [decide_eq_false c] at i1 i2
      exact ⟨[], false, by simp, ev_to i1 sno, ev_to i2 ino⟩
theorem FnExactCommasOf : laws_FnExactCommasOf.Pure := by
  intro a0 a1 L2 L3 x _ _ n2 z2 n3 z3 _
  apply Ev.rounds
  unfold laws_FnExactCommasOf.f
  obtain ⟨t, e, hp⟩ := szCode_ev a0 a1 L2 L3 n2 z2 n3 z3
  refine Ev.bind e ?_
  by_cases c : t < 0
  · exact ev_pos c (Ev.now _)
  obtain ⟨⟨h2, s2⟩, h3, s3⟩ := hp (by omega)
  have ht := toCode_ev a0 a1 L2 L3 h2 h3
  obtain ⟨o, b, ho, r1, r2⟩ := commas_both a0 a1 L2 L3 h2 h3 s2 s3 x
  have heq := eqStringS_ev o ho
  have heqc := eqCode_ev a0 a1 L2 L3 h2 h3
  obtain ⟨v, hmk, hm2⟩ := markCode_ev a0 a1 L2 L3 h2 h3
  have hms := markSeq_ev 1 o (by omega) ho (by omega)
  have hhs := heldSeq_ev 1 o.length (by omega) ho (by omega)
  have hbb : (b != b) = false := by simp
  have hneg : ¬ (1 + (o.length : Int) < 0) := by omega
  refine ev_neg c (Ev.bind ht (Ev.bind r1 (Ev.bind ht (Ev.bind r2 (Ev.bind heq (ev_pos rfl ?_))))))
  show Ev (fun k => laws_FnExactCommasOf.j0 k x o b o b (b != b) a0 a1 L2 L3 a0 a1 L2 L3) true
  have j2 : Ev (fun k => laws_FnExactCommasOf.j2 k (seqS 1 o.length) (1 + (o.length : Int)) (b != b)) true := by
    rw [hbb]
    exact Ev.step (fun k => by rw [laws_FnExactCommasOf.j2, if_neg Bool.false_ne_true]) (Ev.bind hhs (ev_neg hneg (ev_pos rfl (Ev.now _))))
  have j1 : Ev (fun k => laws_FnExactCommasOf.j1 k x o b o (b != b) a0 a1 L2 L3) true := by
    rw [hbb]
    refine Ev.step (fun k => by rw [laws_FnExactCommasOf.j1, if_neg Bool.false_ne_true]) (Ev.bind hms (Ev.bind hhs (ev_neg hneg (ev_pos rfl (Ev.bind ht (Ev.bind r2 (Ev.bind heq (ev_pos rfl ?_))))))))
    exact j2
  rw [hbb]
  refine Ev.step (fun k => by rw [laws_FnExactCommasOf.j0, if_neg Bool.false_ne_true]) (Ev.bind ht (Ev.bind heqc (ev_pos rfl (Ev.bind hmk (ev_neg hm2 (Ev.bind heq (ev_pos rfl ?_)))))))
  exact j1

end Go.Proofs.YtegeaoiclepkkaaDoor.Pure
