/-
The plain law of FnExactRunBound: both find the same length of the longest run that can arise; conditions: those of the statement.
-/
import Derived.Test.YtegeaoiclepkkaaDoorQFnExactRunBoundx10
namespace Go.Proofs.YtegeaoiclepkkaaDoor.Pure
open Go.RowKit Go.Proofs.YtegeaoiclepkkaaDoor.QFnExactRunBound Go.Proofs.YtegeaoiclepkkaaDoorW.PrintWords Go.Proofs.YtegeaoiclepkkaaDoorW.PrintLast Go.Proofs.YtegeaoiclepkkaaDoorW.PrintMore
set_option linter.unusedVariables false

theorem ev_one {α : Type} {g : Nat → Option α} {r : α} (h : ∀ k, g (k + 1) = some r) : Ev g r :=
  ⟨1, fun k hk => by obtain ⟨m, rfl⟩ : ∃ m, k = m + 1 := ⟨k - 1, by omega⟩; exact h m⟩
theorem wrap64_in {x : Int} (h0 : -9223372036854775808 ≤ x) (h1 : x ≤ 9223372036854775807) : wrap64 x = x := by
  unfold wrap64; omega
theorem u64_in {x : Int} (h0 : 0 ≤ x) (h1 : x ≤ 18446744073709551615) : IntKind.u64.wrap x = x := by
  simp [IntKind.wrap, IntKind.bits, IntKind.signed]; omega
theorem i64_in {x : Int} (h0 : -9223372036854775808 ≤ x) (h1 : x ≤ 9223372036854775807) : IntKind.i64.wrap x = x := by
  rw [IntKind.wrap_i64]; omega
theorem and_one (x : Int) : Go.bits .and .i64 x 1 = x % 2 := by
  have h : (BitVec.ofInt 64 x &&& BitVec.ofInt 64 1).toNat = (x % 2).toNat := by
    have e1 : BitVec.ofInt 64 1 = 1#64 := by decide
    rw [e1, BitVec.toNat_and, BitVec.toNat_ofInt]
    have e2 : (1#64).toNat = 1 := by decide
    rw [e2, Nat.and_one_is_mod]
    omega
  show IntKind.i64.wrap (((BitVec.ofInt 64 x &&& BitVec.ofInt 64 1).toNat : Nat) : Int) = x % 2
  rw [h, i64_in (by omega) (by omega)]
  omega
theorem wf_i64 {x : Int} (h : (Lit.int .i64 x).wf = true) : -9223372036854775808 ≤ x ∧ x ≤ 9223372036854775807 := by
  simp [Lit.wf, IntKind.min, IntKind.max, IntKind.signed, IntKind.bits] at h
  omega
theorem pow_pos_int (d : Nat) : (0 : Int) < 2 ^ d := Int.pow_pos (by decide)
theorem pow_le_int {a b : Nat} (h : a ≤ b) : (2 : Int) ^ a ≤ 2 ^ b := by
  have := Nat.pow_le_pow_right (n := 2) (by decide) h
  exact_mod_cast this

theorem ev_pos {α : Type} {c : Prop} [Decidable c] {g h : Nat → Option α} {r : α} (hc : c) (hg : Ev g r) : Ev (fun k => if c then g k else h k) r := by
  obtain ⟨K, hK⟩ := hg
  exact ⟨K, fun k hk => (if_pos hc).trans (hK k hk)⟩
theorem ev_neg {α : Type} {c : Prop} [Decidable c] {g h : Nat → Option α} {r : α} (hc : ¬ c) (hg : Ev h r) : Ev (fun k => if c then g k else h k) r := by
  obtain ⟨K, hK⟩ := hg
  exact ⟨K, fun k hk => (if_neg hc).trans (hK k hk)⟩
theorem ev_some {α β : Type} {f : Nat → α → Option β} {a : α} {r : β} (h : Ev (fun k => f k a) r) : Ev (fun k => (some a).bind (f k)) r := h
theorem ev_to {α β : Type} {x : Option α} {f : Nat → α → Option β} {a : α} {r : β} (e : x = some a) (h : Ev (fun k => f k a) r) : Ev (fun k => x.bind (f k)) r := by subst e; exact h
theorem ev_det {α : Type} {g : Nat → Option α} {r r' : α} (h : Ev g r) (h' : Ev g r') : r = r' := by
  obtain ⟨K, hK⟩ := h
  obtain ⟨K', hK'⟩ := h'
  have h1 := hK (max K K') (Nat.le_max_left _ _)
  have h2 := hK' (max K K') (Nat.le_max_right _ _)
  rw [h1] at h2
  exact Option.some.inj h2
theorem wrap_succ {j n : Nat} (h : j < n) (hn : n ≤ 9223372036854775807) : wrap64 ((j : Int) + 1) = ((j + 1 : Nat) : Int) := by
  rw [wrap64_in (by omega) (by omega)]; omega
theorem nat0 (j : Nat) : (0 : Int) ≤ (j : Int) := Int.natCast_nonneg j
theorem rd_nat (l : List Int) (j : Nat) : rd l (j : Int) = l.getD j 0 := by unfold rd; rw [Int.toNat_natCast]
theorem rd_get (l : List Int) (j : Nat) (h : j < l.length) : rd l (j : Int) = l[j] := by rw [rd_nat, List.getD_eq_getElem?_getD, List.getElem?_eq_getElem h]; rfl
theorem drop_cons {α : Type} (l : List α) (j : Nat) (h : j < l.length) : l.drop j = l[j] :: l.drop (j + 1) := List.drop_eq_getElem_cons h
theorem take_snoc' {α : Type} (l : List α) (j : Nat) (h : j < l.length) : l.take (j + 1) = l.take j ++ [l[j]] := List.take_succ_eq_append_getElem h
theorem set_take {α : Type} (acc : List α) (j : Nat) (x : α) (h : j < acc.length) : (acc.set j x).take (j + 1) = acc.take j ++ [x] := by
  rw [List.take_set, List.take_succ_eq_append_getElem h, List.set_append_right _ _ (by simp; omega)]
  have : (acc.take j).length = j := by rw [List.length_take]; omega
  rw [this, Nat.sub_self]
  rfl
theorem take_all {α : Type} {a b : List α} {n : Nat} (ha : a.length = n) (hb : b.length = n) (h : a.take n = b.take n) : a = b := by
  rw [List.take_of_length_le (by omega), List.take_of_length_le (by omega)] at h; exact h
theorem w01 : wrap64 (0 + 1) = 1 := by unfold wrap64; decide
theorem w11 : wrap64 (1 + 1) = 2 := by unfold wrap64; decide

theorem spec_in (a b c : Int) : spec_l00In.f a b c = some (decide (b ≤ a ∧ a ≤ c)) := by
  unfold spec_l00In.f
  by_cases h : a ≥ b
  · rw [if_pos h]; congr 1; have : b ≤ a := h; simp [this]
  · rw [if_neg h]; congr 1; have : ¬ b ≤ a := h; simp [this]
theorem impl_in (a b c : Int) : impl_within.f a b c = some (decide (b ≤ a ∧ a ≤ c)) := by
  unfold impl_within.f
  by_cases h : a ≥ b
  · rw [if_pos h]; congr 1; have : b ≤ a := h; simp [this]
  · rw [if_neg h]; congr 1; have : ¬ b ≤ a := h; simp [this]

def isBit (b : UInt8) : Bool := b.toNat == 48 || b.toNat == 49
def areB (l : List UInt8) : Bool := l.all isBit
theorem size_l (s : ByteArray) : s.size = s.data.toList.length := by rw [Array.length_toList]; rfl
theorem bt_l (s : ByteArray) (j : Nat) (h : j < s.data.toList.length) : bt s (j : Int) = ((s.data.toList[j].toNat : Nat) : Int) := by
  have h2 : ((j : Int)).toNat < s.size := by rw [Int.toNat_natCast, size_l]; exact h
  have h3 : j < s.data.size := by rw [Array.length_toList] at h; exact h
  have e : s[((j : Int)).toNat]'h2 = s.data[j] := rfl
  rw [← bt_at s j h2, e, Array.getElem_toList]
theorem cs_bit (b : UInt8) : ([48, 49] : List UInt8).contains b = isBit b := by
  have h1 : (b == 48) = (b.toNat == 48) := by rw [Bool.eq_iff_iff]; simp [← UInt8.toNat_inj]
  have h2 : (b == 49) = (b.toNat == 49) := by rw [Bool.eq_iff_iff]; simp [← UInt8.toNat_inj]
  unfold isBit
  rw [← h1, ← h2]
  show (match b == 48 with | true => true | false => (match b == 49 with | true => true | false => false)) = (b == 48 || b == 49)
  cases (b == 48) <;> cases (b == 49) <;> rfl
theorem drop_nil {p : UInt8 → Bool} (l : List UInt8) : l.dropWhile p = [] ↔ ∀ x ∈ l, p x = true := by
  induction l with
  | nil => simp
  | cons a t ih =>
    rw [List.dropWhile_cons]
    cases e : p a with
    | true => rw [if_pos rfl, ih]; simp [e]
    | false => rw [if_neg (by decide)]; simp [e]
theorem drop_all {p : UInt8 → Bool} (l : List UInt8) (h : (l.dropWhile p).all p = true) : l.all p = true := by
  induction l with
  | nil => rfl
  | cons a t ih =>
    rw [List.dropWhile_cons] at h
    cases e : p a with
    | true => rw [e, if_pos rfl] at h; rw [List.all_cons, e, ih h]; rfl
    | false => rw [e, if_neg (by decide)] at h; exact h
theorem trim_nil (l : List UInt8) : (Lib.trimS l [48, 49] == []) = areB l := by
  have e : (fun b => ([48, 49] : List UInt8).contains b) = isBit := funext cs_bit
  unfold Lib.trimS Lib.trimLeftS Lib.trimRightS areB
  rw [e]
  rw [Bool.eq_iff_iff, beq_iff_eq, drop_nil]
  constructor
  · intro h
    have h1 : (l.reverse.dropWhile isBit).all isBit = true := List.all_eq_true.2 (fun x hx => h x (List.mem_reverse.2 hx))
    have h2 := drop_all _ h1
    rw [List.all_reverse] at h2
    exact h2
  · intro h x hx
    have h3 := List.mem_reverse.1 hx
    have h4 : x ∈ l.reverse := (List.dropWhile_sublist _).subset h3
    exact List.all_eq_true.1 h x (List.mem_reverse.1 h4)

theorem specBits_loop (s : ByteArray) (hn : s.size ≤ 9223372036854775807) (d : Nat) : ∀ j : Nat, j + d = s.data.toList.length → Ev (fun k => spec_l01Bits.l0 k s (j : Int)) (areB (s.data.toList.drop j) && decide ((s.size : Int) ≤ 400)) := by
  have hs := size_l s
  induction d with
  | zero =>
    intro j h
    rw [List.drop_eq_nil_of_le (by omega)]
    exact ev_one (fun k => by rw [spec_l01Bits.l0, if_neg (by omega)]; rfl)
  | succ d ih =>
    intro j h
    have hj : j < s.data.toList.length := by omega
    have hb := bt_l s j hj
    have hw := wrap_succ hj (by omega)
    rw [drop_cons _ _ hj]
    unfold areB
    rw [List.all_cons]
    by_cases c1 : bt s (j : Int) = 48
    · have e : isBit s.data.toList[j] = true := by unfold isBit; have : s.data.toList[j].toNat = 48 := by omega
                                                   rw [this]; rfl
      rw [e, Bool.true_and]
      exact Ev.step (fun k => by rw [spec_l01Bits.l0, if_pos (by omega), if_pos (by omega), if_pos c1, hw]) (ih (j + 1) (by omega))
    · by_cases c2 : bt s (j : Int) = 49
      · have e : isBit s.data.toList[j] = true := by unfold isBit; have : s.data.toList[j].toNat = 49 := by omega
                                                     rw [this]; rfl
        rw [e, Bool.true_and]
        exact Ev.step (fun k => by rw [spec_l01Bits.l0, if_pos (by omega), if_pos (by omega), if_neg c1, if_pos c2, hw]) (ih (j + 1) (by omega))
      · have e : isBit s.data.toList[j] = false := by
          unfold isBit
          obtain ⟨n, hn⟩ : ∃ n, n = s.data.toList[j].toNat := ⟨_, rfl⟩
          rw [← hn] at hb ⊢
          have h1 : (n == 48) = false := beq_eq_false_iff_ne.2 (by omega)
          have h2 : (n == 49) = false := beq_eq_false_iff_ne.2 (by omega)
          rw [h1, h2]; rfl
        rw [e, Bool.false_and, Bool.false_and]
        exact ev_one (fun k => by rw [spec_l01Bits.l0, if_pos (by omega), if_pos (by omega), if_neg c1, if_neg c2])
def IB (s : ByteArray) : Bool := areB s.data.toList && decide ((s.size : Int) ≤ 400)
theorem specBits_ev (s : ByteArray) (hn : s.size ≤ 9223372036854775807) : Ev (fun k => spec_l01Bits.f k s) (IB s) := specBits_loop s hn s.data.toList.length 0 (by omega)

theorem areBits_f (s : ByteArray) (hn : s.size ≤ 9223372036854775807) : impl_areBits.f s = some (areB s.data.toList) := by
  unfold impl_areBits.f strings_Trim.f
  rw [if_pos ⟨rfl, hn⟩, Option.bind_some]
  have e : (⟨(Lib.trimS s.data.toList [48, 49]).toArray⟩ : ByteArray).toList = Lib.trimS s.data.toList [48, 49] := by
    rw [Lib.toList_data]
  rw [e, ← trim_nil]

theorem ones_loop (s : ByteArray) (hn : s.size ≤ 1000) (hb : areB s.data.toList = true) (d : Nat) : ∀ (j : Nat) (acc : Int), j + d = s.size → 0 ≤ acc → acc ≤ j →
    Ev (fun k => spec_l01Ones.l0 k s acc (j : Int)) (acc + Lib.countByte (s.data.toList.drop j) 49) := by
  have hs := size_l s
  induction d with
  | zero =>
    intro j acc h _ _
    rw [List.drop_eq_nil_of_le (by omega)]
    exact ev_one (fun k => by rw [spec_l01Ones.l0, if_neg (by omega)]; simp [Lib.countByte])
  | succ d ih =>
    intro j acc h h0 h1
    have hj : j < s.data.toList.length := by omega
    have hw := wrap_succ (j := j) (n := s.size) (by omega) (by omega)
    have hbt := bt_l s j hj
    have hbit : s.data.toList[j].toNat = 48 ∨ s.data.toList[j].toNat = 49 := by
      have := List.all_eq_true.1 hb _ (List.getElem_mem hj)
      unfold isBit at this
      rw [Bool.or_eq_true, beq_iff_eq, beq_iff_eq] at this
      exact this
    rw [drop_cons _ _ hj]
    rcases hbit with hbit | hbit
    · have e0 : ((bt s (j : Int)) - 48) % 256 = 0 := by omega
      have ew : wrap64 (acc + 0) = acc := by rw [Int.add_zero, wrap64_in (by omega) (by omega)]
      have ne : (s.data.toList[j] == 49) = false := by
        rw [beq_eq_false_iff_ne]
        intro hh
        rw [hh] at hbit
        exact absurd hbit (by decide)
      have ec : Lib.countByte (s.data.toList[j] :: s.data.toList.drop (j + 1)) 49 = Lib.countByte (s.data.toList.drop (j + 1)) 49 := by unfold Lib.countByte; rw [List.count_cons, ne]; rfl
      rw [ec]
      exact Ev.step (fun k => by rw [spec_l01Ones.l0, if_pos (by omega), if_pos (by omega), e0, ew, hw]) (ih (j + 1) acc (by omega) h0 (by omega))
    · have e0 : ((bt s (j : Int)) - 48) % 256 = 1 := by omega
      have ew : wrap64 (acc + 1) = acc + 1 := wrap64_in (by omega) (by omega)
      have ne : s.data.toList[j] = 49 := by rw [← UInt8.toNat_inj]; exact hbit
      have ec : ((Lib.countByte (s.data.toList[j] :: s.data.toList.drop (j + 1)) 49 : Nat) : Int) = 1 + ((Lib.countByte (s.data.toList.drop (j + 1)) 49 : Nat) : Int) := by unfold Lib.countByte; rw [List.count_cons, ne]; simp; omega
      have := ih (j + 1) (acc + 1) (by omega) (by omega) (by omega)
      rw [ec, ← Int.add_assoc]
      exact Ev.step (fun k => by rw [spec_l01Ones.l0, if_pos (by omega), if_pos (by omega), e0, ew, hw]) this

theorem rdS_get (l : List ByteArray) (j : Nat) (h : j < l.length) : rdOf ByteArray.empty l (j : Int) = l[j] := by
  unfold rdOf; rw [Int.toNat_natCast, List.getD_eq_getElem?_getD, List.getElem?_eq_getElem h]; rfl
theorem toStringS_loop (l : List ByteArray) (hn : l.length ≤ 1048576) (d : Nat) : ∀ (j : Nat) (acc : List ByteArray), j + d = l.length → acc.length = l.length → acc.take j = l.take j →
    Ev (fun k => laws_toStringS.l0 k l acc (j : Int)) l := by
  induction d with
  | zero =>
    intro j acc h ha ht
    have e : acc = l := take_all (n := j) (by omega) (by omega) ht
    exact ev_one (fun k => by rw [laws_toStringS.l0, if_neg (by omega), e])
  | succ d ih =>
    intro j acc h ha ht
    have hj : j < l.length := by omega
    have hw := wrap_succ hj (by omega)
    have hi := ih (j + 1) (acc.set j l[j]) (by omega) (by rw [List.length_set]; exact ha) (by rw [set_take _ _ _ (by omega), ht, take_snoc' _ _ hj])
    exact Ev.step (fun k => by rw [laws_toStringS.l0, if_pos (by omega), if_pos (by omega), if_pos (by omega), rdS_get _ _ hj, Int.toNat_natCast, hw]) hi
theorem toStringS_ev (l : List ByteArray) (hn : l.length ≤ 1048576) : Ev (fun k => laws_toStringS.f k l) l := by
  refine Ev.congr (fun k => ?_) (toStringS_loop l hn l.length 0 (List.replicate l.length ⟨#[]⟩) (by omega) (by simp) rfl)
  unfold laws_toStringS.f
  rw [if_pos (by omega), Int.toNat_natCast, if_pos (by omega)]
  rfl
theorem eqStringS_loop (l : List ByteArray) (hn : l.length ≤ 1048576) (d : Nat) : ∀ j : Nat, j + d = l.length → Ev (fun k => laws_eqStringS.l0 k l l (j : Int)) true := by
  induction d with
  | zero => intro j h; exact ev_one (fun k => by rw [laws_eqStringS.l0, if_neg (by omega)])
  | succ d ih =>
    intro j h
    refine Ev.step (fun k => ?_) (ih (j + 1) (by omega))
    rw [laws_eqStringS.l0, if_pos (by omega), if_pos (by omega), if_pos (by omega), if_pos rfl, wrap_succ (n := l.length) (by omega) (by omega)]
theorem eqStringS_ev (l : List ByteArray) (hn : l.length ≤ 1048576) : Ev (fun k => laws_eqStringS.f k l l) true := by
  refine Ev.congr (fun k => ?_) (eqStringS_loop l hn l.length 0 (by omega))
  unfold laws_eqStringS.f
  rw [if_pos rfl]
  rfl
theorem szStringS_loop (l : List ByteArray) (hn : l.length ≤ 9223372036854775807) (hl : ∀ s ∈ l, s.size ≤ 9223372036854775807) (d : Nat) : ∀ (j : Nat) (left : Int), j + d = l.length → 0 ≤ left → left ≤ 1048576 →
    (∃ r, Ev (fun k => laws_szStringS.l0 k l left (j : Int)) r ∧ r ≤ left ∧ (0 ≤ r → ∀ x ∈ l.drop j, x.size ≤ 1048576)) := by
  induction d with
  | zero =>
    intro j left h h0 h1
    refine ⟨left, ev_one (fun k => by rw [laws_szStringS.l0, if_neg (by omega)]), Int.le_refl _, fun _ x hx => ?_⟩
    rw [List.drop_eq_nil_of_le (by omega)] at hx
    cases hx
  | succ d ih =>
    intro j left h h0 h1
    have hj : j < l.length := by omega
    have hlen := hl _ (List.getElem_mem hj)
    have hw : wrap64 (left - (l[j].size : Int)) = left - (l[j].size : Int) := wrap64_in (by omega) (by omega)
    by_cases c : left - (l[j].size : Int) < 0
    · refine ⟨-1, ev_one (fun k => ?_), by omega, fun h => by omega⟩
      rw [laws_szStringS.l0, if_pos (by omega), if_pos (by omega), rdS_get _ _ hj, hw, if_pos c]
    · obtain ⟨r, hr, hle, hp⟩ := ih (j + 1) (left - (l[j].size : Int)) (by omega) (by omega) (by omega)
      refine ⟨r, Ev.step (fun k => ?_) hr, by omega, fun h0 x hx => ?_⟩
      · rw [laws_szStringS.l0, if_pos (by omega), if_pos (by omega), rdS_get _ _ hj, hw, if_neg c, wrap_succ hj (by omega)]
      · rw [drop_cons _ _ hj] at hx
        rcases List.mem_cons.1 hx with rfl | hx
        · omega
        · exact hp h0 x hx
theorem szStringS_ev (l : List ByteArray) (hn : l.length ≤ 9223372036854775807) (hl : ∀ s ∈ l, s.size ≤ 9223372036854775807) (left : Int) (h0 : 0 ≤ left) (h1 : left ≤ 1048576) :
    ∃ r, Ev (fun k => laws_szStringS.f k l left) r ∧ r ≤ left ∧ (0 ≤ r → l.length ≤ 1048576 ∧ ∀ x ∈ l, x.size ≤ 1048576) := by
  have hw : wrap64 (left - (l.length : Int)) = left - (l.length : Int) := wrap64_in (by omega) (by omega)
  by_cases c : left - (l.length : Int) < 0
  · refine ⟨-1, Ev.congr (fun k => ?_) (Ev.now _), by omega, fun h => by omega⟩
    unfold laws_szStringS.f
    rw [hw, if_pos c]
  · obtain ⟨r, hr, hle, hp⟩ := szStringS_loop l hn hl l.length 0 (left - (l.length : Int)) (by omega) (by omega) (by omega)
    refine ⟨r, Ev.congr (fun k => ?_) hr, by omega, fun h => ⟨by omega, fun x hx => hp h x (by simpa using hx)⟩⟩
    unfold laws_szStringS.f
    rw [hw, if_neg c]
    rfl
theorem idx_both (L : List ByteArray) (s : ByteArray) (hn : L.length ≤ 1048576) (d : Nat) : ∀ j : Nat, j + d = L.length → ∃ r, Ev (fun k => spec_l03Index.l0 k L s (j : Int)) r ∧ Ev (fun k => slices_Index_string_string.l0 k L s (L.length : Int) (j : Int)) r ∧ (r ≥ 0 ↔ s.toList ∈ (L.drop j).map ByteArray.toList) ∧ (r < 0 → r = -1) ∧ (0 ≤ r → ∃ i : Nat, r = i ∧ j ≤ i ∧ ∃ h : i < L.length, L[i].toList = s.toList) := by
  induction d with
  | zero =>
    intro j h
    refine ⟨-1, ev_one (fun k => by rw [spec_l03Index.l0, if_neg (by omega)]), ev_one (fun k => by rw [slices_Index_string_string.l0, if_neg (by omega)]), ?_, fun _ => rfl, fun h => by omega⟩
    rw [List.drop_eq_nil_of_le (by omega)]; simp
  | succ d ih =>
    intro j h
    have hj : j < L.length := by omega
    have hw := wrap_succ hj (by omega)
    rw [drop_cons _ _ hj, List.map_cons, List.mem_cons]
    by_cases c : L[j].toList = s.toList
    · exact ⟨(j : Int), ev_one (fun k => by rw [spec_l03Index.l0, if_pos (by omega), if_pos (by omega), rdS_get _ _ hj, if_pos c]), ev_one (fun k => by rw [slices_Index_string_string.l0, if_pos (by omega), if_pos (by omega), if_pos (by omega), rdS_get _ _ hj, if_pos c.symm]), ⟨fun _ => .inl c.symm, fun _ => by omega⟩, fun h => by omega, fun _ => ⟨j, rfl, Nat.le_refl _, hj, c⟩⟩
    · obtain ⟨r, r1, r2, r3, r4, r5⟩ := ih (j + 1) (by omega)
      exact ⟨r, Ev.step (fun k => by rw [spec_l03Index.l0, if_pos (by omega), if_pos (by omega), rdS_get _ _ hj, if_neg c, hw]) r1, Ev.step (fun k => by rw [slices_Index_string_string.l0, if_pos (by omega), if_pos (by omega), if_pos (by omega), rdS_get _ _ hj, if_neg (fun e => c e.symm), hw]) r2, r3.trans ⟨.inr, fun h => h.resolve_left (fun e => c e.symm)⟩, r4, fun h0 => by
        obtain ⟨i, e1, e2, e3⟩ := r5 h0
        exact ⟨i, e1, by omega, e3⟩⟩

def dsp (s : ByteArray) : Int := wrap64 ((wrap64 (2 * ((Lib.countByte s.data.toList 49 : Nat) : Int))) - (s.size : Int))
theorem disp_f (s : ByteArray) : impl_disparity.f s = some (dsp s) := by
  unfold impl_disparity.f strings_Count.f
  rw [if_pos rfl]
  rfl
theorem ones_any (s : ByteArray) (hn : s.size ≤ 1048576) (d : Nat) : ∀ (j : Nat) (acc : Int), j + d = s.size → ∃ v, Ev (fun k => spec_l01Ones.l0 k s acc (j : Int)) v := by
  induction d with
  | zero => intro j acc h; exact ⟨acc, ev_one (fun k => by rw [spec_l01Ones.l0, if_neg (by omega)])⟩
  | succ d ih =>
    intro j acc h
    have hw := wrap_succ (j := j) (n := s.size) (by omega) (by omega)
    obtain ⟨v, hv⟩ := ih (j + 1) (wrap64 (acc + (((bt s (j : Int)) - 48) % 256))) (by omega)
    exact ⟨v, Ev.step (fun k => by rw [spec_l01Ones.l0, if_pos (by omega), if_pos (by omega), hw]) hv⟩
theorem IB_parts {s : ByteArray} (h : IB s = true) : areB s.data.toList = true ∧ s.size ≤ 400 := by
  unfold IB at h
  rw [Bool.and_eq_true, decide_eq_true_iff] at h
  exact ⟨h.1, by omega⟩
theorem specDisp_any (s : ByteArray) (hn : s.size ≤ 1048576) : ∃ v, Ev (fun k => spec_l03Disparity.f k s) v ∧ (IB s = true → v = dsp s) := by
  cases e : IB s with
  | false =>
    obtain ⟨v, hv⟩ := ones_any s hn s.size 0 0 (by omega)
    refine ⟨wrap64 ((wrap64 (2 * v)) - (s.size : Int)), ?_, fun h => by cases h⟩
    unfold spec_l03Disparity.f
    exact Ev.bind (f := fun k t => some (wrap64 ((wrap64 (2 * t)) - (s.size : Int)))) (show Ev (fun k => spec_l01Ones.f k s) v from hv) (Ev.now _)
  | true =>
    obtain ⟨e1, e2⟩ := IB_parts e
    have h := ones_loop s (by omega) e1 s.size 0 0 (by omega) (by omega) (by omega)
    rw [Int.zero_add, List.drop_zero] at h
    refine ⟨dsp s, ?_, fun _ => rfl⟩
    unfold spec_l03Disparity.f
    exact Ev.bind (f := fun k t => some (wrap64 ((wrap64 (2 * t)) - (s.size : Int)))) h (Ev.now _)
/-- A word of a list of a valid code. -/
def WOK (L : List ByteArray) (c1 o : Int) (i : Nat) (h : i < L.length) : Prop := areB L[i].data.toList = true ∧ (L[i].size : Int) = c1 ∧ (dsp L[i] = 0 ∨ dsp L[i] = o) ∧ ∀ (i' : Nat) (h' : i' < i), L[i'].toList ≠ L[i].toList
theorem words_both (L : List ByteArray) (c1 o : Int) (hc : c1 ≤ 400) (hn : L.length ≤ 1000) (hs : ∀ s ∈ L, s.size ≤ 1048576) (d : Nat) : ∀ (j : Nat) (seen : List (List UInt8)), j + d = L.length → seen.length ≤ j → (∀ y, y ∈ seen ↔ y ∈ (L.take j).map ByteArray.toList) →
    ∃ r, Ev (fun k => spec_l03Words.l0 k L c1 o (j : Int)) r ∧ Ev (fun k => impl_BlockCode_areWords.l0 k c1 L o seen (j : Int)) r ∧ (r = true → ∀ i : Nat, j ≤ i → ∀ h : i < L.length, WOK L c1 o i h) := by
  induction d with
  | zero => intro j seen h h1 h2; exact ⟨true, ev_one (fun k => by rw [spec_l03Words.l0, if_neg (by omega)]), ev_one (fun k => by rw [impl_BlockCode_areWords.l0, if_neg (by omega)]), fun _ i h1 h2 => by omega⟩
  | succ d ih =>
    intro j seen h h1 h2
    have hj : j < L.length := by omega
    have hw := wrap_succ hj (by omega)
    have hz := hs _ (List.getElem_mem hj)
    have hrd := rdS_get L j hj
    have htk := take_snoc' L j hj
    obtain ⟨s, hsj⟩ : ∃ s, s = L[j] := ⟨_, rfl⟩
    rw [← hsj] at hz hrd htk
    obtain ⟨v, hv, hv2⟩ := specDisp_any s hz
    have hb := specBits_ev s (by omega)
    have ia := areBits_f s (by omega)
    have st : ∀ R, Ev (fun k => if IB s = true then (if (s.size : Int) = c1 then (if v = 0 then ((spec_l03Index.f k (L.take j) s).bind fun t => (if t ≥ 0 then (some false) else (spec_l03Words.l0 k L c1 o ((j + 1 : Nat) : Int)))) else (if v = o then ((spec_l03Index.f k (L.take j) s).bind fun t => (if t ≥ 0 then (some false) else (spec_l03Words.l0 k L c1 o ((j + 1 : Nat) : Int)))) else some false)) else some false) else some false) R → Ev (fun k => spec_l03Words.l0 k L c1 o (j : Int)) R := by
      intro R hR
      refine Ev.step (fun k => by rw [spec_l03Words.l0, if_pos (by omega), if_pos (by omega), hrd, Int.toNat_natCast, hw, if_pos (show (j : Int) ≤ (L.length : Int) by omega)]) (Ev.bind hv (Ev.bind hb hR))
    have im : ∀ R, Ev (fun k => if (s.size : Int) = c1 then (if areB s.data.toList = true then (if dsp s = 0 ∨ dsp s = o then (if s.data.toList ∈ seen then some false else impl_BlockCode_areWords.l0 k c1 L o (s.data.toList :: seen) ((j + 1 : Nat) : Int)) else some false) else some false) else some false) R → Ev (fun k => impl_BlockCode_areWords.l0 k c1 L o seen (j : Int)) R := by
      intro R hR
      refine Ev.step (fun k => by rw [impl_BlockCode_areWords.l0, if_pos (by omega), if_pos (by omega), hrd, if_pos hz, disp_f, Option.bind_some, ia, Option.bind_some, if_pos (show seen.length < 1000000 by omega), hw]) hR
    cases e : IB s with
    | false =>
      refine ⟨false, st _ (ev_neg (by rw [e]; decide) (Ev.now _)), im _ ?_, (fun q => absurd q Bool.false_ne_true)⟩
      by_cases c : (s.size : Int) = c1
      · have hB : areB s.data.toList = false := by
          unfold IB at e
          rw [decide_eq_true (show (s.size : Int) ≤ 400 by omega), Bool.and_true] at e
          exact e
        exact ev_pos c (ev_neg (by rw [hB]; decide) (Ev.now _))
      · exact ev_neg c (Ev.now _)
    | true =>
      obtain ⟨p1, p2⟩ := IB_parts e
      obtain rfl := hv2 e
      by_cases c : (s.size : Int) = c1
      · obtain ⟨i, i1, _, i3, _, _⟩ := idx_both (L.take j) s (by rw [List.length_take]; omega) (L.take j).length 0 (by omega)
        rw [List.drop_zero, ← h2, Lib.toList_data] at i3
        have i1' : Ev (fun k => spec_l03Index.f k (L.take j) s) i := i1
        by_cases c9 : s.data.toList ∈ seen
        · have go : Ev (fun k => (spec_l03Index.f k (L.take j) s).bind fun t => (if t ≥ 0 then (some false) else (spec_l03Words.l0 k L c1 o ((j + 1 : Nat) : Int)))) false := Ev.bind i1' (ev_pos (i3.2 c9) (Ev.now _))
          refine ⟨false, st _ (ev_pos e (ev_pos c ?_)), im _ (ev_pos c (ev_pos p1 ?_)), (fun q => absurd q Bool.false_ne_true)⟩
          · by_cases c8 : dsp s = 0
            · exact ev_pos c8 go
            · by_cases c7 : dsp s = o
              · exact ev_neg c8 (ev_pos c7 go)
              · exact ev_neg c8 (ev_neg c7 (Ev.now _))
          · by_cases c8 : dsp s = 0 ∨ dsp s = o
            · exact ev_pos c8 (ev_pos c9 (Ev.now _))
            · exact ev_neg c8 (Ev.now _)
        · by_cases c8 : dsp s = 0 ∨ dsp s = o
          · obtain ⟨r, r1, r2, r3⟩ := ih (j + 1) (s.data.toList :: seen) (by omega) (by simp; omega) (by
              intro y
              rw [htk, List.map_append, List.mem_append, List.mem_cons, h2, Or.comm]
              simp [Lib.toList_data])
            have go : Ev (fun k => (spec_l03Index.f k (L.take j) s).bind fun t => (if t ≥ 0 then (some false) else (spec_l03Words.l0 k L c1 o ((j + 1 : Nat) : Int)))) r := Ev.bind i1' (ev_neg (fun hh => c9 (i3.1 hh)) r1)
            refine ⟨r, st _ (ev_pos e (ev_pos c ?_)), im _ (ev_pos c (ev_pos p1 (ev_pos c8 (ev_neg c9 r2)))), fun q i h1 h2' => ?_⟩
            rotate_left
            · by_cases ci : i = j
              · subst ci
                refine ⟨by rw [← hsj]; exact p1, by rw [← hsj]; exact c, by rw [← hsj]; exact c8, fun i' hi' he => ?_⟩
                apply c9
                rw [h2, ← Lib.toList_data, hsj, ← he]
                exact List.mem_map.2 ⟨L[i'], List.mem_take_iff_getElem.2 ⟨i', by omega, rfl⟩, rfl⟩
              · exact r3 q i (by omega) h2'
            by_cases c7 : dsp s = 0
            · exact ev_pos c7 go
            · exact ev_neg c7 (ev_pos (c8.resolve_left c7) go)
          · exact ⟨false, st _ (ev_pos e (ev_pos c (ev_neg (fun hh => c8 (.inl hh)) (ev_neg (fun hh => c8 (.inr hh)) (Ev.now _))))), im _ (ev_pos c (ev_pos p1 (ev_neg c8 (Ev.now _)))), (fun q => absurd q Bool.false_ne_true)⟩
      · exact ⟨false, st _ (ev_pos e (ev_neg c (Ev.now _))), im _ (ev_neg c (Ev.now _)), (fun q => absurd q Bool.false_ne_true)⟩

theorem last_both (L2 L3 : List ByteArray) (hn2 : L2.length ≤ 1048576) (hn3 : L3.length ≤ 1048576) (a0 a1 : Int) (d : Nat) : ∀ j : Nat, j + d = L2.length →
    ∃ r, Ev (fun k => spec_l03Is.l0 k (L2.length : Int) (j : Int) a0 a1 L2 L3) r ∧ Ev (fun k => impl_ValidBlockCode.l0 k L2 (L2.length : Int) (j : Int) a0 a1 L2 L3) r ∧ (r = true → ∀ i : Nat, j ≤ i → ∀ (h : i < L2.length) (i' : Nat) (h' : i' < L3.length), L2[i].toList = L3[i'].toList → (∀ (p q : Nat) (hp : p < L3.length) (hq : q < L3.length), p < q → L3[p].toList ≠ L3[q].toList) → i = i') := by
  induction d with
  | zero => intro j h; exact ⟨true, ev_one (fun k => by rw [spec_l03Is.l0, if_neg (by omega)]), ev_one (fun k => by rw [impl_ValidBlockCode.l0, if_neg (by omega)]), fun _ i h1 h2 => by omega⟩
  | succ d ih =>
    intro j h
    have hj : j < L2.length := by omega
    have hw := wrap_succ hj (by omega)
    have hrd := rdS_get L2 j hj
    obtain ⟨i, i1, i2, i3, _, i5⟩ := idx_both L3 L2[j] hn3 L3.length 0 (by omega)
    rw [List.drop_zero] at i3
    have i1' : Ev (fun k => spec_l03Index.f k L3 L2[j]) i := i1
    have i2' : Ev (fun k => slices_Index_string_string.f k L3 L2[j]) i := i2
    obtain ⟨r, r1, r2, r3⟩ := ih (j + 1) (by omega)
    have sp : ∀ R, Ev (fun k => if i ≥ 0 then (if i = (j : Int) then spec_l03Is.l0 k (L2.length : Int) ((j + 1 : Nat) : Int) a0 a1 L2 L3 else some false) else spec_l03Is.l0 k (L2.length : Int) ((j + 1 : Nat) : Int) a0 a1 L2 L3) R → Ev (fun k => spec_l03Is.l0 k (L2.length : Int) (j : Int) a0 a1 L2 L3) R :=
      fun R hR => Ev.step (fun k => by rw [spec_l03Is.l0, if_pos (by omega), if_pos (by omega), if_pos (by omega), hrd, hw]) (Ev.bind i1' hR)
    have im : ∀ R, Ev (fun k => if i ≥ 0 then (if i = (j : Int) then impl_ValidBlockCode.l0 k L2 (L2.length : Int) ((j + 1 : Nat) : Int) a0 a1 L2 L3 else some false) else impl_ValidBlockCode.l0 k L2 (L2.length : Int) ((j + 1 : Nat) : Int) a0 a1 L2 L3) R → Ev (fun k => impl_ValidBlockCode.l0 k L2 (L2.length : Int) (j : Int) a0 a1 L2 L3) R :=
      fun R hR => Ev.step (fun k => by rw [impl_ValidBlockCode.l0, if_pos (by omega), if_pos (by omega), if_pos (by omega), hrd, hw]) (Ev.bind i2' hR)
    by_cases c : i ≥ 0
    · by_cases c2 : i = (j : Int)
      · refine ⟨r, sp _ (ev_pos c (ev_pos c2 r1)), im _ (ev_pos c (ev_pos c2 r2)), fun q z h1 h2 i' h' he hd => ?_⟩
        by_cases cz : z = j
        · subst cz
          obtain ⟨y, e1, _, e2, e3⟩ := i5 c
          have ey : y = z := by omega
          subst ey
          rcases Nat.lt_trichotomy y i' with g | g | g
          · exact absurd (e3.trans he) (hd y i' e2 h' g)
          · exact g
          · exact absurd (e3.trans he).symm (hd i' y h' e2 g)
        · exact r3 q z (by omega) h2 i' h' he hd
      · exact ⟨false, sp _ (ev_pos c (ev_neg c2 (Ev.now _))), im _ (ev_pos c (ev_neg c2 (Ev.now _))), (fun q => absurd q Bool.false_ne_true)⟩
    · refine ⟨r, sp _ (ev_neg c r1), im _ (ev_neg c r2), fun q z h1 h2 i' h' he hd => ?_⟩
      by_cases cz : z = j
      · subst cz
        exact absurd (i3.2 (by rw [he]; exact List.mem_map.2 ⟨L3[i'], List.getElem_mem h', rfl⟩)) c
      · exact r3 q z (by omega) h2 i' h' he hd
theorem shl_data (a : Int) (h : 1 ≤ a ∧ a ≤ 6) : shl .i64 1 a = wrap64 (2 ^ min a.toNat 64) ∧ shl .i64 1 a ≤ 64 := by
  have : a = 1 ∨ a = 2 ∨ a = 3 ∨ a = 4 ∨ a = 5 ∨ a = 6 := by omega
  rcases this with rfl | rfl | rfl | rfl | rfl | rfl <;> decide +kernel
theorem isData_f (a : Int) : impl_isData.f a = some (decide (1 ≤ a ∧ a ≤ 6)) := by
  unfold impl_isData.f
  rw [impl_in]; rfl
theorem isWidth_f (a : Int) : impl_isWidth.f a = some (decide (2 ≤ a ∧ a ≤ 12) && ((Int.tmod a 2) == 0)) := by
  unfold impl_isWidth.f
  rw [impl_in, Option.bind_some]
  by_cases c : 2 ≤ a ∧ a ≤ 12
  · rw [decide_eq_true c, if_pos rfl, Bool.true_and]
  · rw [decide_eq_false c, if_neg Bool.false_ne_true, Bool.false_and]
/-- A valid block code. -/
structure VC (a0 a1 : Int) (L2 L3 : List ByteArray) : Prop where
  data : 1 ≤ a0 ∧ a0 ≤ 6
  width : 2 ≤ a1 ∧ a1 ≤ 12
  even : Int.tmod a1 2 = 0
  n2 : (L2.length : Int) = shl .i64 1 a0
  n3 : (L3.length : Int) = shl .i64 1 a0
  w2 : ∀ (i : Nat) (h : i < L2.length), WOK L2 a1 2 i h
  w3 : ∀ (i : Nat) (h : i < L3.length), WOK L3 a1 (-2) i h
  cross : ∀ (i : Nat) (h : i < L2.length) (i' : Nat) (h' : i' < L3.length), L2[i].toList = L3[i'].toList → i = i'
theorem code_both (a0 a1 : Int) (L2 L3 : List ByteArray) (h2 : L2.length ≤ 1048576) (h3 : L3.length ≤ 1048576) (s2 : ∀ s ∈ L2, s.size ≤ 1048576) (s3 : ∀ s ∈ L3, s.size ≤ 1048576) :
    ∃ r, Ev (fun k => spec_l03Is.f k a0 a1 L2 L3) r ∧ Ev (fun k => impl_ValidBlockCode.f k a0 a1 L2 L3) r ∧ (r = true → VC a0 a1 L2 L3) := by
  have sno : Ev (fun k => spec_l03Is.j0 k true a0 a1 L2 L3) false := ev_one (fun k => by rw [spec_l03Is.j0, if_pos rfl])
  have sn1 : ∀ n, Ev (fun k => spec_l03Is.j1 k n true a0 a1 L2 L3) false := fun n => ev_one (fun k => by rw [spec_l03Is.j1, if_pos rfl])
  have ino : Ev (fun k => impl_ValidBlockCode.j0 k true a0 a1 L2 L3) false := ev_one (fun k => by rw [impl_ValidBlockCode.j0, if_pos rfl])
  unfold spec_l03Is.f impl_ValidBlockCode.f
  by_cases c0 : 1 ≤ a0 ∧ a0 ≤ 6
  · by_cases c1 : 2 ≤ a1 ∧ a1 ≤ 12
    · by_cases ct : (Int.tmod a1 2) = 0
      · have hd := isData_f a0
        have hwd := isWidth_f a1
        rw [decide_eq_true c0] at hd
        rw [decide_eq_true c1, ct] at hwd
        have hs0 := spec_in a0 1 6
        have hs1 := spec_in a1 2 12
        rw [decide_eq_true c0] at hs0
        rw [decide_eq_true c1] at hs1
        have hu : IntKind.u64.wrap a0 = a0 := u64_in (by omega) (by omega)
        obtain ⟨hsh, hle⟩ := shl_data a0 c0
        suffices h : ∃ r, (r = true → VC a0 a1 L2 L3) ∧ Ev (fun k => if (L2.length : Int) = shl .i64 1 a0 then (if (L3.length : Int) = shl .i64 1 a0 then ((spec_l03Words.f k L2 a1 2).bind fun t => (if t = true then ((spec_l03Words.f k L3 a1 (-2)).bind fun t2 => (spec_l03Is.j1 k (shl .i64 1 a0) (!t2) a0 a1 L2 L3)) else (spec_l03Is.j1 k (shl .i64 1 a0) true a0 a1 L2 L3))) else (spec_l03Is.j1 k (shl .i64 1 a0) true a0 a1 L2 L3)) else (spec_l03Is.j1 k (shl .i64 1 a0) true a0 a1 L2 L3)) r ∧
            Ev (fun k => (impl_BlockCode_areWords.f k a0 a1 L2 L3 L2 2).bind fun t => (if t = true then ((impl_BlockCode_areWords.f k a0 a1 L2 L3 L3 (-2)).bind fun t2 => (impl_ValidBlockCode.j0 k (!t2) a0 a1 L2 L3)) else (impl_ValidBlockCode.j0 k true a0 a1 L2 L3))) r by
          obtain ⟨r, r0, r1, r2⟩ := h
          refine ⟨r, ev_to hs0 (ev_pos rfl (ev_to hs1 (ev_pos rfl ?_))), ev_to hd (ev_pos rfl (ev_to hwd (ev_pos rfl r2))), r0⟩
          exact Ev.step (fun k => by rw [ct, spec_l03Is.j0, if_neg (by decide), hu, if_pos (by omega)]) r1
        have aw : ∀ (L : List ByteArray) (o : Int) (R : Bool), (L.length : Int) = shl .i64 1 a0 → Ev (fun k => impl_BlockCode_areWords.l0 k a1 L o [] 0) R → Ev (fun k => impl_BlockCode_areWords.f k a0 a1 L2 L3 L o) R := by
          intro L o R hL hR
          unfold impl_BlockCode_areWords.f
          exact ev_pos (by omega) (ev_pos (by rw [hL, hsh]) hR)
        have an : ∀ (L : List ByteArray) (o : Int), (L.length : Int) ≠ shl .i64 1 a0 → Ev (fun k => impl_BlockCode_areWords.f k a0 a1 L2 L3 L o) false := by
          intro L o hL
          unfold impl_BlockCode_areWords.f
          exact ev_pos (by omega) (ev_neg (by rw [← hsh]; exact hL) (Ev.now _))
        by_cases e2 : (L2.length : Int) = shl .i64 1 a0
        · obtain ⟨w2, w2s, w2i, w2k⟩ := words_both L2 a1 2 (by omega) (by omega) s2 L2.length 0 [] (by omega) (by simp) (by simp)
          have w2s' : Ev (fun k => spec_l03Words.f k L2 a1 2) w2 := w2s
          have w2i' := aw L2 2 w2 e2 w2i
          by_cases e3 : (L3.length : Int) = shl .i64 1 a0
          · obtain ⟨w3, w3s, w3i, w3k⟩ := words_both L3 a1 (-2) (by omega) (by omega) s3 L3.length 0 [] (by omega) (by simp) (by simp)
            have w3s' : Ev (fun k => spec_l03Words.f k L3 a1 (-2)) w3 := w3s
            have w3i' := aw L3 (-2) w3 e3 w3i
            cases w2 with
            | false => exact ⟨false, (fun q => absurd q Bool.false_ne_true), ev_pos e2 (ev_pos e3 (Ev.bind w2s' (ev_neg Bool.false_ne_true (sn1 _)))), Ev.bind w2i' (ev_neg Bool.false_ne_true ino)⟩
            | true =>
              cases w3 with
              | false => exact ⟨false, (fun q => absurd q Bool.false_ne_true), ev_pos e2 (ev_pos e3 (Ev.bind w2s' (ev_pos rfl (Ev.bind w3s' (sn1 _))))), Ev.bind w2i' (ev_pos rfl (Ev.bind w3i' ino))⟩
              | true =>
                obtain ⟨r, r1, r2, r3⟩ := last_both L2 L3 h2 h3 a0 a1 L2.length 0 (by omega)
                refine ⟨r, fun q => ⟨c0, c1, ct, e2, e3, fun i h => w2k rfl i (Nat.zero_le _) h, fun i h => w3k rfl i (Nat.zero_le _) h, fun i h i' h' he => r3 q i (Nat.zero_le _) h i' h' he (fun p q' hp hq hpq => (w3k rfl q' (Nat.zero_le _) hq).2.2.2 p hpq)⟩, ev_pos e2 (ev_pos e3 (Ev.bind w2s' (ev_pos rfl (Ev.bind w3s' ?_)))), Ev.bind w2i' (ev_pos rfl (Ev.bind w3i' ?_))⟩
                · exact Ev.step (f := fun k => spec_l03Is.l0 k (L2.length : Int) 0 a0 a1 L2 L3) (fun k => by rw [spec_l03Is.j1, if_neg (by decide), e2]) r1
                · exact Ev.step (f := fun k => impl_ValidBlockCode.l0 k L2 (L2.length : Int) 0 a0 a1 L2 L3) (fun k => by rw [impl_ValidBlockCode.j0, if_neg (by decide)]) r2
          · refine ⟨false, (fun q => absurd q Bool.false_ne_true), ev_pos e2 (ev_neg e3 (sn1 _)), Ev.bind w2i' ?_⟩
            cases w2 with
            | false => exact ev_neg Bool.false_ne_true ino
            | true => exact ev_pos rfl (Ev.bind (an L3 (-2) e3) ino)
        · exact ⟨false, (fun q => absurd q Bool.false_ne_true), ev_neg e2 (sn1 _), Ev.bind (an L2 2 e2) (ev_neg Bool.false_ne_true ino)⟩
      · have hd := isData_f a0
        have hwd := isWidth_f a1
        rw [decide_eq_true c0] at hd
        rw [decide_eq_true c1, Bool.true_and, show ((Int.tmod a1 2) == 0) = false from by simpa using ct] at hwd
        have hs0 := spec_in a0 1 6
        have hs1 := spec_in a1 2 12
        rw [decide_eq_true c0] at hs0
        rw [decide_eq_true c1] at hs1
        refine ⟨false, ev_to hs0 (ev_pos rfl (ev_to hs1 (ev_pos rfl ?_))), ev_to hd (ev_pos rfl (ev_to hwd (ev_neg Bool.false_ne_true ino))), (fun q => absurd q Bool.false_ne_true)⟩
        rw [show ((Int.tmod a1 2) != 0) = true from by simpa using ct]
        exact sno
    · have hd := isData_f a0
      have hwd := isWidth_f a1
      rw [decide_eq_true c0] at hd
      rw [decide_eq_false c1, Bool.false_and] at hwd
      have hs0 := spec_in a0 1 6
      have hs1 := spec_in a1 2 12
      rw [decide_eq_true c0] at hs0
      rw [decide_eq_false c1] at hs1
      exact ⟨false, ev_to hs0 (ev_pos rfl (ev_to hs1 (ev_neg Bool.false_ne_true sno))), ev_to hd (ev_pos rfl (ev_to hwd (ev_neg Bool.false_ne_true ino))), (fun q => absurd q Bool.false_ne_true)⟩
  · have hd := isData_f a0
    have hs0 := spec_in a0 1 6
    rw [decide_eq_false c0] at hd hs0
    exact ⟨false, ev_to hs0 (ev_neg Bool.false_ne_true sno), ev_to hd (ev_neg Bool.false_ne_true ino), (fun q => absurd q Bool.false_ne_true)⟩

theorem szCode_ev (a0 a1 : Int) (L2 L3 : List ByteArray) (n2 : L2.length ≤ 9223372036854775807) (z2 : ∀ s ∈ L2, s.size ≤ 9223372036854775807) (n3 : L3.length ≤ 9223372036854775807) (z3 : ∀ s ∈ L3, s.size ≤ 9223372036854775807) :
    ∃ t, Ev (fun k => laws_szBlockCode.f k a0 a1 L2 L3 1048576) t ∧ (0 ≤ t → (L2.length ≤ 1048576 ∧ ∀ x ∈ L2, x.size ≤ 1048576) ∧ (L3.length ≤ 1048576 ∧ ∀ x ∈ L3, x.size ≤ 1048576)) := by
  obtain ⟨t1, e1, l1, p1⟩ := szStringS_ev L2 n2 z2 1048576 (by decide) (by decide)
  unfold laws_szBlockCode.f
  by_cases c : t1 < 0
  · exact ⟨-1, Ev.bind e1 (ev_pos c (Ev.now _)), fun h => by omega⟩
  · obtain ⟨t2, e2, l2, p2⟩ := szStringS_ev L3 n3 z3 t1 (by omega) (by omega)
    by_cases c2 : t2 < 0
    · exact ⟨-1, Ev.bind e1 (ev_neg c (Ev.bind e2 (ev_pos c2 (Ev.now _)))), fun h => by omega⟩
    · exact ⟨t2, Ev.bind e1 (ev_neg c (Ev.bind e2 (ev_neg c2 (Ev.now _)))), fun h => ⟨p1 (by omega), p2 h⟩⟩
theorem toCode_ev (a0 a1 : Int) (L2 L3 : List ByteArray) (h2 : L2.length ≤ 1048576) (h3 : L3.length ≤ 1048576) : Ev (fun k => laws_toBlockCode.f k a0 a1 L2 L3) (a0, a1, L2, L3) := by
  unfold laws_toBlockCode.f
  exact Ev.bind (toStringS_ev L2 h2) (Ev.bind (toStringS_ev L3 h3) (Ev.now _))
theorem eqCode_ev (a0 a1 : Int) (L2 L3 : List ByteArray) (h2 : L2.length ≤ 1048576) (h3 : L3.length ≤ 1048576) : Ev (fun k => laws_eqBlockCode.f k a0 a1 L2 L3 a0 a1 L2 L3) true := by
  unfold laws_eqBlockCode.f
  exact ev_pos rfl (ev_pos rfl (Ev.bind (eqStringS_ev L2 h2) (ev_pos rfl (Ev.bind (eqStringS_ev L3 h3) (ev_pos rfl (Ev.now _))))))

theorem VC.le64 {a0 a1 : Int} {L2 L3 : List ByteArray} (h : VC a0 a1 L2 L3) : L2.length ≤ 64 ∧ L3.length ≤ 64 := by
  have h1 := (shl_data a0 h.data).2
  have h2 := h.n2
  have h3 := h.n3
  omega
/-- A word's bits, whichever list it is of. -/
theorem VC.mem {a0 a1 : Int} {L2 L3 : List ByteArray} (h : VC a0 a1 L2 L3) {w : ByteArray} (hw : w ∈ L2 ∨ w ∈ L3) : IB w = true ∧ (w.size : Int) = a1 ∧ w.size ≤ 12 := by
  have hd := h.width
  rcases hw with hw | hw
  · obtain ⟨i, hi, rfl⟩ := List.mem_iff_getElem.1 hw
    obtain ⟨p1, p2, _⟩ := h.w2 i hi
    exact ⟨by unfold IB; rw [p1, decide_eq_true (by omega)]; rfl, p2, by omega⟩
  · obtain ⟨i, hi, rfl⟩ := List.mem_iff_getElem.1 hw
    obtain ⟨p1, p2, _⟩ := h.w3 i hi
    exact ⟨by unfold IB; rw [p1, decide_eq_true (by omega)]; rfl, p2, by omega⟩
/-- The state behind a word. -/
def nxt (st : Int) (w : ByteArray) : Int := if dsp w > 0 then 1 else if dsp w < 0 then -1 else st
theorem implBehindS_f (st : Int) (w : ByteArray) : impl_stateBehind.f st w = some (nxt st w) := by
  unfold impl_stateBehind.f nxt
  rw [disp_f, Option.bind_some]
  by_cases c : dsp w > 0
  · rw [if_pos c, if_pos c]
  · rw [if_neg c, if_neg c]
    by_cases c2 : dsp w < 0
    · rw [if_pos c2, if_pos c2]
    · rw [if_neg c2, if_neg c2]
theorem specNext_ev (st : Int) (w : ByteArray) (h : IB w = true) : Ev (fun k => spec_l03Next.f k st w) (nxt st w) := by
  obtain ⟨p1, p2⟩ := IB_parts h
  obtain ⟨v, hv, hv2⟩ := specDisp_any w (by omega)
  obtain rfl := hv2 h
  obtain ⟨r, hr⟩ : ∃ r, r = nxt st w := ⟨_, rfl⟩
  rw [← hr]
  unfold nxt at hr
  unfold spec_l03Next.f
  refine Ev.bind hv ?_
  by_cases c : dsp w > 0
  · rw [if_pos c] at hr
    rw [hr]
    exact ev_pos c (Ev.now _)
  · rw [if_neg c] at hr
    refine ev_neg c ?_
    by_cases c2 : dsp w < 0
    · rw [if_pos c2] at hr
      rw [hr]
      exact ev_pos c2 (Ev.now _)
    · rw [if_neg c2] at hr
      rw [hr]
      exact ev_neg c2 (Ev.now _)
def lst (L2 L3 : List ByteArray) (st : Int) : List ByteArray := if st < 0 then L2 else L3
theorem lst_mem {L2 L3 : List ByteArray} {st : Int} {w : ByteArray} (h : w ∈ lst L2 L3 st) : w ∈ L2 ∨ w ∈ L3 := by
  unfold lst at h
  split at h
  · exact .inl h
  · exact .inr h

theorem nxt_pm {st : Int} (h : st = 1 ∨ st = -1) (w : ByteArray) : nxt st w = 1 ∨ nxt st w = -1 := by
  unfold nxt
  split
  · exact .inl rfl
  · split
    · exact .inr rfl
    · exact h
theorem slneg (a0 a1 : Int) (L2 L3 : List ByteArray) : spec_l03List_neg.f a0 a1 L2 L3 (-1) = some () := if_pos (by decide)
theorem slpos (a0 a1 : Int) (L2 L3 : List ByteArray) : spec_l03List_pos.f a0 a1 L2 L3 1 = some () := if_pos (by decide)
theorem ilneg (a0 a1 : Int) (L2 L3 : List ByteArray) : impl_BlockCode_words_neg.f a0 a1 L2 L3 (-1) = some () := if_pos (by decide)
theorem ilpos (a0 a1 : Int) (L2 L3 : List ByteArray) : impl_BlockCode_words_pos.f a0 a1 L2 L3 1 = some () := if_pos (by decide)
theorem app_l (s u : ByteArray) : (s ++ u).data.toList = s.data.toList ++ u.data.toList := by simp [ByteArray.data_append]
theorem VC.sizes {a0 a1 : Int} {L2 L3 : List ByteArray} (hv : VC a0 a1 L2 L3) : ∃ W : Nat, a1 = (W : Int) ∧ 2 ≤ W ∧ W ≤ 12 ∧ (∀ v ∈ L2, v.size = W) ∧ (∀ v ∈ L3, v.size = W) := by
  have hd := hv.width
  refine ⟨a1.toNat, by omega, by omega, by omega, fun v h => ?_, fun v h => ?_⟩
  · have := (hv.mem (.inl h)).2.1; omega
  · have := (hv.mem (.inr h)).2.1; omega
theorem VC.pos {a0 a1 : Int} {L2 L3 : List ByteArray} (hv : VC a0 a1 L2 L3) : 0 < L2.length ∧ 0 < L3.length := by
  have h1 : 0 < shl .i64 1 a0 := by
    have hd := hv.data
    have : a0 = 1 ∨ a0 = 2 ∨ a0 = 3 ∨ a0 = 4 ∨ a0 = 5 ∨ a0 = 6 := by omega
    rcases this with rfl | rfl | rfl | rfl | rfl | rfl <;> decide
  have h2 := hv.n2
  have h3 := hv.n3
  omega
theorem l00Max_f (a b : Int) : spec_l00Max.f a b = some (mx a b) := by
  unfold spec_l00Max.f mx
  by_cases c : a > b
  · rw [if_pos c, if_neg (by omega)]
  · rw [if_neg c]
    by_cases c2 : a < b
    · rw [if_pos c2]
    · rw [if_neg c2, show a = b by omega]
def bump (y : List Int) : List Int := y.set (wrap64 ((y.length : Int) - 1)).toNat (wrap64 ((rd y (wrap64 ((y.length : Int) - 1))) + 1))
theorem bump_length (y : List Int) : (bump y).length = y.length := by unfold bump; rw [List.length_set]
theorem last_in (y : List Int) (h0 : 0 < y.length) (h1 : y.length ≤ 2000000) : 0 ≤ wrap64 ((y.length : Int) - 1) ∧ wrap64 ((y.length : Int) - 1) < (y.length : Int) := by
  rw [wrap64_in (by omega) (by omega)]; omega
/-- The runs of a reversed text: the last run first. -/
def rr : List UInt8 → List Nat
  | [] => []
  | [_] => [1]
  | x :: y :: l => if x = y then (match rr (y :: l) with | [] => [1] | n :: t => (n + 1) :: t) else 1 :: rr (y :: l)
theorem rr_two (x y : UInt8) (l : List UInt8) : rr (x :: y :: l) = if x = y then (match rr (y :: l) with | [] => [1] | n :: t => (n + 1) :: t) else 1 :: rr (y :: l) := rfl
/-- A text that is not empty has a last run: it is at least 1 and no longer than the text, and its bytes are alike. -/
theorem rr_ne (l : List UInt8) : ∀ x, ∃ n t, rr (x :: l) = n :: t ∧ 1 ≤ n ∧ n ≤ (x :: l).length ∧ (x :: l).take n = List.replicate n x := by
  induction l with
  | nil => intro x; exact ⟨1, [], rfl, Nat.le_refl _, Nat.le_refl _, rfl⟩
  | cons y l ih =>
    intro x
    obtain ⟨n, t, e, h1, h2, h3⟩ := ih y
    rw [rr_two, e]
    by_cases c : x = y
    · rw [if_pos c]
      refine ⟨n + 1, t, rfl, by omega, by simp only [List.length_cons] at h2 ⊢; omega, ?_⟩
      rw [List.take_succ_cons, h3, List.replicate_succ, c]
    · rw [if_neg c]
      exact ⟨1, n :: t, rfl, Nat.le_refl _, by simp, rfl⟩
theorem rr_step {x y : UInt8} {l : List UInt8} {n : Nat} {t : List Nat} (e : rr (y :: l) = n :: t) : rr (x :: y :: l) = if x = y then (n + 1) :: t else 1 :: n :: t := by
  rw [rr_two, e]
theorem rr_replicate (b : UInt8) (m : Nat) : rr (List.replicate (m + 1) b) = [m + 1] := by
  induction m with
  | zero => rfl
  | succ m ih =>
    rw [List.replicate_succ, List.replicate_succ]
    rw [List.replicate_succ] at ih
    rw [rr_step ih, if_pos rfl]
/-- A run ahead of a text. -/
theorem rr_app (b : UInt8) (m : Nat) (l : List UInt8) : ∀ x, rr ((x :: l) ++ List.replicate (m + 1) b) =
    if (x :: l).getLast (by simp) = b then (rr (x :: l)).dropLast ++ [(rr (x :: l)).getLast (by obtain ⟨n, t, e, _⟩ := rr_ne l x; rw [e]; simp) + (m + 1)] else rr (x :: l) ++ [m + 1] := by
  induction l with
  | nil =>
    intro x
    have e : rr (List.replicate (m + 1) b) = [m + 1] := rr_replicate b m
    rw [List.replicate_succ] at e ⊢
    show rr (x :: b :: List.replicate m b) = _
    rw [rr_step e]
    show _ = if x = b then _ else _
    by_cases c : x = b
    · rw [if_pos c, if_pos c]
      show [m + 1 + 1] = [1 + (m + 1)]
      rw [Nat.add_comm 1 (m + 1)]
    · rw [if_neg c, if_neg c]; rfl
  | cons y l ih =>
    intro x
    have h := ih y
    obtain ⟨n, t, e, _⟩ := rr_ne l y
    obtain ⟨n', t', e', _⟩ := rr_ne (l ++ List.replicate (m + 1) b) y
    have e1 := rr_step (x := x) e
    have e2 : rr ((x :: y :: l) ++ List.replicate (m + 1) b) = if x = y then (n' + 1) :: t' else 1 :: n' :: t' := rr_step (x := x) e'
    have e3 : rr ((y :: l) ++ List.replicate (m + 1) b) = n' :: t' := e'
    rw [e3] at h
    have hl : (x :: y :: l).getLast (by simp) = (y :: l).getLast (by simp) := List.getLast_cons (by simp)
    rw [e2, hl]
    by_cases c2 : (y :: l).getLast (by simp) = b
    · rw [if_pos c2] at h ⊢
      simp only [e] at h
      simp only [e1]
      by_cases c : x = y
      · simp only [if_pos c]
        cases t with
        | nil =>
          have h' : n' :: t' = [n + (m + 1)] := h
          show (n' + 1) :: t' = [n + 1 + (m + 1)]
          injection h' with h1 h2
          subst h1 h2
          congr 1
          omega
        | cons a t =>
          simp only [List.dropLast_cons_cons, List.cons_append, List.getLast_cons (List.cons_ne_nil a t)] at h ⊢
          injection h with h1 h2
          subst h1
          rw [h2]
      · simp only [if_neg c]
        rw [h]
        simp only [List.dropLast_cons_cons, List.cons_append, List.getLast_cons (List.cons_ne_nil n t)]
    · rw [if_neg c2] at h ⊢
      rw [e] at h
      rw [e1]
      by_cases c : x = y
      · rw [if_pos c, if_pos c]
        injection h with h1 h2
        subst h1
        rw [h2]
        rfl
      · rw [if_neg c, if_neg c, h]
        rfl
theorem rr_sum (l : List UInt8) : (rr l).sum = l.length := by
  induction l with
  | nil => rfl
  | cons x l ih =>
    cases l with
    | nil => rfl
    | cons y l =>
      obtain ⟨n, t, e, _⟩ := rr_ne l y
      rw [e] at ih
      rw [rr_step e]
      split
      · simp only [List.sum_cons, List.length_cons] at ih ⊢; omega
      · simp only [List.sum_cons, List.length_cons] at ih ⊢; omega
theorem rr_pos (l : List UInt8) : ∀ n ∈ rr l, 1 ≤ n := by
  induction l with
  | nil => intro n h; cases h
  | cons x l ih =>
    cases l with
    | nil => intro n h; rw [List.mem_singleton.1 h]; exact Nat.le_refl _
    | cons y l =>
      obtain ⟨n, t, e, _⟩ := rr_ne l y
      rw [e] at ih
      rw [rr_step e]
      split
      · intro a ha
        rcases List.mem_cons.1 ha with h | h
        · omega
        · exact ih a (List.mem_cons_of_mem _ h)
      · intro a ha
        rcases List.mem_cons.1 ha with h | h
        · omega
        · exact ih a h
/-- One run alone: the bytes are alike. -/
theorem rr_const (l : List UInt8) : ∀ x n, rr (x :: l) = [n] → x :: l = List.replicate n x := by
  intro x n h
  obtain ⟨n', t, e, h1, h2, h3⟩ := rr_ne l x
  rw [h] at e
  injection e with e1 e2
  subst e1
  have := rr_sum (x :: l)
  rw [h] at this
  simp only [List.sum_cons, List.sum_nil, Nat.add_zero] at this
  rw [← h3, this, List.take_length]

def rv (w : ByteArray) : List UInt8 := w.data.toList.reverse
/-- The last run's length, the first run's, the first byte, the last byte: of a reversed text. -/
def ln (v : List UInt8) : Nat := (rr v).headD 0
def fr (v : List UInt8) : Nat := (rr v).getLastD 0
def fby (v : List UInt8) : UInt8 := v.getLastD 0
def lby (v : List UInt8) : UInt8 := v.headD 0
theorem getLastD_of {α : Type} {l : List α} {d : α} (h : l ≠ []) : l.getLastD d = l.getLast h := by
  rw [List.getLastD_eq_getLast?, List.getLast?_eq_some_getLast h]
  rfl
theorem rr_nil {v : List UInt8} (h : v ≠ []) : rr v ≠ [] := by
  cases v with
  | nil => exact absurd rfl h
  | cons x l => obtain ⟨n, t, e, _⟩ := rr_ne l x; rw [e]; simp
theorem rr_ahead {v : List UInt8} (h : v ≠ []) (b : UInt8) (m : Nat) : rr (v ++ List.replicate (m + 1) b) = if fby v = b then (rr v).dropLast ++ [fr v + (m + 1)] else rr v ++ [m + 1] := by
  cases v with
  | nil => exact absurd rfl h
  | cons x l =>
    rw [rr_app]
    unfold fby fr
    rw [getLastD_of h, getLastD_of (rr_nil h)]
theorem rr_split {v : List UInt8} (h : v ≠ []) : rr v = (rr v).dropLast ++ [fr v] := by
  unfold fr
  rw [getLastD_of (rr_nil h), List.dropLast_concat_getLast]
theorem rr_bound {v : List UInt8} (h : v ≠ []) (b : UInt8) (m B : Nat) : (∀ n ∈ rr (v ++ List.replicate (m + 1) b), n ≤ B) ↔ (∀ n ∈ rr v, n ≤ B) ∧ (if fby v = b then fr v + (m + 1) ≤ B else m + 1 ≤ B) := by
  rw [rr_ahead h]
  have hs := rr_split h
  by_cases c : fby v = b
  · rw [if_pos c, if_pos c]
    generalize (rr v).dropLast = D at hs ⊢
    rw [hs]
    constructor
    · intro q
      have q1 := q (fr v + (m + 1)) (by simp)
      refine ⟨fun n hn => ?_, q1⟩
      rcases List.mem_append.1 hn with p | p
      · exact q n (List.mem_append.2 (.inl p))
      · rw [List.mem_singleton.1 p]; omega
    · rintro ⟨q1, q2⟩ n hn
      rcases List.mem_append.1 hn with p | p
      · exact q1 n (List.mem_append.2 (.inl p))
      · rw [List.mem_singleton.1 p]; exact q2
  · rw [if_neg c, if_neg c]
    constructor
    · intro q
      exact ⟨fun n hn => q n (List.mem_append.2 (.inl hn)), q (m + 1) (by simp)⟩
    · rintro ⟨q1, q2⟩ n hn
      rcases List.mem_append.1 hn with p | p
      · exact q1 n p
      · rw [List.mem_singleton.1 p]; exact q2
theorem ln_ahead {v : List UInt8} (h : v ≠ []) (b : UInt8) (m : Nat) : ln (v ++ List.replicate (m + 1) b) = if (rr v).length = 1 ∧ fby v = b then ln v + (m + 1) else ln v := by
  unfold ln
  rw [rr_ahead h]
  have hs := rr_split h
  have hn := rr_nil h
  generalize rr v = R at hs hn ⊢
  by_cases c : fby v = b
  · rw [if_pos c]
    cases R with
    | nil => exact absurd rfl hn
    | cons a R =>
      cases R with
      | nil =>
        rw [if_pos ⟨rfl, c⟩]
        have hs' : [a] = [fr v] := hs
        injection hs' with e
        rw [e]
        rfl
      | cons a' R =>
        rw [if_neg (by simp)]
        rfl
  · rw [if_neg c, if_neg (fun q => c q.2)]
    cases R with
    | nil => exact absurd rfl hn
    | cons a R => rfl
theorem lby_app {v : List UInt8} (h : v ≠ []) (e : List UInt8) : lby (v ++ e) = lby v := by
  cases v with
  | nil => exact absurd rfl h
  | cons x l => rfl
theorem ln_le {v : List UInt8} : ln v ≤ v.length := by
  cases v with
  | nil => exact Nat.le_refl _
  | cons x l => obtain ⟨n, t, e, h1, h2, _⟩ := rr_ne l x; unfold ln; rw [e]; exact h2
theorem ln_pos {v : List UInt8} (h : v ≠ []) : 1 ≤ ln v := by
  cases v with
  | nil => exact absurd rfl h
  | cons x l => obtain ⟨n, t, e, h1, h2, _⟩ := rr_ne l x; unfold ln; rw [e]; exact h1
theorem ln_mem {v : List UInt8} (h : v ≠ []) : ln v ∈ rr v := by
  have := rr_nil h
  unfold ln
  cases e : rr v with
  | nil => exact absurd e this
  | cons a R => simp
/-- One run alone. -/
theorem cst_all {v : List UInt8} (h : (rr v).length = 1) : v = List.replicate v.length (lby v) ∧ fr v = v.length ∧ ln v = v.length ∧ fby v = lby v := by
  obtain ⟨n, hn⟩ : ∃ n, rr v = [n] := by
    cases e : rr v with
    | nil => rw [e] at h; cases h
    | cons a R =>
      rw [e] at h
      cases R with
      | nil => exact ⟨a, rfl⟩
      | cons b R => simp at h
  cases v with
  | nil => cases hn
  | cons x l =>
    have e := rr_const l x n hn
    have hl : (x :: l).length = n := by
      have := congrArg List.length e
      rw [List.length_replicate] at this
      exact this
    refine ⟨by rw [hl]; exact e, by unfold fr; rw [hn, hl]; rfl, by unfold ln; rw [hn, hl]; rfl, ?_⟩
    show (x :: l).getLastD 0 = x
    rw [e]
    cases n with
    | zero => cases hl
    | succ n => rw [getLastD_of (by simp), List.getLast_replicate]
/-- The ends of what is sent: a state, and the run at the end. -/
inductive Reach (L2 L3 : List ByteArray) : Int → List UInt8 → Prop
  | start (s : Int) : s = 1 ∨ s = -1 → Reach L2 L3 s []
  | step {s : Int} {e : List UInt8} {w : ByteArray} : Reach L2 L3 s e → w ∈ lst L2 L3 s → Reach L2 L3 (nxt s w) (List.replicate (ln (rv w ++ e)) (lby (rv w)))
/-- What the words of a valid code have of it. -/
structure Cd (L2 L3 : List ByteArray) (W : Nat) : Prop where
  pos : 1 ≤ W
  size : ∀ s w, w ∈ lst L2 L3 s → (rv w).length = W
  some_ : ∀ s, ∃ w, w ∈ lst L2 L3 s
  alone : ∀ s w, s = 1 ∨ s = -1 → w ∈ lst L2 L3 s → (rr (rv w)).length = 1 → ∀ w', w' ∈ lst L2 L3 (nxt s w) → (rr (rv w')).length = 1 → lby (rv w') ≠ lby (rv w)
def OkB (L2 L3 : List ByteArray) (B : Nat) : Prop := ∀ s e w, Reach L2 L3 s e → w ∈ lst L2 L3 s → ∀ n ∈ rr (rv w ++ e), n ≤ B
def L0 (L2 L3 : List ByteArray) (B : Nat) (s : Int) (b : UInt8) (m : Nat) : Prop := m ≤ B ∧ ∀ w, w ∈ lst L2 L3 s → fby (rv w) = b → m + fr (rv w) ≤ B
def LL (L2 L3 : List ByteArray) (B : Nat) (s : Int) (b : UInt8) (m : Nat) : Prop := m ≤ B ∧ ∀ w, w ∈ lst L2 L3 s → fby (rv w) = b → if (rr (rv w)).length = 1 then L0 L2 L3 B (nxt s w) b (m + (rv w).length) else m + fr (rv w) ≤ B
def SpecOk (L2 L3 : List ByteArray) (B : Nat) : Prop := ∀ s w, s = 1 ∨ s = -1 → w ∈ lst L2 L3 s → (∀ n ∈ rr (rv w), n ≤ B) ∧ LL L2 L3 B (nxt s w) (lby (rv w)) (ln (rv w))
section
variable {L2 L3 : List ByteArray} {W : Nat} (C : Cd L2 L3 W)
include C
theorem Cd.ne {s : Int} {w : ByteArray} (h : w ∈ lst L2 L3 s) : rv w ≠ [] := by
  intro e
  have := C.size s w h
  have := C.pos
  rw [e] at *
  simp at *
  omega
theorem Cd.reach {s : Int} {e : List UInt8} (h : Reach L2 L3 s e) : (s = 1 ∨ s = -1) ∧ (e = [] ∨ ∃ b m, e = List.replicate (m + 1) b ∧ (∃ s' w, w ∈ lst L2 L3 s' ∧ b = lby (rv w)) ∧ (m + 1 ≤ W ∨ (m + 1 ≤ W + W ∧ ∀ w, w ∈ lst L2 L3 s → (rr (rv w)).length = 1 → lby (rv w) ≠ b))) := by
  induction h with
  | start s hs => exact ⟨hs, .inl rfl⟩
  | @step s e w hr hw ih =>
    refine ⟨nxt_pm ih.1 w, .inr ?_⟩
    have hv := C.ne hw
    have hz := C.size s w hw
    have h1 := ln_pos hv
    have h2 := ln_le (v := rv w)
    have fin : ∀ q, 1 ≤ q → q = ln (rv w ++ e) → (q ≤ W ∨ (q ≤ W + W ∧ ∀ w', w' ∈ lst L2 L3 (nxt s w) → (rr (rv w')).length = 1 → lby (rv w') ≠ lby (rv w))) → ∃ b m, List.replicate (ln (rv w ++ e)) (lby (rv w)) = List.replicate (m + 1) b ∧ (∃ s' w, w ∈ lst L2 L3 s' ∧ b = lby (rv w)) ∧ (m + 1 ≤ W ∨ (m + 1 ≤ W + W ∧ ∀ w', w' ∈ lst L2 L3 (nxt s w) → (rr (rv w')).length = 1 → lby (rv w') ≠ b)) := by
      intro q q1 q2 q3
      refine ⟨lby (rv w), q - 1, by rw [← q2, Nat.sub_add_cancel q1], ⟨s, w, hw, rfl⟩, ?_⟩
      rw [Nat.sub_add_cancel q1]
      exact q3
    rcases ih.2 with rfl | ⟨b, m, rfl, _, hb⟩
    · exact fin (ln (rv w)) h1 (by rw [List.append_nil]) (.inl (by omega))
    · have hl := ln_ahead hv b m
      by_cases c : (rr (rv w)).length = 1 ∧ fby (rv w) = b
      · rw [if_pos c] at hl
        refine fin _ (by omega) hl.symm (.inr ⟨?_, fun w' hw' h' => C.alone s w ih.1 hw c.1 w' hw' h'⟩)
        rcases hb with hb | ⟨_, hb⟩
        · omega
        · exact absurd ((cst_all c.1).2.2.2.symm.trans c.2) (hb w hw c.1)
      · rw [if_neg c] at hl
        exact fin _ h1 hl.symm (.inl (by omega))
/-- Both say the same. -/
theorem Cd.ok_iff (B : Nat) : OkB L2 L3 B ↔ SpecOk L2 L3 B := by
  constructor
  · intro H
    -- what comes behind a reached end
    have low : ∀ s b m, Reach L2 L3 s (List.replicate (m + 1) b) → L0 L2 L3 B s b (m + 1) := by
      intro s b m hr
      have cut : ∀ w, w ∈ lst L2 L3 s → if fby (rv w) = b then fr (rv w) + (m + 1) ≤ B else m + 1 ≤ B := fun w hw => ((rr_bound (C.ne hw) b m B).1 (H s _ w hr hw)).2
      refine ⟨?_, fun w hw hf => ?_⟩
      · obtain ⟨w, hw⟩ := C.some_ s
        have := cut w hw
        split at this
        · omega
        · exact this
      · have := cut w hw
        rw [if_pos hf] at this
        omega
    have high : ∀ s b m, Reach L2 L3 s (List.replicate (m + 1) b) → LL L2 L3 B s b (m + 1) := by
      intro s b m hr
      obtain ⟨l1, l2⟩ := low s b m hr
      refine ⟨l1, fun w hw hf => ?_⟩
      by_cases c : (rr (rv w)).length = 1
      · rw [if_pos c]
        have st := Reach.step hr hw
        have hc := cst_all c
        have hl := ln_ahead (C.ne hw) b m
        rw [if_pos ⟨c, hf⟩] at hl
        rw [hl, ← hc.2.2.2, hf, hc.2.2.1] at st
        have := low _ _ _ (show Reach L2 L3 (nxt s w) (List.replicate (((rv w).length + m) + 1) b) from st)
        rw [show m + 1 + (rv w).length = (rv w).length + m + 1 by omega]
        exact this
      · rw [if_neg c]
        exact l2 w hw hf
    intro s w hs hw
    have h0 := Reach.start (L2 := L2) (L3 := L3) s hs
    refine ⟨fun n hn => H s [] w h0 hw n (by rw [List.append_nil]; exact hn), ?_⟩
    have st := Reach.step h0 hw
    rw [List.append_nil] at st
    have p := ln_pos (C.ne hw)
    have := high (nxt s w) (lby (rv w)) (ln (rv w) - 1) (by rw [Nat.sub_add_cancel p]; exact st)
    rw [Nat.sub_add_cancel p] at this
    exact this
  · intro H
    have inv : ∀ s e, Reach L2 L3 s e → (s = 1 ∨ s = -1) ∧ (e = [] ∨ ∃ b m, e = List.replicate (m + 1) b ∧ LL L2 L3 B s b (m + 1)) := by
      intro s e hr
      induction hr with
      | start s hs => exact ⟨hs, .inl rfl⟩
      | @step s e w hr hw ih =>
        refine ⟨nxt_pm ih.1 w, .inr ?_⟩
        have hv := C.ne hw
        have p := ln_pos hv
        have base : ln (rv w ++ e) = ln (rv w) → ∃ b m, List.replicate (ln (rv w ++ e)) (lby (rv w)) = List.replicate (m + 1) b ∧ LL L2 L3 B (nxt s w) b (m + 1) := by
          intro q
          refine ⟨lby (rv w), ln (rv w) - 1, by rw [q, Nat.sub_add_cancel p], ?_⟩
          rw [Nat.sub_add_cancel p]
          exact (H s w ih.1 hw).2
        rcases ih.2 with rfl | ⟨b, m, rfl, hb1, hb2⟩
        · exact base (by rw [List.append_nil])
        · have hl := ln_ahead hv b m
          by_cases c : (rr (rv w)).length = 1 ∧ fby (rv w) = b
          · rw [if_pos c] at hl
            have hc := cst_all c.1
            have h0 := hb2 w hw c.2
            rw [if_pos c.1] at h0
            refine ⟨b, ln (rv w) + m, by rw [hl, ← hc.2.2.2, c.2]; rfl, ?_⟩
            have e1 : ln (rv w) + m + 1 = m + 1 + (rv w).length := by rw [hc.2.2.1]; omega
            rw [e1]
            refine ⟨h0.1, fun w' hw' hf' => ?_⟩
            have hn : ¬ (rr (rv w')).length = 1 := by
              intro q
              have q1 := C.alone s w ih.1 hw c.1 w' hw' q
              have q2 := (cst_all q).2.2.2
              rw [← hc.2.2.2, c.2, ← q2, hf'] at q1
              exact q1 rfl
            rw [if_neg hn]
            exact h0.2 w' hw' hf'
          · rw [if_neg c] at hl
            exact base hl
    intro s e w hr hw
    obtain ⟨hs, he⟩ := inv s e hr
    have hv := C.ne hw
    rcases he with rfl | ⟨b, m, rfl, hb1, hb2⟩
    · rw [List.append_nil]
      exact (H s w hs hw).1
    · refine (rr_bound hv b m B).2 ⟨(H s w hs hw).1, ?_⟩
      by_cases c : fby (rv w) = b
      · rw [if_pos c]
        have h0 := hb2 w hw c
        by_cases c2 : (rr (rv w)).length = 1
        · rw [if_pos c2] at h0
          have := h0.1
          rw [(cst_all c2).2.1]
          omega
        · rw [if_neg c2] at h0
          omega
      · rw [if_neg c]
        exact hb1
end

def RI (l : List Nat) : List Int := l.map Int.ofNat
/-- The runs of a text. -/
def RS (s : ByteArray) : List Int := RI (rr (rv s)).reverse
theorem RI_len (l : List Nat) : (RI l).length = l.length := by unfold RI; rw [List.length_map]
theorem RI_snoc (l : List Nat) (n : Nat) : RI (l ++ [n]) = RI l ++ [(n : Int)] := by unfold RI; rw [List.map_append]; rfl
theorem rr_len (l : List UInt8) : (rr l).length ≤ l.length := by
  have h1 := rr_sum l
  have h2 := rr_pos l
  have : ∀ R : List Nat, (∀ n ∈ R, 1 ≤ n) → R.length ≤ R.sum := by
    intro R
    induction R with
    | nil => intro _; exact Nat.le_refl _
    | cons a R ih =>
      intro h
      have := ih (fun n hn => h n (List.mem_cons_of_mem _ hn))
      have := h a List.mem_cons_self
      simp only [List.length_cons, List.sum_cons]
      omega
  have := this _ h2
  omega
theorem bump_RI (n : Nat) (t : List Nat) (hn : n ≤ 2000000) (ht : t.length ≤ 2000000) : bump (RI (n :: t).reverse) = RI ((n + 1) :: t).reverse := by
  rw [List.reverse_cons, List.reverse_cons, RI_snoc, RI_snoc]
  have hl : (RI t.reverse).length = t.length := by rw [RI_len, List.length_reverse]
  generalize RI t.reverse = A at hl ⊢
  have hw : wrap64 (((A ++ [(n : Int)]).length : Int) - 1) = (A.length : Int) := by
    rw [List.length_append, List.length_singleton, wrap64_in (by omega) (by omega)]
    omega
  unfold bump
  rw [hw, Int.toNat_natCast]
  have hr : rd (A ++ [(n : Int)]) (A.length : Int) = (n : Int) := by
    rw [rd_get _ _ (by rw [List.length_append, List.length_singleton]; omega)]
    simp
  rw [hr, wrap64_in (by omega) (by omega)]
  simp
theorem bt_eq (s : ByteArray) (i j : Nat) (hi : i < s.data.toList.length) (hj : j < s.data.toList.length) : bt s (i : Int) = bt s (j : Int) ↔ s.data.toList[i] = s.data.toList[j] := by
  rw [bt_l s i hi, bt_l s j hj, ← UInt8.toNat_inj]
  omega
theorem runs_loop (s : ByteArray) (hs : s.size ≤ 1048576) (d : Nat) : ∀ (j : Nat) (o : List Int), j + d = s.size → o = RI (rr (s.data.toList.take j).reverse).reverse →
    Ev (fun k => spec_l01Runs.l0 k s o (j : Int)) (RS s) ∧ Ev (fun k => impl_runLengths.l0 k s o (s.size : Int) (j : Int)) (RS s) := by
  have hz := size_l s
  induction d with
  | zero =>
    intro j o h ho
    rw [List.take_of_length_le (by omega)] at ho
    subst ho
    exact ⟨ev_one (fun k => by rw [spec_l01Runs.l0, if_neg (by omega)]; rfl), ev_one (fun k => by rw [impl_runLengths.l0, if_neg (by omega)]; rfl)⟩
  | succ d ih =>
    intro j o h ho
    have hj : j < s.data.toList.length := by omega
    have hw := wrap_succ (j := j) (n := s.size) (by omega) (by omega)
    have ht : (s.data.toList.take (j + 1)).reverse = s.data.toList[j] :: (s.data.toList.take j).reverse := by rw [take_snoc' _ _ hj, List.reverse_append]; rfl
    have hlo : (rr (s.data.toList.take j).reverse).length ≤ j := by
      have := rr_len (s.data.toList.take j).reverse
      rw [List.length_reverse, List.length_take] at this
      omega
    have ol : o.length ≤ j := by rw [ho, RI_len, List.length_reverse]; exact hlo
    have al : (o ++ [0]).length = o.length + 1 := by simp
    obtain ⟨p1, p2⟩ := last_in (o ++ [0]) (by omega) (by omega)
    have new : bump (o ++ [0]) = RI (1 :: rr (s.data.toList.take j).reverse).reverse := by
      have := bump_RI 0 (rr (s.data.toList.take j).reverse) (by omega) (by omega)
      rw [List.reverse_cons, RI_snoc, ← ho] at this
      exact this
    by_cases c0 : j = 0
    · subst c0
      have e1 : bump (o ++ [0]) = RI (rr (s.data.toList.take (0 + 1)).reverse).reverse := by rw [new, ht]; rfl
      obtain ⟨r1, r2⟩ := ih (0 + 1) _ (by omega) e1
      refine ⟨Ev.step (fun k => ?_) r1, Ev.step (fun k => ?_) r2⟩
      · rw [spec_l01Runs.l0, if_pos (by omega), if_pos (by omega), if_pos (by omega), Option.bind_some, if_pos p1, if_pos p2, hw]; rfl
      · rw [impl_runLengths.l0, if_pos (by omega), if_pos (by omega), if_pos (by omega), Option.bind_some, if_pos p1, if_pos p2, hw]; rfl
    · have hm : wrap64 ((j : Int) - 1) = ((j - 1 : Nat) : Int) := by rw [wrap64_in (by omega) (by omega)]; omega
      have m0 : 0 ≤ wrap64 ((j : Int) - 1) := by rw [hm]; omega
      have m1 : wrap64 ((j : Int) - 1) < (s.size : Int) := by rw [hm]; omega
      have hj1 : j - 1 < s.data.toList.length := by omega
      have hp : (s.data.toList.take j).reverse = s.data.toList[j - 1] :: (s.data.toList.take (j - 1)).reverse := by
        have := take_snoc' s.data.toList (j - 1) hj1
        rw [show j - 1 + 1 = j by omega] at this
        rw [this, List.reverse_append]
        rfl
      obtain ⟨n, t, e, n1, n2, _⟩ := rr_ne (s.data.toList.take (j - 1)).reverse s.data.toList[j - 1]
      have hb := bt_eq s j (j - 1) hj hj1
      rw [← hm] at hb
      by_cases c : bt s (j : Int) = bt s (wrap64 ((j : Int) - 1))
      · have hx := hb.1 c
        have hn : n ≤ 2000000 := by
          have := List.length_take_le (j - 1) s.data.toList
          rw [List.length_cons, List.length_reverse] at n2
          omega
        rw [hp, e] at hlo ho
        have e1 : bump o = RI (rr (s.data.toList.take (j + 1)).reverse).reverse := by
          rw [ht, hp, rr_step e, if_pos hx, ho, bump_RI n t hn (by simp only [List.length_cons] at hlo; omega)]
        obtain ⟨r1, r2⟩ := ih (j + 1) _ (by omega) e1
        have o0 : 0 < o.length := by rw [ho, RI_len, List.length_reverse]; simp
        obtain ⟨t1, t2⟩ := last_in o o0 (by omega)
        refine ⟨Ev.step (fun k => ?_) r1, Ev.step (fun k => ?_) r2⟩
        · rw [spec_l01Runs.l0, if_pos (by omega), if_neg (by omega), if_pos (by omega), if_pos m0, if_pos m1, if_pos c, if_pos t1, if_pos t2, hw]; rfl
        · rw [impl_runLengths.l0, if_pos (by omega), if_neg (by omega), if_pos (by omega), if_pos (by omega), if_pos m0, if_pos m1, if_pos c, if_pos t1, if_pos t2, hw]; rfl
      · have hx : ¬ s.data.toList[j] = s.data.toList[j - 1] := fun q => c (hb.2 q)
        have e1 : bump (o ++ [0]) = RI (rr (s.data.toList.take (j + 1)).reverse).reverse := by
          rw [new, ht, hp, e, rr_step e, if_neg hx]
        obtain ⟨r1, r2⟩ := ih (j + 1) _ (by omega) e1
        refine ⟨Ev.step (fun k => ?_) r1, Ev.step (fun k => ?_) r2⟩
        · rw [spec_l01Runs.l0, if_pos (by omega), if_neg (by omega), if_pos (by omega), if_pos m0, if_pos m1, if_neg c, if_pos (by omega), Option.bind_some, if_pos p1, if_pos p2, hw]; rfl
        · rw [impl_runLengths.l0, if_pos (by omega), if_neg (by omega), if_pos (by omega), if_pos (by omega), if_pos m0, if_pos m1, if_neg c, if_pos (by omega), Option.bind_some, if_pos p1, if_pos p2, hw]; rfl
theorem specRuns_ev (s : ByteArray) (hs : s.size ≤ 1048576) : Ev (fun k => spec_l01Runs.f k s) (RS s) := (runs_loop s hs s.size 0 [] (by omega) (by rw [List.take_zero]; rfl)).1
theorem implRuns_ev (s : ByteArray) (hs : s.size ≤ 1048576) : Ev (fun k => impl_runLengths.f k s) (RS s) := (runs_loop s hs s.size 0 [] (by omega) (by rw [List.take_zero]; rfl)).2
theorem mx_nat (a b : Nat) : mx (a : Int) (b : Int) = ((max a b : Nat) : Int) := by
  unfold mx
  by_cases c : (a : Int) < (b : Int)
  · rw [if_pos c]; omega
  · rw [if_neg c]; omega
theorem max_loop (R : List Nat) (hR : R.length ≤ 1048576) (d : Nat) : ∀ (j m : Nat), j + d = R.length → ∃ v : Nat, Ev (fun k => slices_Max_int64_int64.l0 k (RI R) (m : Int) (j : Int)) (v : Int) ∧ ∀ B, v ≤ B ↔ m ≤ B ∧ ∀ n ∈ R.drop j, n ≤ B := by
  have hl := RI_len R
  induction d with
  | zero =>
    intro j m h
    refine ⟨m, ev_one (fun k => by rw [slices_Max_int64_int64.l0, if_neg (by omega)]), fun B => ?_⟩
    rw [List.drop_eq_nil_of_le (by omega)]
    simp
  | succ d ih =>
    intro j m h
    have hj : j < R.length := by omega
    have hw := wrap_succ hj (by omega)
    have hr : rd (RI R) (j : Int) = ((R[j] : Nat) : Int) := by
      rw [rd_get _ _ (by omega)]
      unfold RI
      rw [List.getElem_map]
      rfl
    obtain ⟨v, v1, v2⟩ := ih (j + 1) (max m R[j]) (by omega)
    refine ⟨v, Ev.step (fun k => by rw [slices_Max_int64_int64.l0, if_pos (by omega), if_pos (by omega), hr, mx_nat, hw]) v1, fun B => ?_⟩
    rw [v2, drop_cons _ _ hj]
    simp only [List.mem_cons, forall_eq_or_imp]
    constructor
    · rintro ⟨q1, q2⟩; exact ⟨by omega, by omega, q2⟩
    · rintro ⟨q1, q2, q3⟩; exact ⟨by omega, q3⟩
/-- The greatest run. -/
theorem max_ev (s : ByteArray) (hs : s.size ≤ 1048576) (h0 : rv s ≠ []) : ∃ v : Nat, Ev (fun k => slices_Max_int64_int64.f k (RS s)) (v : Int) ∧ ∀ B, v ≤ B ↔ ∀ n ∈ rr (rv s), n ≤ B := by
  have hn := rr_nil h0
  have hle := rr_len (rv s)
  have hz : (rv s).length = s.size := by unfold rv; rw [List.length_reverse, ← size_l]
  obtain ⟨R, hR⟩ : ∃ R, R = (rr (rv s)).reverse := ⟨_, rfl⟩
  have hRl : R.length = (rr (rv s)).length := by rw [hR, List.length_reverse]
  have hpos : 0 < R.length := by
    rcases Nat.eq_zero_or_pos R.length with q | q
    · rw [hRl] at q; exact absurd (List.eq_nil_of_length_eq_zero q) hn
    · exact q
  have hl := RI_len R
  have hr : rd (RI R) 0 = ((R[0] : Nat) : Int) := by
    have := rd_get (RI R) 0 (by omega)
    unfold RI at this ⊢
    rw [List.getElem_map] at this
    exact this
  obtain ⟨v, v1, v2⟩ := max_loop R (by omega) (R.length - 1) 1 R[0] (by omega)
  refine ⟨v, ?_, fun B => ?_⟩
  · unfold slices_Max_int64_int64.f RS
    rw [← hR]
    refine ev_neg (by omega) (ev_pos (by omega) ?_)
    rw [hr]
    exact v1
  · rw [v2]
    have e : ∀ n, n ∈ rr (rv s) ↔ n ∈ R := fun n => by rw [hR, List.mem_reverse]
    constructor
    · rintro ⟨q1, q2⟩ n hn
      have := (e n).1 hn
      rw [show R = R.drop 0 from rfl, drop_cons R 0 hpos] at this
      rcases List.mem_cons.1 this with p | p
      · omega
      · exact q2 n p
    · intro q
      exact ⟨q _ ((e _).2 (List.getElem_mem hpos)), fun n hn => q n ((e n).2 (List.mem_of_mem_drop hn))⟩

theorem rv_app (f w : ByteArray) : rv (f ++ w) = rv w ++ rv f := by
  unfold rv
  rw [app_l, List.reverse_append]
theorem rv_len (w : ByteArray) : (rv w).length = w.size := by unfold rv; rw [List.length_reverse, ← size_l]
theorem rd_last (s : ByteArray) (hs : s.size ≤ 1048576) (h0 : rv s ≠ []) : 0 ≤ wrap64 (((RS s).length : Int) - 1) ∧ wrap64 (((RS s).length : Int) - 1) < ((RS s).length : Int) ∧ rd (RS s) (wrap64 (((RS s).length : Int) - 1)) = ((ln (rv s) : Nat) : Int) := by
  have hn := rr_nil h0
  have hle := rr_len (rv s)
  rw [rv_len] at hle
  unfold RS ln
  cases e : rr (rv s) with
  | nil => exact absurd e hn
  | cons n t =>
    rw [e] at hle
    simp only [List.length_cons] at hle
    rw [List.reverse_cons, RI_snoc]
    have hl : (RI t.reverse).length = t.length := by rw [RI_len, List.length_reverse]
    generalize RI t.reverse = A at hl ⊢
    have hw : wrap64 (((A ++ [(n : Int)]).length : Int) - 1) = (A.length : Int) := by
      rw [List.length_append, List.length_singleton, wrap64_in (by omega) (by omega)]
      omega
    rw [hw]
    refine ⟨nat0 _, by rw [List.length_append, List.length_singleton]; omega, ?_⟩
    rw [rd_get _ _ (by rw [List.length_append, List.length_singleton]; omega)]
    simp
def sc (s : Int) (f w : ByteArray) : S80 := ⟨nxt s w, (f ++ w).extract ((f ++ w).size - ln (rv (f ++ w))) (f ++ w).size⟩
def keyf (x : S80) : Int × List UInt8 := (x.f0, x.f1.data.toList)
theorem tail_run (t : ByteArray) (h : rv t ≠ []) : (t.extract (t.size - ln (rv t)) t.size).data.toList = List.replicate (ln (rv t)) (lby (rv t)) := by
  have hz := rv_len t
  have hd : t.data.toList = (rv t).reverse := by unfold rv; rw [List.reverse_reverse]
  rw [ByteArray.data_extract, Array.toList_extract, hd, ← hz]
  generalize rv t = v at h ⊢
  cases v with
  | nil => exact absurd rfl h
  | cons x l =>
    obtain ⟨n, r, e, h1, h2, h3⟩ := rr_ne l x
    have hl : ln (x :: l) = n := by unfold ln; rw [e]; rfl
    have hx : lby (x :: l) = x := rfl
    rw [hl, hx]
    have e1 : (x :: l).reverse.drop ((x :: l).length - n) = ((x :: l).take n).reverse := by
      rw [List.drop_reverse]
      congr 2
      omega
    rw [List.extract_eq_take_drop, e1, h3, List.reverse_replicate, List.take_of_length_le (by rw [List.length_replicate]; omega)]
theorem sc_key (s : Int) (f w : ByteArray) (h : rv w ≠ []) : keyf (sc s f w) = (nxt s w, List.replicate (ln (rv w ++ rv f)) (lby (rv w))) := by
  have hn : rv (f ++ w) ≠ [] := by rw [rv_app]; simp [h]
  have := tail_run (f ++ w) hn
  unfold keyf sc
  rw [this, rv_app, lby_app h]
section
variable (a0 a1 : Int) (L2 L3 : List ByteArray)
theorem inner1 (L : List ByteArray) (s : Int) (f : ByteArray) (sn : List (Int × List UInt8)) (hf : f.size ≤ 100) (hL : ∀ w ∈ L, w.size ≤ 12 ∧ rv w ≠ []) (hn : L.length ≤ 64) (d : Nat) :
    ∀ (j M : Nat) (O : List S80), j + d = L.length → O.length + d ≤ 100000 → ∃ M' : Nat, (∀ B, M' ≤ B ↔ M ≤ B ∧ ∀ w ∈ L.drop j, ∀ n ∈ rr (rv w ++ rv f), n ≤ B) ∧
      ∀ R, Ev (fun k => impl_RunBound.l0 k sn (M' : Int) (O ++ (L.drop j).map (sc s f)) a0 a1 L2 L3) R → Ev (fun k => impl_RunBound.l1 k sn (M : Int) O L (L.length : Int) (j : Int) a0 a1 L2 L3 s f) R := by
  induction d with
  | zero =>
    intro j M O h hO
    refine ⟨M, fun B => ?_, fun R hR => ?_⟩
    · rw [List.drop_eq_nil_of_le (by omega)]
      simp
    · rw [List.drop_eq_nil_of_le (by omega), List.map_nil, List.append_nil] at hR
      exact Ev.step (fun k => by rw [impl_RunBound.l1, if_neg (by omega)]) hR
  | succ d ih =>
    intro j M O h hO
    have hj : j < L.length := by omega
    have hw := wrap_succ hj (by omega)
    have hrd := rdS_get L j hj
    obtain ⟨z1, z2⟩ := hL _ (List.getElem_mem hj)
    rw [drop_cons _ _ hj]
    generalize L[j] = w at hrd z1 z2 ⊢
    have ht : rv (f ++ w) ≠ [] := by rw [rv_app]; simp [z2]
    have hz : (f ++ w).size = f.size + w.size := ByteArray.size_append
    have hts : (f ++ w).size ≤ 1048576 := by omega
    obtain ⟨v, v1, v2⟩ := max_ev (f ++ w) hts ht
    obtain ⟨M', m1, m2⟩ := ih (j + 1) (max M v) (O ++ [sc s f w]) (by omega) (by rw [List.length_append, List.length_singleton]; omega)
    have hr := implRuns_ev (f ++ w) hts
    obtain ⟨q1, q2, q3⟩ := rd_last (f ++ w) hts ht
    have hln : ln (rv (f ++ w)) ≤ (f ++ w).size := by rw [← rv_len]; exact ln_le
    have hcut : wrap64 (((f ++ w).size : Int) - ((ln (rv (f ++ w)) : Nat) : Int)) = (((f ++ w).size - ln (rv (f ++ w)) : Nat) : Int) := by
      rw [wrap64_in (by omega) (by omega)]; omega
    have c1 : (j : Int) < (L.length : Int) := by omega
    have c2 : f.size + w.size ≤ 9223372036854775807 := by omega
    have c3 : O.length < 5864062014805 := by omega
    have c4 : (((f ++ w).size - ln (rv (f ++ w)) : Nat) : Int) ≤ ((f ++ w).size : Int) := by omega
    have hnx := implBehindS_f s w
    refine ⟨M', fun B => ?_, fun R hR => ?_⟩
    · rw [m1]
      have := v2 B
      simp only [List.mem_cons, forall_eq_or_imp]
      rw [← rv_app, ← this]
      constructor
      · rintro ⟨p1, p2⟩; exact ⟨by omega, by omega, p2⟩
      · rintro ⟨p1, p2, p3⟩; exact ⟨by omega, p3⟩
    · rw [List.map_cons] at hR
      have hE := m2 R (by rw [List.append_assoc]; exact hR)
      obtain ⟨K1, h1⟩ := hr
      obtain ⟨K2, h2⟩ := v1
      obtain ⟨K3, h3⟩ := hE
      refine ⟨K1 + K2 + K3 + 1, fun k hk => ?_⟩
      obtain ⟨k, rfl⟩ : ∃ q, k = q + 1 := ⟨k - 1, by omega⟩
      have g1 : impl_runLengths.f k (f ++ w) = some (RS (f ++ w)) := h1 k (by omega)
      have g2 : slices_Max_int64_int64.f k (RS (f ++ w)) = some (v : Int) := h2 k (by omega)
      have g3 := h3 k (by omega)
      clear h1 h2 h3 hR m1 m2 v2
      show impl_RunBound.l1 (k + 1) sn (M : Int) O L (L.length : Int) (j : Int) a0 a1 L2 L3 s f = some R
      rw [impl_RunBound.l1, if_pos c1, if_pos (nat0 j), if_pos c1, hrd, if_pos c2, g1, Option.bind_some, g2, Option.bind_some, if_pos q1, if_pos q2, hnx, Option.bind_some, q3, hcut, if_pos (nat0 _), if_pos c4, if_pos c3, mx_nat, hw, Int.toNat_natCast]
      exact g3
theorem inner101 (L : List ByteArray) (s : Int) (f : ByteArray) (sn : List (Int × List UInt8)) (hf : f.size ≤ 100) (hL : ∀ w ∈ L, w.size ≤ 12 ∧ rv w ≠ []) (hn : L.length ≤ 64) (d : Nat) :
    ∀ (j M : Nat) (O : List S80), j + d = L.length → O.length + d ≤ 100000 → ∃ M' : Nat, (∀ B, M' ≤ B ↔ M ≤ B ∧ ∀ w ∈ L.drop j, ∀ n ∈ rr (rv w ++ rv f), n ≤ B) ∧
      ∀ R, Ev (fun k => impl_RunBound.l0 k sn (M' : Int) (O ++ (L.drop j).map (sc s f)) a0 a1 L2 L3) R → Ev (fun k => impl_RunBound.l101 k sn (M : Int) O L (L.length : Int) (j : Int) a0 a1 L2 L3 s f) R := by
  induction d with
  | zero =>
    intro j M O h hO
    refine ⟨M, fun B => ?_, fun R hR => ?_⟩
    · rw [List.drop_eq_nil_of_le (by omega)]
      simp
    · rw [List.drop_eq_nil_of_le (by omega), List.map_nil, List.append_nil] at hR
      exact Ev.step (fun k => by rw [impl_RunBound.l101, if_neg (by omega)]) hR
  | succ d ih =>
    intro j M O h hO
    have hj : j < L.length := by omega
    have hw := wrap_succ hj (by omega)
    have hrd := rdS_get L j hj
    obtain ⟨z1, z2⟩ := hL _ (List.getElem_mem hj)
    rw [drop_cons _ _ hj]
    generalize L[j] = w at hrd z1 z2 ⊢
    have ht : rv (f ++ w) ≠ [] := by rw [rv_app]; simp [z2]
    have hz : (f ++ w).size = f.size + w.size := ByteArray.size_append
    have hts : (f ++ w).size ≤ 1048576 := by omega
    obtain ⟨v, v1, v2⟩ := max_ev (f ++ w) hts ht
    obtain ⟨M', m1, m2⟩ := ih (j + 1) (max M v) (O ++ [sc s f w]) (by omega) (by rw [List.length_append, List.length_singleton]; omega)
    have hr := implRuns_ev (f ++ w) hts
    obtain ⟨q1, q2, q3⟩ := rd_last (f ++ w) hts ht
    have hln : ln (rv (f ++ w)) ≤ (f ++ w).size := by rw [← rv_len]; exact ln_le
    have hcut : wrap64 (((f ++ w).size : Int) - ((ln (rv (f ++ w)) : Nat) : Int)) = (((f ++ w).size - ln (rv (f ++ w)) : Nat) : Int) := by
      rw [wrap64_in (by omega) (by omega)]; omega
    have c1 : (j : Int) < (L.length : Int) := by omega
    have c2 : f.size + w.size ≤ 9223372036854775807 := by omega
    have c3 : O.length < 5864062014805 := by omega
    have c4 : (((f ++ w).size - ln (rv (f ++ w)) : Nat) : Int) ≤ ((f ++ w).size : Int) := by omega
    have hnx := implBehindS_f s w
    refine ⟨M', fun B => ?_, fun R hR => ?_⟩
    · rw [m1]
      have := v2 B
      simp only [List.mem_cons, forall_eq_or_imp]
      rw [← rv_app, ← this]
      constructor
      · rintro ⟨p1, p2⟩; exact ⟨by omega, by omega, p2⟩
      · rintro ⟨p1, p2, p3⟩; exact ⟨by omega, p3⟩
    · rw [List.map_cons] at hR
      have hE := m2 R (by rw [List.append_assoc]; exact hR)
      obtain ⟨K1, h1⟩ := hr
      obtain ⟨K2, h2⟩ := v1
      obtain ⟨K3, h3⟩ := hE
      refine ⟨K1 + K2 + K3 + 1, fun k hk => ?_⟩
      obtain ⟨k, rfl⟩ : ∃ q, k = q + 1 := ⟨k - 1, by omega⟩
      have g1 : impl_runLengths.f k (f ++ w) = some (RS (f ++ w)) := h1 k (by omega)
      have g2 : slices_Max_int64_int64.f k (RS (f ++ w)) = some (v : Int) := h2 k (by omega)
      have g3 := h3 k (by omega)
      clear h1 h2 h3 hR m1 m2 v2
      show impl_RunBound.l101 (k + 1) sn (M : Int) O L (L.length : Int) (j : Int) a0 a1 L2 L3 s f = some R
      rw [impl_RunBound.l101, if_pos c1, if_pos (nat0 j), if_pos c1, hrd, if_pos c2, g1, Option.bind_some, g2, Option.bind_some, if_pos q1, if_pos q2, hnx, Option.bind_some, q3, hcut, if_pos (nat0 _), if_pos c4, if_pos c3, mx_nat, hw, Int.toNat_natCast]
      exact g3
/-- All ends that there can be. -/
def U : List (Int × List UInt8) := (List.range 25).flatMap fun m => [(1, List.replicate m 48), (1, List.replicate m 49), (-1, List.replicate m 48), (-1, List.replicate m 49)]
theorem U_mem {s : Int} {b : UInt8} {m : Nat} (hs : s = 1 ∨ s = -1) (hb : b = 48 ∨ b = 49) (hm : m ≤ 24) : (s, List.replicate m b) ∈ U := by
  unfold U
  refine List.mem_flatMap.2 ⟨m, List.mem_range.2 (by omega), ?_⟩
  rcases hs with rfl | rfl <;> rcases hb with rfl | rfl <;> simp
def cnt (sn : List (Int × List UInt8)) : Nat := (U.filter (fun u => decide (u ∉ sn))).length
theorem cnt_nil : cnt [] = 100 := by
  unfold cnt
  rw [List.filter_eq_self.2 (fun u _ => by simp)]
  decide +kernel
theorem filter_lt {α : Type} (p q : α → Bool) (l : List α) (hpq : ∀ x, q x = true → p x = true) (x : α) (hx : x ∈ l) (h1 : p x = true) (h2 : q x = false) : (l.filter q).length + 1 ≤ (l.filter p).length := by
  have le : ∀ l : List α, (l.filter q).length ≤ (l.filter p).length := by
    intro l
    induction l with
    | nil => exact Nat.le_refl _
    | cons a l ih =>
      cases e : q a with
      | true => rw [List.filter_cons_of_pos e, List.filter_cons_of_pos (hpq a e)]; simp only [List.length_cons]; omega
      | false =>
        rw [List.filter_cons_of_neg (by rw [e]; exact Bool.false_ne_true)]
        cases e2 : p a with
        | true => rw [List.filter_cons_of_pos e2]; simp only [List.length_cons]; omega
        | false => rw [List.filter_cons_of_neg (by rw [e2]; exact Bool.false_ne_true)]; exact ih
  induction l with
  | nil => cases hx
  | cons a l ih =>
    rcases List.mem_cons.1 hx with rfl | hx
    · rw [List.filter_cons_of_pos h1, List.filter_cons_of_neg (by rw [h2]; exact Bool.false_ne_true)]
      have := le l
      simp only [List.length_cons]
      omega
    · have := ih hx
      cases e : q a with
      | true => rw [List.filter_cons_of_pos e, List.filter_cons_of_pos (hpq a e)]; simp only [List.length_cons]; omega
      | false =>
        rw [List.filter_cons_of_neg (by rw [e]; exact Bool.false_ne_true)]
        cases e2 : p a with
        | true => rw [List.filter_cons_of_pos e2]; simp only [List.length_cons]; omega
        | false => rw [List.filter_cons_of_neg (by rw [e2]; exact Bool.false_ne_true)]; exact this
theorem cnt_cons {sn : List (Int × List UInt8)} {u : Int × List UInt8} (h1 : u ∈ U) (h2 : u ∉ sn) : cnt (u :: sn) + 1 ≤ cnt sn := by
  refine filter_lt _ _ U (fun x hx => ?_) u h1 (decide_eq_true h2) (decide_eq_false (fun q => q List.mem_cons_self))
  exact decide_eq_true (fun q => of_decide_eq_true hx (List.mem_cons_of_mem _ q))
structure DInv (sn : List (Int × List UInt8)) (M : Nat) (O : List S80) : Prop where
  opn : ∀ x ∈ O, Reach L2 L3 (keyf x).1 (keyf x).2
  seen : ∀ u ∈ sn, Reach L2 L3 u.1 u.2
  closed : ∀ u ∈ sn, ∀ w ∈ lst L2 L3 u.1, (nxt u.1 w, List.replicate (ln (rv w ++ u.2)) (lby (rv w))) ∈ sn ∨ ∃ x ∈ O, keyf x = (nxt u.1 w, List.replicate (ln (rv w ++ u.2)) (lby (rv w)))
  st : ∀ s : Int, s = 1 ∨ s = -1 → (s, []) ∈ sn ∨ ∃ x ∈ O, keyf x = (s, [])
  best : ∀ B, M ≤ B ↔ ∀ u ∈ sn, ∀ w ∈ lst L2 L3 u.1, ∀ n ∈ rr (rv w ++ u.2), n ≤ B
  cn : cnt sn + sn.length ≤ 100
theorem DInv.done {sn : List (Int × List UInt8)} {M : Nat} (h : DInv L2 L3 sn M []) (B : Nat) : M ≤ B ↔ OkB L2 L3 B := by
  have all : ∀ s e, Reach L2 L3 s e → (s, e) ∈ sn := by
    intro s e hr
    induction hr with
    | start s hs =>
      rcases h.st s hs with q | ⟨x, hx, _⟩
      · exact q
      · cases hx
    | @step s e w hr hw ih =>
      rcases h.closed (s, e) ih w hw with q | ⟨x, hx, _⟩
      · exact q
      · cases hx
  rw [h.best]
  constructor
  · intro q s e w hr hw n hn
    exact q (s, e) (all s e hr) w hw n hn
  · intro q u hu w hw n hn
    exact q u.1 u.2 w (h.seen u hu) hw n hn
theorem outer {W : Nat} (C : Cd L2 L3 W) (hW : W ≤ 12) (hn2 : L2.length ≤ 64) (hn3 : L3.length ≤ 64) (hb : ∀ s w, w ∈ lst L2 L3 s → lby (rv w) = 48 ∨ lby (rv w) = 49) (N : Nat) :
    ∀ (sn : List (Int × List UInt8)) (M : Nat) (O : List S80), cnt sn * 65 + O.length ≤ N → N ≤ 10000 → DInv L2 L3 sn M O → ∃ M' : Nat, (∀ B, M' ≤ B ↔ OkB L2 L3 B) ∧ Ev (fun k => impl_RunBound.l0 k sn (M : Int) O a0 a1 L2 L3) ((M' : Int), true) := by
  induction N with
  | zero =>
    intro sn M O h _ hI
    have hO : O = [] := List.eq_nil_of_length_eq_zero (by omega)
    subst hO
    exact ⟨M, hI.done, ev_one (fun k => by rw [impl_RunBound.l0, if_neg (by simp)])⟩
  | succ N ih =>
    intro sn M O h hN hI
    rcases List.eq_nil_or_concat O with rfl | ⟨O', x, rfl⟩
    · exact ⟨M, hI.done, ev_one (fun k => by rw [impl_RunBound.l0, if_neg (by simp)])⟩
    rw [List.concat_eq_append] at *
    have hl : (O' ++ [x]).length = O'.length + 1 := by simp
    rw [hl] at h
    have c0 : ((O' ++ [x]).length : Int) > 0 := by omega
    have hw : wrap64 (((O' ++ [x]).length : Int) - 1) = (O'.length : Int) := by rw [hl, wrap64_in (by omega) (by omega)]; omega
    have c2 : (O'.length : Int) < ((O' ++ [x]).length : Int) := by omega
    have c3 : (O'.length : Int) ≤ ((O' ++ [x]).length : Int) := by omega
    have hx : rd_T80 (O' ++ [x]) (O'.length : Int) = x := by unfold rd_T80; rw [Int.toNat_natCast]; simp
    have ht : (O' ++ [x]).take O'.length = O' := by simp
    have hr : Reach L2 L3 x.f0 x.f1.data.toList := hI.opn x (by simp)
    obtain ⟨hs, he⟩ := C.reach hr
    have hsz : x.f1.size ≤ 24 ∧ (x.f0, x.f1.data.toList) ∈ U ∧ rv x.f1 = x.f1.data.toList := by
      rw [size_l]
      unfold rv
      rcases he with e | ⟨b, m, e, ⟨s', w', hw', hb'⟩, hm⟩
      · rw [e]
        exact ⟨by simp, U_mem (m := 0) hs (.inl rfl) (by omega), rfl⟩
      · rw [e]
        have hbb := hb s' w' hw'
        rw [← hb'] at hbb
        refine ⟨by rw [List.length_replicate]; omega, U_mem hs hbb (by omega), by rw [List.reverse_replicate]⟩
    obtain ⟨hz, hU, hrv⟩ := hsz
    have hc := hI.cn
    have cg : -2 < x.f0 ∧ x.f0 < 2 ∧ x.f1.size ≤ 1048576 ∧ sn.length < 1000000 := ⟨by omega, by omega, by omega, by omega⟩
    have start : ∀ R, Ev (fun k => (if (x.f0, x.f1.data.toList) ∈ sn then (impl_RunBound.l0 k sn (M : Int) O' a0 a1 L2 L3) else (if x.f0 < 0 then ((impl_BlockCode_words_neg.f a0 a1 L2 L3 x.f0).bind fun _ => (impl_RunBound.l1 k ((x.f0, x.f1.data.toList) :: sn) (M : Int) O' L2 (L2.length : Int) 0 a0 a1 L2 L3 x.f0 x.f1)) else ((impl_BlockCode_words_pos.f a0 a1 L2 L3 x.f0).bind fun _ => (impl_RunBound.l101 k ((x.f0, x.f1.data.toList) :: sn) (M : Int) O' L3 (L3.length : Int) 0 a0 a1 L2 L3 x.f0 x.f1))))) R → Ev (fun k => impl_RunBound.l0 k sn (M : Int) (O' ++ [x]) a0 a1 L2 L3) R := by
      intro R hR
      refine Ev.step (fun k => ?_) hR
      rw [impl_RunBound.l0, if_pos c0, hw, if_pos (nat0 _), if_pos c2, if_pos c3, Option.bind_some, hx, Int.toNat_natCast, ht, if_pos cg]
    by_cases cs : (x.f0, x.f1.data.toList) ∈ sn
    · have hI' : DInv L2 L3 sn M O' := by
        have up : ∀ u, (u ∈ sn ∨ ∃ y ∈ O' ++ [x], keyf y = u) → u ∈ sn ∨ ∃ y ∈ O', keyf y = u := by
          rintro u (q | ⟨y, hy, e⟩)
          · exact .inl q
          · rcases List.mem_append.1 hy with q | q
            · exact .inr ⟨y, q, e⟩
            · rw [List.mem_singleton.1 q] at e
              exact .inl (by rw [← e]; exact cs)
        exact ⟨fun y hy => hI.opn y (List.mem_append.2 (.inl hy)), hI.seen, fun u hu w hw => up _ (hI.closed u hu w hw), fun s hs => up _ (hI.st s hs), hI.best, hI.cn⟩
      obtain ⟨M', m1, m2⟩ := ih sn M O' (by omega) (by omega) hI'
      exact ⟨M', m1, start _ (ev_pos cs m2)⟩
    · have hcc := cnt_cons hU cs
      have words : ∀ L, L = lst L2 L3 x.f0 → ∀ w ∈ L, w.size ≤ 12 ∧ rv w ≠ [] := by
        intro L hL w hw
        rw [hL] at hw
        have := C.size _ w hw
        rw [rv_len] at this
        exact ⟨by omega, C.ne hw⟩
      have next : ∀ (L : List ByteArray) (M1 : Nat), L = lst L2 L3 x.f0 → L.length ≤ 64 → (∀ B, M1 ≤ B ↔ M ≤ B ∧ ∀ w ∈ L.drop 0, ∀ n ∈ rr (rv w ++ rv x.f1), n ≤ B) →
          ∃ M' : Nat, (∀ B, M' ≤ B ↔ OkB L2 L3 B) ∧ Ev (fun k => impl_RunBound.l0 k ((x.f0, x.f1.data.toList) :: sn) (M1 : Int) (O' ++ (L.drop 0).map (sc x.f0 x.f1)) a0 a1 L2 L3) ((M' : Int), true) := by
        intro L M1 hL hn hM1
        rw [List.drop_zero] at hM1 ⊢
        rw [hrv] at hM1
        have up : ∀ u, (u ∈ sn ∨ ∃ y ∈ O' ++ [x], keyf y = u) → u ∈ (x.f0, x.f1.data.toList) :: sn ∨ ∃ y ∈ O' ++ L.map (sc x.f0 x.f1), keyf y = u := by
          rintro u (q | ⟨y, hy, e⟩)
          · exact .inl (List.mem_cons_of_mem _ q)
          · rcases List.mem_append.1 hy with q | q
            · exact .inr ⟨y, List.mem_append.2 (.inl q), e⟩
            · rw [List.mem_singleton.1 q] at e
              exact .inl (by rw [← e]; exact List.mem_cons_self)
        have keyw : ∀ w ∈ L, keyf (sc x.f0 x.f1 w) = (nxt x.f0 w, List.replicate (ln (rv w ++ x.f1.data.toList)) (lby (rv w))) := by
          intro w hw
          rw [sc_key _ _ _ (words L hL w hw).2, hrv]
        refine ih _ M1 _ ?_ (by omega) ⟨?_, ?_, ?_, ?_, ?_, ?_⟩
        · rw [List.length_append, List.length_map]; omega
        · intro y hy
          rcases List.mem_append.1 hy with q | q
          · exact hI.opn y (List.mem_append.2 (.inl q))
          · obtain ⟨w, hw, rfl⟩ := List.mem_map.1 q
            rw [keyw w hw]
            exact Reach.step hr (by rw [← hL]; exact hw)
        · intro u hu
          rcases List.mem_cons.1 hu with rfl | q
          · exact hr
          · exact hI.seen u q
        · intro u hu w hw
          rcases List.mem_cons.1 hu with rfl | q
          · refine .inr ⟨sc x.f0 x.f1 w, List.mem_append.2 (.inr (List.mem_map.2 ⟨w, by rw [hL]; exact hw, rfl⟩)), keyw w (by rw [hL]; exact hw)⟩
          · exact up _ (hI.closed u q w hw)
        · exact fun s hs => up _ (hI.st s hs)
        · intro B
          rw [hM1, hI.best]
          constructor
          · rintro ⟨p1, p2⟩ u hu w hw n hn
            rcases List.mem_cons.1 hu with rfl | q
            · exact p2 w (by rw [hL]; exact hw) n hn
            · exact p1 u q w hw n hn
          · intro p
            exact ⟨fun u hu w hw n hn => p u (List.mem_cons_of_mem _ hu) w hw n hn, fun w hw n hn => p (x.f0, x.f1.data.toList) List.mem_cons_self w (by rw [← hL]; exact hw) n hn⟩
        · rw [List.length_cons]; omega
      by_cases cn : x.f0 < 0
      · have hL : L2 = lst L2 L3 x.f0 := by unfold lst; rw [if_pos cn]
        obtain ⟨M1, p1, p2⟩ := inner1 a0 a1 L2 L3 L2 x.f0 x.f1 ((x.f0, x.f1.data.toList) :: sn) (by omega) (words L2 hL) hn2 L2.length 0 M O' (by omega) (by omega)
        obtain ⟨M', m1, m2⟩ := next L2 M1 hL hn2 p1
        exact ⟨M', m1, start _ (ev_neg cs (ev_pos cn (ev_to (if_pos cn) (p2 _ m2))))⟩
      · have hL : L3 = lst L2 L3 x.f0 := by unfold lst; rw [if_neg cn]
        obtain ⟨M1, p1, p2⟩ := inner101 a0 a1 L2 L3 L3 x.f0 x.f1 ((x.f0, x.f1.data.toList) :: sn) (by omega) (words L3 hL) hn3 L3.length 0 M O' (by omega) (by omega)
        obtain ⟨M', m1, m2⟩ := next L3 M1 hL hn3 p1
        exact ⟨M', m1, start _ (ev_neg cs (ev_neg cn (ev_to (if_pos cn) (p2 _ m2))))⟩
/-- What the program's RunBound finds. -/
theorem implRun_ev {W : Nat} (C : Cd L2 L3 W) (hW : W ≤ 12) (hn2 : L2.length ≤ 64) (hn3 : L3.length ≤ 64) (hb : ∀ s w, w ∈ lst L2 L3 s → lby (rv w) = 48 ∨ lby (rv w) = 49) :
    ∃ M : Nat, (∀ B, M ≤ B ↔ OkB L2 L3 B) ∧ Ev (fun k => impl_RunBound.l0 k [] 0 ([(⟨(-1), (⟨#[]⟩ : ByteArray)⟩ : S80), (⟨1, (⟨#[]⟩ : ByteArray)⟩ : S80)] : List S80) a0 a1 L2 L3) ((M : Int), true) := by
  refine outer a0 a1 L2 L3 C hW hn2 hn3 hb 6502 [] 0 _ (by rw [cnt_nil]; decide) (by decide) ⟨?_, ?_, ?_, ?_, ?_, ?_⟩
  · intro x hx
    rcases List.mem_cons.1 hx with rfl | hx
    · exact Reach.start (-1) (.inr rfl)
    · rw [List.mem_singleton.1 hx]
      exact Reach.start 1 (.inl rfl)
  · intro u hu; cases hu
  · intro u hu; cases hu
  · rintro s (rfl | rfl)
    · exact .inr ⟨⟨1, ⟨#[]⟩⟩, by simp, rfl⟩
    · exact .inr ⟨⟨-1, ⟨#[]⟩⟩, by simp, rfl⟩
  · intro B
    exact ⟨fun _ u hu => (by cases hu), fun _ => Nat.zero_le _⟩
  · rw [cnt_nil]; decide
end

theorem fr_len {v : List UInt8} (h : v ≠ []) : fr v = v.length ↔ (rr v).length = 1 := by
  constructor
  · intro e
    have hs := rr_split h
    have h1 := rr_sum v
    have h2 := rr_pos v
    rw [hs] at h1 h2 ⊢
    rw [List.sum_append] at h1
    simp only [List.sum_cons, List.sum_nil] at h1
    cases hd : (rr v).dropLast with
    | nil => rfl
    | cons a R =>
      rw [hd] at h1 h2
      have := h2 a (by simp)
      simp only [List.sum_cons] at h1
      omega
  · intro c
    exact (cst_all c).2.1
theorem fr_le {v : List UInt8} (h : v ≠ []) : fr v ≤ v.length := by
  have hs := rr_split h
  have h1 := rr_sum v
  rw [hs, List.sum_append] at h1
  simp only [List.sum_cons, List.sum_nil] at h1
  omega
theorem front_ev (w : ByteArray) (hz : w.size ≤ 12) (h : rv w ≠ []) : Ev (fun k => spec_l03Front.f k w) ((fr (rv w) : Nat) : Int) := by
  unfold spec_l03Front.f
  refine Ev.bind (specRuns_ev w (by omega)) ?_
  have hn := rr_nil h
  have hs := rr_split h
  have hl : (RS w).length = (rr (rv w)).length := by unfold RS; rw [RI_len, List.length_reverse]
  have hp : 0 < (rr (rv w)).length := by
    rcases Nat.eq_zero_or_pos (rr (rv w)).length with q | q
    · exact absurd (List.eq_nil_of_length_eq_zero q) hn
    · exact q
  refine ev_pos (by omega) ?_
  have e : rd (RS w) 0 = ((fr (rv w) : Nat) : Int) := by
    unfold RS
    rw [hs, List.reverse_append]
    rfl
  rw [e]
  exact Ev.now _
theorem bt_first (w : ByteArray) (h : rv w ≠ []) : 0 < (w.size : Int) ∧ bt w 0 = (((fby (rv w)).toNat : Nat) : Int) := by
  have hl := rv_len w
  have hp : 0 < w.data.toList.length := by
    rcases Nat.eq_zero_or_pos w.data.toList.length with q | q
    · exact absurd (by unfold rv; rw [List.eq_nil_of_length_eq_zero q]; rfl) h
    · exact q
  rw [← size_l] at hp
  have hb := bt_l w 0 (by rw [← size_l]; exact hp)
  refine ⟨by omega, ?_⟩
  have e : fby (rv w) = w.data.toList[0]'(by rw [← size_l]; exact hp) := by
    have h' : w.data.toList.reverse ≠ [] := h
    show w.data.toList.reverse.getLastD 0 = _
    rw [getLastD_of h', List.getLast_reverse, List.head_eq_getElem]
  rw [e]
  exact hb
theorem bt_last (w : ByteArray) (W : Nat) (hW : w.size = W) (h : rv w ≠ []) (hs : W ≤ 12) : 0 ≤ wrap64 ((W : Int) - 1) ∧ wrap64 ((W : Int) - 1) < (w.size : Int) ∧ bt w (wrap64 ((W : Int) - 1)) = (((lby (rv w)).toNat : Nat) : Int) := by
  have hp : 0 < w.data.toList.length := by
    rcases Nat.eq_zero_or_pos w.data.toList.length with q | q
    · exact absurd (by unfold rv; rw [List.eq_nil_of_length_eq_zero q]; rfl) h
    · exact q
  have hz := size_l w
  have hw : wrap64 ((W : Int) - 1) = ((W - 1 : Nat) : Int) := by rw [wrap64_in (by omega) (by omega)]; omega
  rw [hw]
  refine ⟨nat0 _, by omega, ?_⟩
  rw [bt_l w (W - 1) (by omega)]
  have e : lby (rv w) = w.data.toList[W - 1]'(by omega) := by
    have h2 : rv w = w.data.toList.reverse := rfl
    unfold lby
    rw [List.headD_eq_head?_getD, h2, List.head?_reverse, List.getLast?_eq_getElem?]
    have e3 : w.data.toList.length - 1 = W - 1 := by omega
    rw [e3, List.getElem?_eq_getElem (by omega)]
    rfl
  rw [e]
section
variable (a0 : Int) (L2 L3 : List ByteArray)
/-- What the words of a list have, in the spec's loops. -/
structure WL (W : Nat) (L : List ByteArray) : Prop where
  len : L.length ≤ 64
  size : ∀ w ∈ L, w.size = W
  ne : ∀ w ∈ L, rv w ≠ []
  bits : ∀ w ∈ L, IB w = true
theorem long_loop (W : Nat) (hW : W ≤ 12) (L : List ByteArray) (hL : WL W L) (s : Int) (b : UInt8) (m : Nat) (hm : m ≤ 100) (Q : ByteArray → Nat → Prop)
    (hQ : ∀ w ∈ L, fby (rv w) = b → (rr (rv w)).length = 1 → ∃ v : Nat, Ev (fun k => spec_l03Longest.f k a0 (W : Int) L2 L3 (nxt s w) ((b.toNat : Nat) : Int) ((m + W : Nat) : Int)) (v : Int) ∧ ∀ B, v ≤ B ↔ Q w B) (d : Nat) :
    ∀ (j best : Nat), j + d = L.length → ∃ v : Nat, (∀ B, v ≤ B ↔ best ≤ B ∧ ∀ w ∈ L.drop j, fby (rv w) = b → if (rr (rv w)).length = 1 then Q w B else m + fr (rv w) ≤ B) ∧
      Ev (fun k => spec_l03Longest.l0 k s ((b.toNat : Nat) : Int) (m : Int) (best : Int) L (j : Int) a0 (W : Int) L2 L3) (v : Int) := by
  induction d with
  | zero =>
    intro j best h
    refine ⟨best, fun B => ?_, ev_one (fun k => by rw [spec_l03Longest.l0, if_neg (by omega)])⟩
    rw [List.drop_eq_nil_of_le (by omega)]
    simp
  | succ d ih =>
    intro j best h
    have hj : j < L.length := by omega
    have hw := wrap_succ hj (by have := hL.len; omega)
    have hrd := rdS_get L j hj
    have hmem := List.getElem_mem hj
    have z1 := hL.size _ hmem
    have z2 := hL.ne _ hmem
    have z3 := hL.bits _ hmem
    have hQw := hQ _ hmem
    rw [drop_cons _ _ hj]
    generalize L[j] = w at hrd z1 z2 z3 hQw ⊢
    have hfle := fr_le z2
    rw [rv_len] at hfle
    have hfl := fr_len z2
    rw [rv_len, z1] at hfl
    obtain ⟨b1, b2⟩ := bt_first w z2
    have hfront := front_ev w (by omega) z2
    have hnx := specNext_ev s w z3
    have c1 : (j : Int) < (L.length : Int) := by omega
    have hcmp : bt w 0 = ((b.toNat : Nat) : Int) ↔ fby (rv w) = b := by
      rw [b2, ← UInt8.toNat_inj]
      omega
    by_cases cf : fby (rv w) = b
    · have cb := hcmp.2 cf
      by_cases cc : (rr (rv w)).length = 1
      · have e1 := hfl.2 cc
        obtain ⟨v, v1, v2⟩ := hQw cf cc
        obtain ⟨v', p1, p2⟩ := ih (j + 1) (max best v) (by omega)
        refine ⟨v', fun B => ?_, ?_⟩
        · rw [p1]
          have := v2 B
          simp only [List.mem_cons, forall_eq_or_imp, cf, cc, if_pos, forall_const]
          constructor
          · rintro ⟨q1, q2⟩; exact ⟨by omega, this.1 (by omega), q2⟩
          · rintro ⟨q1, q2, q3⟩; exact ⟨by have := this.2 q2; omega, q3⟩
        · obtain ⟨K1, h1⟩ := hfront
          obtain ⟨K2, h2⟩ := hnx
          obtain ⟨K3, h3⟩ := v1
          obtain ⟨K4, h4⟩ := p2
          refine ⟨K1 + K2 + K3 + K4 + 1, fun k hk => ?_⟩
          obtain ⟨k, rfl⟩ : ∃ q, k = q + 1 := ⟨k - 1, by omega⟩
          have g1 : spec_l03Front.f k w = some ((fr (rv w) : Nat) : Int) := h1 k (by omega)
          have g2 : spec_l03Next.f k s w = some (nxt s w) := h2 k (by omega)
          have g3 : spec_l03Longest.f k a0 (W : Int) L2 L3 (nxt s w) ((b.toNat : Nat) : Int) ((m + W : Nat) : Int) = some (v : Int) := h3 k (by omega)
          have g4 := h4 k (by omega)
          clear h1 h2 h3 h4 p1 v2 hQw hQ
          have e2 : wrap64 ((m : Int) + ((fr (rv w) : Nat) : Int)) = ((m + W : Nat) : Int) := by rw [e1, wrap64_in (by omega) (by omega)]; omega
          have e3 : ((fr (rv w) : Nat) : Int) = (W : Int) := by rw [e1]
          show spec_l03Longest.l0 (k + 1) s ((b.toNat : Nat) : Int) (m : Int) (best : Int) L (j : Int) a0 (W : Int) L2 L3 = some (v' : Int)
          rw [spec_l03Longest.l0, if_pos c1, if_pos (nat0 j), hrd, if_pos b1, if_pos cb, g1, Option.bind_some, if_pos e3, g2, Option.bind_some, e2, g3, Option.bind_some, l00Max_f, Option.bind_some, mx_nat, hw]
          exact g4
      · have e1 : ¬ fr (rv w) = W := fun q => cc (hfl.1 q)
        obtain ⟨v', p1, p2⟩ := ih (j + 1) (max best (m + fr (rv w))) (by omega)
        refine ⟨v', fun B => ?_, ?_⟩
        · rw [p1]
          simp only [List.mem_cons, forall_eq_or_imp, cf, cc, if_neg, not_false_iff, forall_const]
          constructor
          · rintro ⟨q1, q2⟩; exact ⟨by omega, by simpa using (show m + fr (rv w) ≤ B by omega), q2⟩
          · rintro ⟨q1, q2, q3⟩
            have q4 : m + fr (rv w) ≤ B := by simpa using q2
            exact ⟨by omega, q3⟩
        · obtain ⟨K1, h1⟩ := hfront
          obtain ⟨K4, h4⟩ := p2
          refine ⟨K1 + K4 + 1, fun k hk => ?_⟩
          obtain ⟨k, rfl⟩ : ∃ q, k = q + 1 := ⟨k - 1, by omega⟩
          have g1 : spec_l03Front.f k w = some ((fr (rv w) : Nat) : Int) := h1 k (by omega)
          have g4 := h4 k (by omega)
          clear h1 h4 p1 hQw hQ
          have e2 : wrap64 ((m : Int) + ((fr (rv w) : Nat) : Int)) = ((m + fr (rv w) : Nat) : Int) := by rw [wrap64_in (by omega) (by omega)]; omega
          have e3 : ¬ ((fr (rv w) : Nat) : Int) = (W : Int) := by omega
          show spec_l03Longest.l0 (k + 1) s ((b.toNat : Nat) : Int) (m : Int) (best : Int) L (j : Int) a0 (W : Int) L2 L3 = some (v' : Int)
          rw [spec_l03Longest.l0, if_pos c1, if_pos (nat0 j), hrd, if_pos b1, if_pos cb, g1, Option.bind_some, if_neg e3, e2, l00Max_f, Option.bind_some, mx_nat, hw]
          exact g4
    · have cb : ¬ bt w 0 = ((b.toNat : Nat) : Int) := fun q => cf (hcmp.1 q)
      obtain ⟨v', p1, p2⟩ := ih (j + 1) best (by omega)
      refine ⟨v', fun B => ?_, Ev.step (fun k => ?_) p2⟩
      · rw [p1]
        simp only [List.mem_cons, forall_eq_or_imp, cf, false_implies, true_and]
      · rw [spec_l03Longest.l0, if_pos c1, if_pos (nat0 j), hrd, if_pos b1, if_neg cb, hw]
theorem long_loop100 (W : Nat) (hW : W ≤ 12) (L : List ByteArray) (hL : WL W L) (s : Int) (b : UInt8) (m : Nat) (hm : m ≤ 100) (Q : ByteArray → Nat → Prop)
    (hQ : ∀ w ∈ L, fby (rv w) = b → (rr (rv w)).length = 1 → ∃ v : Nat, Ev (fun k => spec_l03Longest.f k a0 (W : Int) L2 L3 (nxt s w) ((b.toNat : Nat) : Int) ((m + W : Nat) : Int)) (v : Int) ∧ ∀ B, v ≤ B ↔ Q w B) (d : Nat) :
    ∀ (j best : Nat), j + d = L.length → ∃ v : Nat, (∀ B, v ≤ B ↔ best ≤ B ∧ ∀ w ∈ L.drop j, fby (rv w) = b → if (rr (rv w)).length = 1 then Q w B else m + fr (rv w) ≤ B) ∧
      Ev (fun k => spec_l03Longest.l100 k s ((b.toNat : Nat) : Int) (m : Int) (best : Int) L (j : Int) a0 (W : Int) L2 L3) (v : Int) := by
  induction d with
  | zero =>
    intro j best h
    refine ⟨best, fun B => ?_, ev_one (fun k => by rw [spec_l03Longest.l100, if_neg (by omega)])⟩
    rw [List.drop_eq_nil_of_le (by omega)]
    simp
  | succ d ih =>
    intro j best h
    have hj : j < L.length := by omega
    have hw := wrap_succ hj (by have := hL.len; omega)
    have hrd := rdS_get L j hj
    have hmem := List.getElem_mem hj
    have z1 := hL.size _ hmem
    have z2 := hL.ne _ hmem
    have z3 := hL.bits _ hmem
    have hQw := hQ _ hmem
    rw [drop_cons _ _ hj]
    generalize L[j] = w at hrd z1 z2 z3 hQw ⊢
    have hfle := fr_le z2
    rw [rv_len] at hfle
    have hfl := fr_len z2
    rw [rv_len, z1] at hfl
    obtain ⟨b1, b2⟩ := bt_first w z2
    have hfront := front_ev w (by omega) z2
    have hnx := specNext_ev s w z3
    have c1 : (j : Int) < (L.length : Int) := by omega
    have hcmp : bt w 0 = ((b.toNat : Nat) : Int) ↔ fby (rv w) = b := by
      rw [b2, ← UInt8.toNat_inj]
      omega
    by_cases cf : fby (rv w) = b
    · have cb := hcmp.2 cf
      by_cases cc : (rr (rv w)).length = 1
      · have e1 := hfl.2 cc
        obtain ⟨v, v1, v2⟩ := hQw cf cc
        obtain ⟨v', p1, p2⟩ := ih (j + 1) (max best v) (by omega)
        refine ⟨v', fun B => ?_, ?_⟩
        · rw [p1]
          have := v2 B
          simp only [List.mem_cons, forall_eq_or_imp, cf, cc, if_pos, forall_const]
          constructor
          · rintro ⟨q1, q2⟩; exact ⟨by omega, this.1 (by omega), q2⟩
          · rintro ⟨q1, q2, q3⟩; exact ⟨by have := this.2 q2; omega, q3⟩
        · obtain ⟨K1, h1⟩ := hfront
          obtain ⟨K2, h2⟩ := hnx
          obtain ⟨K3, h3⟩ := v1
          obtain ⟨K4, h4⟩ := p2
          refine ⟨K1 + K2 + K3 + K4 + 1, fun k hk => ?_⟩
          obtain ⟨k, rfl⟩ : ∃ q, k = q + 1 := ⟨k - 1, by omega⟩
          have g1 : spec_l03Front.f k w = some ((fr (rv w) : Nat) : Int) := h1 k (by omega)
          have g2 : spec_l03Next.f k s w = some (nxt s w) := h2 k (by omega)
          have g3 : spec_l03Longest.f k a0 (W : Int) L2 L3 (nxt s w) ((b.toNat : Nat) : Int) ((m + W : Nat) : Int) = some (v : Int) := h3 k (by omega)
          have g4 := h4 k (by omega)
          clear h1 h2 h3 h4 p1 v2 hQw hQ
          have e2 : wrap64 ((m : Int) + ((fr (rv w) : Nat) : Int)) = ((m + W : Nat) : Int) := by rw [e1, wrap64_in (by omega) (by omega)]; omega
          have e3 : ((fr (rv w) : Nat) : Int) = (W : Int) := by rw [e1]
          show spec_l03Longest.l100 (k + 1) s ((b.toNat : Nat) : Int) (m : Int) (best : Int) L (j : Int) a0 (W : Int) L2 L3 = some (v' : Int)
          rw [spec_l03Longest.l100, if_pos c1, if_pos (nat0 j), hrd, if_pos b1, if_pos cb, g1, Option.bind_some, if_pos e3, g2, Option.bind_some, e2, g3, Option.bind_some, l00Max_f, Option.bind_some, mx_nat, hw]
          exact g4
      · have e1 : ¬ fr (rv w) = W := fun q => cc (hfl.1 q)
        obtain ⟨v', p1, p2⟩ := ih (j + 1) (max best (m + fr (rv w))) (by omega)
        refine ⟨v', fun B => ?_, ?_⟩
        · rw [p1]
          simp only [List.mem_cons, forall_eq_or_imp, cf, cc, if_neg, not_false_iff, forall_const]
          constructor
          · rintro ⟨q1, q2⟩; exact ⟨by omega, by simpa using (show m + fr (rv w) ≤ B by omega), q2⟩
          · rintro ⟨q1, q2, q3⟩
            have q4 : m + fr (rv w) ≤ B := by simpa using q2
            exact ⟨by omega, q3⟩
        · obtain ⟨K1, h1⟩ := hfront
          obtain ⟨K4, h4⟩ := p2
          refine ⟨K1 + K4 + 1, fun k hk => ?_⟩
          obtain ⟨k, rfl⟩ : ∃ q, k = q + 1 := ⟨k - 1, by omega⟩
          have g1 : spec_l03Front.f k w = some ((fr (rv w) : Nat) : Int) := h1 k (by omega)
          have g4 := h4 k (by omega)
          clear h1 h4 p1 hQw hQ
          have e2 : wrap64 ((m : Int) + ((fr (rv w) : Nat) : Int)) = ((m + fr (rv w) : Nat) : Int) := by rw [wrap64_in (by omega) (by omega)]; omega
          have e3 : ¬ ((fr (rv w) : Nat) : Int) = (W : Int) := by omega
          show spec_l03Longest.l100 (k + 1) s ((b.toNat : Nat) : Int) (m : Int) (best : Int) L (j : Int) a0 (W : Int) L2 L3 = some (v' : Int)
          rw [spec_l03Longest.l100, if_pos c1, if_pos (nat0 j), hrd, if_pos b1, if_pos cb, g1, Option.bind_some, if_neg e3, e2, l00Max_f, Option.bind_some, mx_nat, hw]
          exact g4
    · have cb : ¬ bt w 0 = ((b.toNat : Nat) : Int) := fun q => cf (hcmp.1 q)
      obtain ⟨v', p1, p2⟩ := ih (j + 1) best (by omega)
      refine ⟨v', fun B => ?_, Ev.step (fun k => ?_) p2⟩
      · rw [p1]
        simp only [List.mem_cons, forall_eq_or_imp, cf, false_implies, true_and]
      · rw [spec_l03Longest.l100, if_pos c1, if_pos (nat0 j), hrd, if_pos b1, if_neg cb, hw]
theorem long_f (W : Nat) (hW : W ≤ 12) (h2 : WL W L2) (h3 : WL W L3) (s : Int) (b : UInt8) (m : Nat) (hm : m ≤ 100) (Q : ByteArray → Nat → Prop)
    (hQ : ∀ w ∈ lst L2 L3 s, fby (rv w) = b → (rr (rv w)).length = 1 → ∃ v : Nat, Ev (fun k => spec_l03Longest.f k a0 (W : Int) L2 L3 (nxt s w) ((b.toNat : Nat) : Int) ((m + W : Nat) : Int)) (v : Int) ∧ ∀ B, v ≤ B ↔ Q w B) :
    ∃ v : Nat, (∀ B, v ≤ B ↔ m ≤ B ∧ ∀ w ∈ lst L2 L3 s, fby (rv w) = b → if (rr (rv w)).length = 1 then Q w B else m + fr (rv w) ≤ B) ∧
      Ev (fun k => spec_l03Longest.f k a0 (W : Int) L2 L3 s ((b.toNat : Nat) : Int) (m : Int)) (v : Int) := by
  by_cases cn : s < 0
  · have hL : lst L2 L3 s = L2 := by unfold lst; rw [if_pos cn]
    rw [hL] at hQ ⊢
    obtain ⟨v, v1, v2⟩ := long_loop a0 L2 L3 W hW L2 h2 s b m hm Q hQ L2.length 0 m (by omega)
    rw [List.drop_zero] at v1
    refine ⟨v, v1, Ev.step (fun k => ?_) v2⟩
    rw [spec_l03Longest.f, if_pos cn]
    show (spec_l03List_neg.f a0 (W : Int) L2 L3 s).bind _ = _
    rw [show spec_l03List_neg.f a0 (W : Int) L2 L3 s = some () from if_pos cn]
    try rfl
  · have hL : lst L2 L3 s = L3 := by unfold lst; rw [if_neg cn]
    rw [hL] at hQ ⊢
    obtain ⟨v, v1, v2⟩ := long_loop100 a0 L2 L3 W hW L3 h3 s b m hm Q hQ L3.length 0 m (by omega)
    rw [List.drop_zero] at v1
    refine ⟨v, v1, Ev.step (fun k => ?_) v2⟩
    rw [spec_l03Longest.f, if_neg cn]
    show (spec_l03List_pos.f a0 (W : Int) L2 L3 s).bind _ = _
    rw [show spec_l03List_pos.f a0 (W : Int) L2 L3 s = some () from if_pos cn]
    try rfl
/-- No word of this bit alone follows. -/
theorem long0 (W : Nat) (hW : W ≤ 12) (h2 : WL W L2) (h3 : WL W L3) (s : Int) (b : UInt8) (m : Nat) (hm : m ≤ 100) (hno : ∀ w ∈ lst L2 L3 s, (rr (rv w)).length = 1 → fby (rv w) ≠ b) :
    ∃ v : Nat, (∀ B, v ≤ B ↔ L0 L2 L3 B s b m) ∧ Ev (fun k => spec_l03Longest.f k a0 (W : Int) L2 L3 s ((b.toNat : Nat) : Int) (m : Int)) (v : Int) := by
  obtain ⟨v, v1, v2⟩ := long_f a0 L2 L3 W hW h2 h3 s b m hm (fun _ _ => True) (fun w hw hf hc => absurd hf (hno w hw hc))
  refine ⟨v, fun B => ?_, v2⟩
  rw [v1]
  unfold L0
  constructor
  · rintro ⟨q1, q2⟩
    refine ⟨q1, fun w hw hf => ?_⟩
    have := q2 w hw hf
    rw [if_neg (fun c => hno w hw c hf)] at this
    exact this
  · rintro ⟨q1, q2⟩
    refine ⟨q1, fun w hw hf => ?_⟩
    rw [if_neg (fun c => hno w hw c hf)]
    exact q2 w hw hf
theorem long1 (W : Nat) (C : Cd L2 L3 W) (hW : W ≤ 12) (h2 : WL W L2) (h3 : WL W L3) (s : Int) (hs : s = 1 ∨ s = -1) (b : UInt8) (m : Nat) (hm : m ≤ 50) :
    ∃ v : Nat, (∀ B, v ≤ B ↔ LL L2 L3 B s b m) ∧ Ev (fun k => spec_l03Longest.f k a0 (W : Int) L2 L3 s ((b.toNat : Nat) : Int) (m : Int)) (v : Int) := by
  have hQ : ∀ w ∈ lst L2 L3 s, fby (rv w) = b → (rr (rv w)).length = 1 → ∃ v : Nat, Ev (fun k => spec_l03Longest.f k a0 (W : Int) L2 L3 (nxt s w) ((b.toNat : Nat) : Int) ((m + W : Nat) : Int)) (v : Int) ∧ ∀ B, v ≤ B ↔ L0 L2 L3 B (nxt s w) b (m + (rv w).length) := by
    intro w hw hf hc
    have hl := cst_all hc
    obtain ⟨v, v1, v2⟩ := long0 a0 L2 L3 W hW h2 h3 (nxt s w) b (m + W) (by omega) (fun w' hw' hc' hf' => by
      have := C.alone s w hs hw hc w' hw' hc'
      rw [← hl.2.2.2, hf, ← (cst_all hc').2.2.2, hf'] at this
      exact this rfl)
    refine ⟨v, v2, fun B => ?_⟩
    rw [C.size s w hw]
    exact v1 B
  obtain ⟨v, v1, v2⟩ := long_f a0 L2 L3 W hW h2 h3 s b m (by omega) (fun w B => L0 L2 L3 B (nxt s w) b (m + (rv w).length)) hQ
  exact ⟨v, fun B => v1 B, v2⟩
/-- The loop over a word's runs. -/
theorem runs_best (s : Int) (L : List ByteArray) (j : Int) (W : Nat) (w : ByteArray) (R : List Nat) (hR : R.length ≤ 1000) (d : Nat) : ∀ (i best : Nat), i + d = R.length → ∃ v : Nat, (∀ B, v ≤ B ↔ best ≤ B ∧ ∀ n ∈ R.drop i, n ≤ B) ∧
    ∀ r, Ev (fun k => spec_RunBound.l2 k (v : Int) s L j (RI R) (R.length : Int) a0 (W : Int) L2 L3) r → Ev (fun k => spec_RunBound.l2 k (best : Int) s L j (RI R) (i : Int) a0 (W : Int) L2 L3) r := by
  have hl := RI_len R
  induction d with
  | zero =>
    intro i best h
    obtain rfl : i = R.length := by omega
    refine ⟨best, fun B => ?_, fun r hr => hr⟩
    rw [List.drop_eq_nil_of_le (by omega)]
    simp
  | succ d ih =>
    intro i best h
    have hi : i < R.length := by omega
    have hw := wrap_succ hi (by omega)
    have hr : rd (RI R) (i : Int) = ((R[i] : Nat) : Int) := by
      rw [rd_get _ _ (by omega)]
      unfold RI
      rw [List.getElem_map]
      rfl
    obtain ⟨v, v1, v2⟩ := ih (i + 1) (max best R[i]) (by omega)
    refine ⟨v, fun B => ?_, fun r hr' => Ev.step (fun k => ?_) (v2 r hr')⟩
    · rw [v1, drop_cons _ _ hi]
      simp only [List.mem_cons, forall_eq_or_imp]
      constructor
      · rintro ⟨q1, q2⟩; exact ⟨by omega, by omega, q2⟩
      · rintro ⟨q1, q2, q3⟩; exact ⟨by omega, q3⟩
    · rw [spec_RunBound.l2, if_pos (by omega), if_pos (nat0 i), hr, l00Max_f, Option.bind_some, mx_nat, hw]
theorem words_loop (W : Nat) (C : Cd L2 L3 W) (hW : W ≤ 12) (h2 : WL W L2) (h3 : WL W L3) (s : Int) (hs : s = 1 ∨ s = -1) (L : List ByteArray) (hL : WL W L) (hin : ∀ w ∈ L, w ∈ lst L2 L3 s) (d : Nat) : ∀ (j best : Nat), j + d = L.length →
    ∃ v : Nat, (∀ B, v ≤ B ↔ best ≤ B ∧ ∀ w ∈ L.drop j, (∀ n ∈ rr (rv w), n ≤ B) ∧ LL L2 L3 B (nxt s w) (lby (rv w)) (ln (rv w))) ∧
      ∀ r, Ev (fun k => spec_RunBound.l0 k (v : Int) (wrap64 (s + 2)) a0 (W : Int) L2 L3) r → Ev (fun k => spec_RunBound.l1 k (best : Int) s L (j : Int) a0 (W : Int) L2 L3) r := by
  induction d with
  | zero =>
    intro j best h
    refine ⟨best, fun B => ?_, fun r hr => Ev.step (fun k => by rw [spec_RunBound.l1, if_neg (by omega)]) hr⟩
    rw [List.drop_eq_nil_of_le (by omega)]
    simp
  | succ d ih =>
    intro j best h
    have hj : j < L.length := by omega
    have hw := wrap_succ hj (by have := hL.len; omega)
    have hrd := rdS_get L j hj
    have hmem := List.getElem_mem hj
    have z1 := hL.size _ hmem
    have z2 := hL.ne _ hmem
    have z3 := hL.bits _ hmem
    have z4 := hin _ hmem
    rw [drop_cons _ _ hj]
    generalize L[j] = w at hrd z1 z2 z3 z4 ⊢
    have hruns := specRuns_ev w (by omega)
    have hRl : (rr (rv w)).reverse.length ≤ 1000 := by
      have := rr_len (rv w)
      rw [rv_len] at this
      rw [List.length_reverse]
      omega
    obtain ⟨v1, p1, p2⟩ := runs_best a0 L2 L3 s L (j : Int) W w (rr (rv w)).reverse hRl (rr (rv w)).reverse.length 0 best (by omega)
    have hRI : RI (rr (rv w)).reverse = RS w := rfl
    rw [hRI] at p2
    rw [List.drop_zero] at p1
    obtain ⟨q1, q2, q3⟩ := rd_last w (by omega) z2
    obtain ⟨t1, t2, t3⟩ := bt_last w W z1 z2 hW
    have hlw := ln_le (v := rv w)
    rw [rv_len] at hlw
    obtain ⟨v2, y1, y2⟩ := long1 a0 L2 L3 W C hW h2 h3 (nxt s w) (nxt_pm hs w) (lby (rv w)) (ln (rv w)) (by omega)
    obtain ⟨v3, u1, u2⟩ := ih (j + 1) (max v1 v2) (by omega)
    have hnx := specNext_ev s w z3
    have c1 : (j : Int) < (L.length : Int) := by omega
    have hRS : ((rr (rv w)).reverse.length : Int) = ((RS w).length : Int) := by unfold RS; rw [RI_len]
    refine ⟨v3, fun B => ?_, fun r hr => ?_⟩
    · rw [u1]
      have e1 := p1 B
      have e2 := y1 B
      simp only [List.mem_cons, forall_eq_or_imp]
      simp only [List.mem_reverse] at e1
      rw [← e2]
      constructor
      · rintro ⟨x1, x2⟩
        have := e1.1 (by omega)
        exact ⟨this.1, ⟨this.2, by omega⟩, x2⟩
      · rintro ⟨x1, ⟨x2, x3⟩, x4⟩
        have := e1.2 ⟨x1, x2⟩
        exact ⟨by omega, x4⟩
    · have hE := u2 r hr
      have mid : Ev (fun k => spec_RunBound.l2 k (v1 : Int) s L (j : Int) (RS w) ((rr (rv w)).reverse.length : Int) a0 (W : Int) L2 L3) r := by
        obtain ⟨K1, g1⟩ := hnx
        obtain ⟨K2, g2⟩ := y2
        obtain ⟨K3, g3⟩ := hE
        refine ⟨K1 + K2 + K3 + 1, fun k hk => ?_⟩
        obtain ⟨k, rfl⟩ : ∃ q, k = q + 1 := ⟨k - 1, by omega⟩
        have f1 : spec_l03Next.f k s w = some (nxt s w) := g1 k (by omega)
        have f2 : spec_l03Longest.f k a0 (W : Int) L2 L3 (nxt s w) (((lby (rv w)).toNat : Nat) : Int) ((ln (rv w) : Nat) : Int) = some (v2 : Int) := g2 k (by omega)
        have f3 := g3 k (by omega)
        have cl : ¬ ((rr (rv w)).reverse.length : Int) < ((RS w).length : Int) := by rw [hRS]; exact Int.lt_irrefl _
        show spec_RunBound.l2 (k + 1) (v1 : Int) s L (j : Int) (RS w) ((rr (rv w)).reverse.length : Int) a0 (W : Int) L2 L3 = some r
        rw [spec_RunBound.l2, if_neg cl, if_pos (nat0 j), if_pos c1, hrd, f1, Option.bind_some, if_pos t1, if_pos t2, if_pos q1, if_pos q2, t3, q3, f2, Option.bind_some, l00Max_f, Option.bind_some, mx_nat, hw]
        exact f3
      have st := p2 r mid
      obtain ⟨K1, g1⟩ := hruns
      obtain ⟨K2, g2⟩ := st
      refine ⟨K1 + K2 + 1, fun k hk => ?_⟩
      obtain ⟨k, rfl⟩ : ∃ q, k = q + 1 := ⟨k - 1, by omega⟩
      have f1 : spec_l01Runs.f k w = some (RS w) := g1 k (by omega)
      have f2 := g2 k (by omega)
      show spec_RunBound.l1 (k + 1) (best : Int) s L (j : Int) a0 (W : Int) L2 L3 = some r
      rw [spec_RunBound.l1, if_pos c1, if_pos (nat0 j), hrd, f1, Option.bind_some]
      exact f2
theorem runs_best101 (s : Int) (L : List ByteArray) (j : Int) (W : Nat) (w : ByteArray) (R : List Nat) (hR : R.length ≤ 1000) (d : Nat) : ∀ (i best : Nat), i + d = R.length → ∃ v : Nat, (∀ B, v ≤ B ↔ best ≤ B ∧ ∀ n ∈ R.drop i, n ≤ B) ∧
    ∀ r, Ev (fun k => spec_RunBound.l102 k (v : Int) s L j (RI R) (R.length : Int) a0 (W : Int) L2 L3) r → Ev (fun k => spec_RunBound.l102 k (best : Int) s L j (RI R) (i : Int) a0 (W : Int) L2 L3) r := by
  have hl := RI_len R
  induction d with
  | zero =>
    intro i best h
    obtain rfl : i = R.length := by omega
    refine ⟨best, fun B => ?_, fun r hr => hr⟩
    rw [List.drop_eq_nil_of_le (by omega)]
    simp
  | succ d ih =>
    intro i best h
    have hi : i < R.length := by omega
    have hw := wrap_succ hi (by omega)
    have hr : rd (RI R) (i : Int) = ((R[i] : Nat) : Int) := by
      rw [rd_get _ _ (by omega)]
      unfold RI
      rw [List.getElem_map]
      rfl
    obtain ⟨v, v1, v2⟩ := ih (i + 1) (max best R[i]) (by omega)
    refine ⟨v, fun B => ?_, fun r hr' => Ev.step (fun k => ?_) (v2 r hr')⟩
    · rw [v1, drop_cons _ _ hi]
      simp only [List.mem_cons, forall_eq_or_imp]
      constructor
      · rintro ⟨q1, q2⟩; exact ⟨by omega, by omega, q2⟩
      · rintro ⟨q1, q2, q3⟩; exact ⟨by omega, q3⟩
    · rw [spec_RunBound.l102, if_pos (by omega), if_pos (nat0 i), hr, l00Max_f, Option.bind_some, mx_nat, hw]
theorem words_loop101 (W : Nat) (C : Cd L2 L3 W) (hW : W ≤ 12) (h2 : WL W L2) (h3 : WL W L3) (s : Int) (hs : s = 1 ∨ s = -1) (L : List ByteArray) (hL : WL W L) (hin : ∀ w ∈ L, w ∈ lst L2 L3 s) (d : Nat) : ∀ (j best : Nat), j + d = L.length →
    ∃ v : Nat, (∀ B, v ≤ B ↔ best ≤ B ∧ ∀ w ∈ L.drop j, (∀ n ∈ rr (rv w), n ≤ B) ∧ LL L2 L3 B (nxt s w) (lby (rv w)) (ln (rv w))) ∧
      ∀ r, Ev (fun k => spec_RunBound.l0 k (v : Int) (wrap64 (s + 2)) a0 (W : Int) L2 L3) r → Ev (fun k => spec_RunBound.l101 k (best : Int) s L (j : Int) a0 (W : Int) L2 L3) r := by
  induction d with
  | zero =>
    intro j best h
    refine ⟨best, fun B => ?_, fun r hr => Ev.step (fun k => by rw [spec_RunBound.l101, if_neg (by omega)]) hr⟩
    rw [List.drop_eq_nil_of_le (by omega)]
    simp
  | succ d ih =>
    intro j best h
    have hj : j < L.length := by omega
    have hw := wrap_succ hj (by have := hL.len; omega)
    have hrd := rdS_get L j hj
    have hmem := List.getElem_mem hj
    have z1 := hL.size _ hmem
    have z2 := hL.ne _ hmem
    have z3 := hL.bits _ hmem
    have z4 := hin _ hmem
    rw [drop_cons _ _ hj]
    generalize L[j] = w at hrd z1 z2 z3 z4 ⊢
    have hruns := specRuns_ev w (by omega)
    have hRl : (rr (rv w)).reverse.length ≤ 1000 := by
      have := rr_len (rv w)
      rw [rv_len] at this
      rw [List.length_reverse]
      omega
    obtain ⟨v1, p1, p2⟩ := runs_best101 a0 L2 L3 s L (j : Int) W w (rr (rv w)).reverse hRl (rr (rv w)).reverse.length 0 best (by omega)
    have hRI : RI (rr (rv w)).reverse = RS w := rfl
    rw [hRI] at p2
    rw [List.drop_zero] at p1
    obtain ⟨q1, q2, q3⟩ := rd_last w (by omega) z2
    obtain ⟨t1, t2, t3⟩ := bt_last w W z1 z2 hW
    have hlw := ln_le (v := rv w)
    rw [rv_len] at hlw
    obtain ⟨v2, y1, y2⟩ := long1 a0 L2 L3 W C hW h2 h3 (nxt s w) (nxt_pm hs w) (lby (rv w)) (ln (rv w)) (by omega)
    obtain ⟨v3, u1, u2⟩ := ih (j + 1) (max v1 v2) (by omega)
    have hnx := specNext_ev s w z3
    have c1 : (j : Int) < (L.length : Int) := by omega
    have hRS : ((rr (rv w)).reverse.length : Int) = ((RS w).length : Int) := by unfold RS; rw [RI_len]
    refine ⟨v3, fun B => ?_, fun r hr => ?_⟩
    · rw [u1]
      have e1 := p1 B
      have e2 := y1 B
      simp only [List.mem_cons, forall_eq_or_imp]
      simp only [List.mem_reverse] at e1
      rw [← e2]
      constructor
      · rintro ⟨x1, x2⟩
        have := e1.1 (by omega)
        exact ⟨this.1, ⟨this.2, by omega⟩, x2⟩
      · rintro ⟨x1, ⟨x2, x3⟩, x4⟩
        have := e1.2 ⟨x1, x2⟩
        exact ⟨by omega, x4⟩
    · have hE := u2 r hr
      have mid : Ev (fun k => spec_RunBound.l102 k (v1 : Int) s L (j : Int) (RS w) ((rr (rv w)).reverse.length : Int) a0 (W : Int) L2 L3) r := by
        obtain ⟨K1, g1⟩ := hnx
        obtain ⟨K2, g2⟩ := y2
        obtain ⟨K3, g3⟩ := hE
        refine ⟨K1 + K2 + K3 + 1, fun k hk => ?_⟩
        obtain ⟨k, rfl⟩ : ∃ q, k = q + 1 := ⟨k - 1, by omega⟩
        have f1 : spec_l03Next.f k s w = some (nxt s w) := g1 k (by omega)
        have f2 : spec_l03Longest.f k a0 (W : Int) L2 L3 (nxt s w) (((lby (rv w)).toNat : Nat) : Int) ((ln (rv w) : Nat) : Int) = some (v2 : Int) := g2 k (by omega)
        have f3 := g3 k (by omega)
        have cl : ¬ ((rr (rv w)).reverse.length : Int) < ((RS w).length : Int) := by rw [hRS]; exact Int.lt_irrefl _
        show spec_RunBound.l102 (k + 1) (v1 : Int) s L (j : Int) (RS w) ((rr (rv w)).reverse.length : Int) a0 (W : Int) L2 L3 = some r
        rw [spec_RunBound.l102, if_neg cl, if_pos (nat0 j), if_pos c1, hrd, f1, Option.bind_some, if_pos t1, if_pos t2, if_pos q1, if_pos q2, t3, q3, f2, Option.bind_some, l00Max_f, Option.bind_some, mx_nat, hw]
        exact f3
      have st := p2 r mid
      obtain ⟨K1, g1⟩ := hruns
      obtain ⟨K2, g2⟩ := st
      refine ⟨K1 + K2 + 1, fun k hk => ?_⟩
      obtain ⟨k, rfl⟩ : ∃ q, k = q + 1 := ⟨k - 1, by omega⟩
      have f1 : spec_l01Runs.f k w = some (RS w) := g1 k (by omega)
      have f2 := g2 k (by omega)
      show spec_RunBound.l101 (k + 1) (best : Int) s L (j : Int) a0 (W : Int) L2 L3 = some r
      rw [spec_RunBound.l101, if_pos c1, if_pos (nat0 j), hrd, f1, Option.bind_some]
      exact f2
/-- What the reference's RunBound finds. -/
theorem specRun_ev (W : Nat) (C : Cd L2 L3 W) (hW : W ≤ 12) (h2 : WL W L2) (h3 : WL W L3) :
    ∃ v : Nat, (∀ B, v ≤ B ↔ SpecOk L2 L3 B) ∧ Ev (fun k => spec_RunBound.l0 k 0 (-1) a0 (W : Int) L2 L3) ((v : Int), true) := by
  obtain ⟨v1, p1, p2⟩ := words_loop a0 L2 L3 W C hW h2 h3 (-1) (.inr rfl) L2 h2 (fun w hw => hw) L2.length 0 0 (by omega)
  obtain ⟨v2, q1, q2⟩ := words_loop101 a0 L2 L3 W C hW h2 h3 1 (.inl rfl) L3 h3 (fun w hw => hw) L3.length 0 v1 (by omega)
  rw [List.drop_zero] at p1 q1
  have w1 : wrap64 ((-1 : Int) + 2) = 1 := wrap64_in (by decide) (by decide)
  have w3 : wrap64 ((1 : Int) + 2) = 3 := wrap64_in (by decide) (by decide)
  rw [w1] at p2
  rw [w3] at q2
  refine ⟨v2, fun B => ?_, ?_⟩
  · rw [q1, p1]
    constructor
    · rintro ⟨⟨_, x1⟩, x2⟩ s w hs hw
      rcases hs with rfl | rfl
      · exact x2 w hw
      · exact x1 w hw
    · intro x
      exact ⟨⟨Nat.zero_le _, fun w hw => x (-1) w (.inr rfl) hw⟩, fun w hw => x 1 w (.inl rfl) hw⟩
  · have e3 : Ev (fun k => spec_RunBound.l0 k (v2 : Int) 3 a0 (W : Int) L2 L3) ((v2 : Int), true) := ev_one (fun k => by rw [spec_RunBound.l0, if_neg (by decide)])
    have e1 : Ev (fun k => spec_RunBound.l0 k (v1 : Int) 1 a0 (W : Int) L2 L3) ((v2 : Int), true) := Ev.step (fun k => by rw [spec_RunBound.l0, if_pos (by decide), if_neg (by decide), slpos, Option.bind_some]; rfl) (q2 _ e3)
    exact Ev.step (fun k => by rw [spec_RunBound.l0, if_pos (by decide), if_pos (by decide), slneg, Option.bind_some]; rfl) (p2 _ e1)
end

theorem dsp_const (w : ByteArray) (n : Nat) (b : UInt8) (hn : n ≤ 12) (h : w.data.toList = List.replicate n b) : (b = 49 → dsp w = (n : Int)) ∧ (b = 48 → dsp w = -(n : Int)) := by
  have hz : w.size = n := by rw [size_l, h, List.length_replicate]
  unfold dsp Lib.countByte
  rw [h, hz, List.count_replicate]
  constructor
  · rintro rfl
    rw [if_pos (by decide), wrap64_in (x := 2 * ((n : Nat) : Int)) (by omega) (by omega), wrap64_in (by omega) (by omega)]
    omega
  · rintro rfl
    rw [if_neg (by decide), wrap64_in (x := 2 * ((0 : Nat) : Int)) (by omega) (by omega), wrap64_in (by omega) (by omega)]
    omega
theorem lby_bit {w : ByteArray} (h : rv w ≠ []) (hb : areB w.data.toList = true) : lby (rv w) = 48 ∨ lby (rv w) = 49 := by
  have hm : lby (rv w) ∈ w.data.toList := by
    have : lby (rv w) ∈ rv w := by
      cases e : rv w with
      | nil => exact absurd e h
      | cons x l => exact List.mem_cons_self
    unfold rv at this
    exact List.mem_reverse.1 this
  have := List.all_eq_true.1 hb _ hm
  unfold isBit at this
  rw [Bool.or_eq_true, beq_iff_eq, beq_iff_eq] at this
  rcases this with q | q
  · exact .inl (UInt8.toNat_inj.1 q)
  · exact .inr (UInt8.toNat_inj.1 q)
theorem const_data {w : ByteArray} (h : (rr (rv w)).length = 1) : w.data.toList = List.replicate w.size (lby (rv w)) := by
  have e := (cst_all h).1
  rw [rv_len] at e
  have e2 : w.data.toList = (rv w).reverse := by unfold rv; rw [List.reverse_reverse]
  generalize lby (rv w) = x at e ⊢
  rw [e2, e, List.reverse_replicate]
theorem VC.cd {a0 : Int} {W : Nat} {L2 L3 : List ByteArray} (hv : VC a0 (W : Int) L2 L3) (w1 : 2 ≤ W) (w2 : W ≤ 12) (z2 : ∀ v ∈ L2, v.size = W) (z3 : ∀ v ∈ L3, v.size = W) : Cd L2 L3 W := by
  have hsz : ∀ s w, w ∈ lst L2 L3 s → w.size = W := fun s w hw => by
    rcases lst_mem hw with q | q
    · exact z2 w q
    · exact z3 w q
  have hne : ∀ s w, w ∈ lst L2 L3 s → rv w ≠ [] := fun s w hw e => by
    have h1 := rv_len w
    rw [hsz s w hw, e] at h1
    simp at h1
    omega
  have d2 : ∀ w ∈ L2, (rr (rv w)).length = 1 → lby (rv w) = 49 ∧ dsp w > 0 := by
    intro w hw hc
    have hd := const_data hc
    have hz := z2 w hw
    rw [hz] at hd
    obtain ⟨e1, e2⟩ := dsp_const w W _ w2 hd
    obtain ⟨i, hi, rfl⟩ := List.mem_iff_getElem.1 hw
    obtain ⟨p1, p2, p3, p4⟩ := hv.w2 i hi
    rcases lby_bit (hne (-1) _ hw) p1 with q | q
    · have := e2 q
      rcases p3 with p3 | p3 <;> rw [this] at p3 <;> omega
    · exact ⟨q, by rw [e1 q]; omega⟩
  have d3 : ∀ w ∈ L3, (rr (rv w)).length = 1 → lby (rv w) = 48 ∧ dsp w < 0 := by
    intro w hw hc
    have hd := const_data hc
    have hz := z3 w hw
    rw [hz] at hd
    obtain ⟨e1, e2⟩ := dsp_const w W _ w2 hd
    obtain ⟨i, hi, rfl⟩ := List.mem_iff_getElem.1 hw
    obtain ⟨p1, p2, p3, p4⟩ := hv.w3 i hi
    rcases lby_bit (hne 1 _ hw) p1 with q | q
    · exact ⟨q, by rw [e2 q]; omega⟩
    · have := e1 q
      rcases p3 with p3 | p3 <;> rw [this] at p3 <;> omega
  refine ⟨by omega, fun s w hw => by rw [rv_len, hsz s w hw], fun s => ?_, ?_⟩
  · obtain ⟨h2, h3⟩ := hv.pos
    unfold lst
    by_cases c : s < 0
    · rw [if_pos c]; exact ⟨_, List.getElem_mem h2⟩
    · rw [if_neg c]; exact ⟨_, List.getElem_mem h3⟩
  · intro s w hs hw hc w' hw' hc'
    rcases hs with rfl | rfl
    · have hw3 : w ∈ L3 := hw
      obtain ⟨q1, q2⟩ := d3 w hw3 hc
      have hn : nxt 1 w = -1 := by unfold nxt; rw [if_neg (by omega), if_pos q2]
      rw [hn] at hw'
      have hw2 : w' ∈ L2 := hw'
      rw [(d2 w' hw2 hc').1, q1]
      decide
    · have hw2 : w ∈ L2 := hw
      obtain ⟨q1, q2⟩ := d2 w hw2 hc
      have hn : nxt (-1) w = 1 := by unfold nxt; rw [if_pos q2]
      rw [hn] at hw'
      have hw3 : w' ∈ L3 := hw'
      rw [(d3 w' hw3 hc').1, q1]
      decide
theorem run_both (a0 a1 : Int) (L2 L3 : List ByteArray) (h2 : L2.length ≤ 1048576) (h3 : L3.length ≤ 1048576) (s2 : ∀ s ∈ L2, s.size ≤ 1048576) (s3 : ∀ s ∈ L3, s.size ≤ 1048576) :
    ∃ r, Ev (fun k => spec_RunBound.f k a0 a1 L2 L3) r ∧ Ev (fun k => impl_RunBound.f k a0 a1 L2 L3) r ∧ (r.2 = true → ∃ W : Nat, a1 = (W : Int) ∧ VC a0 a1 L2 L3 ∧ ∀ B : Nat, r.1 ≤ (B : Int) ↔ OkB L2 L3 B) := by
  obtain ⟨r, r1, r2, r3⟩ := code_both a0 a1 L2 L3 h2 h3 s2 s3
  unfold spec_RunBound.f impl_RunBound.f
  cases r with
  | false => exact ⟨_, Ev.bind r1 (ev_neg Bool.false_ne_true (Ev.now _)), Ev.bind r2 (ev_neg Bool.false_ne_true (Ev.now _)), fun h => absurd h Bool.false_ne_true⟩
  | true =>
    have hv := r3 rfl
    obtain ⟨W, rfl, w1, w2, z2, z3⟩ := hv.sizes
    have C := hv.cd w1 w2 z2 z3
    obtain ⟨n2, n3⟩ := hv.le64
    have bits2 : ∀ w ∈ L2, IB w = true := fun w hw => (hv.mem (.inl hw)).1
    have bits3 : ∀ w ∈ L3, IB w = true := fun w hw => (hv.mem (.inr hw)).1
    have W2 : WL W L2 := ⟨n2, z2, fun w hw => C.ne (s := -1) (show w ∈ lst L2 L3 (-1) from hw), bits2⟩
    have W3 : WL W L3 := ⟨n3, z3, fun w hw => C.ne (s := 1) (show w ∈ lst L2 L3 1 from hw), bits3⟩
    have hb : ∀ s w, w ∈ lst L2 L3 s → lby (rv w) = 48 ∨ lby (rv w) = 49 := fun s w hw => lby_bit (C.ne hw) (IB_parts (hv.mem (lst_mem hw)).1).1
    obtain ⟨v, p1, p2⟩ := specRun_ev a0 L2 L3 W C w2 W2 W3
    obtain ⟨M, q1, q2⟩ := implRun_ev a0 (W : Int) L2 L3 C w2 n2 n3 hb
    have e : M = v := by
      have k1 : v ≤ M := (p1 M).2 ((C.ok_iff M).1 ((q1 M).1 (Nat.le_refl _)))
      have k2 : M ≤ v := (q1 v).2 ((C.ok_iff v).2 ((p1 v).1 (Nat.le_refl _)))
      omega
    subst e
    refine ⟨((M : Int), true), Ev.bind r1 (ev_pos rfl p2), Ev.bind r2 (ev_pos rfl q2), fun _ => ⟨W, rfl, hv, fun B => ?_⟩⟩
    rw [← q1 B]
    exact Int.ofNat_le
theorem FnExactRunBound : laws_FnExactRunBound.Pure := by
  intro a0 a1 L2 L3 _ _ n2 z2 n3 z3
  apply Ev.rounds
  unfold laws_FnExactRunBound.f
  obtain ⟨t, e, hp⟩ := szCode_ev a0 a1 L2 L3 n2 z2 n3 z3
  refine Ev.bind e ?_
  by_cases c : t < 0
  · exact ev_pos c (Ev.now _)
  obtain ⟨⟨h2, s2⟩, h3, s3⟩ := hp (by omega)
  have ht := toCode_ev a0 a1 L2 L3 h2 h3
  obtain ⟨⟨v, b⟩, r1, r2, _⟩ := run_both a0 a1 L2 L3 h2 h3 s2 s3
  refine ev_neg c (Ev.bind ht (Ev.bind r1 (Ev.bind ht (Ev.bind r2 (ev_pos rfl ?_)))))
  show Ev (fun k => laws_FnExactRunBound.j0 k (b != b) a0 a1 L2 L3 a0 a1 L2 L3) true
  rw [show (b != b) = false by simp]
  exact Ev.step (fun k => by rw [laws_FnExactRunBound.j0, if_neg Bool.false_ne_true]) (Ev.bind ht (Ev.bind (eqCode_ev a0 a1 L2 L3 h2 h3) (ev_pos rfl (Ev.now _))))

end Go.Proofs.YtegeaoiclepkkaaDoor.Pure
