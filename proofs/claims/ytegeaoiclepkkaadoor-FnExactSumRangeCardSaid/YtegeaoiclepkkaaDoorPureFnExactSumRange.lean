/-
The plain law of FnExactSumRange: both find the same least and greatest sum; conditions: those of the statement.
-/
import Derived.Test.YtegeaoiclepkkaaDoorQFnExactSumRangex8
namespace Go.Proofs.YtegeaoiclepkkaaDoor.Pure
open Go.RowKit Go.Proofs.YtegeaoiclepkkaaDoor.QFnExactSumRange Go.Proofs.YtegeaoiclepkkaaDoorW.PrintWords Go.Proofs.YtegeaoiclepkkaaDoorW.PrintLast Go.Proofs.YtegeaoiclepkkaaDoorW.PrintMore
set_option linter.unusedVariables false

theorem ev_one {α : Type} {g : Nat → Option α} {r : α} (h : ∀ k, g (k + 1) = some r) : Ev g r :=
  ⟨1, fun k hk => by obtain ⟨m, rfl⟩ : ∃ m, k = m + 1 := ⟨k - 1, by omega⟩; exact h m⟩
theorem wrap64_in {x : Int} (h0 : -9223372036854775808 ≤ x) (h1 : x ≤ 9223372036854775807) : wrap64 x = x := by
  unfold wrap64; omega
theorem u64_in {x : Int} (h0 : 0 ≤ x) (h1 : x ≤ 18446744073709551615) : IntKind.u64.wrap x = x := by
  simp [IntKind.wrap, IntKind.bits, IntKind.signed]; omega
theorem i64_in {x : Int} (h0 : -9223372036854775808 ≤ x) (h1 : x ≤ 9223372036854775807) : IntKind.i64.wrap x = x := by
  rw [IntKind.wrap_i64]; omega
theorem and_one (x : Int) : Go.bits .and .i64 x 1 = x % 2 := by
  have h : (BitVec.ofInt 64 x &&& BitVec.ofInt 64 1).toNat = (x % 2).toNat := by
    have e1 : BitVec.ofInt 64 1 = 1#64 := by decide
    rw [e1, BitVec.toNat_and, BitVec.toNat_ofInt]
    have e2 : (1#64).toNat = 1 := by decide
    rw [e2, Nat.and_one_is_mod]
    omega
  show IntKind.i64.wrap (((BitVec.ofInt 64 x &&& BitVec.ofInt 64 1).toNat : Nat) : Int) = x % 2
  rw [h, i64_in (by omega) (by omega)]
  omega
theorem wf_i64 {x : Int} (h : (Lit.int .i64 x).wf = true) : -9223372036854775808 ≤ x ∧ x ≤ 9223372036854775807 := by
  simp [Lit.wf, IntKind.min, IntKind.max, IntKind.signed, IntKind.bits] at h
  omega
theorem pow_pos_int (d : Nat) : (0 : Int) < 2 ^ d := Int.pow_pos (by decide)
theorem pow_le_int {a b : Nat} (h : a ≤ b) : (2 : Int) ^ a ≤ 2 ^ b := by
  have := Nat.pow_le_pow_right (n := 2) (by decide) h
  exact_mod_cast this

theorem ev_pos {α : Type} {c : Prop} [Decidable c] {g h : Nat → Option α} {r : α} (hc : c) (hg : Ev g r) : Ev (fun k => if c then g k else h k) r := by
  obtain ⟨K, hK⟩ := hg
  exact ⟨K, fun k hk => (if_pos hc).trans (hK k hk)⟩
theorem ev_neg {α : Type} {c : Prop} [Decidable c] {g h : Nat → Option α} {r : α} (hc : ¬ c) (hg : Ev h r) : Ev (fun k => if c then g k else h k) r := by
  obtain ⟨K, hK⟩ := hg
  exact ⟨K, fun k hk => (if_neg hc).trans (hK k hk)⟩
theorem ev_some {α β : Type} {f : Nat → α → Option β} {a : α} {r : β} (h : Ev (fun k => f k a) r) : Ev (fun k => (some a).bind (f k)) r := h
theorem ev_to {α β : Type} {x : Option α} {f : Nat → α → Option β} {a : α} {r : β} (e : x = some a) (h : Ev (fun k => f k a) r) : Ev (fun k => x.bind (f k)) r := by subst e; exact h
theorem ev_det {α : Type} {g : Nat → Option α} {r r' : α} (h : Ev g r) (h' : Ev g r') : r = r' := by
  obtain ⟨K, hK⟩ := h
  obtain ⟨K', hK'⟩ := h'
  have h1 := hK (max K K') (Nat.le_max_left _ _)
  have h2 := hK' (max K K') (Nat.le_max_right _ _)
  rw [h1] at h2
  exact Option.some.inj h2
theorem wrap_succ {j n : Nat} (h : j < n) (hn : n ≤ 9223372036854775807) : wrap64 ((j : Int) + 1) = ((j + 1 : Nat) : Int) := by
  rw [wrap64_in (by omega) (by omega)]; omega
theorem nat0 (j : Nat) : (0 : Int) ≤ (j : Int) := Int.natCast_nonneg j
theorem rd_nat (l : List Int) (j : Nat) : rd l (j : Int) = l.getD j 0 := by unfold rd; rw [Int.toNat_natCast]
theorem rd_get (l : List Int) (j : Nat) (h : j < l.length) : rd l (j : Int) = l[j] := by rw [rd_nat, List.getD_eq_getElem?_getD, List.getElem?_eq_getElem h]; rfl
theorem drop_cons {α : Type} (l : List α) (j : Nat) (h : j < l.length) : l.drop j = l[j] :: l.drop (j + 1) := List.drop_eq_getElem_cons h
theorem take_snoc' {α : Type} (l : List α) (j : Nat) (h : j < l.length) : l.take (j + 1) = l.take j ++ [l[j]] := List.take_succ_eq_append_getElem h
theorem set_take {α : Type} (acc : List α) (j : Nat) (x : α) (h : j < acc.length) : (acc.set j x).take (j + 1) = acc.take j ++ [x] := by
  rw [List.take_set, List.take_succ_eq_append_getElem h, List.set_append_right _ _ (by simp; omega)]
  have : (acc.take j).length = j := by rw [List.length_take]; omega
  rw [this, Nat.sub_self]
  rfl
theorem take_all {α : Type} {a b : List α} {n : Nat} (ha : a.length = n) (hb : b.length = n) (h : a.take n = b.take n) : a = b := by
  rw [List.take_of_length_le (by omega), List.take_of_length_le (by omega)] at h; exact h
theorem w01 : wrap64 (0 + 1) = 1 := by unfold wrap64; decide
theorem w11 : wrap64 (1 + 1) = 2 := by unfold wrap64; decide

theorem spec_in (a b c : Int) : spec_l00In.f a b c = some (decide (b ≤ a ∧ a ≤ c)) := by
  unfold spec_l00In.f
  by_cases h : a ≥ b
  · rw [if_pos h]; congr 1; have : b ≤ a := h; simp [this]
  · rw [if_neg h]; congr 1; have : ¬ b ≤ a := h; simp [this]
theorem impl_in (a b c : Int) : impl_within.f a b c = some (decide (b ≤ a ∧ a ≤ c)) := by
  unfold impl_within.f
  by_cases h : a ≥ b
  · rw [if_pos h]; congr 1; have : b ≤ a := h; simp [this]
  · rw [if_neg h]; congr 1; have : ¬ b ≤ a := h; simp [this]

def isBit (b : UInt8) : Bool := b.toNat == 48 || b.toNat == 49
def areB (l : List UInt8) : Bool := l.all isBit
theorem size_l (s : ByteArray) : s.size = s.data.toList.length := by rw [Array.length_toList]; rfl
theorem bt_l (s : ByteArray) (j : Nat) (h : j < s.data.toList.length) : bt s (j : Int) = ((s.data.toList[j].toNat : Nat) : Int) := by
  have h2 : ((j : Int)).toNat < s.size := by rw [Int.toNat_natCast, size_l]; exact h
  have h3 : j < s.data.size := by rw [Array.length_toList] at h; exact h
  have e : s[((j : Int)).toNat]'h2 = s.data[j] := rfl
  rw [← bt_at s j h2, e, Array.getElem_toList]
theorem cs_bit (b : UInt8) : ([48, 49] : List UInt8).contains b = isBit b := by
  have h1 : (b == 48) = (b.toNat == 48) := by rw [Bool.eq_iff_iff]; simp [← UInt8.toNat_inj]
  have h2 : (b == 49) = (b.toNat == 49) := by rw [Bool.eq_iff_iff]; simp [← UInt8.toNat_inj]
  unfold isBit
  rw [← h1, ← h2]
  show (match b == 48 with | true => true | false => (match b == 49 with | true => true | false => false)) = (b == 48 || b == 49)
  cases (b == 48) <;> cases (b == 49) <;> rfl
theorem drop_nil {p : UInt8 → Bool} (l : List UInt8) : l.dropWhile p = [] ↔ ∀ x ∈ l, p x = true := by
  induction l with
  | nil => simp
  | cons a t ih =>
    rw [List.dropWhile_cons]
    cases e : p a with
    | true => rw [if_pos rfl, ih]; simp [e]
    | false => rw [if_neg (by decide)]; simp [e]
theorem drop_all {p : UInt8 → Bool} (l : List UInt8) (h : (l.dropWhile p).all p = true) : l.all p = true := by
  induction l with
  | nil => rfl
  | cons a t ih =>
    rw [List.dropWhile_cons] at h
    cases e : p a with
    | true => rw [e, if_pos rfl] at h; rw [List.all_cons, e, ih h]; rfl
    | false => rw [e, if_neg (by decide)] at h; exact h
theorem trim_nil (l : List UInt8) : (Lib.trimS l [48, 49] == []) = areB l := by
  have e : (fun b => ([48, 49] : List UInt8).contains b) = isBit := funext cs_bit
  unfold Lib.trimS Lib.trimLeftS Lib.trimRightS areB
  rw [e]
  rw [Bool.eq_iff_iff, beq_iff_eq, drop_nil]
  constructor
  · intro h
    have h1 : (l.reverse.dropWhile isBit).all isBit = true := List.all_eq_true.2 (fun x hx => h x (List.mem_reverse.2 hx))
    have h2 := drop_all _ h1
    rw [List.all_reverse] at h2
    exact h2
  · intro h x hx
    have h3 := List.mem_reverse.1 hx
    have h4 : x ∈ l.reverse := (List.dropWhile_sublist _).subset h3
    exact List.all_eq_true.1 h x (List.mem_reverse.1 h4)

theorem specBits_loop (s : ByteArray) (hn : s.size ≤ 9223372036854775807) (d : Nat) : ∀ j : Nat, j + d = s.data.toList.length → Ev (fun k => spec_l01Bits.l0 k s (j : Int)) (areB (s.data.toList.drop j) && decide ((s.size : Int) ≤ 400)) := by
  have hs := size_l s
  induction d with
  | zero =>
    intro j h
    rw [List.drop_eq_nil_of_le (by omega)]
    exact ev_one (fun k => by rw [spec_l01Bits.l0, if_neg (by omega)]; rfl)
  | succ d ih =>
    intro j h
    have hj : j < s.data.toList.length := by omega
    have hb := bt_l s j hj
    have hw := wrap_succ hj (by omega)
    rw [drop_cons _ _ hj]
    unfold areB
    rw [List.all_cons]
    by_cases c1 : bt s (j : Int) = 48
    · have e : isBit s.data.toList[j] = true := by unfold isBit; have : s.data.toList[j].toNat = 48 := by omega
                                                   rw [this]; rfl
      rw [e, Bool.true_and]
      exact Ev.step (fun k => by rw [spec_l01Bits.l0, if_pos (by omega), if_pos (by omega), if_pos c1, hw]) (ih (j + 1) (by omega))
    · by_cases c2 : bt s (j : Int) = 49
      · have e : isBit s.data.toList[j] = true := by unfold isBit; have : s.data.toList[j].toNat = 49 := by omega
                                                     rw [this]; rfl
        rw [e, Bool.true_and]
        exact Ev.step (fun k => by rw [spec_l01Bits.l0, if_pos (by omega), if_pos (by omega), if_neg c1, if_pos c2, hw]) (ih (j + 1) (by omega))
      · have e : isBit s.data.toList[j] = false := by
          unfold isBit
          obtain ⟨n, hn⟩ : ∃ n, n = s.data.toList[j].toNat := ⟨_, rfl⟩
          rw [← hn] at hb ⊢
          have h1 : (n == 48) = false := beq_eq_false_iff_ne.2 (by omega)
          have h2 : (n == 49) = false := beq_eq_false_iff_ne.2 (by omega)
          rw [h1, h2]; rfl
        rw [e, Bool.false_and, Bool.false_and]
        exact ev_one (fun k => by rw [spec_l01Bits.l0, if_pos (by omega), if_pos (by omega), if_neg c1, if_neg c2])
def IB (s : ByteArray) : Bool := areB s.data.toList && decide ((s.size : Int) ≤ 400)
theorem specBits_ev (s : ByteArray) (hn : s.size ≤ 9223372036854775807) : Ev (fun k => spec_l01Bits.f k s) (IB s) := specBits_loop s hn s.data.toList.length 0 (by omega)

theorem areBits_f (s : ByteArray) (hn : s.size ≤ 9223372036854775807) : impl_areBits.f s = some (areB s.data.toList) := by
  unfold impl_areBits.f strings_Trim.f
  rw [if_pos ⟨rfl, hn⟩, Option.bind_some]
  have e : (⟨(Lib.trimS s.data.toList [48, 49]).toArray⟩ : ByteArray).toList = Lib.trimS s.data.toList [48, 49] := by
    rw [Lib.toList_data]
  rw [e, ← trim_nil]

theorem ones_loop (s : ByteArray) (hn : s.size ≤ 1000) (hb : areB s.data.toList = true) (d : Nat) : ∀ (j : Nat) (acc : Int), j + d = s.size → 0 ≤ acc → acc ≤ j →
    Ev (fun k => spec_l01Ones.l0 k s acc (j : Int)) (acc + Lib.countByte (s.data.toList.drop j) 49) := by
  have hs := size_l s
  induction d with
  | zero =>
    intro j acc h _ _
    rw [List.drop_eq_nil_of_le (by omega)]
    exact ev_one (fun k => by rw [spec_l01Ones.l0, if_neg (by omega)]; simp [Lib.countByte])
  | succ d ih =>
    intro j acc h h0 h1
    have hj : j < s.data.toList.length := by omega
    have hw := wrap_succ (j := j) (n := s.size) (by omega) (by omega)
    have hbt := bt_l s j hj
    have hbit : s.data.toList[j].toNat = 48 ∨ s.data.toList[j].toNat = 49 := by
      have := List.all_eq_true.1 hb _ (List.getElem_mem hj)
      unfold isBit at this
      rw [Bool.or_eq_true, beq_iff_eq, beq_iff_eq] at this
      exact this
    rw [drop_cons _ _ hj]
    rcases hbit with hbit | hbit
    · have e0 : ((bt s (j : Int)) - 48) % 256 = 0 := by omega
      have ew : wrap64 (acc + 0) = acc := by rw [Int.add_zero, wrap64_in (by omega) (by omega)]
      have ne : (s.data.toList[j] == 49) = false := by
        rw [beq_eq_false_iff_ne]
        intro hh
        rw [hh] at hbit
        exact absurd hbit (by decide)
      have ec : Lib.countByte (s.data.toList[j] :: s.data.toList.drop (j + 1)) 49 = Lib.countByte (s.data.toList.drop (j + 1)) 49 := by unfold Lib.countByte; rw [List.count_cons, ne]; rfl
      rw [ec]
      exact Ev.step (fun k => by rw [spec_l01Ones.l0, if_pos (by omega), if_pos (by omega), e0, ew, hw]) (ih (j + 1) acc (by omega) h0 (by omega))
    · have e0 : ((bt s (j : Int)) - 48) % 256 = 1 := by omega
      have ew : wrap64 (acc + 1) = acc + 1 := wrap64_in (by omega) (by omega)
      have ne : s.data.toList[j] = 49 := by rw [← UInt8.toNat_inj]; exact hbit
      have ec : ((Lib.countByte (s.data.toList[j] :: s.data.toList.drop (j + 1)) 49 : Nat) : Int) = 1 + ((Lib.countByte (s.data.toList.drop (j + 1)) 49 : Nat) : Int) := by unfold Lib.countByte; rw [List.count_cons, ne]; simp; omega
      have := ih (j + 1) (acc + 1) (by omega) (by omega) (by omega)
      rw [ec, ← Int.add_assoc]
      exact Ev.step (fun k => by rw [spec_l01Ones.l0, if_pos (by omega), if_pos (by omega), e0, ew, hw]) this

theorem rdS_get (l : List ByteArray) (j : Nat) (h : j < l.length) : rdOf ByteArray.empty l (j : Int) = l[j] := by
  unfold rdOf; rw [Int.toNat_natCast, List.getD_eq_getElem?_getD, List.getElem?_eq_getElem h]; rfl
theorem toStringS_loop (l : List ByteArray) (hn : l.length ≤ 1048576) (d : Nat) : ∀ (j : Nat) (acc : List ByteArray), j + d = l.length → acc.length = l.length → acc.take j = l.take j →
    Ev (fun k => laws_toStringS.l0 k l acc (j : Int)) l := by
  induction d with
  | zero =>
    intro j acc h ha ht
    have e : acc = l := take_all (n := j) (by omega) (by omega) ht
    exact ev_one (fun k => by rw [laws_toStringS.l0, if_neg (by omega), e])
  | succ d ih =>
    intro j acc h ha ht
    have hj : j < l.length := by omega
    have hw := wrap_succ hj (by omega)
    have hi := ih (j + 1) (acc.set j l[j]) (by omega) (by rw [List.length_set]; exact ha) (by rw [set_take _ _ _ (by omega), ht, take_snoc' _ _ hj])
    exact Ev.step (fun k => by rw [laws_toStringS.l0, if_pos (by omega), if_pos (by omega), if_pos (by omega), rdS_get _ _ hj, Int.toNat_natCast, hw]) hi
theorem toStringS_ev (l : List ByteArray) (hn : l.length ≤ 1048576) : Ev (fun k => laws_toStringS.f k l) l := by
  refine Ev.congr (fun k => ?_) (toStringS_loop l hn l.length 0 (List.replicate l.length ⟨#[]⟩) (by omega) (by simp) rfl)
  unfold laws_toStringS.f
  rw [if_pos (by omega), Int.toNat_natCast, if_pos (by omega)]
  rfl
theorem eqStringS_loop (l : List ByteArray) (hn : l.length ≤ 1048576) (d : Nat) : ∀ j : Nat, j + d = l.length → Ev (fun k => laws_eqStringS.l0 k l l (j : Int)) true := by
  induction d with
  | zero => intro j h; exact ev_one (fun k => by rw [laws_eqStringS.l0, if_neg (by omega)])
  | succ d ih =>
    intro j h
    refine Ev.step (fun k => ?_) (ih (j + 1) (by omega))
    rw [laws_eqStringS.l0, if_pos (by omega), if_pos (by omega), if_pos (by omega), if_pos rfl, wrap_succ (n := l.length) (by omega) (by omega)]
theorem eqStringS_ev (l : List ByteArray) (hn : l.length ≤ 1048576) : Ev (fun k => laws_eqStringS.f k l l) true := by
  refine Ev.congr (fun k => ?_) (eqStringS_loop l hn l.length 0 (by omega))
  unfold laws_eqStringS.f
  rw [if_pos rfl]
  rfl
theorem szStringS_loop (l : List ByteArray) (hn : l.length ≤ 9223372036854775807) (hl : ∀ s ∈ l, s.size ≤ 9223372036854775807) (d : Nat) : ∀ (j : Nat) (left : Int), j + d = l.length → 0 ≤ left → left ≤ 1048576 →
    (∃ r, Ev (fun k => laws_szStringS.l0 k l left (j : Int)) r ∧ r ≤ left ∧ (0 ≤ r → ∀ x ∈ l.drop j, x.size ≤ 1048576)) := by
  induction d with
  | zero =>
    intro j left h h0 h1
    refine ⟨left, ev_one (fun k => by rw [laws_szStringS.l0, if_neg (by omega)]), Int.le_refl _, fun _ x hx => ?_⟩
    rw [List.drop_eq_nil_of_le (by omega)] at hx
    cases hx
  | succ d ih =>
    intro j left h h0 h1
    have hj : j < l.length := by omega
    have hlen := hl _ (List.getElem_mem hj)
    have hw : wrap64 (left - (l[j].size : Int)) = left - (l[j].size : Int) := wrap64_in (by omega) (by omega)
    by_cases c : left - (l[j].size : Int) < 0
    · refine ⟨-1, ev_one (fun k => ?_), by omega, fun h => by omega⟩
      rw [laws_szStringS.l0, if_pos (by omega), if_pos (by omega), rdS_get _ _ hj, hw, if_pos c]
    · obtain ⟨r, hr, hle, hp⟩ := ih (j + 1) (left - (l[j].size : Int)) (by omega) (by omega) (by omega)
      refine ⟨r, Ev.step (fun k => ?_) hr, by omega, fun h0 x hx => ?_⟩
      · rw [laws_szStringS.l0, if_pos (by omega), if_pos (by omega), rdS_get _ _ hj, hw, if_neg c, wrap_succ hj (by omega)]
      · rw [drop_cons _ _ hj] at hx
        rcases List.mem_cons.1 hx with rfl | hx
        · omega
        · exact hp h0 x hx
theorem szStringS_ev (l : List ByteArray) (hn : l.length ≤ 9223372036854775807) (hl : ∀ s ∈ l, s.size ≤ 9223372036854775807) (left : Int) (h0 : 0 ≤ left) (h1 : left ≤ 1048576) :
    ∃ r, Ev (fun k => laws_szStringS.f k l left) r ∧ r ≤ left ∧ (0 ≤ r → l.length ≤ 1048576 ∧ ∀ x ∈ l, x.size ≤ 1048576) := by
  have hw : wrap64 (left - (l.length : Int)) = left - (l.length : Int) := wrap64_in (by omega) (by omega)
  by_cases c : left - (l.length : Int) < 0
  · refine ⟨-1, Ev.congr (fun k => ?_) (Ev.now _), by omega, fun h => by omega⟩
    unfold laws_szStringS.f
    rw [hw, if_pos c]
  · obtain ⟨r, hr, hle, hp⟩ := szStringS_loop l hn hl l.length 0 (left - (l.length : Int)) (by omega) (by omega) (by omega)
    refine ⟨r, Ev.congr (fun k => ?_) hr, by omega, fun h => ⟨by omega, fun x hx => hp h x (by simpa using hx)⟩⟩
    unfold laws_szStringS.f
    rw [hw, if_neg c]
    rfl
theorem idx_both (L : List ByteArray) (s : ByteArray) (hn : L.length ≤ 1048576) (d : Nat) : ∀ j : Nat, j + d = L.length → ∃ r, Ev (fun k => spec_l03Index.l0 k L s (j : Int)) r ∧ Ev (fun k => slices_Index_string_string.l0 k L s (L.length : Int) (j : Int)) r ∧ (r ≥ 0 ↔ s.toList ∈ (L.drop j).map ByteArray.toList) ∧ (r < 0 → r = -1) ∧ (0 ≤ r → ∃ i : Nat, r = i ∧ j ≤ i ∧ ∃ h : i < L.length, L[i].toList = s.toList) := by
  induction d with
  | zero =>
    intro j h
    refine ⟨-1, ev_one (fun k => by rw [spec_l03Index.l0, if_neg (by omega)]), ev_one (fun k => by rw [slices_Index_string_string.l0, if_neg (by omega)]), ?_, fun _ => rfl, fun h => by omega⟩
    rw [List.drop_eq_nil_of_le (by omega)]; simp
  | succ d ih =>
    intro j h
    have hj : j < L.length := by omega
    have hw := wrap_succ hj (by omega)
    rw [drop_cons _ _ hj, List.map_cons, List.mem_cons]
    by_cases c : L[j].toList = s.toList
    · exact ⟨(j : Int), ev_one (fun k => by rw [spec_l03Index.l0, if_pos (by omega), if_pos (by omega), rdS_get _ _ hj, if_pos c]), ev_one (fun k => by rw [slices_Index_string_string.l0, if_pos (by omega), if_pos (by omega), if_pos (by omega), rdS_get _ _ hj, if_pos c.symm]), ⟨fun _ => .inl c.symm, fun _ => by omega⟩, fun h => by omega, fun _ => ⟨j, rfl, Nat.le_refl _, hj, c⟩⟩
    · obtain ⟨r, r1, r2, r3, r4, r5⟩ := ih (j + 1) (by omega)
      exact ⟨r, Ev.step (fun k => by rw [spec_l03Index.l0, if_pos (by omega), if_pos (by omega), rdS_get _ _ hj, if_neg c, hw]) r1, Ev.step (fun k => by rw [slices_Index_string_string.l0, if_pos (by omega), if_pos (by omega), if_pos (by omega), rdS_get _ _ hj, if_neg (fun e => c e.symm), hw]) r2, r3.trans ⟨.inr, fun h => h.resolve_left (fun e => c e.symm)⟩, r4, fun h0 => by
        obtain ⟨i, e1, e2, e3⟩ := r5 h0
        exact ⟨i, e1, by omega, e3⟩⟩

def dsp (s : ByteArray) : Int := wrap64 ((wrap64 (2 * ((Lib.countByte s.data.toList 49 : Nat) : Int))) - (s.size : Int))
theorem disp_f (s : ByteArray) : impl_disparity.f s = some (dsp s) := by
  unfold impl_disparity.f strings_Count.f
  rw [if_pos rfl]
  rfl
theorem ones_any (s : ByteArray) (hn : s.size ≤ 1048576) (d : Nat) : ∀ (j : Nat) (acc : Int), j + d = s.size → ∃ v, Ev (fun k => spec_l01Ones.l0 k s acc (j : Int)) v := by
  induction d with
  | zero => intro j acc h; exact ⟨acc, ev_one (fun k => by rw [spec_l01Ones.l0, if_neg (by omega)])⟩
  | succ d ih =>
    intro j acc h
    have hw := wrap_succ (j := j) (n := s.size) (by omega) (by omega)
    obtain ⟨v, hv⟩ := ih (j + 1) (wrap64 (acc + (((bt s (j : Int)) - 48) % 256))) (by omega)
    exact ⟨v, Ev.step (fun k => by rw [spec_l01Ones.l0, if_pos (by omega), if_pos (by omega), hw]) hv⟩
theorem IB_parts {s : ByteArray} (h : IB s = true) : areB s.data.toList = true ∧ s.size ≤ 400 := by
  unfold IB at h
  rw [Bool.and_eq_true, decide_eq_true_iff] at h
  exact ⟨h.1, by omega⟩
theorem specDisp_any (s : ByteArray) (hn : s.size ≤ 1048576) : ∃ v, Ev (fun k => spec_l03Disparity.f k s) v ∧ (IB s = true → v = dsp s) := by
  cases e : IB s with
  | false =>
    obtain ⟨v, hv⟩ := ones_any s hn s.size 0 0 (by omega)
    refine ⟨wrap64 ((wrap64 (2 * v)) - (s.size : Int)), ?_, fun h => by cases h⟩
    unfold spec_l03Disparity.f
    exact Ev.bind (f := fun k t => some (wrap64 ((wrap64 (2 * t)) - (s.size : Int)))) (show Ev (fun k => spec_l01Ones.f k s) v from hv) (Ev.now _)
  | true =>
    obtain ⟨e1, e2⟩ := IB_parts e
    have h := ones_loop s (by omega) e1 s.size 0 0 (by omega) (by omega) (by omega)
    rw [Int.zero_add, List.drop_zero] at h
    refine ⟨dsp s, ?_, fun _ => rfl⟩
    unfold spec_l03Disparity.f
    exact Ev.bind (f := fun k t => some (wrap64 ((wrap64 (2 * t)) - (s.size : Int)))) h (Ev.now _)
/-- A word of a list of a valid code. -/
def WOK (L : List ByteArray) (c1 o : Int) (i : Nat) (h : i < L.length) : Prop := areB L[i].data.toList = true ∧ (L[i].size : Int) = c1 ∧ (dsp L[i] = 0 ∨ dsp L[i] = o) ∧ ∀ (i' : Nat) (h' : i' < i), L[i'].toList ≠ L[i].toList
theorem words_both (L : List ByteArray) (c1 o : Int) (hc : c1 ≤ 400) (hn : L.length ≤ 1000) (hs : ∀ s ∈ L, s.size ≤ 1048576) (d : Nat) : ∀ (j : Nat) (seen : List (List UInt8)), j + d = L.length → seen.length ≤ j → (∀ y, y ∈ seen ↔ y ∈ (L.take j).map ByteArray.toList) →
    ∃ r, Ev (fun k => spec_l03Words.l0 k L c1 o (j : Int)) r ∧ Ev (fun k => impl_BlockCode_areWords.l0 k c1 L o seen (j : Int)) r ∧ (r = true → ∀ i : Nat, j ≤ i → ∀ h : i < L.length, WOK L c1 o i h) := by
  induction d with
  | zero => intro j seen h h1 h2; exact ⟨true, ev_one (fun k => by rw [spec_l03Words.l0, if_neg (by omega)]), ev_one (fun k => by rw [impl_BlockCode_areWords.l0, if_neg (by omega)]), fun _ i h1 h2 => by omega⟩
  | succ d ih =>
    intro j seen h h1 h2
    have hj : j < L.length := by omega
    have hw := wrap_succ hj (by omega)
    have hz := hs _ (List.getElem_mem hj)
    have hrd := rdS_get L j hj
    have htk := take_snoc' L j hj
    obtain ⟨s, hsj⟩ : ∃ s, s = L[j] := ⟨_, rfl⟩
    rw [← hsj] at hz hrd htk
    obtain ⟨v, hv, hv2⟩ := specDisp_any s hz
    have hb := specBits_ev s (by omega)
    have ia := areBits_f s (by omega)
    have st : ∀ R, Ev (fun k => if IB s = true then (if (s.size : Int) = c1 then (if v = 0 then ((spec_l03Index.f k (L.take j) s).bind fun t => (if t ≥ 0 then (some false) else (spec_l03Words.l0 k L c1 o ((j + 1 : Nat) : Int)))) else (if v = o then ((spec_l03Index.f k (L.take j) s).bind fun t => (if t ≥ 0 then (some false) else (spec_l03Words.l0 k L c1 o ((j + 1 : Nat) : Int)))) else some false)) else some false) else some false) R → Ev (fun k => spec_l03Words.l0 k L c1 o (j : Int)) R := by
      intro R hR
      refine Ev.step (fun k => by rw [spec_l03Words.l0, if_pos (by omega), if_pos (by omega), hrd, Int.toNat_natCast, hw, if_pos (show (j : Int) ≤ (L.length : Int) by omega)]) (Ev.bind hv (Ev.bind hb hR))
    have im : ∀ R, Ev (fun k => if (s.size : Int) = c1 then (if areB s.data.toList = true then (if dsp s = 0 ∨ dsp s = o then (if s.data.toList ∈ seen then some false else impl_BlockCode_areWords.l0 k c1 L o (s.data.toList :: seen) ((j + 1 : Nat) : Int)) else some false) else some false) else some false) R → Ev (fun k => impl_BlockCode_areWords.l0 k c1 L o seen (j : Int)) R := by
      intro R hR
      refine Ev.step (fun k => by rw [impl_BlockCode_areWords.l0, if_pos (by omega), if_pos (by omega), hrd, if_pos hz, disp_f, Option.bind_some, ia, Option.bind_some, if_pos (show seen.length < 1000000 by omega), hw]) hR
    cases e : IB s with
    | false =>
      refine ⟨false, st _ (ev_neg (by rw [e]; decide) (Ev.now _)), im _ ?_, (fun q => absurd q Bool.false_ne_true)⟩
      by_cases c : (s.size : Int) = c1
      · have hB : areB s.data.toList = false := by
          unfold IB at e
          rw [decide_eq_true (show (s.size : Int) ≤ 400 by omega), Bool.and_true] at e
          exact e
        exact ev_pos c (ev_neg (by rw [hB]; decide) (Ev.now _))
      · exact ev_neg c (Ev.now _)
    | true =>
      obtain ⟨p1, p2⟩ := IB_parts e
      obtain rfl := hv2 e
      by_cases c : (s.size : Int) = c1
      · obtain ⟨i, i1, _, i3, _, _⟩ := idx_both (L.take j) s (by rw [List.length_take]; omega) (L.take j).length 0 (by omega)
        rw [List.drop_zero, ← h2, Lib.toList_data] at i3
        have i1' : Ev (fun k => spec_l03Index.f k (L.take j) s) i := i1
        by_cases c9 : s.data.toList ∈ seen
        · have go : Ev (fun k => (spec_l03Index.f k (L.take j) s).bind fun t => (if t ≥ 0 then (some false) else (spec_l03Words.l0 k L c1 o ((j + 1 : Nat) : Int)))) false := Ev.bind i1' (ev_pos (i3.2 c9) (Ev.now _))
          refine ⟨false, st _ (ev_pos e (ev_pos c ?_)), im _ (ev_pos c (ev_pos p1 ?_)), (fun q => absurd q Bool.false_ne_true)⟩
          · by_cases c8 : dsp s = 0
            · exact ev_pos c8 go
            · by_cases c7 : dsp s = o
              · exact ev_neg c8 (ev_pos c7 go)
              · exact ev_neg c8 (ev_neg c7 (Ev.now _))
          · by_cases c8 : dsp s = 0 ∨ dsp s = o
            · exact ev_pos c8 (ev_pos c9 (Ev.now _))
            · exact ev_neg c8 (Ev.now _)
        · by_cases c8 : dsp s = 0 ∨ dsp s = o
          · obtain ⟨r, r1, r2, r3⟩ := ih (j + 1) (s.data.toList :: seen) (by omega) (by simp; omega) (by
              intro y
              rw [htk, List.map_append, List.mem_append, List.mem_cons, h2, Or.comm]
              simp [Lib.toList_data])
            have go : Ev (fun k => (spec_l03Index.f k (L.take j) s).bind fun t => (if t ≥ 0 then (some false) else (spec_l03Words.l0 k L c1 o ((j + 1 : Nat) : Int)))) r := Ev.bind i1' (ev_neg (fun hh => c9 (i3.1 hh)) r1)
            refine ⟨r, st _ (ev_pos e (ev_pos c ?_)), im _ (ev_pos c (ev_pos p1 (ev_pos c8 (ev_neg c9 r2)))), fun q i h1 h2' => ?_⟩
            rotate_left
            · by_cases ci : i = j
              · subst ci
                refine ⟨by rw [← hsj]; exact p1, by rw [← hsj]; exact c, by rw [← hsj]; exact c8, fun i' hi' he => ?_⟩
                apply c9
                rw [h2, ← Lib.toList_data, hsj, ← he]
                exact List.mem_map.2 ⟨L[i'], List.mem_take_iff_getElem.2 ⟨i', by omega, rfl⟩, rfl⟩
              · exact r3 q i (by omega) h2'
            by_cases c7 : dsp s = 0
            · exact ev_pos c7 go
            · exact ev_neg c7 (ev_pos (c8.resolve_left c7) go)
          · exact ⟨false, st _ (ev_pos e (ev_pos c (ev_neg (fun hh => c8 (.inl hh)) (ev_neg (fun hh => c8 (.inr hh)) (Ev.now _))))), im _ (ev_pos c (ev_pos p1 (ev_neg c8 (Ev.now _)))), (fun q => absurd q Bool.false_ne_true)⟩
      · exact ⟨false, st _ (ev_pos e (ev_neg c (Ev.now _))), im _ (ev_neg c (Ev.now _)), (fun q => absurd q Bool.false_ne_true)⟩

theorem last_both (L2 L3 : List ByteArray) (hn2 : L2.length ≤ 1048576) (hn3 : L3.length ≤ 1048576) (a0 a1 : Int) (d : Nat) : ∀ j : Nat, j + d = L2.length →
    ∃ r, Ev (fun k => spec_l03Is.l0 k (L2.length : Int) (j : Int) a0 a1 L2 L3) r ∧ Ev (fun k => impl_ValidBlockCode.l0 k L2 (L2.length : Int) (j : Int) a0 a1 L2 L3) r ∧ (r = true → ∀ i : Nat, j ≤ i → ∀ (h : i < L2.length) (i' : Nat) (h' : i' < L3.length), L2[i].toList = L3[i'].toList → (∀ (p q : Nat) (hp : p < L3.length) (hq : q < L3.length), p < q → L3[p].toList ≠ L3[q].toList) → i = i') := by
  induction d with
  | zero => intro j h; exact ⟨true, ev_one (fun k => by rw [spec_l03Is.l0, if_neg (by omega)]), ev_one (fun k => by rw [impl_ValidBlockCode.l0, if_neg (by omega)]), fun _ i h1 h2 => by omega⟩
  | succ d ih =>
    intro j h
    have hj : j < L2.length := by omega
    have hw := wrap_succ hj (by omega)
    have hrd := rdS_get L2 j hj
    obtain ⟨i, i1, i2, i3, _, i5⟩ := idx_both L3 L2[j] hn3 L3.length 0 (by omega)
    rw [List.drop_zero] at i3
    have i1' : Ev (fun k => spec_l03Index.f k L3 L2[j]) i := i1
    have i2' : Ev (fun k => slices_Index_string_string.f k L3 L2[j]) i := i2
    obtain ⟨r, r1, r2, r3⟩ := ih (j + 1) (by omega)
    have sp : ∀ R, Ev (fun k => if i ≥ 0 then (if i = (j : Int) then spec_l03Is.l0 k (L2.length : Int) ((j + 1 : Nat) : Int) a0 a1 L2 L3 else some false) else spec_l03Is.l0 k (L2.length : Int) ((j + 1 : Nat) : Int) a0 a1 L2 L3) R → Ev (fun k => spec_l03Is.l0 k (L2.length : Int) (j : Int) a0 a1 L2 L3) R :=
      fun R hR => Ev.step (fun k => by rw [spec_l03Is.l0, if_pos (by omega), if_pos (by omega), if_pos (by omega), hrd, hw]) (Ev.bind i1' hR)
    have im : ∀ R, Ev (fun k => if i ≥ 0 then (if i = (j : Int) then impl_ValidBlockCode.l0 k L2 (L2.length : Int) ((j + 1 : Nat) : Int) a0 a1 L2 L3 else some false) else impl_ValidBlockCode.l0 k L2 (L2.length : Int) ((j + 1 : Nat) : Int) a0 a1 L2 L3) R → Ev (fun k => impl_ValidBlockCode.l0 k L2 (L2.length : Int) (j : Int) a0 a1 L2 L3) R :=
      fun R hR => Ev.step (fun k => by rw [impl_ValidBlockCode.l0, if_pos (by omega), if_pos (by omega), if_pos (by omega), hrd, hw]) (Ev.bind i2' hR)
    by_cases c : i ≥ 0
    · by_cases c2 : i = (j : Int)
      · refine ⟨r, sp _ (ev_pos c (ev_pos c2 r1)), im _ (ev_pos c (ev_pos c2 r2)), fun q z h1 h2 i' h' he hd => ?_⟩
        by_cases cz : z = j
        · subst cz
          obtain ⟨y, e1, _, e2, e3⟩ := i5 c
          have ey : y = z := by omega
          subst ey
          rcases Nat.lt_trichotomy y i' with g | g | g
          · exact absurd (e3.trans he) (hd y i' e2 h' g)
          · exact g
          · exact absurd (e3.trans he).symm (hd i' y h' e2 g)
        · exact r3 q z (by omega) h2 i' h' he hd
      · exact ⟨false, sp _ (ev_pos c (ev_neg c2 (Ev.now _))), im _ (ev_pos c (ev_neg c2 (Ev.now _))), (fun q => absurd q Bool.false_ne_true)⟩
    · refine ⟨r, sp _ (ev_neg c r1), im _ (ev_neg c r2), fun q z h1 h2 i' h' he hd => ?_⟩
      by_cases cz : z = j
      · subst cz
        exact absurd (i3.2 (by rw [he]; exact List.mem_map.2 ⟨L3[i'], List.getElem_mem h', rfl⟩)) c
      · exact r3 q z (by omega) h2 i' h' he hd
theorem shl_data (a : Int) (h : 1 ≤ a ∧ a ≤ 6) : shl .i64 1 a = wrap64 (2 ^ min a.toNat 64) ∧ shl .i64 1 a ≤ 64 := by
  have : a = 1 ∨ a = 2 ∨ a = 3 ∨ a = 4 ∨ a = 5 ∨ a = 6 := by omega
  rcases this with rfl | rfl | rfl | rfl | rfl | rfl <;> decide +kernel
theorem isData_f (a : Int) : impl_isData.f a = some (decide (1 ≤ a ∧ a ≤ 6)) := by
  unfold impl_isData.f
  rw [impl_in]; rfl
theorem isWidth_f (a : Int) : impl_isWidth.f a = some (decide (2 ≤ a ∧ a ≤ 12) && ((Int.tmod a 2) == 0)) := by
  unfold impl_isWidth.f
  rw [impl_in, Option.bind_some]
  by_cases c : 2 ≤ a ∧ a ≤ 12
  · rw [decide_eq_true c, if_pos rfl, Bool.true_and]
  · rw [decide_eq_false c, if_neg Bool.false_ne_true, Bool.false_and]
/-- A valid block code. -/
structure VC (a0 a1 : Int) (L2 L3 : List ByteArray) : Prop where
  data : 1 ≤ a0 ∧ a0 ≤ 6
  width : 2 ≤ a1 ∧ a1 ≤ 12
  even : Int.tmod a1 2 = 0
  n2 : (L2.length : Int) = shl .i64 1 a0
  n3 : (L3.length : Int) = shl .i64 1 a0
  w2 : ∀ (i : Nat) (h : i < L2.length), WOK L2 a1 2 i h
  w3 : ∀ (i : Nat) (h : i < L3.length), WOK L3 a1 (-2) i h
  cross : ∀ (i : Nat) (h : i < L2.length) (i' : Nat) (h' : i' < L3.length), L2[i].toList = L3[i'].toList → i = i'
theorem code_both (a0 a1 : Int) (L2 L3 : List ByteArray) (h2 : L2.length ≤ 1048576) (h3 : L3.length ≤ 1048576) (s2 : ∀ s ∈ L2, s.size ≤ 1048576) (s3 : ∀ s ∈ L3, s.size ≤ 1048576) :
    ∃ r, Ev (fun k => spec_l03Is.f k a0 a1 L2 L3) r ∧ Ev (fun k => impl_ValidBlockCode.f k a0 a1 L2 L3) r ∧ (r = true → VC a0 a1 L2 L3) := by
  have sno : Ev (fun k => spec_l03Is.j0 k true a0 a1 L2 L3) false := ev_one (fun k => by rw [spec_l03Is.j0, if_pos rfl])
  have sn1 : ∀ n, Ev (fun k => spec_l03Is.j1 k n true a0 a1 L2 L3) false := fun n => ev_one (fun k => by rw [spec_l03Is.j1, if_pos rfl])
  have ino : Ev (fun k => impl_ValidBlockCode.j0 k true a0 a1 L2 L3) false := ev_one (fun k => by rw [impl_ValidBlockCode.j0, if_pos rfl])
  unfold spec_l03Is.f impl_ValidBlockCode.f
  by_cases c0 : 1 ≤ a0 ∧ a0 ≤ 6
  · by_cases c1 : 2 ≤ a1 ∧ a1 ≤ 12
    · by_cases ct : (Int.tmod a1 2) = 0
      · have hd := isData_f a0
        have hwd := isWidth_f a1
        rw [decide_eq_true c0] at hd
        rw [decide_eq_true c1, ct] at hwd
        have hs0 := spec_in a0 1 6
        have hs1 := spec_in a1 2 12
        rw [decide_eq_true c0] at hs0
        rw [decide_eq_true c1] at hs1
        have hu : IntKind.u64.wrap a0 = a0 := u64_in (by omega) (by omega)
        obtain ⟨hsh, hle⟩ := shl_data a0 c0
        suffices h : ∃ r, (r = true → VC a0 a1 L2 L3) ∧ Ev (fun k => if (L2.length : Int) = shl .i64 1 a0 then (if (L3.length : Int) = shl .i64 1 a0 then ((spec_l03Words.f k L2 a1 2).bind fun t => (if t = true then ((spec_l03Words.f k L3 a1 (-2)).bind fun t2 => (spec_l03Is.j1 k (shl .i64 1 a0) (!t2) a0 a1 L2 L3)) else (spec_l03Is.j1 k (shl .i64 1 a0) true a0 a1 L2 L3))) else (spec_l03Is.j1 k (shl .i64 1 a0) true a0 a1 L2 L3)) else (spec_l03Is.j1 k (shl .i64 1 a0) true a0 a1 L2 L3)) r ∧
            Ev (fun k => (impl_BlockCode_areWords.f k a0 a1 L2 L3 L2 2).bind fun t => (if t = true then ((impl_BlockCode_areWords.f k a0 a1 L2 L3 L3 (-2)).bind fun t2 => (impl_ValidBlockCode.j0 k (!t2) a0 a1 L2 L3)) else (impl_ValidBlockCode.j0 k true a0 a1 L2 L3))) r by
          obtain ⟨r, r0, r1, r2⟩ := h
          refine ⟨r, ev_to hs0 (ev_pos rfl (ev_to hs1 (ev_pos rfl ?_))), ev_to hd (ev_pos rfl (ev_to hwd (ev_pos rfl r2))), r0⟩
          exact Ev.step (fun k => by rw [ct, spec_l03Is.j0, if_neg (by decide), hu, if_pos (by omega)]) r1
        have aw : ∀ (L : List ByteArray) (o : Int) (R : Bool), (L.length : Int) = shl .i64 1 a0 → Ev (fun k => impl_BlockCode_areWords.l0 k a1 L o [] 0) R → Ev (fun k => impl_BlockCode_areWords.f k a0 a1 L2 L3 L o) R := by
          intro L o R hL hR
          unfold impl_BlockCode_areWords.f
          exact ev_pos (by omega) (ev_pos (by rw [hL, hsh]) hR)
        have an : ∀ (L : List ByteArray) (o : Int), (L.length : Int) ≠ shl .i64 1 a0 → Ev (fun k => impl_BlockCode_areWords.f k a0 a1 L2 L3 L o) false := by
          intro L o hL
          unfold impl_BlockCode_areWords.f
          exact ev_pos (by omega) (ev_neg (by rw [← hsh]; exact hL) (Ev.now _))
        by_cases e2 : (L2.length : Int) = shl .i64 1 a0
        · obtain ⟨w2, w2s, w2i, w2k⟩ := words_both L2 a1 2 (by omega) (by omega) s2 L2.length 0 [] (by omega) (by simp) (by simp)
          have w2s' : Ev (fun k => spec_l03Words.f k L2 a1 2) w2 := w2s
          have w2i' := aw L2 2 w2 e2 w2i
          by_cases e3 : (L3.length : Int) = shl .i64 1 a0
          · obtain ⟨w3, w3s, w3i, w3k⟩ := words_both L3 a1 (-2) (by omega) (by omega) s3 L3.length 0 [] (by omega) (by simp) (by simp)
            have w3s' : Ev (fun k => spec_l03Words.f k L3 a1 (-2)) w3 := w3s
            have w3i' := aw L3 (-2) w3 e3 w3i
            cases w2 with
            | false => exact ⟨false, (fun q => absurd q Bool.false_ne_true), ev_pos e2 (ev_pos e3 (Ev.bind w2s' (ev_neg Bool.false_ne_true (sn1 _)))), Ev.bind w2i' (ev_neg Bool.false_ne_true ino)⟩
            | true =>
              cases w3 with
              | false => exact ⟨false, (fun q => absurd q Bool.false_ne_true), ev_pos e2 (ev_pos e3 (Ev.bind w2s' (ev_pos rfl (Ev.bind w3s' (sn1 _))))), Ev.bind w2i' (ev_pos rfl (Ev.bind w3i' ino))⟩
              | true =>
                obtain ⟨r, r1, r2, r3⟩ := last_both L2 L3 h2 h3 a0 a1 L2.length 0 (by omega)
                refine ⟨r, fun q => ⟨c0, c1, ct, e2, e3, fun i h => w2k rfl i (Nat.zero_le _) h, fun i h => w3k rfl i (Nat.zero_le _) h, fun i h i' h' he => r3 q i (Nat.zero_le _) h i' h' he (fun p q' hp hq hpq => (w3k rfl q' (Nat.zero_le _) hq).2.2.2 p hpq)⟩, ev_pos e2 (ev_pos e3 (Ev.bind w2s' (ev_pos rfl (Ev.bind w3s' ?_)))), Ev.bind w2i' (ev_pos rfl (Ev.bind w3i' ?_))⟩
                · exact Ev.step (f := fun k => spec_l03Is.l0 k (L2.length : Int) 0 a0 a1 L2 L3) (fun k => by rw [spec_l03Is.j1, if_neg (by decide), e2]) r1
                · exact Ev.step (f := fun k => impl_ValidBlockCode.l0 k L2 (L2.length : Int) 0 a0 a1 L2 L3) (fun k => by rw [impl_ValidBlockCode.j0, if_neg (by decide)]) r2
          · refine ⟨false, (fun q => absurd q Bool.false_ne_true), ev_pos e2 (ev_neg e3 (sn1 _)), Ev.bind w2i' ?_⟩
            cases w2 with
            | false => exact ev_neg Bool.false_ne_true ino
            | true => exact ev_pos rfl (Ev.bind (an L3 (-2) e3) ino)
        · exact ⟨false, (fun q => absurd q Bool.false_ne_true), ev_neg e2 (sn1 _), Ev.bind (an L2 2 e2) (ev_neg Bool.false_ne_true ino)⟩
      · have hd := isData_f a0
        have hwd := isWidth_f a1
        rw [decide_eq_true c0] at hd
        rw [decide_eq_true c1, Bool.true_and, show ((Int.tmod a1 2) == 0) = false from by simpa using ct] at hwd
        have hs0 := spec_in a0 1 6
        have hs1 := spec_in a1 2 12
        rw [decide_eq_true c0] at hs0
        rw [decide_eq_true c1] at hs1
        refine ⟨false, ev_to hs0 (ev_pos rfl (ev_to hs1 (ev_pos rfl ?_))), ev_to hd (ev_pos rfl (ev_to hwd (ev_neg Bool.false_ne_true ino))), (fun q => absurd q Bool.false_ne_true)⟩
        rw [show ((Int.tmod a1 2) != 0) = true from by simpa using ct]
        exact sno
    · have hd := isData_f a0
      have hwd := isWidth_f a1
      rw [decide_eq_true c0] at hd
      rw [decide_eq_false c1, Bool.false_and] at hwd
      have hs0 := spec_in a0 1 6
      have hs1 := spec_in a1 2 12
      rw [decide_eq_true c0] at hs0
      rw [decide_eq_false c1] at hs1
      exact ⟨false, ev_to hs0 (ev_pos rfl (ev_to hs1 (ev_neg Bool.false_ne_true sno))), ev_to hd (ev_pos rfl (ev_to hwd (ev_neg Bool.false_ne_true ino))), (fun q => absurd q Bool.false_ne_true)⟩
  · have hd := isData_f a0
    have hs0 := spec_in a0 1 6
    rw [decide_eq_false c0] at hd hs0
    exact ⟨false, ev_to hs0 (ev_neg Bool.false_ne_true sno), ev_to hd (ev_neg Bool.false_ne_true ino), (fun q => absurd q Bool.false_ne_true)⟩

theorem szCode_ev (a0 a1 : Int) (L2 L3 : List ByteArray) (n2 : L2.length ≤ 9223372036854775807) (z2 : ∀ s ∈ L2, s.size ≤ 9223372036854775807) (n3 : L3.length ≤ 9223372036854775807) (z3 : ∀ s ∈ L3, s.size ≤ 9223372036854775807) :
    ∃ t, Ev (fun k => laws_szBlockCode.f k a0 a1 L2 L3 1048576) t ∧ (0 ≤ t → (L2.length ≤ 1048576 ∧ ∀ x ∈ L2, x.size ≤ 1048576) ∧ (L3.length ≤ 1048576 ∧ ∀ x ∈ L3, x.size ≤ 1048576)) := by
  obtain ⟨t1, e1, l1, p1⟩ := szStringS_ev L2 n2 z2 1048576 (by decide) (by decide)
  unfold laws_szBlockCode.f
  by_cases c : t1 < 0
  · exact ⟨-1, Ev.bind e1 (ev_pos c (Ev.now _)), fun h => by omega⟩
  · obtain ⟨t2, e2, l2, p2⟩ := szStringS_ev L3 n3 z3 t1 (by omega) (by omega)
    by_cases c2 : t2 < 0
    · exact ⟨-1, Ev.bind e1 (ev_neg c (Ev.bind e2 (ev_pos c2 (Ev.now _)))), fun h => by omega⟩
    · exact ⟨t2, Ev.bind e1 (ev_neg c (Ev.bind e2 (ev_neg c2 (Ev.now _)))), fun h => ⟨p1 (by omega), p2 h⟩⟩
theorem toCode_ev (a0 a1 : Int) (L2 L3 : List ByteArray) (h2 : L2.length ≤ 1048576) (h3 : L3.length ≤ 1048576) : Ev (fun k => laws_toBlockCode.f k a0 a1 L2 L3) (a0, a1, L2, L3) := by
  unfold laws_toBlockCode.f
  exact Ev.bind (toStringS_ev L2 h2) (Ev.bind (toStringS_ev L3 h3) (Ev.now _))
theorem eqCode_ev (a0 a1 : Int) (L2 L3 : List ByteArray) (h2 : L2.length ≤ 1048576) (h3 : L3.length ≤ 1048576) : Ev (fun k => laws_eqBlockCode.f k a0 a1 L2 L3 a0 a1 L2 L3) true := by
  unfold laws_eqBlockCode.f
  exact ev_pos rfl (ev_pos rfl (Ev.bind (eqStringS_ev L2 h2) (ev_pos rfl (Ev.bind (eqStringS_ev L3 h3) (ev_pos rfl (Ev.now _))))))

theorem VC.le64 {a0 a1 : Int} {L2 L3 : List ByteArray} (h : VC a0 a1 L2 L3) : L2.length ≤ 64 ∧ L3.length ≤ 64 := by
  have h1 := (shl_data a0 h.data).2
  have h2 := h.n2
  have h3 := h.n3
  omega
/-- A word's bits, whichever list it is of. -/
theorem VC.mem {a0 a1 : Int} {L2 L3 : List ByteArray} (h : VC a0 a1 L2 L3) {w : ByteArray} (hw : w ∈ L2 ∨ w ∈ L3) : IB w = true ∧ (w.size : Int) = a1 ∧ w.size ≤ 12 := by
  have hd := h.width
  rcases hw with hw | hw
  · obtain ⟨i, hi, rfl⟩ := List.mem_iff_getElem.1 hw
    obtain ⟨p1, p2, _⟩ := h.w2 i hi
    exact ⟨by unfold IB; rw [p1, decide_eq_true (by omega)]; rfl, p2, by omega⟩
  · obtain ⟨i, hi, rfl⟩ := List.mem_iff_getElem.1 hw
    obtain ⟨p1, p2, _⟩ := h.w3 i hi
    exact ⟨by unfold IB; rw [p1, decide_eq_true (by omega)]; rfl, p2, by omega⟩
theorem l00Min_f (a b : Int) : spec_l00Min.f a b = some (mn a b) := by
  unfold spec_l00Min.f mn
  by_cases c : a < b
  · rw [if_pos c, if_neg (by omega)]
  · rw [if_neg c]
    by_cases c2 : b < a
    · rw [if_pos c2]
    · rw [if_neg c2, show a = b by omega]
theorem l00Max_f (a b : Int) : spec_l00Max.f a b = some (mx a b) := by
  unfold spec_l00Max.f mx
  by_cases c : a > b
  · rw [if_pos c, if_neg (by omega)]
  · rw [if_neg c]
    by_cases c2 : a < b
    · rw [if_pos c2]
    · rw [if_neg c2, show a = b by omega]
theorem mnx (lo hh v : Int) (h1 : lo ≤ -1) (h2 : 1 ≤ hh) : mn lo v ≤ -1 ∧ 1 ≤ mx hh v := by
  unfold mn mx
  constructor
  · split <;> omega
  · split <;> omega
theorem mn_keep {a b : Int} (h : a ≤ b) : mn a b = a := by unfold mn; exact if_neg (by omega)
theorem mx_keep {a b : Int} (h : b ≤ a) : mx a b = a := by unfold mx; exact if_neg (by omega)
theorem areB_extract (s : ByteArray) (i j : Nat) (h : areB s.data.toList = true) : areB (s.extract i j).data.toList = true := by
  unfold areB at h ⊢
  rw [List.all_eq_true] at h ⊢
  intro x hx
  apply h
  rw [ByteArray.data_extract, Array.toList_extract] at hx
  exact List.mem_of_mem_drop (List.mem_of_mem_take hx)
theorem pre_disp (w : ByteArray) (hb : areB w.data.toList = true) (hz : w.size ≤ 12) (n : Nat) : ∃ K, ∀ k, K ≤ k → spec_l03Disparity.f k (w.extract 0 n) = some (dsp (w.extract 0 n)) := by
  have hez : (w.extract 0 n).size ≤ 12 := by rw [ByteArray.size_extract]; omega
  have hIB : IB (w.extract 0 n) = true := by
    unfold IB
    rw [areB_extract _ _ _ hb, Bool.true_and]
    exact decide_eq_true (by omega)
  obtain ⟨v, ⟨K0, hv0⟩, hv2⟩ := specDisp_any (w.extract 0 n) (by omega)
  obtain rfl := hv2 hIB
  exact ⟨K0, hv0⟩
theorem wst1 : wrap64 ((1 : Int) + 0) = 1 := wrap64_in (by decide) (by decide)
theorem wst2 : wrap64 ((-1 : Int) + 0) = -1 := wrap64_in (by decide) (by decide)
theorem zst (st lo hh : Int) (hst : st = 1 ∨ st = -1) (h1 : lo ≤ -1) (h2 : 1 ≤ hh) : wrap64 (st + 0) = st ∧ mn lo st = lo ∧ mx hh st = hh := by
  rw [Int.add_zero]
  exact ⟨wrap64_in (by omega) (by omega), mn_keep (by omega), mx_keep (by omega)⟩
theorem dsp_none (w : ByteArray) : dsp (w.extract 0 0) = 0 := by
  have e : w.extract 0 0 = ByteArray.empty := by
    apply ByteArray.ext
    apply Array.ext'
    rw [ByteArray.data_extract, Array.toList_extract]
    simp
  rw [e]
  decide +kernel
theorem sr_zeroA (a0 a1 : Int) (L2 L3 L : List ByteArray) (st : Int) (hst : st = 1 ∨ st = -1) (w : ByteArray) (S : List Int) (x19 x20 m i lo hh : Int) (h1 : lo ≤ -1) (h2 : 1 ≤ hh) (R : Int × Int × Bool) (hR : Ev (fun k => impl_SumRange.l2 k lo hh st w S x19 x20 L m i ((w.size : Int) + 1) 1 a0 a1 L2 L3) R) : Ev (fun k => impl_SumRange.l2 k lo hh st w S x19 x20 L m i ((w.size : Int) + 1) 0 a0 a1 L2 L3) R := by
  obtain ⟨z3, z4, z5⟩ := zst st lo hh hst h1 h2
  have z1 : (0 : Int) < (w.size : Int) + 1 := by omega
  have z2 : (0 : Int) ≤ (w.size : Int) := by omega
  have zd : (impl_disparity.f (w.extract 0 ((0 : Int)).toNat)) = some 0 := by rw [Int.toNat_zero, disp_f, dsp_none]
  obtain ⟨K, hK⟩ := hR
  refine ⟨K + 1, fun k hk => ?_⟩
  obtain ⟨k, rfl⟩ : ∃ q, k = q + 1 := ⟨k - 1, by omega⟩
  have e := hK k (by omega)
  simp only [impl_SumRange.l2]
  rw [if_pos z1, if_pos (Int.le_refl 0), if_pos z2, zd, Option.bind_some, z3, z4, z5, w01]
  exact e
theorem sr_wordA (a0 a1 : Int) (L2 L3 L : List ByteArray) (st : Int) (hL : ∀ w ∈ L, areB w.data.toList = true ∧ w.size ≤ 12) (hl : L.length ≤ 64) (S : List Int) (x19 x20 : Int) (i : Nat) (hi : i < L.length) (d : Nat) : ∀ (n : Nat) (lo hh : Int), n + d = L[i].size + 1 → lo ≤ -1 → 1 ≤ hh →
    ∃ lo' hh' : Int, lo' ≤ -1 ∧ 1 ≤ hh' ∧ (∀ R, Ev (fun k => spec_SumRange.l1 k lo' hh' st L ((i + 1 : Nat) : Int) a0 a1 L2 L3) R → Ev (fun k => spec_SumRange.l2 k lo hh st L (i : Int) (n : Int) a0 a1 L2 L3) R) ∧ (∀ R, Ev (fun k => impl_SumRange.l1 k lo' hh' st S x19 x20 L (L.length : Int) ((i + 1 : Nat) : Int) a0 a1 L2 L3) R → Ev (fun k => impl_SumRange.l2 k lo hh st L[i] S x19 x20 L (L.length : Int) (i : Int) ((L[i].size : Int) + 1) (n : Int) a0 a1 L2 L3) R) := by
  have hw := wrap_succ hi (by omega)
  have hrd := rdS_get L i hi
  obtain ⟨hb, hz⟩ := hL _ (List.getElem_mem hi)
  generalize L[i] = w at hrd hb hz ⊢
  induction d with
  | zero =>
    intro n lo hh h h1 h2
    exact ⟨lo, hh, h1, h2, fun R hR => Ev.step (fun k => by rw [spec_SumRange.l2, if_pos (nat0 i), if_pos (by omega), hrd, if_neg (by omega), hw]) hR, fun R hR => Ev.step (fun k => by rw [impl_SumRange.l2, if_neg (by omega), hw]) hR⟩
  | succ d ih =>
    intro n lo hh h h1 h2
    have hwn : wrap64 ((n : Int) + 1) = ((n + 1 : Nat) : Int) := wrap_succ (j := n) (n := w.size + 1) (by omega) (by omega)
    obtain ⟨K0, hv⟩ := pre_disp w hb hz n
    have hd := disp_f (w.extract 0 n)
    obtain ⟨m1, m2⟩ := mnx lo hh (wrap64 (st + dsp (w.extract 0 n))) h1 h2
    obtain ⟨lo', hh', e1, e2, f1, f2⟩ := ih (n + 1) (mn lo (wrap64 (st + dsp (w.extract 0 n)))) (mx hh (wrap64 (st + dsp (w.extract 0 n)))) (by omega) m1 m2
    refine ⟨lo', hh', e1, e2, fun R hR => ?_, fun R hR => ?_⟩
    · obtain ⟨K, hK⟩ := f1 R hR
      refine ⟨K + K0 + 1, fun k hk => ?_⟩
      obtain ⟨k, rfl⟩ : ∃ q, k = q + 1 := ⟨k - 1, by omega⟩
      simp only [spec_SumRange.l2]
      rw [if_pos (nat0 i), if_pos (by omega), hrd, if_pos (by omega), if_pos (nat0 n), Int.toNat_natCast, hv k (by omega), Option.bind_some, l00Min_f, Option.bind_some, l00Max_f, Option.bind_some, hwn]
      exact hK k (by omega)
    · refine Ev.step (fun k => ?_) (f2 R hR)
      rw [impl_SumRange.l2, if_pos (by omega), if_pos (nat0 n), if_pos (by omega), Int.toNat_natCast, hd, Option.bind_some, hwn]
theorem sr_listA (a0 a1 : Int) (L2 L3 L : List ByteArray) (st : Int) (hst : st = 1 ∨ st = -1) (hL : ∀ w ∈ L, areB w.data.toList = true ∧ w.size ≤ 12) (hl : L.length ≤ 64) (S : List Int) (x19 x20 : Int) (d : Nat) : ∀ (i : Nat) (lo hh : Int), i + d = L.length → lo ≤ -1 → 1 ≤ hh →
    ∃ lo' hh' : Int, lo' ≤ -1 ∧ 1 ≤ hh' ∧ (∀ R, Ev (fun k => spec_SumRange.l0 k lo' hh' (wrap64 (st + 2)) a0 a1 L2 L3) R → Ev (fun k => spec_SumRange.l1 k lo hh st L (i : Int) a0 a1 L2 L3) R) ∧ (∀ R, Ev (fun k => impl_SumRange.l0 k lo' hh' S x19 (wrap64 (x20 + 1)) a0 a1 L2 L3) R → Ev (fun k => impl_SumRange.l1 k lo hh st S x19 x20 L (L.length : Int) (i : Int) a0 a1 L2 L3) R) := by
  induction d with
  | zero =>
    intro i lo hh h h1 h2
    exact ⟨lo, hh, h1, h2, fun R hR => Ev.step (fun k => by rw [spec_SumRange.l1, if_neg (by omega)]) hR, fun R hR => Ev.step (fun k => by rw [impl_SumRange.l1, if_neg (by omega)]) hR⟩
  | succ d ih =>
    intro i lo hh h h1 h2
    have hi : i < L.length := by omega
    have hrd := rdS_get L i hi
    obtain ⟨hb, hz⟩ := hL _ (List.getElem_mem hi)
    obtain ⟨lo1, hh1, g1, g2, f1, f2⟩ := sr_wordA a0 a1 L2 L3 L st hL hl S x19 x20 i hi L[i].size 1 lo hh (by omega) h1 h2
    have one : ((1 : Nat) : Int) = 1 := rfl
    rw [one] at f1 f2
    obtain ⟨lo', hh', e1, e2, q1, q2⟩ := ih (i + 1) lo1 hh1 (by omega) g1 g2
    have hsz : wrap64 ((L[i].size : Int) + 1) = (L[i].size : Int) + 1 := wrap64_in (by omega) (by omega)
    refine ⟨lo', hh', e1, e2, fun R hR => ?_, fun R hR => ?_⟩
    · exact Ev.step (fun k => by rw [spec_SumRange.l1, if_pos (by omega)]) (f1 R (q1 R hR))
    · exact Ev.step (fun k => by rw [impl_SumRange.l1, if_pos (by omega), if_pos (nat0 i), if_pos (by omega), hrd, hsz]) (sr_zeroA a0 a1 L2 L3 L st hst L[i] S x19 x20 (L.length : Int) (i : Int) lo hh h1 h2 R (f2 R (q2 R hR)))
theorem sr_zeroB (a0 a1 : Int) (L2 L3 L : List ByteArray) (st : Int) (hst : st = 1 ∨ st = -1) (w : ByteArray) (S : List Int) (x19 x20 m i lo hh : Int) (h1 : lo ≤ -1) (h2 : 1 ≤ hh) (R : Int × Int × Bool) (hR : Ev (fun k => impl_SumRange.l102 k lo hh st w S x19 x20 L m i ((w.size : Int) + 1) 1 a0 a1 L2 L3) R) : Ev (fun k => impl_SumRange.l102 k lo hh st w S x19 x20 L m i ((w.size : Int) + 1) 0 a0 a1 L2 L3) R := by
  obtain ⟨z3, z4, z5⟩ := zst st lo hh hst h1 h2
  have z1 : (0 : Int) < (w.size : Int) + 1 := by omega
  have z2 : (0 : Int) ≤ (w.size : Int) := by omega
  have zd : (impl_disparity.f (w.extract 0 ((0 : Int)).toNat)) = some 0 := by rw [Int.toNat_zero, disp_f, dsp_none]
  obtain ⟨K, hK⟩ := hR
  refine ⟨K + 1, fun k hk => ?_⟩
  obtain ⟨k, rfl⟩ : ∃ q, k = q + 1 := ⟨k - 1, by omega⟩
  have e := hK k (by omega)
  simp only [impl_SumRange.l102]
  rw [if_pos z1, if_pos (Int.le_refl 0), if_pos z2, zd, Option.bind_some, z3, z4, z5, w01]
  exact e
theorem sr_wordB (a0 a1 : Int) (L2 L3 L : List ByteArray) (st : Int) (hL : ∀ w ∈ L, areB w.data.toList = true ∧ w.size ≤ 12) (hl : L.length ≤ 64) (S : List Int) (x19 x20 : Int) (i : Nat) (hi : i < L.length) (d : Nat) : ∀ (n : Nat) (lo hh : Int), n + d = L[i].size + 1 → lo ≤ -1 → 1 ≤ hh →
    ∃ lo' hh' : Int, lo' ≤ -1 ∧ 1 ≤ hh' ∧ (∀ R, Ev (fun k => spec_SumRange.l101 k lo' hh' st L ((i + 1 : Nat) : Int) a0 a1 L2 L3) R → Ev (fun k => spec_SumRange.l102 k lo hh st L (i : Int) (n : Int) a0 a1 L2 L3) R) ∧ (∀ R, Ev (fun k => impl_SumRange.l101 k lo' hh' st S x19 x20 L (L.length : Int) ((i + 1 : Nat) : Int) a0 a1 L2 L3) R → Ev (fun k => impl_SumRange.l102 k lo hh st L[i] S x19 x20 L (L.length : Int) (i : Int) ((L[i].size : Int) + 1) (n : Int) a0 a1 L2 L3) R) := by
  have hw := wrap_succ hi (by omega)
  have hrd := rdS_get L i hi
  obtain ⟨hb, hz⟩ := hL _ (List.getElem_mem hi)
  generalize L[i] = w at hrd hb hz ⊢
  induction d with
  | zero =>
    intro n lo hh h h1 h2
    exact ⟨lo, hh, h1, h2, fun R hR => Ev.step (fun k => by rw [spec_SumRange.l102, if_pos (nat0 i), if_pos (by omega), hrd, if_neg (by omega), hw]) hR, fun R hR => Ev.step (fun k => by rw [impl_SumRange.l102, if_neg (by omega), hw]) hR⟩
  | succ d ih =>
    intro n lo hh h h1 h2
    have hwn : wrap64 ((n : Int) + 1) = ((n + 1 : Nat) : Int) := wrap_succ (j := n) (n := w.size + 1) (by omega) (by omega)
    obtain ⟨K0, hv⟩ := pre_disp w hb hz n
    have hd := disp_f (w.extract 0 n)
    obtain ⟨m1, m2⟩ := mnx lo hh (wrap64 (st + dsp (w.extract 0 n))) h1 h2
    obtain ⟨lo', hh', e1, e2, f1, f2⟩ := ih (n + 1) (mn lo (wrap64 (st + dsp (w.extract 0 n)))) (mx hh (wrap64 (st + dsp (w.extract 0 n)))) (by omega) m1 m2
    refine ⟨lo', hh', e1, e2, fun R hR => ?_, fun R hR => ?_⟩
    · obtain ⟨K, hK⟩ := f1 R hR
      refine ⟨K + K0 + 1, fun k hk => ?_⟩
      obtain ⟨k, rfl⟩ : ∃ q, k = q + 1 := ⟨k - 1, by omega⟩
      simp only [spec_SumRange.l102]
      rw [if_pos (nat0 i), if_pos (by omega), hrd, if_pos (by omega), if_pos (nat0 n), Int.toNat_natCast, hv k (by omega), Option.bind_some, l00Min_f, Option.bind_some, l00Max_f, Option.bind_some, hwn]
      exact hK k (by omega)
    · refine Ev.step (fun k => ?_) (f2 R hR)
      rw [impl_SumRange.l102, if_pos (by omega), if_pos (nat0 n), if_pos (by omega), Int.toNat_natCast, hd, Option.bind_some, hwn]
theorem sr_listB (a0 a1 : Int) (L2 L3 L : List ByteArray) (st : Int) (hst : st = 1 ∨ st = -1) (hL : ∀ w ∈ L, areB w.data.toList = true ∧ w.size ≤ 12) (hl : L.length ≤ 64) (S : List Int) (x19 x20 : Int) (d : Nat) : ∀ (i : Nat) (lo hh : Int), i + d = L.length → lo ≤ -1 → 1 ≤ hh →
    ∃ lo' hh' : Int, lo' ≤ -1 ∧ 1 ≤ hh' ∧ (∀ R, Ev (fun k => spec_SumRange.l0 k lo' hh' (wrap64 (st + 2)) a0 a1 L2 L3) R → Ev (fun k => spec_SumRange.l101 k lo hh st L (i : Int) a0 a1 L2 L3) R) ∧ (∀ R, Ev (fun k => impl_SumRange.l0 k lo' hh' S x19 (wrap64 (x20 + 1)) a0 a1 L2 L3) R → Ev (fun k => impl_SumRange.l101 k lo hh st S x19 x20 L (L.length : Int) (i : Int) a0 a1 L2 L3) R) := by
  induction d with
  | zero =>
    intro i lo hh h h1 h2
    exact ⟨lo, hh, h1, h2, fun R hR => Ev.step (fun k => by rw [spec_SumRange.l101, if_neg (by omega)]) hR, fun R hR => Ev.step (fun k => by rw [impl_SumRange.l101, if_neg (by omega)]) hR⟩
  | succ d ih =>
    intro i lo hh h h1 h2
    have hi : i < L.length := by omega
    have hrd := rdS_get L i hi
    obtain ⟨hb, hz⟩ := hL _ (List.getElem_mem hi)
    obtain ⟨lo1, hh1, g1, g2, f1, f2⟩ := sr_wordB a0 a1 L2 L3 L st hL hl S x19 x20 i hi L[i].size 1 lo hh (by omega) h1 h2
    have one : ((1 : Nat) : Int) = 1 := rfl
    rw [one] at f1 f2
    obtain ⟨lo', hh', e1, e2, q1, q2⟩ := ih (i + 1) lo1 hh1 (by omega) g1 g2
    have hsz : wrap64 ((L[i].size : Int) + 1) = (L[i].size : Int) + 1 := wrap64_in (by omega) (by omega)
    refine ⟨lo', hh', e1, e2, fun R hR => ?_, fun R hR => ?_⟩
    · exact Ev.step (fun k => by rw [spec_SumRange.l101, if_pos (by omega)]) (f1 R (q1 R hR))
    · exact Ev.step (fun k => by rw [impl_SumRange.l101, if_pos (by omega), if_pos (nat0 i), if_pos (by omega), hrd, hsz]) (sr_zeroB a0 a1 L2 L3 L st hst L[i] S x19 x20 (L.length : Int) (i : Int) lo hh h1 h2 R (f2 R (q2 R hR)))
theorem sum_both (a0 a1 : Int) (L2 L3 : List ByteArray) (hv : VC a0 a1 L2 L3) (m : Int) (hm : m = 2) : ∃ r, Ev (fun k => spec_SumRange.l0 k (-1) 1 (-1) a0 a1 L2 L3) r ∧ Ev (fun k => impl_SumRange.l0 k (-1) 1 [-1, 1] m 0 a0 a1 L2 L3) r := by
  obtain ⟨hl2, hl3⟩ := hv.le64
  have c2 : ∀ w ∈ L2, areB w.data.toList = true ∧ w.size ≤ 12 := fun w h => ⟨(IB_parts (hv.mem (.inl h)).1).1, (hv.mem (.inl h)).2.2⟩
  have c3 : ∀ w ∈ L3, areB w.data.toList = true ∧ w.size ≤ 12 := fun w h => ⟨(IB_parts (hv.mem (.inr h)).1).1, (hv.mem (.inr h)).2.2⟩
  obtain ⟨lo, hh, g1, g2, f1, f2⟩ := sr_listA a0 a1 L2 L3 L2 (-1) (.inr rfl) c2 hl2 [-1, 1] m 0 L2.length 0 (-1) 1 (by omega) (by omega) (by omega)
  obtain ⟨lo', hh', _, _, q1, q2⟩ := sr_listB a0 a1 L2 L3 L3 1 (.inl rfl) c3 hl3 [-1, 1] m 1 L3.length 0 lo hh (by omega) g1 g2
  have w1 : wrap64 ((-1 : Int) + 2) = 1 := wrap64_in (by decide) (by decide)
  have w2 : wrap64 ((1 : Int) + 2) = 3 := wrap64_in (by decide) (by decide)
  have zero : ((0 : Nat) : Int) = 0 := rfl
  rw [zero] at f1 f2 q1 q2
  refine ⟨(lo', hh', true), ?_, ?_⟩
  · refine Ev.step (fun k => ?_) (f1 (lo', hh', true) (Ev.step (fun k => ?_) (q1 (lo', hh', true) (ev_one (fun k => by rw [w2, spec_SumRange.l0, if_neg (by decide)])))))
    · rw [spec_SumRange.l0, if_pos (by decide), if_pos (by decide), show spec_l03List_neg.f a0 a1 L2 L3 (-1) = some () from if_pos (by decide), Option.bind_some]
    · rw [w1, spec_SumRange.l0, if_pos (by decide), if_neg (by decide), show spec_l03List_pos.f a0 a1 L2 L3 1 = some () from if_pos (by decide), Option.bind_some]
  · have r0 : rd [-1, 1] 0 = -1 := rfl
    have r1 : rd [-1, 1] 1 = 1 := rfl
    refine Ev.step (fun k => ?_) (f2 (lo', hh', true) (Ev.step (fun k => ?_) (q2 (lo', hh', true) (ev_one (fun k => by rw [w11, impl_SumRange.l0, if_neg (by omega)])))))
    · rw [impl_SumRange.l0, if_pos (by omega), if_pos (by decide), if_pos (by decide), r0, if_pos (by decide), show impl_BlockCode_words_neg.f a0 a1 L2 L3 (-1) = some () from if_pos (by decide), Option.bind_some]
    · rw [w01, impl_SumRange.l0, if_pos (by omega), if_pos (by decide), if_pos (by decide), r1, if_neg (by decide), show impl_BlockCode_words_pos.f a0 a1 L2 L3 1 = some () from if_pos (by decide), Option.bind_some]
theorem FnExactSumRange : laws_FnExactSumRange.Pure := by
  intro a0 a1 L2 L3 _ _ n2 z2 n3 z3
  apply Ev.rounds
  unfold laws_FnExactSumRange.f
  obtain ⟨t, e, hp⟩ := szCode_ev a0 a1 L2 L3 n2 z2 n3 z3
  refine Ev.bind e ?_
  by_cases c : t < 0
  · exact ev_pos c (Ev.now _)
  obtain ⟨⟨h2, s2⟩, h3, s3⟩ := hp (by omega)
  have ht := toCode_ev a0 a1 L2 L3 h2 h3
  obtain ⟨⟨v, s, b⟩, r1, r2⟩ : ∃ r, Ev (fun k => spec_SumRange.f k a0 a1 L2 L3) r ∧ Ev (fun k => impl_SumRange.f k a0 a1 L2 L3) r := by
    obtain ⟨r, r1, r2, r3⟩ := code_both a0 a1 L2 L3 h2 h3 s2 s3
    unfold spec_SumRange.f impl_SumRange.f
    cases r with
    | false => exact ⟨_, Ev.bind r1 (ev_neg Bool.false_ne_true (Ev.now _)), Ev.bind r2 (ev_neg Bool.false_ne_true (Ev.now _))⟩
    | true =>
      obtain ⟨r, e1, e2⟩ := sum_both a0 a1 L2 L3 (r3 rfl) (([-1, 1] : List Int).length : Int) rfl
      exact ⟨r, Ev.bind r1 (ev_pos rfl e1), Ev.bind r2 (ev_pos rfl (ev_to rfl e2))⟩
  refine ev_neg c (Ev.bind ht (Ev.bind r1 (Ev.bind ht (Ev.bind r2 (ev_pos rfl (ev_pos rfl ?_))))))
  show Ev (fun k => laws_FnExactSumRange.j0 k (b != b) a0 a1 L2 L3 a0 a1 L2 L3) true
  rw [show (b != b) = false by simp]
  exact Ev.step (fun k => by rw [laws_FnExactSumRange.j0, if_neg Bool.false_ne_true]) (Ev.bind ht (Ev.bind (eqCode_ev a0 a1 L2 L3 h2 h3) (ev_pos rfl (Ev.now _))))

end Go.Proofs.YtegeaoiclepkkaaDoor.Pure
