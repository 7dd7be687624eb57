/-
The plain law of FnExactFlipEffect: a changed bit is read the same way by both; conditions: those of the statement.
-/
import Derived.Test.YtegeaoiclepkkaaDoorQFnExactFlipEffectx13
namespace Go.Proofs.YtegeaoiclepkkaaDoor.Pure
open Go.RowKit Go.Proofs.YtegeaoiclepkkaaDoor.QFnExactFlipEffect Go.Proofs.YtegeaoiclepkkaaDoorW.PrintWords Go.Proofs.YtegeaoiclepkkaaDoorW.PrintLast Go.Proofs.YtegeaoiclepkkaaDoorW.PrintMore
set_option linter.unusedVariables false

theorem ev_one {α : Type} {g : Nat → Option α} {r : α} (h : ∀ k, g (k + 1) = some r) : Ev g r :=
  ⟨1, fun k hk => by obtain ⟨m, rfl⟩ : ∃ m, k = m + 1 := ⟨k - 1, by omega⟩; exact h m⟩
theorem wrap64_in {x : Int} (h0 : -9223372036854775808 ≤ x) (h1 : x ≤ 9223372036854775807) : wrap64 x = x := by
  unfold wrap64; omega
theorem u64_in {x : Int} (h0 : 0 ≤ x) (h1 : x ≤ 18446744073709551615) : IntKind.u64.wrap x = x := by
  simp [IntKind.wrap, IntKind.bits, IntKind.signed]; omega
theorem i64_in {x : Int} (h0 : -9223372036854775808 ≤ x) (h1 : x ≤ 9223372036854775807) : IntKind.i64.wrap x = x := by
  rw [IntKind.wrap_i64]; omega
theorem and_one (x : Int) : Go.bits .and .i64 x 1 = x % 2 := by
  have h : (BitVec.ofInt 64 x &&& BitVec.ofInt 64 1).toNat = (x % 2).toNat := by
    have e1 : BitVec.ofInt 64 1 = 1#64 := by decide
    rw [e1, BitVec.toNat_and, BitVec.toNat_ofInt]
    have e2 : (1#64).toNat = 1 := by decide
    rw [e2, Nat.and_one_is_mod]
    omega
  show IntKind.i64.wrap (((BitVec.ofInt 64 x &&& BitVec.ofInt 64 1).toNat : Nat) : Int) = x % 2
  rw [h, i64_in (by omega) (by omega)]
  omega
theorem wf_i64 {x : Int} (h : (Lit.int .i64 x).wf = true) : -9223372036854775808 ≤ x ∧ x ≤ 9223372036854775807 := by
  simp [Lit.wf, IntKind.min, IntKind.max, IntKind.signed, IntKind.bits] at h
  omega
theorem pow_pos_int (d : Nat) : (0 : Int) < 2 ^ d := Int.pow_pos (by decide)
theorem pow_le_int {a b : Nat} (h : a ≤ b) : (2 : Int) ^ a ≤ 2 ^ b := by
  have := Nat.pow_le_pow_right (n := 2) (by decide) h
  exact_mod_cast this

theorem ev_pos {α : Type} {c : Prop} [Decidable c] {g h : Nat → Option α} {r : α} (hc : c) (hg : Ev g r) : Ev (fun k => if c then g k else h k) r := by
  obtain ⟨K, hK⟩ := hg
  exact ⟨K, fun k hk => (if_pos hc).trans (hK k hk)⟩
theorem ev_neg {α : Type} {c : Prop} [Decidable c] {g h : Nat → Option α} {r : α} (hc : ¬ c) (hg : Ev h r) : Ev (fun k => if c then g k else h k) r := by
  obtain ⟨K, hK⟩ := hg
  exact ⟨K, fun k hk => (if_neg hc).trans (hK k hk)⟩
theorem ev_some {α β : Type} {f : Nat → α → Option β} {a : α} {r : β} (h : Ev (fun k => f k a) r) : Ev (fun k => (some a).bind (f k)) r := h
theorem ev_to {α β : Type} {x : Option α} {f : Nat → α → Option β} {a : α} {r : β} (e : x = some a) (h : Ev (fun k => f k a) r) : Ev (fun k => x.bind (f k)) r := by subst e; exact h
theorem ev_det {α : Type} {g : Nat → Option α} {r r' : α} (h : Ev g r) (h' : Ev g r') : r = r' := by
  obtain ⟨K, hK⟩ := h
  obtain ⟨K', hK'⟩ := h'
  have h1 := hK (max K K') (Nat.le_max_left _ _)
  have h2 := hK' (max K K') (Nat.le_max_right _ _)
  rw [h1] at h2
  exact Option.some.inj h2
theorem wrap_succ {j n : Nat} (h : j < n) (hn : n ≤ 9223372036854775807) : wrap64 ((j : Int) + 1) = ((j + 1 : Nat) : Int) := by
  rw [wrap64_in (by omega) (by omega)]; omega
theorem nat0 (j : Nat) : (0 : Int) ≤ (j : Int) := Int.natCast_nonneg j
theorem rd_nat (l : List Int) (j : Nat) : rd l (j : Int) = l.getD j 0 := by unfold rd; rw [Int.toNat_natCast]
theorem rd_get (l : List Int) (j : Nat) (h : j < l.length) : rd l (j : Int) = l[j] := by rw [rd_nat, List.getD_eq_getElem?_getD, List.getElem?_eq_getElem h]; rfl
theorem drop_cons {α : Type} (l : List α) (j : Nat) (h : j < l.length) : l.drop j = l[j] :: l.drop (j + 1) := List.drop_eq_getElem_cons h
theorem take_snoc' {α : Type} (l : List α) (j : Nat) (h : j < l.length) : l.take (j + 1) = l.take j ++ [l[j]] := List.take_succ_eq_append_getElem h
theorem set_take {α : Type} (acc : List α) (j : Nat) (x : α) (h : j < acc.length) : (acc.set j x).take (j + 1) = acc.take j ++ [x] := by
  rw [List.take_set, List.take_succ_eq_append_getElem h, List.set_append_right _ _ (by simp; omega)]
  have : (acc.take j).length = j := by rw [List.length_take]; omega
  rw [this, Nat.sub_self]
  rfl
theorem take_all {α : Type} {a b : List α} {n : Nat} (ha : a.length = n) (hb : b.length = n) (h : a.take n = b.take n) : a = b := by
  rw [List.take_of_length_le (by omega), List.take_of_length_le (by omega)] at h; exact h
theorem w01 : wrap64 (0 + 1) = 1 := by unfold wrap64; decide
theorem w11 : wrap64 (1 + 1) = 2 := by unfold wrap64; decide

theorem spec_in (a b c : Int) : spec_l00In.f a b c = some (decide (b ≤ a ∧ a ≤ c)) := by
  unfold spec_l00In.f
  by_cases h : a ≥ b
  · rw [if_pos h]; congr 1; have : b ≤ a := h; simp [this]
  · rw [if_neg h]; congr 1; have : ¬ b ≤ a := h; simp [this]
theorem impl_in (a b c : Int) : impl_within.f a b c = some (decide (b ≤ a ∧ a ≤ c)) := by
  unfold impl_within.f
  by_cases h : a ≥ b
  · rw [if_pos h]; congr 1; have : b ≤ a := h; simp [this]
  · rw [if_neg h]; congr 1; have : ¬ b ≤ a := h; simp [this]

def isBit (b : UInt8) : Bool := b.toNat == 48 || b.toNat == 49
def areB (l : List UInt8) : Bool := l.all isBit
theorem size_l (s : ByteArray) : s.size = s.data.toList.length := by rw [Array.length_toList]; rfl
theorem bt_l (s : ByteArray) (j : Nat) (h : j < s.data.toList.length) : bt s (j : Int) = ((s.data.toList[j].toNat : Nat) : Int) := by
  have h2 : ((j : Int)).toNat < s.size := by rw [Int.toNat_natCast, size_l]; exact h
  have h3 : j < s.data.size := by rw [Array.length_toList] at h; exact h
  have e : s[((j : Int)).toNat]'h2 = s.data[j] := rfl
  rw [← bt_at s j h2, e, Array.getElem_toList]
theorem cs_bit (b : UInt8) : ([48, 49] : List UInt8).contains b = isBit b := by
  have h1 : (b == 48) = (b.toNat == 48) := by rw [Bool.eq_iff_iff]; simp [← UInt8.toNat_inj]
  have h2 : (b == 49) = (b.toNat == 49) := by rw [Bool.eq_iff_iff]; simp [← UInt8.toNat_inj]
  unfold isBit
  rw [← h1, ← h2]
  show (match b == 48 with | true => true | false => (match b == 49 with | true => true | false => false)) = (b == 48 || b == 49)
  cases (b == 48) <;> cases (b == 49) <;> rfl
theorem drop_nil {p : UInt8 → Bool} (l : List UInt8) : l.dropWhile p = [] ↔ ∀ x ∈ l, p x = true := by
  induction l with
  | nil => simp
  | cons a t ih =>
    rw [List.dropWhile_cons]
    cases e : p a with
    | true => rw [if_pos rfl, ih]; simp [e]
    | false => rw [if_neg (by decide)]; simp [e]
theorem drop_all {p : UInt8 → Bool} (l : List UInt8) (h : (l.dropWhile p).all p = true) : l.all p = true := by
  induction l with
  | nil => rfl
  | cons a t ih =>
    rw [List.dropWhile_cons] at h
    cases e : p a with
    | true => rw [e, if_pos rfl] at h; rw [List.all_cons, e, ih h]; rfl
    | false => rw [e, if_neg (by decide)] at h; exact h
theorem trim_nil (l : List UInt8) : (Lib.trimS l [48, 49] == []) = areB l := by
  have e : (fun b => ([48, 49] : List UInt8).contains b) = isBit := funext cs_bit
  unfold Lib.trimS Lib.trimLeftS Lib.trimRightS areB
  rw [e]
  rw [Bool.eq_iff_iff, beq_iff_eq, drop_nil]
  constructor
  · intro h
    have h1 : (l.reverse.dropWhile isBit).all isBit = true := List.all_eq_true.2 (fun x hx => h x (List.mem_reverse.2 hx))
    have h2 := drop_all _ h1
    rw [List.all_reverse] at h2
    exact h2
  · intro h x hx
    have h3 := List.mem_reverse.1 hx
    have h4 : x ∈ l.reverse := (List.dropWhile_sublist _).subset h3
    exact List.all_eq_true.1 h x (List.mem_reverse.1 h4)

theorem specBits_loop (s : ByteArray) (hn : s.size ≤ 9223372036854775807) (d : Nat) : ∀ j : Nat, j + d = s.data.toList.length → Ev (fun k => spec_l01Bits.l0 k s (j : Int)) (areB (s.data.toList.drop j) && decide ((s.size : Int) ≤ 400)) := by
  have hs := size_l s
  induction d with
  | zero =>
    intro j h
    rw [List.drop_eq_nil_of_le (by omega)]
    exact ev_one (fun k => by rw [spec_l01Bits.l0, if_neg (by omega)]; rfl)
  | succ d ih =>
    intro j h
    have hj : j < s.data.toList.length := by omega
    have hb := bt_l s j hj
    have hw := wrap_succ hj (by omega)
    rw [drop_cons _ _ hj]
    unfold areB
    rw [List.all_cons]
    by_cases c1 : bt s (j : Int) = 48
    · have e : isBit s.data.toList[j] = true := by unfold isBit; have : s.data.toList[j].toNat = 48 := by omega
                                                   rw [this]; rfl
      rw [e, Bool.true_and]
      exact Ev.step (fun k => by rw [spec_l01Bits.l0, if_pos (by omega), if_pos (by omega), if_pos c1, hw]) (ih (j + 1) (by omega))
    · by_cases c2 : bt s (j : Int) = 49
      · have e : isBit s.data.toList[j] = true := by unfold isBit; have : s.data.toList[j].toNat = 49 := by omega
                                                     rw [this]; rfl
        rw [e, Bool.true_and]
        exact Ev.step (fun k => by rw [spec_l01Bits.l0, if_pos (by omega), if_pos (by omega), if_neg c1, if_pos c2, hw]) (ih (j + 1) (by omega))
      · have e : isBit s.data.toList[j] = false := by
          unfold isBit
          obtain ⟨n, hn⟩ : ∃ n, n = s.data.toList[j].toNat := ⟨_, rfl⟩
          rw [← hn] at hb ⊢
          have h1 : (n == 48) = false := beq_eq_false_iff_ne.2 (by omega)
          have h2 : (n == 49) = false := beq_eq_false_iff_ne.2 (by omega)
          rw [h1, h2]; rfl
        rw [e, Bool.false_and, Bool.false_and]
        exact ev_one (fun k => by rw [spec_l01Bits.l0, if_pos (by omega), if_pos (by omega), if_neg c1, if_neg c2])
def IB (s : ByteArray) : Bool := areB s.data.toList && decide ((s.size : Int) ≤ 400)
theorem specBits_ev (s : ByteArray) (hn : s.size ≤ 9223372036854775807) : Ev (fun k => spec_l01Bits.f k s) (IB s) := specBits_loop s hn s.data.toList.length 0 (by omega)

theorem areBits_f (s : ByteArray) (hn : s.size ≤ 9223372036854775807) : impl_areBits.f s = some (areB s.data.toList) := by
  unfold impl_areBits.f strings_Trim.f
  rw [if_pos ⟨rfl, hn⟩, Option.bind_some]
  have e : (⟨(Lib.trimS s.data.toList [48, 49]).toArray⟩ : ByteArray).toList = Lib.trimS s.data.toList [48, 49] := by
    rw [Lib.toList_data]
  rw [e, ← trim_nil]

theorem ones_loop (s : ByteArray) (hn : s.size ≤ 1000) (hb : areB s.data.toList = true) (d : Nat) : ∀ (j : Nat) (acc : Int), j + d = s.size → 0 ≤ acc → acc ≤ j →
    Ev (fun k => spec_l01Ones.l0 k s acc (j : Int)) (acc + Lib.countByte (s.data.toList.drop j) 49) := by
  have hs := size_l s
  induction d with
  | zero =>
    intro j acc h _ _
    rw [List.drop_eq_nil_of_le (by omega)]
    exact ev_one (fun k => by rw [spec_l01Ones.l0, if_neg (by omega)]; simp [Lib.countByte])
  | succ d ih =>
    intro j acc h h0 h1
    have hj : j < s.data.toList.length := by omega
    have hw := wrap_succ (j := j) (n := s.size) (by omega) (by omega)
    have hbt := bt_l s j hj
    have hbit : s.data.toList[j].toNat = 48 ∨ s.data.toList[j].toNat = 49 := by
      have := List.all_eq_true.1 hb _ (List.getElem_mem hj)
      unfold isBit at this
      rw [Bool.or_eq_true, beq_iff_eq, beq_iff_eq] at this
      exact this
    rw [drop_cons _ _ hj]
    rcases hbit with hbit | hbit
    · have e0 : ((bt s (j : Int)) - 48) % 256 = 0 := by omega
      have ew : wrap64 (acc + 0) = acc := by rw [Int.add_zero, wrap64_in (by omega) (by omega)]
      have ne : (s.data.toList[j] == 49) = false := by
        rw [beq_eq_false_iff_ne]
        intro hh
        rw [hh] at hbit
        exact absurd hbit (by decide)
      have ec : Lib.countByte (s.data.toList[j] :: s.data.toList.drop (j + 1)) 49 = Lib.countByte (s.data.toList.drop (j + 1)) 49 := by unfold Lib.countByte; rw [List.count_cons, ne]; rfl
      rw [ec]
      exact Ev.step (fun k => by rw [spec_l01Ones.l0, if_pos (by omega), if_pos (by omega), e0, ew, hw]) (ih (j + 1) acc (by omega) h0 (by omega))
    · have e0 : ((bt s (j : Int)) - 48) % 256 = 1 := by omega
      have ew : wrap64 (acc + 1) = acc + 1 := wrap64_in (by omega) (by omega)
      have ne : s.data.toList[j] = 49 := by rw [← UInt8.toNat_inj]; exact hbit
      have ec : ((Lib.countByte (s.data.toList[j] :: s.data.toList.drop (j + 1)) 49 : Nat) : Int) = 1 + ((Lib.countByte (s.data.toList.drop (j + 1)) 49 : Nat) : Int) := by unfold Lib.countByte; rw [List.count_cons, ne]; simp; omega
      have := ih (j + 1) (acc + 1) (by omega) (by omega) (by omega)
      rw [ec, ← Int.add_assoc]
      exact Ev.step (fun k => by rw [spec_l01Ones.l0, if_pos (by omega), if_pos (by omega), e0, ew, hw]) this

theorem rdS_get (l : List ByteArray) (j : Nat) (h : j < l.length) : rdOf ByteArray.empty l (j : Int) = l[j] := by
  unfold rdOf; rw [Int.toNat_natCast, List.getD_eq_getElem?_getD, List.getElem?_eq_getElem h]; rfl
theorem toStringS_loop (l : List ByteArray) (hn : l.length ≤ 1048576) (d : Nat) : ∀ (j : Nat) (acc : List ByteArray), j + d = l.length → acc.length = l.length → acc.take j = l.take j →
    Ev (fun k => laws_toStringS.l0 k l acc (j : Int)) l := by
  induction d with
  | zero =>
    intro j acc h ha ht
    have e : acc = l := take_all (n := j) (by omega) (by omega) ht
    exact ev_one (fun k => by rw [laws_toStringS.l0, if_neg (by omega), e])
  | succ d ih =>
    intro j acc h ha ht
    have hj : j < l.length := by omega
    have hw := wrap_succ hj (by omega)
    have hi := ih (j + 1) (acc.set j l[j]) (by omega) (by rw [List.length_set]; exact ha) (by rw [set_take _ _ _ (by omega), ht, take_snoc' _ _ hj])
    exact Ev.step (fun k => by rw [laws_toStringS.l0, if_pos (by omega), if_pos (by omega), if_pos (by omega), rdS_get _ _ hj, Int.toNat_natCast, hw]) hi
theorem toStringS_ev (l : List ByteArray) (hn : l.length ≤ 1048576) : Ev (fun k => laws_toStringS.f k l) l := by
  refine Ev.congr (fun k => ?_) (toStringS_loop l hn l.length 0 (List.replicate l.length ⟨#[]⟩) (by omega) (by simp) rfl)
  unfold laws_toStringS.f
  rw [if_pos (by omega), Int.toNat_natCast, if_pos (by omega)]
  rfl
theorem eqStringS_loop (l : List ByteArray) (hn : l.length ≤ 1048576) (d : Nat) : ∀ j : Nat, j + d = l.length → Ev (fun k => laws_eqStringS.l0 k l l (j : Int)) true := by
  induction d with
  | zero => intro j h; exact ev_one (fun k => by rw [laws_eqStringS.l0, if_neg (by omega)])
  | succ d ih =>
    intro j h
    refine Ev.step (fun k => ?_) (ih (j + 1) (by omega))
    rw [laws_eqStringS.l0, if_pos (by omega), if_pos (by omega), if_pos (by omega), if_pos rfl, wrap_succ (n := l.length) (by omega) (by omega)]
theorem eqStringS_ev (l : List ByteArray) (hn : l.length ≤ 1048576) : Ev (fun k => laws_eqStringS.f k l l) true := by
  refine Ev.congr (fun k => ?_) (eqStringS_loop l hn l.length 0 (by omega))
  unfold laws_eqStringS.f
  rw [if_pos rfl]
  rfl
theorem szStringS_loop (l : List ByteArray) (hn : l.length ≤ 9223372036854775807) (hl : ∀ s ∈ l, s.size ≤ 9223372036854775807) (d : Nat) : ∀ (j : Nat) (left : Int), j + d = l.length → 0 ≤ left → left ≤ 1048576 →
    (∃ r, Ev (fun k => laws_szStringS.l0 k l left (j : Int)) r ∧ r ≤ left ∧ (0 ≤ r → ∀ x ∈ l.drop j, x.size ≤ 1048576)) := by
  induction d with
  | zero =>
    intro j left h h0 h1
    refine ⟨left, ev_one (fun k => by rw [laws_szStringS.l0, if_neg (by omega)]), Int.le_refl _, fun _ x hx => ?_⟩
    rw [List.drop_eq_nil_of_le (by omega)] at hx
    cases hx
  | succ d ih =>
    intro j left h h0 h1
    have hj : j < l.length := by omega
    have hlen := hl _ (List.getElem_mem hj)
    have hw : wrap64 (left - (l[j].size : Int)) = left - (l[j].size : Int) := wrap64_in (by omega) (by omega)
    by_cases c : left - (l[j].size : Int) < 0
    · refine ⟨-1, ev_one (fun k => ?_), by omega, fun h => by omega⟩
      rw [laws_szStringS.l0, if_pos (by omega), if_pos (by omega), rdS_get _ _ hj, hw, if_pos c]
    · obtain ⟨r, hr, hle, hp⟩ := ih (j + 1) (left - (l[j].size : Int)) (by omega) (by omega) (by omega)
      refine ⟨r, Ev.step (fun k => ?_) hr, by omega, fun h0 x hx => ?_⟩
      · rw [laws_szStringS.l0, if_pos (by omega), if_pos (by omega), rdS_get _ _ hj, hw, if_neg c, wrap_succ hj (by omega)]
      · rw [drop_cons _ _ hj] at hx
        rcases List.mem_cons.1 hx with rfl | hx
        · omega
        · exact hp h0 x hx
theorem szStringS_ev (l : List ByteArray) (hn : l.length ≤ 9223372036854775807) (hl : ∀ s ∈ l, s.size ≤ 9223372036854775807) (left : Int) (h0 : 0 ≤ left) (h1 : left ≤ 1048576) :
    ∃ r, Ev (fun k => laws_szStringS.f k l left) r ∧ r ≤ left ∧ (0 ≤ r → l.length ≤ 1048576 ∧ ∀ x ∈ l, x.size ≤ 1048576) := by
  have hw : wrap64 (left - (l.length : Int)) = left - (l.length : Int) := wrap64_in (by omega) (by omega)
  by_cases c : left - (l.length : Int) < 0
  · refine ⟨-1, Ev.congr (fun k => ?_) (Ev.now _), by omega, fun h => by omega⟩
    unfold laws_szStringS.f
    rw [hw, if_pos c]
  · obtain ⟨r, hr, hle, hp⟩ := szStringS_loop l hn hl l.length 0 (left - (l.length : Int)) (by omega) (by omega) (by omega)
    refine ⟨r, Ev.congr (fun k => ?_) hr, by omega, fun h => ⟨by omega, fun x hx => hp h x (by simpa using hx)⟩⟩
    unfold laws_szStringS.f
    rw [hw, if_neg c]
    rfl
theorem idx_both (L : List ByteArray) (s : ByteArray) (hn : L.length ≤ 1048576) (d : Nat) : ∀ j : Nat, j + d = L.length → ∃ r, Ev (fun k => spec_l03Index.l0 k L s (j : Int)) r ∧ Ev (fun k => slices_Index_string_string.l0 k L s (L.length : Int) (j : Int)) r ∧ (r ≥ 0 ↔ s.toList ∈ (L.drop j).map ByteArray.toList) ∧ (r < 0 → r = -1) ∧ (0 ≤ r → ∃ i : Nat, r = i ∧ j ≤ i ∧ ∃ h : i < L.length, L[i].toList = s.toList) := by
  induction d with
  | zero =>
    intro j h
    refine ⟨-1, ev_one (fun k => by rw [spec_l03Index.l0, if_neg (by omega)]), ev_one (fun k => by rw [slices_Index_string_string.l0, if_neg (by omega)]), ?_, fun _ => rfl, fun h => by omega⟩
    rw [List.drop_eq_nil_of_le (by omega)]; simp
  | succ d ih =>
    intro j h
    have hj : j < L.length := by omega
    have hw := wrap_succ hj (by omega)
    rw [drop_cons _ _ hj, List.map_cons, List.mem_cons]
    by_cases c : L[j].toList = s.toList
    · exact ⟨(j : Int), ev_one (fun k => by rw [spec_l03Index.l0, if_pos (by omega), if_pos (by omega), rdS_get _ _ hj, if_pos c]), ev_one (fun k => by rw [slices_Index_string_string.l0, if_pos (by omega), if_pos (by omega), if_pos (by omega), rdS_get _ _ hj, if_pos c.symm]), ⟨fun _ => .inl c.symm, fun _ => by omega⟩, fun h => by omega, fun _ => ⟨j, rfl, Nat.le_refl _, hj, c⟩⟩
    · obtain ⟨r, r1, r2, r3, r4, r5⟩ := ih (j + 1) (by omega)
      exact ⟨r, Ev.step (fun k => by rw [spec_l03Index.l0, if_pos (by omega), if_pos (by omega), rdS_get _ _ hj, if_neg c, hw]) r1, Ev.step (fun k => by rw [slices_Index_string_string.l0, if_pos (by omega), if_pos (by omega), if_pos (by omega), rdS_get _ _ hj, if_neg (fun e => c e.symm), hw]) r2, r3.trans ⟨.inr, fun h => h.resolve_left (fun e => c e.symm)⟩, r4, fun h0 => by
        obtain ⟨i, e1, e2, e3⟩ := r5 h0
        exact ⟨i, e1, by omega, e3⟩⟩

def dsp (s : ByteArray) : Int := wrap64 ((wrap64 (2 * ((Lib.countByte s.data.toList 49 : Nat) : Int))) - (s.size : Int))
theorem disp_f (s : ByteArray) : impl_disparity.f s = some (dsp s) := by
  unfold impl_disparity.f strings_Count.f
  rw [if_pos rfl]
  rfl
theorem ones_any (s : ByteArray) (hn : s.size ≤ 1048576) (d : Nat) : ∀ (j : Nat) (acc : Int), j + d = s.size → ∃ v, Ev (fun k => spec_l01Ones.l0 k s acc (j : Int)) v := by
  induction d with
  | zero => intro j acc h; exact ⟨acc, ev_one (fun k => by rw [spec_l01Ones.l0, if_neg (by omega)])⟩
  | succ d ih =>
    intro j acc h
    have hw := wrap_succ (j := j) (n := s.size) (by omega) (by omega)
    obtain ⟨v, hv⟩ := ih (j + 1) (wrap64 (acc + (((bt s (j : Int)) - 48) % 256))) (by omega)
    exact ⟨v, Ev.step (fun k => by rw [spec_l01Ones.l0, if_pos (by omega), if_pos (by omega), hw]) hv⟩
theorem IB_parts {s : ByteArray} (h : IB s = true) : areB s.data.toList = true ∧ s.size ≤ 400 := by
  unfold IB at h
  rw [Bool.and_eq_true, decide_eq_true_iff] at h
  exact ⟨h.1, by omega⟩
theorem specDisp_any (s : ByteArray) (hn : s.size ≤ 1048576) : ∃ v, Ev (fun k => spec_l03Disparity.f k s) v ∧ (IB s = true → v = dsp s) := by
  cases e : IB s with
  | false =>
    obtain ⟨v, hv⟩ := ones_any s hn s.size 0 0 (by omega)
    refine ⟨wrap64 ((wrap64 (2 * v)) - (s.size : Int)), ?_, fun h => by cases h⟩
    unfold spec_l03Disparity.f
    exact Ev.bind (f := fun k t => some (wrap64 ((wrap64 (2 * t)) - (s.size : Int)))) (show Ev (fun k => spec_l01Ones.f k s) v from hv) (Ev.now _)
  | true =>
    obtain ⟨e1, e2⟩ := IB_parts e
    have h := ones_loop s (by omega) e1 s.size 0 0 (by omega) (by omega) (by omega)
    rw [Int.zero_add, List.drop_zero] at h
    refine ⟨dsp s, ?_, fun _ => rfl⟩
    unfold spec_l03Disparity.f
    exact Ev.bind (f := fun k t => some (wrap64 ((wrap64 (2 * t)) - (s.size : Int)))) h (Ev.now _)
/-- A word of a list of a valid code. -/
def WOK (L : List ByteArray) (c1 o : Int) (i : Nat) (h : i < L.length) : Prop := areB L[i].data.toList = true ∧ (L[i].size : Int) = c1 ∧ (dsp L[i] = 0 ∨ dsp L[i] = o) ∧ ∀ (i' : Nat) (h' : i' < i), L[i'].toList ≠ L[i].toList
theorem words_both (L : List ByteArray) (c1 o : Int) (hc : c1 ≤ 400) (hn : L.length ≤ 1000) (hs : ∀ s ∈ L, s.size ≤ 1048576) (d : Nat) : ∀ (j : Nat) (seen : List (List UInt8)), j + d = L.length → seen.length ≤ j → (∀ y, y ∈ seen ↔ y ∈ (L.take j).map ByteArray.toList) →
    ∃ r, Ev (fun k => spec_l03Words.l0 k L c1 o (j : Int)) r ∧ Ev (fun k => impl_BlockCode_areWords.l0 k c1 L o seen (j : Int)) r ∧ (r = true → ∀ i : Nat, j ≤ i → ∀ h : i < L.length, WOK L c1 o i h) := by
  induction d with
  | zero => intro j seen h h1 h2; exact ⟨true, ev_one (fun k => by rw [spec_l03Words.l0, if_neg (by omega)]), ev_one (fun k => by rw [impl_BlockCode_areWords.l0, if_neg (by omega)]), fun _ i h1 h2 => by omega⟩
  | succ d ih =>
    intro j seen h h1 h2
    have hj : j < L.length := by omega
    have hw := wrap_succ hj (by omega)
    have hz := hs _ (List.getElem_mem hj)
    have hrd := rdS_get L j hj
    have htk := take_snoc' L j hj
    obtain ⟨s, hsj⟩ : ∃ s, s = L[j] := ⟨_, rfl⟩
    rw [← hsj] at hz hrd htk
    obtain ⟨v, hv, hv2⟩ := specDisp_any s hz
    have hb := specBits_ev s (by omega)
    have ia := areBits_f s (by omega)
    have st : ∀ R, Ev (fun k => if IB s = true then (if (s.size : Int) = c1 then (if v = 0 then ((spec_l03Index.f k (L.take j) s).bind fun t => (if t ≥ 0 then (some false) else (spec_l03Words.l0 k L c1 o ((j + 1 : Nat) : Int)))) else (if v = o then ((spec_l03Index.f k (L.take j) s).bind fun t => (if t ≥ 0 then (some false) else (spec_l03Words.l0 k L c1 o ((j + 1 : Nat) : Int)))) else some false)) else some false) else some false) R → Ev (fun k => spec_l03Words.l0 k L c1 o (j : Int)) R := by
      intro R hR
      refine Ev.step (fun k => by rw [spec_l03Words.l0, if_pos (by omega), if_pos (by omega), hrd, Int.toNat_natCast, hw, if_pos (show (j : Int) ≤ (L.length : Int) by omega)]) (Ev.bind hv (Ev.bind hb hR))
    have im : ∀ R, Ev (fun k => if (s.size : Int) = c1 then (if areB s.data.toList = true then (if dsp s = 0 ∨ dsp s = o then (if s.data.toList ∈ seen then some false else impl_BlockCode_areWords.l0 k c1 L o (s.data.toList :: seen) ((j + 1 : Nat) : Int)) else some false) else some false) else some false) R → Ev (fun k => impl_BlockCode_areWords.l0 k c1 L o seen (j : Int)) R := by
      intro R hR
      refine Ev.step (fun k => by rw [impl_BlockCode_areWords.l0, if_pos (by omega), if_pos (by omega), hrd, if_pos hz, disp_f, Option.bind_some, ia, Option.bind_some, if_pos (show seen.length < 1000000 by omega), hw]) hR
    cases e : IB s with
    | false =>
      refine ⟨false, st _ (ev_neg (by rw [e]; decide) (Ev.now _)), im _ ?_, (fun q => absurd q Bool.false_ne_true)⟩
      by_cases c : (s.size : Int) = c1
      · have hB : areB s.data.toList = false := by
          unfold IB at e
          rw [decide_eq_true (show (s.size : Int) ≤ 400 by omega), Bool.and_true] at e
          exact e
        exact ev_pos c (ev_neg (by rw [hB]; decide) (Ev.now _))
      · exact ev_neg c (Ev.now _)
    | true =>
      obtain ⟨p1, p2⟩ := IB_parts e
      obtain rfl := hv2 e
      by_cases c : (s.size : Int) = c1
      · obtain ⟨i, i1, _, i3, _, _⟩ := idx_both (L.take j) s (by rw [List.length_take]; omega) (L.take j).length 0 (by omega)
        rw [List.drop_zero, ← h2, Lib.toList_data] at i3
        have i1' : Ev (fun k => spec_l03Index.f k (L.take j) s) i := i1
        by_cases c9 : s.data.toList ∈ seen
        · have go : Ev (fun k => (spec_l03Index.f k (L.take j) s).bind fun t => (if t ≥ 0 then (some false) else (spec_l03Words.l0 k L c1 o ((j + 1 : Nat) : Int)))) false := Ev.bind i1' (ev_pos (i3.2 c9) (Ev.now _))
          refine ⟨false, st _ (ev_pos e (ev_pos c ?_)), im _ (ev_pos c (ev_pos p1 ?_)), (fun q => absurd q Bool.false_ne_true)⟩
          · by_cases c8 : dsp s = 0
            · exact ev_pos c8 go
            · by_cases c7 : dsp s = o
              · exact ev_neg c8 (ev_pos c7 go)
              · exact ev_neg c8 (ev_neg c7 (Ev.now _))
          · by_cases c8 : dsp s = 0 ∨ dsp s = o
            · exact ev_pos c8 (ev_pos c9 (Ev.now _))
            · exact ev_neg c8 (Ev.now _)
        · by_cases c8 : dsp s = 0 ∨ dsp s = o
          · obtain ⟨r, r1, r2, r3⟩ := ih (j + 1) (s.data.toList :: seen) (by omega) (by simp; omega) (by
              intro y
              rw [htk, List.map_append, List.mem_append, List.mem_cons, h2, Or.comm]
              simp [Lib.toList_data])
            have go : Ev (fun k => (spec_l03Index.f k (L.take j) s).bind fun t => (if t ≥ 0 then (some false) else (spec_l03Words.l0 k L c1 o ((j + 1 : Nat) : Int)))) r := Ev.bind i1' (ev_neg (fun hh => c9 (i3.1 hh)) r1)
            refine ⟨r, st _ (ev_pos e (ev_pos c ?_)), im _ (ev_pos c (ev_pos p1 (ev_pos c8 (ev_neg c9 r2)))), fun q i h1 h2' => ?_⟩
            rotate_left
            · by_cases ci : i = j
              · subst ci
                refine ⟨by rw [← hsj]; exact p1, by rw [← hsj]; exact c, by rw [← hsj]; exact c8, fun i' hi' he => ?_⟩
                apply c9
                rw [h2, ← Lib.toList_data, hsj, ← he]
                exact List.mem_map.2 ⟨L[i'], List.mem_take_iff_getElem.2 ⟨i', by omega, rfl⟩, rfl⟩
              · exact r3 q i (by omega) h2'
            by_cases c7 : dsp s = 0
            · exact ev_pos c7 go
            · exact ev_neg c7 (ev_pos (c8.resolve_left c7) go)
          · exact ⟨false, st _ (ev_pos e (ev_pos c (ev_neg (fun hh => c8 (.inl hh)) (ev_neg (fun hh => c8 (.inr hh)) (Ev.now _))))), im _ (ev_pos c (ev_pos p1 (ev_neg c8 (Ev.now _)))), (fun q => absurd q Bool.false_ne_true)⟩
      · exact ⟨false, st _ (ev_pos e (ev_neg c (Ev.now _))), im _ (ev_neg c (Ev.now _)), (fun q => absurd q Bool.false_ne_true)⟩

theorem last_both (L2 L3 : List ByteArray) (hn2 : L2.length ≤ 1048576) (hn3 : L3.length ≤ 1048576) (a0 a1 : Int) (d : Nat) : ∀ j : Nat, j + d = L2.length →
    ∃ r, Ev (fun k => spec_l03Is.l0 k (L2.length : Int) (j : Int) a0 a1 L2 L3) r ∧ Ev (fun k => impl_ValidBlockCode.l0 k L2 (L2.length : Int) (j : Int) a0 a1 L2 L3) r ∧ (r = true → ∀ i : Nat, j ≤ i → ∀ (h : i < L2.length) (i' : Nat) (h' : i' < L3.length), L2[i].toList = L3[i'].toList → (∀ (p q : Nat) (hp : p < L3.length) (hq : q < L3.length), p < q → L3[p].toList ≠ L3[q].toList) → i = i') := by
  induction d with
  | zero => intro j h; exact ⟨true, ev_one (fun k => by rw [spec_l03Is.l0, if_neg (by omega)]), ev_one (fun k => by rw [impl_ValidBlockCode.l0, if_neg (by omega)]), fun _ i h1 h2 => by omega⟩
  | succ d ih =>
    intro j h
    have hj : j < L2.length := by omega
    have hw := wrap_succ hj (by omega)
    have hrd := rdS_get L2 j hj
    obtain ⟨i, i1, i2, i3, _, i5⟩ := idx_both L3 L2[j] hn3 L3.length 0 (by omega)
    rw [List.drop_zero] at i3
    have i1' : Ev (fun k => spec_l03Index.f k L3 L2[j]) i := i1
    have i2' : Ev (fun k => slices_Index_string_string.f k L3 L2[j]) i := i2
    obtain ⟨r, r1, r2, r3⟩ := ih (j + 1) (by omega)
    have sp : ∀ R, Ev (fun k => if i ≥ 0 then (if i = (j : Int) then spec_l03Is.l0 k (L2.length : Int) ((j + 1 : Nat) : Int) a0 a1 L2 L3 else some false) else spec_l03Is.l0 k (L2.length : Int) ((j + 1 : Nat) : Int) a0 a1 L2 L3) R → Ev (fun k => spec_l03Is.l0 k (L2.length : Int) (j : Int) a0 a1 L2 L3) R :=
      fun R hR => Ev.step (fun k => by rw [spec_l03Is.l0, if_pos (by omega), if_pos (by omega), if_pos (by omega), hrd, hw]) (Ev.bind i1' hR)
    have im : ∀ R, Ev (fun k => if i ≥ 0 then (if i = (j : Int) then impl_ValidBlockCode.l0 k L2 (L2.length : Int) ((j + 1 : Nat) : Int) a0 a1 L2 L3 else some false) else impl_ValidBlockCode.l0 k L2 (L2.length : Int) ((j + 1 : Nat) : Int) a0 a1 L2 L3) R → Ev (fun k => impl_ValidBlockCode.l0 k L2 (L2.length : Int) (j : Int) a0 a1 L2 L3) R :=
      fun R hR => Ev.step (fun k => by rw [impl_ValidBlockCode.l0, if_pos (by omega), if_pos (by omega), if_pos (by omega), hrd, hw]) (Ev.bind i2' hR)
    by_cases c : i ≥ 0
    · by_cases c2 : i = (j : Int)
      · refine ⟨r, sp _ (ev_pos c (ev_pos c2 r1)), im _ (ev_pos c (ev_pos c2 r2)), fun q z h1 h2 i' h' he hd => ?_⟩
        by_cases cz : z = j
        · subst cz
          obtain ⟨y, e1, _, e2, e3⟩ := i5 c
          have ey : y = z := by omega
          subst ey
          rcases Nat.lt_trichotomy y i' with g | g | g
          · exact absurd (e3.trans he) (hd y i' e2 h' g)
          · exact g
          · exact absurd (e3.trans he).symm (hd i' y h' e2 g)
        · exact r3 q z (by omega) h2 i' h' he hd
      · exact ⟨false, sp _ (ev_pos c (ev_neg c2 (Ev.now _))), im _ (ev_pos c (ev_neg c2 (Ev.now _))), (fun q => absurd q Bool.false_ne_true)⟩
    · refine ⟨r, sp _ (ev_neg c r1), im _ (ev_neg c r2), fun q z h1 h2 i' h' he hd => ?_⟩
      by_cases cz : z = j
      · subst cz
        exact absurd (i3.2 (by rw [he]; exact List.mem_map.2 ⟨L3[i'], List.getElem_mem h', rfl⟩)) c
      · exact r3 q z (by omega) h2 i' h' he hd
theorem shl_data (a : Int) (h : 1 ≤ a ∧ a ≤ 6) : shl .i64 1 a = wrap64 (2 ^ min a.toNat 64) ∧ shl .i64 1 a ≤ 64 := by
  have : a = 1 ∨ a = 2 ∨ a = 3 ∨ a = 4 ∨ a = 5 ∨ a = 6 := by omega
  rcases this with rfl | rfl | rfl | rfl | rfl | rfl <;> decide +kernel
theorem isData_f (a : Int) : impl_isData.f a = some (decide (1 ≤ a ∧ a ≤ 6)) := by
  unfold impl_isData.f
  rw [impl_in]; rfl
theorem isWidth_f (a : Int) : impl_isWidth.f a = some (decide (2 ≤ a ∧ a ≤ 12) && ((Int.tmod a 2) == 0)) := by
  unfold impl_isWidth.f
  rw [impl_in, Option.bind_some]
  by_cases c : 2 ≤ a ∧ a ≤ 12
  · rw [decide_eq_true c, if_pos rfl, Bool.true_and]
  · rw [decide_eq_false c, if_neg Bool.false_ne_true, Bool.false_and]
/-- A valid block code. -/
structure VC (a0 a1 : Int) (L2 L3 : List ByteArray) : Prop where
  data : 1 ≤ a0 ∧ a0 ≤ 6
  width : 2 ≤ a1 ∧ a1 ≤ 12
  even : Int.tmod a1 2 = 0
  n2 : (L2.length : Int) = shl .i64 1 a0
  n3 : (L3.length : Int) = shl .i64 1 a0
  w2 : ∀ (i : Nat) (h : i < L2.length), WOK L2 a1 2 i h
  w3 : ∀ (i : Nat) (h : i < L3.length), WOK L3 a1 (-2) i h
  cross : ∀ (i : Nat) (h : i < L2.length) (i' : Nat) (h' : i' < L3.length), L2[i].toList = L3[i'].toList → i = i'
theorem code_both (a0 a1 : Int) (L2 L3 : List ByteArray) (h2 : L2.length ≤ 1048576) (h3 : L3.length ≤ 1048576) (s2 : ∀ s ∈ L2, s.size ≤ 1048576) (s3 : ∀ s ∈ L3, s.size ≤ 1048576) :
    ∃ r, Ev (fun k => spec_l03Is.f k a0 a1 L2 L3) r ∧ Ev (fun k => impl_ValidBlockCode.f k a0 a1 L2 L3) r ∧ (r = true → VC a0 a1 L2 L3) := by
  have sno : Ev (fun k => spec_l03Is.j0 k true a0 a1 L2 L3) false := ev_one (fun k => by rw [spec_l03Is.j0, if_pos rfl])
  have sn1 : ∀ n, Ev (fun k => spec_l03Is.j1 k n true a0 a1 L2 L3) false := fun n => ev_one (fun k => by rw [spec_l03Is.j1, if_pos rfl])
  have ino : Ev (fun k => impl_ValidBlockCode.j0 k true a0 a1 L2 L3) false := ev_one (fun k => by rw [impl_ValidBlockCode.j0, if_pos rfl])
  unfold spec_l03Is.f impl_ValidBlockCode.f
  by_cases c0 : 1 ≤ a0 ∧ a0 ≤ 6
  · by_cases c1 : 2 ≤ a1 ∧ a1 ≤ 12
    · by_cases ct : (Int.tmod a1 2) = 0
      · have hd := isData_f a0
        have hwd := isWidth_f a1
        rw [decide_eq_true c0] at hd
        rw [decide_eq_true c1, ct] at hwd
        have hs0 := spec_in a0 1 6
        have hs1 := spec_in a1 2 12
        rw [decide_eq_true c0] at hs0
        rw [decide_eq_true c1] at hs1
        have hu : IntKind.u64.wrap a0 = a0 := u64_in (by omega) (by omega)
        obtain ⟨hsh, hle⟩ := shl_data a0 c0
        suffices h : ∃ r, (r = true → VC a0 a1 L2 L3) ∧ Ev (fun k => if (L2.length : Int) = shl .i64 1 a0 then (if (L3.length : Int) = shl .i64 1 a0 then ((spec_l03Words.f k L2 a1 2).bind fun t => (if t = true then ((spec_l03Words.f k L3 a1 (-2)).bind fun t2 => (spec_l03Is.j1 k (shl .i64 1 a0) (!t2) a0 a1 L2 L3)) else (spec_l03Is.j1 k (shl .i64 1 a0) true a0 a1 L2 L3))) else (spec_l03Is.j1 k (shl .i64 1 a0) true a0 a1 L2 L3)) else (spec_l03Is.j1 k (shl .i64 1 a0) true a0 a1 L2 L3)) r ∧
            Ev (fun k => (impl_BlockCode_areWords.f k a0 a1 L2 L3 L2 2).bind fun t => (if t = true then ((impl_BlockCode_areWords.f k a0 a1 L2 L3 L3 (-2)).bind fun t2 => (impl_ValidBlockCode.j0 k (!t2) a0 a1 L2 L3)) else (impl_ValidBlockCode.j0 k true a0 a1 L2 L3))) r by
          obtain ⟨r, r0, r1, r2⟩ := h
          refine ⟨r, ev_to hs0 (ev_pos rfl (ev_to hs1 (ev_pos rfl ?_))), ev_to hd (ev_pos rfl (ev_to hwd (ev_pos rfl r2))), r0⟩
          exact Ev.step (fun k => by rw [ct, spec_l03Is.j0, if_neg (by decide), hu, if_pos (by omega)]) r1
        have aw : ∀ (L : List ByteArray) (o : Int) (R : Bool), (L.length : Int) = shl .i64 1 a0 → Ev (fun k => impl_BlockCode_areWords.l0 k a1 L o [] 0) R → Ev (fun k => impl_BlockCode_areWords.f k a0 a1 L2 L3 L o) R := by
          intro L o R hL hR
          unfold impl_BlockCode_areWords.f
          exact ev_pos (by omega) (ev_pos (by rw [hL, hsh]) hR)
        have an : ∀ (L : List ByteArray) (o : Int), (L.length : Int) ≠ shl .i64 1 a0 → Ev (fun k => impl_BlockCode_areWords.f k a0 a1 L2 L3 L o) false := by
          intro L o hL
          unfold impl_BlockCode_areWords.f
          exact ev_pos (by omega) (ev_neg (by rw [← hsh]; exact hL) (Ev.now _))
        by_cases e2 : (L2.length : Int) = shl .i64 1 a0
        · obtain ⟨w2, w2s, w2i, w2k⟩ := words_both L2 a1 2 (by omega) (by omega) s2 L2.length 0 [] (by omega) (by simp) (by simp)
          have w2s' : Ev (fun k => spec_l03Words.f k L2 a1 2) w2 := w2s
          have w2i' := aw L2 2 w2 e2 w2i
          by_cases e3 : (L3.length : Int) = shl .i64 1 a0
          · obtain ⟨w3, w3s, w3i, w3k⟩ := words_both L3 a1 (-2) (by omega) (by omega) s3 L3.length 0 [] (by omega) (by simp) (by simp)
            have w3s' : Ev (fun k => spec_l03Words.f k L3 a1 (-2)) w3 := w3s
            have w3i' := aw L3 (-2) w3 e3 w3i
            cases w2 with
            | false => exact ⟨false, (fun q => absurd q Bool.false_ne_true), ev_pos e2 (ev_pos e3 (Ev.bind w2s' (ev_neg Bool.false_ne_true (sn1 _)))), Ev.bind w2i' (ev_neg Bool.false_ne_true ino)⟩
            | true =>
              cases w3 with
              | false => exact ⟨false, (fun q => absurd q Bool.false_ne_true), ev_pos e2 (ev_pos e3 (Ev.bind w2s' (ev_pos rfl (Ev.bind w3s' (sn1 _))))), Ev.bind w2i' (ev_pos rfl (Ev.bind w3i' ino))⟩
              | true =>
                obtain ⟨r, r1, r2, r3⟩ := last_both L2 L3 h2 h3 a0 a1 L2.length 0 (by omega)
                refine ⟨r, fun q => ⟨c0, c1, ct, e2, e3, fun i h => w2k rfl i (Nat.zero_le _) h, fun i h => w3k rfl i (Nat.zero_le _) h, fun i h i' h' he => r3 q i (Nat.zero_le _) h i' h' he (fun p q' hp hq hpq => (w3k rfl q' (Nat.zero_le _) hq).2.2.2 p hpq)⟩, ev_pos e2 (ev_pos e3 (Ev.bind w2s' (ev_pos rfl (Ev.bind w3s' ?_)))), Ev.bind w2i' (ev_pos rfl (Ev.bind w3i' ?_))⟩
                · exact Ev.step (f := fun k => spec_l03Is.l0 k (L2.length : Int) 0 a0 a1 L2 L3) (fun k => by rw [spec_l03Is.j1, if_neg (by decide), e2]) r1
                · exact Ev.step (f := fun k => impl_ValidBlockCode.l0 k L2 (L2.length : Int) 0 a0 a1 L2 L3) (fun k => by rw [impl_ValidBlockCode.j0, if_neg (by decide)]) r2
          · refine ⟨false, (fun q => absurd q Bool.false_ne_true), ev_pos e2 (ev_neg e3 (sn1 _)), Ev.bind w2i' ?_⟩
            cases w2 with
            | false => exact ev_neg Bool.false_ne_true ino
            | true => exact ev_pos rfl (Ev.bind (an L3 (-2) e3) ino)
        · exact ⟨false, (fun q => absurd q Bool.false_ne_true), ev_neg e2 (sn1 _), Ev.bind (an L2 2 e2) (ev_neg Bool.false_ne_true ino)⟩
      · have hd := isData_f a0
        have hwd := isWidth_f a1
        rw [decide_eq_true c0] at hd
        rw [decide_eq_true c1, Bool.true_and, show ((Int.tmod a1 2) == 0) = false from by simpa using ct] at hwd
        have hs0 := spec_in a0 1 6
        have hs1 := spec_in a1 2 12
        rw [decide_eq_true c0] at hs0
        rw [decide_eq_true c1] at hs1
        refine ⟨false, ev_to hs0 (ev_pos rfl (ev_to hs1 (ev_pos rfl ?_))), ev_to hd (ev_pos rfl (ev_to hwd (ev_neg Bool.false_ne_true ino))), (fun q => absurd q Bool.false_ne_true)⟩
        rw [show ((Int.tmod a1 2) != 0) = true from by simpa using ct]
        exact sno
    · have hd := isData_f a0
      have hwd := isWidth_f a1
      rw [decide_eq_true c0] at hd
      rw [decide_eq_false c1, Bool.false_and] at hwd
      have hs0 := spec_in a0 1 6
      have hs1 := spec_in a1 2 12
      rw [decide_eq_true c0] at hs0
      rw [decide_eq_false c1] at hs1
      exact ⟨false, ev_to hs0 (ev_pos rfl (ev_to hs1 (ev_neg Bool.false_ne_true sno))), ev_to hd (ev_pos rfl (ev_to hwd (ev_neg Bool.false_ne_true ino))), (fun q => absurd q Bool.false_ne_true)⟩
  · have hd := isData_f a0
    have hs0 := spec_in a0 1 6
    rw [decide_eq_false c0] at hd hs0
    exact ⟨false, ev_to hs0 (ev_neg Bool.false_ne_true sno), ev_to hd (ev_neg Bool.false_ne_true ino), (fun q => absurd q Bool.false_ne_true)⟩

theorem szCode_ev (a0 a1 : Int) (L2 L3 : List ByteArray) (n2 : L2.length ≤ 9223372036854775807) (z2 : ∀ s ∈ L2, s.size ≤ 9223372036854775807) (n3 : L3.length ≤ 9223372036854775807) (z3 : ∀ s ∈ L3, s.size ≤ 9223372036854775807) :
    ∃ t, Ev (fun k => laws_szBlockCode.f k a0 a1 L2 L3 1048576) t ∧ (0 ≤ t → (L2.length ≤ 1048576 ∧ ∀ x ∈ L2, x.size ≤ 1048576) ∧ (L3.length ≤ 1048576 ∧ ∀ x ∈ L3, x.size ≤ 1048576)) := by
  obtain ⟨t1, e1, l1, p1⟩ := szStringS_ev L2 n2 z2 1048576 (by decide) (by decide)
  unfold laws_szBlockCode.f
  by_cases c : t1 < 0
  · exact ⟨-1, Ev.bind e1 (ev_pos c (Ev.now _)), fun h => by omega⟩
  · obtain ⟨t2, e2, l2, p2⟩ := szStringS_ev L3 n3 z3 t1 (by omega) (by omega)
    by_cases c2 : t2 < 0
    · exact ⟨-1, Ev.bind e1 (ev_neg c (Ev.bind e2 (ev_pos c2 (Ev.now _)))), fun h => by omega⟩
    · exact ⟨t2, Ev.bind e1 (ev_neg c (Ev.bind e2 (ev_neg c2 (Ev.now _)))), fun h => ⟨p1 (by omega), p2 h⟩⟩
theorem toCode_ev (a0 a1 : Int) (L2 L3 : List ByteArray) (h2 : L2.length ≤ 1048576) (h3 : L3.length ≤ 1048576) : Ev (fun k => laws_toBlockCode.f k a0 a1 L2 L3) (a0, a1, L2, L3) := by
  unfold laws_toBlockCode.f
  exact Ev.bind (toStringS_ev L2 h2) (Ev.bind (toStringS_ev L3 h3) (Ev.now _))
theorem eqCode_ev (a0 a1 : Int) (L2 L3 : List ByteArray) (h2 : L2.length ≤ 1048576) (h3 : L3.length ≤ 1048576) : Ev (fun k => laws_eqBlockCode.f k a0 a1 L2 L3 a0 a1 L2 L3) true := by
  unfold laws_eqBlockCode.f
  exact ev_pos rfl (ev_pos rfl (Ev.bind (eqStringS_ev L2 h2) (ev_pos rfl (Ev.bind (eqStringS_ev L3 h3) (ev_pos rfl (Ev.now _))))))

theorem toInt64S_loop (l : List Int) (hn : l.length ≤ 1048576) (d : Nat) : ∀ (j : Nat) (acc : List Int), j + d = l.length → acc.length = l.length → acc.take j = l.take j →
    Ev (fun k => laws_toInt64S.l0 k l acc (j : Int)) l := by
  induction d with
  | zero =>
    intro j acc h1 h2 h3
    obtain rfl : acc = l := take_all (n := j) (by omega) (by omega) h3
    exact ev_one (fun k => by rw [laws_toInt64S.l0, if_neg (by omega)])
  | succ d ih =>
    intro j acc h1 h2 h3
    have hj : j < l.length := by omega
    refine Ev.step (fun k => ?_) (ih (j + 1) (acc.set j l[j]) (by omega) (by simpa using h2) (by rw [set_take _ _ _ (by omega), take_snoc' _ _ hj, h3]))
    rw [laws_toInt64S.l0, if_pos (by omega), if_pos (by omega), if_pos (by omega), wrap_succ hj (by omega), rd_get _ _ hj, Int.toNat_natCast]
theorem toInt64S_ev (l : List Int) (hn : l.length ≤ 1048576) : Ev (fun k => laws_toInt64S.f k l) l := by
  refine Ev.congr (fun k => ?_) (toInt64S_loop l hn l.length 0 (List.replicate l.length 0) (by omega) (by simp) (by simp))
  unfold laws_toInt64S.f
  rw [if_pos (by omega), if_pos (by omega), Int.toNat_natCast]
  rfl
theorem eqInt64S_loop (l : List Int) (hn : l.length ≤ 1048576) (d : Nat) : ∀ j : Nat, j + d = l.length → Ev (fun k => laws_eqInt64S.l0 k l l (j : Int)) true := by
  induction d with
  | zero => intro j h; exact ev_one (fun k => by rw [laws_eqInt64S.l0, if_neg (by omega)])
  | succ d ih =>
    intro j h
    refine Ev.step (fun k => ?_) (ih (j + 1) (by omega))
    rw [laws_eqInt64S.l0, if_pos (by omega), if_pos (by omega), if_pos (by omega), if_pos rfl, wrap_succ (n := l.length) (by omega) (by omega)]
theorem eqInt64S_ev (l : List Int) (hn : l.length ≤ 1048576) : Ev (fun k => laws_eqInt64S.f k l l) true := by
  refine Ev.congr (fun k => ?_) (eqInt64S_loop l hn l.length 0 (by omega))
  unfold laws_eqInt64S.f
  rw [if_pos rfl]
  rfl

theorem areIn_loop (l : List Int) (lo hi : Int) (hn : l.length ≤ 9223372036854775807) (d : Nat) : ∀ j : Nat, j + d = l.length →
    Ev (fun k => impl_areIn.l0 k lo hi l (l.length : Int) (j : Int)) ((l.drop j).all fun x => decide (lo ≤ x ∧ x ≤ hi)) := by
  induction d with
  | zero =>
    intro j h
    rw [List.drop_eq_nil_of_le (by omega)]
    exact ev_one (fun k => by rw [impl_areIn.l0, if_neg (by omega)]; rfl)
  | succ d ih =>
    intro j h
    have hj : j < l.length := by omega
    rw [drop_cons _ _ hj, List.all_cons]
    by_cases c : lo ≤ l[j] ∧ l[j] ≤ hi
    · rw [decide_eq_true c, Bool.true_and]
      refine Ev.step (fun k => ?_) (ih (j + 1) (by omega))
      rw [impl_areIn.l0, if_pos (by omega), if_pos (by omega), if_pos (by omega), rd_get _ _ hj, impl_in, decide_eq_true c, Option.bind_some, if_pos rfl, wrap_succ hj hn]
    · rw [decide_eq_false c, Bool.false_and]
      refine ev_one (fun k => ?_)
      rw [impl_areIn.l0, if_pos (by omega), if_pos (by omega), if_pos (by omega), rd_get _ _ hj, impl_in, decide_eq_false c, Option.bind_some, if_neg (by decide)]
theorem areIn_ev (l : List Int) (lo hi : Int) (hn : l.length ≤ 9223372036854775807) : Ev (fun k => impl_areIn.f k l lo hi) (l.all fun x => decide (lo ≤ x ∧ x ≤ hi)) :=
  areIn_loop l lo hi hn l.length 0 (by omega)

theorem VC.le64 {a0 a1 : Int} {L2 L3 : List ByteArray} (h : VC a0 a1 L2 L3) : L2.length ≤ 64 ∧ L3.length ≤ 64 := by
  have h1 := (shl_data a0 h.data).2
  have h2 := h.n2
  have h3 := h.n3
  omega
/-- A word's bits, whichever list it is of. -/
theorem VC.mem {a0 a1 : Int} {L2 L3 : List ByteArray} (h : VC a0 a1 L2 L3) {w : ByteArray} (hw : w ∈ L2 ∨ w ∈ L3) : IB w = true ∧ (w.size : Int) = a1 ∧ w.size ≤ 12 := by
  have hd := h.width
  rcases hw with hw | hw
  · obtain ⟨i, hi, rfl⟩ := List.mem_iff_getElem.1 hw
    obtain ⟨p1, p2, _⟩ := h.w2 i hi
    exact ⟨by unfold IB; rw [p1, decide_eq_true (by omega)]; rfl, p2, by omega⟩
  · obtain ⟨i, hi, rfl⟩ := List.mem_iff_getElem.1 hw
    obtain ⟨p1, p2, _⟩ := h.w3 i hi
    exact ⟨by unfold IB; rw [p1, decide_eq_true (by omega)]; rfl, p2, by omega⟩
/-- The state behind a word. -/
def nxt (st : Int) (w : ByteArray) : Int := if dsp w > 0 then 1 else if dsp w < 0 then -1 else st
theorem implBehindS_f (st : Int) (w : ByteArray) : impl_stateBehind.f st w = some (nxt st w) := by
  unfold impl_stateBehind.f nxt
  rw [disp_f, Option.bind_some]
  by_cases c : dsp w > 0
  · rw [if_pos c, if_pos c]
  · rw [if_neg c, if_neg c]
    by_cases c2 : dsp w < 0
    · rw [if_pos c2, if_pos c2]
    · rw [if_neg c2, if_neg c2]
theorem specNext_ev (st : Int) (w : ByteArray) (h : IB w = true) : Ev (fun k => spec_l03Next.f k st w) (nxt st w) := by
  obtain ⟨p1, p2⟩ := IB_parts h
  obtain ⟨v, hv, hv2⟩ := specDisp_any w (by omega)
  obtain rfl := hv2 h
  obtain ⟨r, hr⟩ : ∃ r, r = nxt st w := ⟨_, rfl⟩
  rw [← hr]
  unfold nxt at hr
  unfold spec_l03Next.f
  refine Ev.bind hv ?_
  by_cases c : dsp w > 0
  · rw [if_pos c] at hr
    rw [hr]
    exact ev_pos c (Ev.now _)
  · rw [if_neg c] at hr
    refine ev_neg c ?_
    by_cases c2 : dsp w < 0
    · rw [if_pos c2] at hr
      rw [hr]
      exact ev_pos c2 (Ev.now _)
    · rw [if_neg c2] at hr
      rw [hr]
      exact ev_neg c2 (Ev.now _)
def lst (L2 L3 : List ByteArray) (st : Int) : List ByteArray := if st < 0 then L2 else L3
theorem lst_mem {L2 L3 : List ByteArray} {st : Int} {w : ByteArray} (h : w ∈ lst L2 L3 st) : w ∈ L2 ∨ w ∈ L3 := by
  unfold lst at h
  split at h
  · exact .inl h
  · exact .inr h

theorem bit_at {s : ByteArray} (hb : areB s.data.toList = true) (j : Nat) (hj : j < s.size) : bt s (j : Int) = 48 ∨ bt s (j : Int) = 49 := by
  have hs := size_l s
  have hj' : j < s.data.toList.length := by omega
  have hbt := bt_l s j hj'
  have := List.all_eq_true.1 hb _ (List.getElem_mem hj')
  unfold isBit at this
  rw [Bool.or_eq_true, beq_iff_eq, beq_iff_eq] at this
  omega
theorem enc_no (a0 a1 : Int) (L2 L3 : List ByteArray) (hv : VC a0 a1 L2 L3) (D : List Int) (hD : D.length ≤ 400) (d : Nat) : ∀ (j : Nat) (st : Int) (out : ByteArray), j + d = D.length → out.size ≤ 12 * j → ((D.drop j).all fun x => decide (0 ≤ x ∧ x ≤ wrap64 (shl .i64 1 a0 - 1))) = false →
    Ev (fun k => spec_l03Encode.l0 k st D out (j : Int) a0 a1 L2 L3) ((⟨#[]⟩ : ByteArray), 0, false) := by
  have hu : IntKind.u64.wrap a0 = a0 := u64_in (by have := hv.data; omega) (by have := hv.data; omega)
  have hle := hv.le64
  have hn2 := hv.n2
  have hn3 := hv.n3
  have hda := hv.data
  induction d with
  | zero => intro j st out h _ ha; rw [List.drop_eq_nil_of_le (by omega)] at ha; cases ha
  | succ d ih =>
    intro j st out h ho ha
    have hj : j < D.length := by omega
    rw [drop_cons _ _ hj, List.all_cons] at ha
    by_cases c : 0 ≤ D[j] ∧ D[j] ≤ wrap64 (shl .i64 1 a0 - 1)
    · rw [decide_eq_true c, Bool.true_and] at ha
      have c' : 0 ≤ D[j] ∧ D[j] ≤ shl .i64 1 a0 - 1 := by rw [wrap64_in (by omega) (by omega)] at c; exact c
      obtain ⟨n, hn⟩ := Int.eq_ofNat_of_zero_le c'.1
      have hw := Aside0.mk (wrap_succ hj (by omega))
      have go : ∀ (L : List ByteArray), (∀ w ∈ L, w ∈ L2 ∨ w ∈ L3) → (L.length : Int) = shl .i64 1 a0 → Ev (fun k => if 0 ≤ D[j] then (if D[j] < (L.length : Int) then (if out.size + (rdOf ByteArray.empty L D[j]).size ≤ 9223372036854775807 then ((spec_l03Next.f k st (rdOf ByteArray.empty L D[j])).bind fun t => spec_l03Encode.l0 k t D (out ++ rdOf ByteArray.empty L D[j]) ((j + 1 : Nat) : Int) a0 a1 L2 L3) else none) else none) else none) ((⟨#[]⟩ : ByteArray), 0, false) := by
        intro L hL hLn
        have hnl : n < L.length := by omega
        have hm := hv.mem (hL _ (List.getElem_mem hnl))
        rw [hn]
        rw [rdS_get L n hnl]
        refine ev_pos (nat0 n) (ev_pos (by omega) (ev_pos (by omega) (Ev.bind (specNext_ev st _ hm.1) ?_)))
        exact ih (j + 1) _ _ (by omega) (by rw [ByteArray.size_append]; omega) ha
      by_cases cs : st < 0
      · have hg := go L2 (fun w h => .inl h) hn2
        exact Ev.step (fun k => by rw [spec_l03Encode.l0, if_pos (by omega), if_pos (nat0 j), hu, if_pos (by omega), rd_get _ _ hj, spec_in, decide_eq_true c, Option.bind_some, if_pos rfl, if_pos cs, hw.out]; unfold spec_l03List_neg.f; rw [if_pos cs, Option.bind_some]) hg
      · have hg := go L3 (fun w h => .inr h) hn3
        exact Ev.step (fun k => by rw [spec_l03Encode.l0, if_pos (by omega), if_pos (nat0 j), hu, if_pos (by omega), rd_get _ _ hj, spec_in, decide_eq_true c, Option.bind_some, if_pos rfl, if_neg cs, hw.out]; unfold spec_l03List_pos.f; rw [if_pos cs, Option.bind_some]) hg
    · exact ev_one (fun k => by rw [spec_l03Encode.l0, if_pos (by omega), if_pos (nat0 j), hu, if_pos (by omega), rd_get _ _ hj, spec_in, decide_eq_false c, Option.bind_some, if_neg Bool.false_ne_true])
theorem areB_extract (s : ByteArray) (i j : Nat) (h : areB s.data.toList = true) : areB (s.extract i j).data.toList = true := by
  unfold areB at h ⊢
  rw [List.all_eq_true] at h ⊢
  intro x hx
  apply h
  rw [ByteArray.data_extract, Array.toList_extract] at hx
  exact List.mem_of_mem_drop (List.mem_of_mem_take hx)
theorem nxt_pm {st : Int} (h : st = 1 ∨ st = -1) (w : ByteArray) : nxt st w = 1 ∨ nxt st w = -1 := by
  unfold nxt
  split
  · exact .inl rfl
  · split
    · exact .inr rfl
    · exact h
theorem wneg1 : wrap64 (-(1 : Int)) = -1 := by unfold wrap64; decide
theorem wneg2 : wrap64 (-(-1 : Int)) = 1 := by unfold wrap64; decide
theorem slneg (a0 a1 : Int) (L2 L3 : List ByteArray) : spec_l03List_neg.f a0 a1 L2 L3 (-1) = some () := if_pos (by decide)
theorem slpos (a0 a1 : Int) (L2 L3 : List ByteArray) : spec_l03List_pos.f a0 a1 L2 L3 1 = some () := if_pos (by decide)
theorem ilneg (a0 a1 : Int) (L2 L3 : List ByteArray) : impl_BlockCode_words_neg.f a0 a1 L2 L3 (-1) = some () := if_pos (by decide)
theorem ilpos (a0 a1 : Int) (L2 L3 : List ByteArray) : impl_BlockCode_words_pos.f a0 a1 L2 L3 1 = some () := if_pos (by decide)
theorem dec_loop (a0 a1 : Int) (L2 L3 : List ByteArray) (h2 : L2.length ≤ 1048576) (h3 : L3.length ≤ 1048576) (s : ByteArray) (w m : Nat) (hw : a1 = (w : Int)) (hw0 : 2 ≤ w) (hs : s.size = m * w) (hm : s.size ≤ 400) (hB : areB s.data.toList = true) (d : Nat) : ∀ (j : Nat) (st : Int) (V E : List Int), j + d = m → V.length = j → E.length ≤ j → (st = 1 ∨ st = -1) →
    ∃ V' E' t', Ev (fun k => spec_l03Decode.l0 k st s V E a1 ((j * w : Nat) : Int) a0 a1 L2 L3) (V', E', t') ∧ Ev (fun k => impl_DecodeBlocks.l0 k (s.extract (j * w) s.size) V E st a0 a1 L2 L3) (V', E', t', true) ∧ V'.length = m ∧ E'.length ≤ m := by
  have hmm : m ≤ 400 := by
    have := Nat.le_mul_of_pos_right m (show 0 < w by omega)
    omega
  induction d with
  | zero =>
    intro j st V E h hV hE _
    obtain rfl : j = m := by omega
    refine ⟨V, E, st, ev_one (fun k => by rw [spec_l03Decode.l0, if_neg (by omega)]), ev_one (fun k => ?_), by omega, by omega⟩
    rw [impl_DecodeBlocks.l0, if_neg (by rw [ByteArray.size_extract]; omega)]
  | succ d ih =>
    intro j st V E h hV hE hst
    have hle : (j + 1) * w ≤ m * w := Nat.mul_le_mul_right w (by omega)
    have hsc : (j + 1) * w = j * w + w := Nat.succ_mul j w
    have hdiv : wrap64 (Int.tdiv ((j * w : Nat) : Int) a1) = (j : Int) := by
      rw [Int.tdiv_eq_ediv_of_nonneg (Int.natCast_nonneg _), hw, Int.natCast_mul, Int.mul_ediv_cancel _ (by omega), wrap64_in (by omega) (by omega)]
    have hp : wrap64 (((j * w : Nat) : Int) + a1) = (((j + 1) * w : Nat) : Int) := by
      rw [wrap64_in (by omega) (by omega)]; omega
    have hat : a1.toNat = w := by omega
    have hx1 : (s.extract (j * w) s.size).extract 0 a1.toNat = s.extract (j * w) ((j + 1) * w) := by
      rw [ByteArray.extract_extract, hat, Nat.add_zero, ← hsc, Nat.min_eq_left (by omega)]
    have hsz : (s.extract (j * w) s.size).size = s.size - j * w := by rw [ByteArray.size_extract, Nat.min_self]
    have hx2 : (s.extract (j * w) s.size).extract a1.toNat (s.extract (j * w) s.size).size = s.extract ((j + 1) * w) s.size := by
      rw [ByteArray.extract_extract, hsz, hat, ← hsc, Nat.min_eq_left (by omega)]
      congr 1
      omega
    have c1 : ((j * w : Nat) : Int) < (s.size : Int) := by omega
    have c2 : (0 : Int) ≤ ((j * w : Nat) : Int) := Int.natCast_nonneg _
    have c3 : ((j * w : Nat) : Int) ≤ (((j + 1) * w : Nat) : Int) := by omega
    have c4 : (((j + 1) * w : Nat) : Int) ≤ (s.size : Int) := by omega
    have d1 : ((s.extract (j * w) s.size).size : Int) > 0 := by omega
    have d2 : (0 : Int) ≤ a1 := by omega
    have d3 : a1 ≤ ((s.extract (j * w) s.size).size : Int) := by omega
    have hb : IB (s.extract (j * w) ((j + 1) * w)) = true := by
      unfold IB
      rw [areB_extract _ _ _ hB, Bool.true_and, ByteArray.size_extract]
      exact decide_eq_true (by omega)
    clear hle hsc hB hs hsz
    generalize hbe : s.extract (j * w) ((j + 1) * w) = b at hb hx1
    have hl0 : V.length < 17592186044416 := by omega
    have hl1 : E.length < 17592186044416 := by omega
    have ha1 : ¬ a1 = 0 := by omega
    obtain ⟨r2, ⟨s2, hs2⟩, ⟨i2, hi2⟩, -, -, -⟩ := idx_both L2 b h2 L2.length 0 (by omega)
    obtain ⟨r3, ⟨s3, hs3⟩, ⟨i3, hi3⟩, -, -, -⟩ := idx_both L3 b h3 L3.length 0 (by omega)
    have hs2' : ∀ k, s2 ≤ k → spec_l03Index.f k L2 b = some r2 := hs2
    have hs3' : ∀ k, s3 ≤ k → spec_l03Index.f k L3 b = some r3 := hs3
    have hi2' : ∀ k, i2 ≤ k → slices_Index_string_string.f k L2 b = some r2 := hi2
    have hi3' : ∀ k, i3 ≤ k → slices_Index_string_string.f k L3 b = some r3 := hi3
    obtain ⟨sn, hsn0⟩ := specNext_ev st b hb
    have hsn : ∀ k, sn ≤ k → spec_l03Next.f k st b = some (nxt st b) := hsn0
    clear hsn0
    have hin := implBehindS_f st b
    have hln : ∀ x : Int, (V ++ [x]).length = j + 1 := fun x => by rw [List.length_append, hV]; rfl
    have hle1 : (E ++ [(j : Int)]).length ≤ j + 1 := by rw [List.length_append]; show E.length + 1 ≤ j + 1; omega
    have hVj : (V.length : Int) = (j : Int) := by omega
    rcases hst with rfl | rfl
    · by_cases cr : r3 < 0
      · obtain ⟨V', E', t', ⟨ns, hns⟩, ⟨ni, hni⟩, e1, e2⟩ := ih (j + 1) (nxt 1 b) (V ++ [r2]) (E ++ [(j : Int)]) (by omega) (hln _) hle1 (nxt_pm (.inl rfl) b)
        refine ⟨V', E', t', ⟨s2 + s3 + sn + ns + 1, fun k hk => ?_⟩, ⟨i2 + i3 + ni + 1, fun k hk => ?_⟩, e1, e2⟩
        · obtain ⟨k, rfl⟩ : ∃ q, k = q + 1 := ⟨k - 1, by omega⟩
          simp only [spec_l03Decode.l0]
          rw [if_pos c1, if_pos c2, hp, if_pos c3, if_pos c4, if_neg (show ¬ (1 : Int) < 0 by decide), slpos, Option.bind_some, Int.toNat_natCast, Int.toNat_natCast, hbe, hs3' k (by omega), Option.bind_some, if_pos cr, if_neg ha1, if_pos hl1, Option.bind_some, wneg1, if_pos (show (-1 : Int) < 0 by decide), slneg, Option.bind_some, hs2' k (by omega), Option.bind_some, if_pos hl0, hsn k (by omega), Option.bind_some, hdiv]
          exact hns k (by omega)
        · obtain ⟨k, rfl⟩ : ∃ q, k = q + 1 := ⟨k - 1, by omega⟩
          simp only [impl_DecodeBlocks.l0]
          rw [if_pos d1, if_pos d2, if_pos d3, if_neg (show ¬ (1 : Int) < 0 by decide), ilpos, Option.bind_some, hx1, hi3' k (by omega), Option.bind_some, if_pos cr, if_pos hl1, hi2' k (by omega), Option.bind_some, if_pos hl0, hin, Option.bind_some, hx2, hVj]
          exact hni k (by omega)
      · obtain ⟨V', E', t', ⟨ns, hns⟩, ⟨ni, hni⟩, e1, e2⟩ := ih (j + 1) (nxt 1 b) (V ++ [r3]) E (by omega) (hln _) (by omega) (nxt_pm (.inl rfl) b)
        refine ⟨V', E', t', ⟨s2 + s3 + sn + ns + 1, fun k hk => ?_⟩, ⟨i2 + i3 + ni + 1, fun k hk => ?_⟩, e1, e2⟩
        · obtain ⟨k, rfl⟩ : ∃ q, k = q + 1 := ⟨k - 1, by omega⟩
          simp only [spec_l03Decode.l0]
          rw [if_pos c1, if_pos c2, hp, if_pos c3, if_pos c4, if_neg (show ¬ (1 : Int) < 0 by decide), slpos, Option.bind_some, Int.toNat_natCast, Int.toNat_natCast, hbe, hs3' k (by omega), Option.bind_some, if_neg cr, if_pos hl0, hsn k (by omega), Option.bind_some]
          exact hns k (by omega)
        · obtain ⟨k, rfl⟩ : ∃ q, k = q + 1 := ⟨k - 1, by omega⟩
          simp only [impl_DecodeBlocks.l0]
          rw [if_pos d1, if_pos d2, if_pos d3, if_neg (show ¬ (1 : Int) < 0 by decide), ilpos, Option.bind_some, hx1, hi3' k (by omega), Option.bind_some, if_neg cr, if_pos hl0, hin, Option.bind_some, hx2]
          exact hni k (by omega)
    · by_cases cr : r2 < 0
      · obtain ⟨V', E', t', ⟨ns, hns⟩, ⟨ni, hni⟩, e1, e2⟩ := ih (j + 1) (nxt (-1) b) (V ++ [r3]) (E ++ [(j : Int)]) (by omega) (hln _) hle1 (nxt_pm (.inr rfl) b)
        refine ⟨V', E', t', ⟨s2 + s3 + sn + ns + 1, fun k hk => ?_⟩, ⟨i2 + i3 + ni + 1, fun k hk => ?_⟩, e1, e2⟩
        · obtain ⟨k, rfl⟩ : ∃ q, k = q + 1 := ⟨k - 1, by omega⟩
          simp only [spec_l03Decode.l0]
          rw [if_pos c1, if_pos c2, hp, if_pos c3, if_pos c4, if_pos (show (-1 : Int) < 0 by decide), slneg, Option.bind_some, Int.toNat_natCast, Int.toNat_natCast, hbe, hs2' k (by omega), Option.bind_some, if_pos cr, if_neg ha1, if_pos hl1, Option.bind_some, wneg2, if_neg (show ¬ (1 : Int) < 0 by decide), slpos, Option.bind_some, hs3' k (by omega), Option.bind_some, if_pos hl0, hsn k (by omega), Option.bind_some, hdiv]
          exact hns k (by omega)
        · obtain ⟨k, rfl⟩ : ∃ q, k = q + 1 := ⟨k - 1, by omega⟩
          simp only [impl_DecodeBlocks.l0]
          rw [if_pos d1, if_pos d2, if_pos d3, if_pos (show (-1 : Int) < 0 by decide), ilneg, Option.bind_some, hx1, hi2' k (by omega), Option.bind_some, if_pos cr, if_pos hl1, hi3' k (by omega), Option.bind_some, if_pos hl0, hin, Option.bind_some, hx2, hVj]
          exact hni k (by omega)
      · obtain ⟨V', E', t', ⟨ns, hns⟩, ⟨ni, hni⟩, e1, e2⟩ := ih (j + 1) (nxt (-1) b) (V ++ [r2]) E (by omega) (hln _) (by omega) (nxt_pm (.inr rfl) b)
        refine ⟨V', E', t', ⟨s2 + s3 + sn + ns + 1, fun k hk => ?_⟩, ⟨i2 + i3 + ni + 1, fun k hk => ?_⟩, e1, e2⟩
        · obtain ⟨k, rfl⟩ : ∃ q, k = q + 1 := ⟨k - 1, by omega⟩
          simp only [spec_l03Decode.l0]
          rw [if_pos c1, if_pos c2, hp, if_pos c3, if_pos c4, if_pos (show (-1 : Int) < 0 by decide), slneg, Option.bind_some, Int.toNat_natCast, Int.toNat_natCast, hbe, hs2' k (by omega), Option.bind_some, if_neg cr, if_pos hl0, hsn k (by omega), Option.bind_some]
          exact hns k (by omega)
        · obtain ⟨k, rfl⟩ : ∃ q, k = q + 1 := ⟨k - 1, by omega⟩
          simp only [impl_DecodeBlocks.l0]
          rw [if_pos d1, if_pos d2, if_pos d3, if_pos (show (-1 : Int) < 0 by decide), ilneg, Option.bind_some, hx1, hi2' k (by omega), Option.bind_some, if_neg cr, if_pos hl0, hin, Option.bind_some, hx2]
          exact hni k (by omega)

theorem app_areB (s u : ByteArray) (h1 : areB s.data.toList = true) (h2 : areB u.data.toList = true) : areB (s ++ u).data.toList = true := by
  rw [show (s ++ u).data.toList = s.data.toList ++ u.data.toList by simp [ByteArray.data_append]]
  unfold areB at h1 h2 ⊢
  rw [List.all_append, h1, h2]
  rfl
theorem enc_yes2 (a0 a1 : Int) (L2 L3 : List ByteArray) (hv : VC a0 a1 L2 L3) (W : Nat) (hW : a1 = (W : Int)) (D : List Int) (hD : D.length ≤ 400) (hDW : W * D.length ≤ 400) (hall : ∀ x ∈ D, 0 ≤ x ∧ x ≤ wrap64 (shl .i64 1 a0 - 1)) (d : Nat) : ∀ (j : Nat) (st : Int) (out : ByteArray), j + d = D.length → out.size = W * j → areB out.data.toList = true →
    ∃ s t, areB s.data.toList = true ∧ s.size = W * D.length ∧ Ev (fun k => spec_l03Encode.l0 k st D out (j : Int) a0 a1 L2 L3) (s, t, true) ∧ Ev (fun k => impl_EncodeBlocks.l0 k out st D (D.length : Int) (j : Int) a0 a1 L2 L3) (s, t, true) := by
  have hu : IntKind.u64.wrap a0 = a0 := u64_in (by have := hv.data; omega) (by have := hv.data; omega)
  have hle := hv.le64
  have hn2 := hv.n2
  have hn3 := hv.n3
  have hda := hv.data
  induction d with
  | zero =>
    intro j st out h ho hB
    obtain rfl : j = D.length := by omega
    exact ⟨out, st, hB, ho, ev_one (fun k => by rw [spec_l03Encode.l0, if_neg (by omega)]), ev_one (fun k => by rw [impl_EncodeBlocks.l0, if_neg (by omega)])⟩
  | succ d ih =>
    intro j st out h ho hB
    have hj : j < D.length := by omega
    have hjl : W * j ≤ W * D.length := Nat.mul_le_mul_left W (by omega)
    have c := hall _ (List.getElem_mem hj)
    have c' : 0 ≤ D[j] ∧ D[j] ≤ shl .i64 1 a0 - 1 := by rw [wrap64_in (by omega) (by omega)] at c; exact c
    obtain ⟨n, hn⟩ := Int.eq_ofNat_of_zero_le c'.1
    have hw := Aside0.mk (wrap_succ hj (by omega))
    have go : ∀ (L : List ByteArray), (∀ w ∈ L, w ∈ L2 ∨ w ∈ L3) → (L.length : Int) = shl .i64 1 a0 → ∃ s t, areB s.data.toList = true ∧ s.size = W * D.length ∧ Ev (fun k => if 0 ≤ D[j] then (if D[j] < (L.length : Int) then (if out.size + (rdOf ByteArray.empty L D[j]).size ≤ 9223372036854775807 then ((spec_l03Next.f k st (rdOf ByteArray.empty L D[j])).bind fun t => spec_l03Encode.l0 k t D (out ++ rdOf ByteArray.empty L D[j]) ((j + 1 : Nat) : Int) a0 a1 L2 L3) else none) else none) else none) (s, t, true) ∧ Ev (fun k => if 0 ≤ D[j] then (if D[j] < (L.length : Int) then (if out.size + (rdOf ByteArray.empty L D[j]).size ≤ 9223372036854775807 then ((impl_stateBehind.f st (rdOf ByteArray.empty L D[j])).bind fun t => impl_EncodeBlocks.l0 k (out ++ rdOf ByteArray.empty L D[j]) t D (D.length : Int) ((j + 1 : Nat) : Int) a0 a1 L2 L3) else none) else none) else none) (s, t, true) := by
      intro L hL hLn
      have hnl : n < L.length := by omega
      have hm := hv.mem (hL _ (List.getElem_mem hnl))
      rw [hn, rdS_get L n hnl]
      obtain ⟨s, t, q1, q2, r1, r2⟩ := ih (j + 1) (nxt st L[n]) (out ++ L[n]) (by omega) (by rw [ByteArray.size_append, Nat.mul_succ]; omega) (app_areB _ _ hB (IB_parts hm.1).1)
      exact ⟨s, t, q1, q2, ev_pos (nat0 n) (ev_pos (by omega) (ev_pos (by omega) (Ev.bind (specNext_ev st _ hm.1) r1))), ev_pos (nat0 n) (ev_pos (by omega) (ev_pos (by omega) (ev_to (implBehindS_f st _) r2)))⟩
    by_cases cs : st < 0
    · obtain ⟨s, t, q1, q2, r1, r2⟩ := go L2 (fun w h => .inl h) hn2
      refine ⟨s, t, q1, q2, Ev.step (fun k => ?_) r1, Ev.step (fun k => ?_) r2⟩
      · rw [spec_l03Encode.l0, if_pos (by omega), if_pos (nat0 j), hu, if_pos (by omega), rd_get _ _ hj, spec_in, decide_eq_true c, Option.bind_some, if_pos rfl, if_pos cs, hw.out]
        unfold spec_l03List_neg.f
        rw [if_pos cs, Option.bind_some]
      · rw [impl_EncodeBlocks.l0, if_pos (by omega), if_pos (nat0 j), if_pos (by omega), rd_get _ _ hj, if_pos cs, hw.out]
        unfold impl_BlockCode_words_neg.f
        rw [if_pos cs, Option.bind_some]
    · obtain ⟨s, t, q1, q2, r1, r2⟩ := go L3 (fun w h => .inr h) hn3
      refine ⟨s, t, q1, q2, Ev.step (fun k => ?_) r1, Ev.step (fun k => ?_) r2⟩
      · rw [spec_l03Encode.l0, if_pos (by omega), if_pos (nat0 j), hu, if_pos (by omega), rd_get _ _ hj, spec_in, decide_eq_true c, Option.bind_some, if_pos rfl, if_neg cs, hw.out]
        unfold spec_l03List_pos.f
        rw [if_pos cs, Option.bind_some]
      · rw [impl_EncodeBlocks.l0, if_pos (by omega), if_pos (nat0 j), if_pos (by omega), rd_get _ _ hj, if_neg cs, hw.out]
        unfold impl_BlockCode_words_pos.f
        rw [if_pos cs, Option.bind_some]
theorem lineState2 (a : Int) : ∃ b, spec_l03State.f a = some b ∧ impl_isLineState.f a = some b ∧ (b = true → a = 1 ∨ a = -1) := by
  unfold spec_l03State.f impl_isLineState.f
  by_cases c : a = -1
  · exact ⟨true, if_pos c, if_pos c, fun _ => .inr c⟩
  · exact ⟨a == 1, if_neg c, if_neg c, fun h => .inl (beq_iff_eq.1 h)⟩
/-- What sending gives, and that it is bits, so many words of them. -/
theorem encode_both2 (a0 a1 : Int) (L2 L3 : List ByteArray) (h2 : L2.length ≤ 1048576) (h3 : L3.length ≤ 1048576) (s2 : ∀ s ∈ L2, s.size ≤ 1048576) (s3 : ∀ s ∈ L3, s.size ≤ 1048576) (st : Int) (D : List Int) (hn : D.length ≤ 1048576) :
    ∃ s t b, Ev (fun k => spec_EncodeBlocks.f k a0 a1 L2 L3 st D) (s, t, b) ∧ Ev (fun k => impl_EncodeBlocks.f k a0 a1 L2 L3 st D) (s, t, b) ∧ (b = true → VC a0 a1 L2 L3 ∧ Ev (fun k => impl_ValidBlockCode.f k a0 a1 L2 L3) true ∧ (st = 1 ∨ st = -1) ∧ areB s.data.toList = true ∧ ∃ W : Nat, a1 = (W : Int) ∧ s.size = W * D.length ∧ s.size ≤ 400 ∧ D.length ≤ 400) := by
  have ino : Ev (fun k => impl_EncodeBlocks.j0 k st D true a0 a1 L2 L3) ((⟨#[]⟩ : ByteArray), 0, false) := ev_one (fun k => by rw [impl_EncodeBlocks.j0, if_pos rfl])
  obtain ⟨r, r1, r2, r3⟩ := code_both a0 a1 L2 L3 h2 h3 s2 s3
  unfold spec_EncodeBlocks.f impl_EncodeBlocks.f
  cases r with
  | false => exact ⟨_, _, _, Ev.bind r1 (ev_neg Bool.false_ne_true (Ev.now _)), Ev.bind r2 (ev_neg Bool.false_ne_true ino), fun h => by cases h⟩
  | true =>
    have hv := r3 rfl
    have hda := hv.data
    have hwi := hv.width
    obtain ⟨b, b1, b2, b3⟩ := lineState2 st
    cases b with
    | false => exact ⟨_, _, _, Ev.bind r1 (ev_pos rfl (ev_to b1 (ev_neg Bool.false_ne_true (Ev.now _)))), Ev.bind r2 (ev_pos rfl (ev_to b2 (ev_neg Bool.false_ne_true ino))), fun h => by cases h⟩
    | true =>
      have hst := b3 rfl
      have hq0 : Int.tdiv 400 a1 = 400 / a1 := Int.tdiv_eq_ediv_of_nonneg (by decide)
      have hq : wrap64 (Int.tdiv (400 : Int) a1) = Int.tdiv 400 a1 ∧ 0 ≤ Int.tdiv 400 a1 ∧ Int.tdiv 400 a1 ≤ 400 := by
        rw [hq0]
        have q1 : (0 : Int) ≤ 400 / a1 := Int.ediv_nonneg (by decide) (by omega)
        have q2 : (400 : Int) / a1 ≤ 400 := Int.ediv_le_self _ (by decide)
        exact ⟨wrap64_in (by omega) (by omega), q1, q2⟩
      have ha := areIn_ev D 0 (wrap64 (shl .i64 1 a0 - 1)) (by omega)
      suffices h : ∃ s t b, Ev (fun k => spec_l03Encode.f k a0 a1 L2 L3 st D) (s, t, b) ∧ Ev (fun k => if 0 ≤ a0 then ((impl_areIn.f k D 0 (wrap64 (shl .i64 1 a0 - 1))).bind fun t182 => (if t182 = true then (if a1 = 0 then (none) else (impl_EncodeBlocks.j0 k st D (decide ((D.length : Int) > (wrap64 (Int.tdiv (400 : Int) a1)))) a0 a1 L2 L3)) else (impl_EncodeBlocks.j0 k st D true a0 a1 L2 L3))) else none) (s, t, b) ∧ (b = true → areB s.data.toList = true ∧ ∃ W : Nat, a1 = (W : Int) ∧ s.size = W * D.length ∧ s.size ≤ 400 ∧ D.length ≤ 400) by
        obtain ⟨s, t, b, e1, e2, e3⟩ := h
        exact ⟨s, t, b, Ev.bind r1 (ev_pos rfl (ev_to b1 (ev_pos rfl (Ev.bind (f := fun k (t : ByteArray × Int × Bool) => some (t.1, t.2.1, t.2.2)) e1 (Ev.now _))))), Ev.bind r2 (ev_pos rfl (ev_to b2 (ev_pos rfl e2))), fun h => ⟨hv, r2, hst, e3 h⟩⟩
      unfold spec_l03Encode.f
      have hone : ¬ a1 = 0 := by omega
      have hz0 : 0 ≤ a0 := by omega
      by_cases cl : (D.length : Int) > wrap64 (Int.tdiv (400 : Int) a1)
      · refine ⟨_, _, _, ev_neg hone (ev_pos cl (Ev.now _)), ev_pos hz0 (Ev.bind ha ?_), fun h => by cases h⟩
        cases D.all fun x => decide (0 ≤ x ∧ x ≤ wrap64 (shl .i64 1 a0 - 1)) with
        | false => exact ev_neg Bool.false_ne_true ino
        | true =>
          refine ev_pos rfl (ev_neg hone ?_)
          rw [decide_eq_true cl]
          exact ino
      · have hD : D.length ≤ 400 := by omega
        cases e : D.all fun x => decide (0 ≤ x ∧ x ≤ wrap64 (shl .i64 1 a0 - 1)) with
        | false =>
          rw [e] at ha
          exact ⟨_, _, _, ev_neg hone (ev_neg cl (enc_no a0 a1 L2 L3 hv D hD D.length 0 st ⟨#[]⟩ (by omega) (by decide) (by rw [List.drop_zero]; exact e))), ev_pos hz0 (Ev.bind ha (ev_neg Bool.false_ne_true ino)), fun h => by cases h⟩
        | true =>
          rw [e] at ha
          have hall : ∀ x ∈ D, 0 ≤ x ∧ x ≤ wrap64 (shl .i64 1 a0 - 1) := fun x hx => of_decide_eq_true (List.all_eq_true.1 e x hx)
          obtain ⟨W, hW⟩ := Int.eq_ofNat_of_zero_le (show 0 ≤ a1 by omega)
          have hDW : W * D.length ≤ 400 := by
            have h1 : (D.length : Int) ≤ 400 / (W : Int) := by rw [← hW, ← hq0]; omega
            have h2 := Int.mul_le_of_le_ediv (show (0 : Int) < (W : Int) by omega) h1
            have h3 : ((W * D.length : Nat) : Int) = (D.length : Int) * (W : Int) := by rw [Int.natCast_mul, Int.mul_comm]
            omega
          obtain ⟨s, t, q1, q2, e1, e2⟩ := enc_yes2 a0 a1 L2 L3 hv W hW D hD hDW hall D.length 0 st ⟨#[]⟩ (by omega) rfl rfl
          refine ⟨s, t, true, ev_neg hone (ev_neg cl e1), ev_pos hz0 (Ev.bind ha (ev_pos rfl (ev_neg hone ?_))), fun _ => ⟨q1, W, hW, q2, by omega, hD⟩⟩
          rw [decide_eq_false cl]
          exact Ev.step (fun k => by rw [impl_EncodeBlocks.j0, if_neg Bool.false_ne_true]; rfl) e2
theorem decode_ok (a0 a1 : Int) (L2 L3 : List ByteArray) (h2 : L2.length ≤ 1048576) (h3 : L3.length ≤ 1048576) (s2 : ∀ s ∈ L2, s.size ≤ 1048576) (s3 : ∀ s ∈ L3, s.size ≤ 1048576) (hv : VC a0 a1 L2 L3) (r2 : Ev (fun k => impl_ValidBlockCode.f k a0 a1 L2 L3) true) (st : Int) (hst : st = 1 ∨ st = -1) (s : ByteArray) (w m : Nat) (hw : a1 = (w : Int)) (hs : s.size = w * m) (hm : s.size ≤ 400) (hB : areB s.data.toList = true) :
    ∃ V E t, Ev (fun k => spec_l03Decode.f k a0 a1 L2 L3 st s) (V, E, t) ∧ Ev (fun k => impl_DecodeBlocks.f k a0 a1 L2 L3 st s) (V, E, t, true) ∧ V.length = m ∧ E.length ≤ m := by
  have hwi := hv.width
  obtain ⟨b, b1, b2, b3⟩ := lineState2 st
  obtain rfl : b = true := by
    cases b with
    | true => rfl
    | false =>
      exfalso
      unfold spec_l03State.f at b1
      rcases hst with rfl | rfl
      · rw [if_neg (by decide)] at b1; exact absurd (Option.some.inj b1) (by decide)
      · rw [if_pos rfl] at b1; exact absurd (Option.some.inj b1) (by decide)
  have hi : impl_IsBits.f s = some true := by
    unfold impl_IsBits.f
    rw [if_pos (by omega), areBits_f s (by omega), Option.bind_some, hB]
  have hone : ¬ a1 = 0 := by omega
  have cm : (s.size : Int) % a1 = 0 := by
    rw [hw, hs, Int.natCast_mul]
    exact Int.mul_emod_right _ _
  obtain ⟨V, E, t, d1, d2, d3, d4⟩ := dec_loop a0 a1 L2 L3 h2 h3 s w m hw (by omega) (by rw [hs, Nat.mul_comm]) hm hB m 0 st [] [] (by omega) rfl (Nat.le_refl _) hst
  rw [Nat.zero_mul, ByteArray.extract_zero_size] at d2
  rw [Nat.zero_mul] at d1
  refine ⟨V, E, t, ?_, ?_, d3, d4⟩
  · exact d1
  · unfold impl_DecodeBlocks.f
    refine Ev.bind r2 (ev_pos rfl (ev_to b2 (ev_pos rfl (ev_to hi (ev_pos rfl (ev_neg hone ?_))))))
    have e0 : ((s.size : Int) % a1 != 0) = false := by rw [cm]; rfl
    rw [e0]
    exact Ev.step (fun k => by rw [impl_DecodeBlocks.j0, if_neg Bool.false_ne_true]) d2
theorem other_both (c : ByteArray) (hc : c.size = 1) (hB : areB c.data.toList = true) : ∃ t : ByteArray, Ev (fun k => spec_l03Other.f k c) t ∧ Ev (fun k => impl_opposite.f k c) t ∧ t.size = 1 ∧ areB t.data.toList = true := by
  have z0 : (0 : Int) < (c.size : Int) := by omega
  have z1 : ¬ (1 : Int) < (c.size : Int) := by omega
  have bb : bt (⟨#[49]⟩ : ByteArray) 0 = 49 := by decide
  have key : ∀ (v : Int) (t : ByteArray), (97 - bt c 0) % 256 = v → impl_bitOf.f (bt c 0 != 49) = some t → t = strOfNums [v] → t.size = 1 → areB t.data.toList = true → ∃ t : ByteArray, Ev (fun k => spec_l03Other.f k c) t ∧ Ev (fun k => impl_opposite.f k c) t ∧ t.size = 1 ∧ areB t.data.toList = true := by
    intro v t e1 e2 e3 e4 e5
    refine ⟨t, ?_, ?_, e4, e5⟩
    · unfold spec_l03Other.f
      have q : Ev (fun k => spec_l03Other.l0 k c [v] 1) t := ev_one (fun k => by rw [spec_l03Other.l0, if_neg z1, e3])
      exact Ev.step (fun k => by rw [spec_l03Other.l0, if_pos z0, if_pos (by decide), if_pos (by decide), e1, w01]; rfl) q
    · unfold impl_opposite.f strings_Repeat.f
      have h1 : (c.size : Int) = 1 := by omega
      rw [if_pos h1]
      refine Ev.bind (f := fun k t => some t) (a := t) ?_ (Ev.now _)
      unfold impl_xorBits.f
      have q : Ev (fun k => impl_xorBits.l0 k c ⟨#[49]⟩ ([] ++ t.data.toList) 1) t := ev_one (fun k => by rw [impl_xorBits.l0, if_neg z1, List.nil_append])
      exact Ev.step (fun k => by rw [impl_xorBits.l0, if_pos z0, if_pos (by decide), if_pos (by decide), bb, e2, Option.bind_some, if_pos (by rw [e4]; decide), w01]) q
  rcases bit_at hB 0 (by omega) with x | x
  · have x' : bt c 0 = 48 := x
    exact key 49 ⟨#[49]⟩ (by rw [x']; decide) (by rw [x']; rfl) (by decide) rfl rfl
  · have x' : bt c 0 = 49 := x
    exact key 48 ⟨#[48]⟩ (by rw [x']; decide) (by rw [x']; rfl) (by decide) rfl rfl
theorem count_both (D V E : List Int) (hV : V.length = D.length) (hD : D.length ≤ 400) (d : Nat) : ∀ (i n : Nat), i + d = D.length → n ≤ i → ∃ r, Ev (fun k => spec_FlipEffect.l0 k D V E (n : Int) (i : Int)) r ∧ Ev (fun k => impl_FlipEffect.l0 k V E (n : Int) D (D.length : Int) (i : Int)) r := by
  induction d with
  | zero =>
    intro i n h hn
    by_cases c : (E.length : Int) = 0
    · exact ⟨((n : Int), -1, true), ev_one (fun k => by simp only [spec_FlipEffect.l0]; rw [if_neg (by omega), if_pos c]), ev_one (fun k => by simp only [impl_FlipEffect.l0]; rw [if_neg (by omega), if_pos c])⟩
    · exact ⟨((n : Int), rd E 0, true), ev_one (fun k => by simp only [spec_FlipEffect.l0]; rw [if_neg (by omega), if_neg c, if_pos (by omega)]), ev_one (fun k => by simp only [impl_FlipEffect.l0]; rw [if_neg (by omega), if_neg c, if_pos (by omega)])⟩
  | succ d ih =>
    intro i n h hn
    have hi : i < D.length := by omega
    have hw := wrap_succ hi (by omega)
    have hwn : wrap64 ((n : Int) + 1) = ((n + 1 : Nat) : Int) := by rw [wrap64_in (by omega) (by omega)]; omega
    by_cases c : rd V (i : Int) = rd D (i : Int)
    · obtain ⟨r, r1, r2⟩ := ih (i + 1) n (by omega) (by omega)
      exact ⟨r, Ev.step (fun k => by simp only [spec_FlipEffect.l0]; rw [if_pos (by omega), if_pos (by omega), if_pos (by omega), if_pos c, hw]) r1, Ev.step (fun k => by simp only [impl_FlipEffect.l0]; rw [if_pos (by omega), if_pos (by omega), if_pos (by omega), if_pos (by omega), if_pos c, hw]) r2⟩
    · obtain ⟨r, r1, r2⟩ := ih (i + 1) (n + 1) (by omega) (by omega)
      exact ⟨r, Ev.step (fun k => by simp only [spec_FlipEffect.l0]; rw [if_pos (by omega), if_pos (by omega), if_pos (by omega), if_neg c, hw, hwn]) r1, Ev.step (fun k => by simp only [impl_FlipEffect.l0]; rw [if_pos (by omega), if_pos (by omega), if_pos (by omega), if_pos (by omega), if_neg c, hw, hwn]) r2⟩
theorem flip_both (a0 a1 : Int) (L2 L3 : List ByteArray) (h2 : L2.length ≤ 1048576) (h3 : L3.length ≤ 1048576) (s2 : ∀ s ∈ L2, s.size ≤ 1048576) (s3 : ∀ s ∈ L3, s.size ≤ 1048576) (st : Int) (D : List Int) (hn : D.length ≤ 1048576) (x : Int) :
    ∃ r, Ev (fun k => spec_FlipEffect.f k a0 a1 L2 L3 st D x) r ∧ Ev (fun k => impl_FlipEffect.f k a0 a1 L2 L3 st D x) r := by
  have sno : ∀ s, Ev (fun k => spec_FlipEffect.j0 k st D x s true a0 a1 L2 L3) (0, 0, false) := fun s => ev_one (fun k => by rw [spec_FlipEffect.j0, if_pos rfl])
  have ino : ∀ s, Ev (fun k => impl_FlipEffect.j0 k st D x s true a0 a1 L2 L3) (0, 0, false) := fun s => ev_one (fun k => by rw [impl_FlipEffect.j0, if_pos rfl])
  obtain ⟨s, t, b, e1, e2, e3⟩ := encode_both2 a0 a1 L2 L3 h2 h3 s2 s3 st D hn
  unfold spec_FlipEffect.f impl_FlipEffect.f
  cases b with
  | false => exact ⟨_, Ev.bind e1 (ev_neg Bool.false_ne_true (sno _)), Ev.bind e2 (ev_neg Bool.false_ne_true (ino _))⟩
  | true =>
    obtain ⟨hv, hval, hst, hB, W, hW, hs, hs4, hD⟩ := e3 rfl
    suffices h : ∃ r, Ev (fun k => (spec_l00In.f x 0 (wrap64 ((s.size : Int) - 1))).bind fun t218 => (spec_FlipEffect.j0 k st D x s (!t218) a0 a1 L2 L3)) r ∧ Ev (fun k => (impl_within.f x 0 (wrap64 ((s.size : Int) - 1))).bind fun t299 => (impl_FlipEffect.j0 k st D x s (!t299) a0 a1 L2 L3)) r by
      obtain ⟨r, g1, g2⟩ := h
      exact ⟨r, Ev.bind e1 (ev_pos rfl g1), Ev.bind e2 (ev_pos rfl g2)⟩
    have hz : wrap64 ((s.size : Int) - 1) = (s.size : Int) - 1 := wrap64_in (by omega) (by omega)
    rw [hz]
    have i1 := spec_in x 0 ((s.size : Int) - 1)
    have i2 := impl_in x 0 ((s.size : Int) - 1)
    by_cases c : 0 ≤ x ∧ x ≤ (s.size : Int) - 1
    · rw [decide_eq_true c] at i1 i2
      obtain ⟨p, rfl⟩ := Int.eq_ofNat_of_zero_le c.1
      have hp : p < s.size := by omega
      have hw : wrap64 ((p : Int) + 1) = ((p + 1 : Nat) : Int) := by rw [wrap64_in (by omega) (by omega)]; omega
      obtain ⟨u, u1, u2, u3, u4⟩ := other_both (s.extract p (p + 1)) (by rw [ByteArray.size_extract]; omega) (areB_extract _ _ _ hB)
      have b1 : ((s.extract 0 p ++ u) ++ s.extract (p + 1) s.size).size = s.size := by rw [ByteArray.size_append, ByteArray.size_append, ByteArray.size_extract, ByteArray.size_extract, u3]; omega
      have b2 : areB ((s.extract 0 p ++ u) ++ s.extract (p + 1) s.size).data.toList = true := app_areB _ _ (app_areB _ _ (areB_extract _ _ _ hB) u4) (areB_extract _ _ _ hB)
      have b3 : (s.extract 0 p).size + u.size ≤ 9223372036854775807 := by rw [ByteArray.size_extract, u3]; omega
      have b4 : (s.extract 0 p ++ u).size + (s.extract (p + 1) s.size).size ≤ 9223372036854775807 := by rw [ByteArray.size_append] at b1; omega
      generalize hbent : (s.extract 0 p ++ u) ++ s.extract (p + 1) s.size = bent at b1 b2
      obtain ⟨V, E, t', d1, d2, d3, d4⟩ := decode_ok a0 a1 L2 L3 h2 h3 s2 s3 hv hval st hst bent W D.length hW (by omega) (by omega) b2
      obtain ⟨r, r1, r2⟩ := count_both D V E d3 hD D.length 0 0 (by omega) (by omega)
      have zero : ((0 : Nat) : Int) = 0 := rfl
      rw [zero] at r1 r2
      obtain ⟨K1, u1⟩ := u1
      obtain ⟨K2, u2⟩ := u2
      obtain ⟨K3, d1⟩ := d1
      obtain ⟨K4, d2⟩ := d2
      obtain ⟨K5, r1⟩ := r1
      obtain ⟨K6, r2⟩ := r2
      have u1' := fun k hk => (show spec_l03Other.f k (s.extract p (p + 1)) = some u from u1 k hk)
      have u2' := fun k hk => (show impl_opposite.f k (s.extract p (p + 1)) = some u from u2 k hk)
      have d1' := fun k hk => (show spec_l03Decode.f k a0 a1 L2 L3 st bent = some (V, E, t') from d1 k hk)
      have d2' := fun k hk => (show impl_DecodeBlocks.f k a0 a1 L2 L3 st bent = some (V, E, t', true) from d2 k hk)
      refine ⟨r, ev_to i1 ⟨K1 + K3 + K5 + 1, fun k hk => ?_⟩, ev_to i2 ⟨K2 + K4 + K6 + 1, fun k hk => ?_⟩⟩
      · obtain ⟨k, rfl⟩ : ∃ q, k = q + 1 := ⟨k - 1, by omega⟩
        show spec_FlipEffect.j0 (k + 1) st D (p : Int) s (!true) a0 a1 L2 L3 = some r
        rw [spec_FlipEffect.j0, if_neg (by decide), if_pos (by omega), if_pos (by omega), hw, if_pos (by omega), if_pos (by omega), Int.toNat_natCast, Int.toNat_natCast, u1' k (by omega), Option.bind_some, if_pos b3, if_pos (by omega), if_pos b4, hbent, d1' k (by omega), Option.bind_some]
        exact r1 k (by omega)
      · obtain ⟨k, rfl⟩ : ∃ q, k = q + 1 := ⟨k - 1, by omega⟩
        show impl_FlipEffect.j0 (k + 1) st D (p : Int) s (!true) a0 a1 L2 L3 = some r
        rw [impl_FlipEffect.j0, if_neg (by decide), if_pos (by omega), if_pos (by omega), hw, if_pos (by omega), if_pos (by omega), Int.toNat_natCast, Int.toNat_natCast, u2' k (by omega), Option.bind_some, if_pos b3, if_pos (by omega), if_pos b4, hbent, d2' k (by omega), Option.bind_some]
        exact r2 k (by omega)
    · rw [decide_eq_false c] at i1 i2
      exact ⟨_, ev_to i1 (sno _), ev_to i2 (ino _)⟩
theorem FnExactFlipEffect : laws_FnExactFlipEffect.Pure := by
  intro a0 a1 L2 L3 st D x _ _ n2 z2 n3 z3 _ _ _ _
  apply Ev.rounds
  unfold laws_FnExactFlipEffect.f
  by_cases c0 : (D.length : Int) > 1048576
  · exact ev_pos c0 (Ev.now _)
  refine ev_neg c0 ?_
  obtain ⟨t, e, hp⟩ := szCode_ev a0 a1 L2 L3 n2 z2 n3 z3
  refine Ev.bind e ?_
  by_cases c : t < 0
  · exact ev_pos c (Ev.now _)
  obtain ⟨⟨h2, s2⟩, h3, s3⟩ := hp (by omega)
  have ht := toCode_ev a0 a1 L2 L3 h2 h3
  have hti := toInt64S_ev D (by omega)
  obtain ⟨⟨v, m, b⟩, r1, r2⟩ := flip_both a0 a1 L2 L3 h2 h3 s2 s3 st D (by omega) x
  refine ev_neg c (Ev.bind ht (Ev.bind hti (Ev.bind r1 (Ev.bind ht (Ev.bind hti (Ev.bind r2 (ev_pos rfl (ev_pos rfl ?_))))))))
  show Ev (fun k => laws_FnExactFlipEffect.j0 k D D (b != b) a0 a1 L2 L3 a0 a1 L2 L3) true
  rw [show (b != b) = false by simp]
  exact Ev.step (fun k => by rw [laws_FnExactFlipEffect.j0, if_neg Bool.false_ne_true]) (Ev.bind ht (Ev.bind (eqCode_ev a0 a1 L2 L3 h2 h3) (ev_pos rfl (Ev.bind hti (Ev.bind (eqInt64S_ev D (by omega)) (ev_pos rfl (Ev.now _)))))))

end Go.Proofs.YtegeaoiclepkkaaDoor.Pure
