/-
The plain law of FnExactIsComma: a pattern occurs in no two words that follow one another, in both tellings; conditions: those of the statement.
-/
import Derived.Test.YtegeaoiclepkkaaDoorQFnExactIsCommax9
import Derived.Lib.IndexMore
namespace Go.Proofs.YtegeaoiclepkkaaDoor.Pure
open Go.RowKit Go.Proofs.YtegeaoiclepkkaaDoor.QFnExactIsComma Go.Proofs.YtegeaoiclepkkaaDoorW.PrintWords Go.Proofs.YtegeaoiclepkkaaDoorW.PrintLast Go.Proofs.YtegeaoiclepkkaaDoorW.PrintMore
set_option linter.unusedVariables false

theorem ev_one {α : Type} {g : Nat → Option α} {r : α} (h : ∀ k, g (k + 1) = some r) : Ev g r :=
  ⟨1, fun k hk => by obtain ⟨m, rfl⟩ : ∃ m, k = m + 1 := ⟨k - 1, by omega⟩; exact h m⟩
theorem wrap64_in {x : Int} (h0 : -9223372036854775808 ≤ x) (h1 : x ≤ 9223372036854775807) : wrap64 x = x := by
  unfold wrap64; omega
theorem u64_in {x : Int} (h0 : 0 ≤ x) (h1 : x ≤ 18446744073709551615) : IntKind.u64.wrap x = x := by
  simp [IntKind.wrap, IntKind.bits, IntKind.signed]; omega
theorem i64_in {x : Int} (h0 : -9223372036854775808 ≤ x) (h1 : x ≤ 9223372036854775807) : IntKind.i64.wrap x = x := by
  rw [IntKind.wrap_i64]; omega
theorem and_one (x : Int) : Go.bits .and .i64 x 1 = x % 2 := by
  have h : (BitVec.ofInt 64 x &&& BitVec.ofInt 64 1).toNat = (x % 2).toNat := by
    have e1 : BitVec.ofInt 64 1 = 1#64 := by decide
    rw [e1, BitVec.toNat_and, BitVec.toNat_ofInt]
    have e2 : (1#64).toNat = 1 := by decide
    rw [e2, Nat.and_one_is_mod]
    omega
  show IntKind.i64.wrap (((BitVec.ofInt 64 x &&& BitVec.ofInt 64 1).toNat : Nat) : Int) = x % 2
  rw [h, i64_in (by omega) (by omega)]
  omega
theorem wf_i64 {x : Int} (h : (Lit.int .i64 x).wf = true) : -9223372036854775808 ≤ x ∧ x ≤ 9223372036854775807 := by
  simp [Lit.wf, IntKind.min, IntKind.max, IntKind.signed, IntKind.bits] at h
  omega
theorem pow_pos_int (d : Nat) : (0 : Int) < 2 ^ d := Int.pow_pos (by decide)
theorem pow_le_int {a b : Nat} (h : a ≤ b) : (2 : Int) ^ a ≤ 2 ^ b := by
  have := Nat.pow_le_pow_right (n := 2) (by decide) h
  exact_mod_cast this

theorem ev_pos {α : Type} {c : Prop} [Decidable c] {g h : Nat → Option α} {r : α} (hc : c) (hg : Ev g r) : Ev (fun k => if c then g k else h k) r := by
  obtain ⟨K, hK⟩ := hg
  exact ⟨K, fun k hk => (if_pos hc).trans (hK k hk)⟩
theorem ev_neg {α : Type} {c : Prop} [Decidable c] {g h : Nat → Option α} {r : α} (hc : ¬ c) (hg : Ev h r) : Ev (fun k => if c then g k else h k) r := by
  obtain ⟨K, hK⟩ := hg
  exact ⟨K, fun k hk => (if_neg hc).trans (hK k hk)⟩
theorem ev_some {α β : Type} {f : Nat → α → Option β} {a : α} {r : β} (h : Ev (fun k => f k a) r) : Ev (fun k => (some a).bind (f k)) r := h
theorem ev_to {α β : Type} {x : Option α} {f : Nat → α → Option β} {a : α} {r : β} (e : x = some a) (h : Ev (fun k => f k a) r) : Ev (fun k => x.bind (f k)) r := by subst e; exact h
theorem ev_det {α : Type} {g : Nat → Option α} {r r' : α} (h : Ev g r) (h' : Ev g r') : r = r' := by
  obtain ⟨K, hK⟩ := h
  obtain ⟨K', hK'⟩ := h'
  have h1 := hK (max K K') (Nat.le_max_left _ _)
  have h2 := hK' (max K K') (Nat.le_max_right _ _)
  rw [h1] at h2
  exact Option.some.inj h2
theorem wrap_succ {j n : Nat} (h : j < n) (hn : n ≤ 9223372036854775807) : wrap64 ((j : Int) + 1) = ((j + 1 : Nat) : Int) := by
  rw [wrap64_in (by omega) (by omega)]; omega
theorem nat0 (j : Nat) : (0 : Int) ≤ (j : Int) := Int.natCast_nonneg j
theorem rd_nat (l : List Int) (j : Nat) : rd l (j : Int) = l.getD j 0 := by unfold rd; rw [Int.toNat_natCast]
theorem rd_get (l : List Int) (j : Nat) (h : j < l.length) : rd l (j : Int) = l[j] := by rw [rd_nat, List.getD_eq_getElem?_getD, List.getElem?_eq_getElem h]; rfl
theorem drop_cons {α : Type} (l : List α) (j : Nat) (h : j < l.length) : l.drop j = l[j] :: l.drop (j + 1) := List.drop_eq_getElem_cons h
theorem take_snoc' {α : Type} (l : List α) (j : Nat) (h : j < l.length) : l.take (j + 1) = l.take j ++ [l[j]] := List.take_succ_eq_append_getElem h
theorem set_take {α : Type} (acc : List α) (j : Nat) (x : α) (h : j < acc.length) : (acc.set j x).take (j + 1) = acc.take j ++ [x] := by
  rw [List.take_set, List.take_succ_eq_append_getElem h, List.set_append_right _ _ (by simp; omega)]
  have : (acc.take j).length = j := by rw [List.length_take]; omega
  rw [this, Nat.sub_self]
  rfl
theorem take_all {α : Type} {a b : List α} {n : Nat} (ha : a.length = n) (hb : b.length = n) (h : a.take n = b.take n) : a = b := by
  rw [List.take_of_length_le (by omega), List.take_of_length_le (by omega)] at h; exact h
theorem w01 : wrap64 (0 + 1) = 1 := by unfold wrap64; decide
theorem w11 : wrap64 (1 + 1) = 2 := by unfold wrap64; decide

theorem spec_in (a b c : Int) : spec_l00In.f a b c = some (decide (b ≤ a ∧ a ≤ c)) := by
  unfold spec_l00In.f
  by_cases h : a ≥ b
  · rw [if_pos h]; congr 1; have : b ≤ a := h; simp [this]
  · rw [if_neg h]; congr 1; have : ¬ b ≤ a := h; simp [this]
theorem impl_in (a b c : Int) : impl_within.f a b c = some (decide (b ≤ a ∧ a ≤ c)) := by
  unfold impl_within.f
  by_cases h : a ≥ b
  · rw [if_pos h]; congr 1; have : b ≤ a := h; simp [this]
  · rw [if_neg h]; congr 1; have : ¬ b ≤ a := h; simp [this]

def isBit (b : UInt8) : Bool := b.toNat == 48 || b.toNat == 49
def areB (l : List UInt8) : Bool := l.all isBit
theorem size_l (s : ByteArray) : s.size = s.data.toList.length := by rw [Array.length_toList]; rfl
theorem bt_l (s : ByteArray) (j : Nat) (h : j < s.data.toList.length) : bt s (j : Int) = ((s.data.toList[j].toNat : Nat) : Int) := by
  have h2 : ((j : Int)).toNat < s.size := by rw [Int.toNat_natCast, size_l]; exact h
  have h3 : j < s.data.size := by rw [Array.length_toList] at h; exact h
  have e : s[((j : Int)).toNat]'h2 = s.data[j] := rfl
  rw [← bt_at s j h2, e, Array.getElem_toList]
theorem cs_bit (b : UInt8) : ([48, 49] : List UInt8).contains b = isBit b := by
  have h1 : (b == 48) = (b.toNat == 48) := by rw [Bool.eq_iff_iff]; simp [← UInt8.toNat_inj]
  have h2 : (b == 49) = (b.toNat == 49) := by rw [Bool.eq_iff_iff]; simp [← UInt8.toNat_inj]
  unfold isBit
  rw [← h1, ← h2]
  show (match b == 48 with | true => true | false => (match b == 49 with | true => true | false => false)) = (b == 48 || b == 49)
  cases (b == 48) <;> cases (b == 49) <;> rfl
theorem drop_nil {p : UInt8 → Bool} (l : List UInt8) : l.dropWhile p = [] ↔ ∀ x ∈ l, p x = true := by
  induction l with
  | nil => simp
  | cons a t ih =>
    rw [List.dropWhile_cons]
    cases e : p a with
    | true => rw [if_pos rfl, ih]; simp [e]
    | false => rw [if_neg (by decide)]; simp [e]
theorem drop_all {p : UInt8 → Bool} (l : List UInt8) (h : (l.dropWhile p).all p = true) : l.all p = true := by
  induction l with
  | nil => rfl
  | cons a t ih =>
    rw [List.dropWhile_cons] at h
    cases e : p a with
    | true => rw [e, if_pos rfl] at h; rw [List.all_cons, e, ih h]; rfl
    | false => rw [e, if_neg (by decide)] at h; exact h
theorem trim_nil (l : List UInt8) : (Lib.trimS l [48, 49] == []) = areB l := by
  have e : (fun b => ([48, 49] : List UInt8).contains b) = isBit := funext cs_bit
  unfold Lib.trimS Lib.trimLeftS Lib.trimRightS areB
  rw [e]
  rw [Bool.eq_iff_iff, beq_iff_eq, drop_nil]
  constructor
  · intro h
    have h1 : (l.reverse.dropWhile isBit).all isBit = true := List.all_eq_true.2 (fun x hx => h x (List.mem_reverse.2 hx))
    have h2 := drop_all _ h1
    rw [List.all_reverse] at h2
    exact h2
  · intro h x hx
    have h3 := List.mem_reverse.1 hx
    have h4 : x ∈ l.reverse := (List.dropWhile_sublist _).subset h3
    exact List.all_eq_true.1 h x (List.mem_reverse.1 h4)

theorem specBits_loop (s : ByteArray) (hn : s.size ≤ 9223372036854775807) (d : Nat) : ∀ j : Nat, j + d = s.data.toList.length → Ev (fun k => spec_l01Bits.l0 k s (j : Int)) (areB (s.data.toList.drop j) && decide ((s.size : Int) ≤ 400)) := by
  have hs := size_l s
  induction d with
  | zero =>
    intro j h
    rw [List.drop_eq_nil_of_le (by omega)]
    exact ev_one (fun k => by rw [spec_l01Bits.l0, if_neg (by omega)]; rfl)
  | succ d ih =>
    intro j h
    have hj : j < s.data.toList.length := by omega
    have hb := bt_l s j hj
    have hw := wrap_succ hj (by omega)
    rw [drop_cons _ _ hj]
    unfold areB
    rw [List.all_cons]
    by_cases c1 : bt s (j : Int) = 48
    · have e : isBit s.data.toList[j] = true := by unfold isBit; have : s.data.toList[j].toNat = 48 := by omega
                                                   rw [this]; rfl
      rw [e, Bool.true_and]
      exact Ev.step (fun k => by rw [spec_l01Bits.l0, if_pos (by omega), if_pos (by omega), if_pos c1, hw]) (ih (j + 1) (by omega))
    · by_cases c2 : bt s (j : Int) = 49
      · have e : isBit s.data.toList[j] = true := by unfold isBit; have : s.data.toList[j].toNat = 49 := by omega
                                                     rw [this]; rfl
        rw [e, Bool.true_and]
        exact Ev.step (fun k => by rw [spec_l01Bits.l0, if_pos (by omega), if_pos (by omega), if_neg c1, if_pos c2, hw]) (ih (j + 1) (by omega))
      · have e : isBit s.data.toList[j] = false := by
          unfold isBit
          obtain ⟨n, hn⟩ : ∃ n, n = s.data.toList[j].toNat := ⟨_, rfl⟩
          rw [← hn] at hb ⊢
          have h1 : (n == 48) = false := beq_eq_false_iff_ne.2 (by omega)
          have h2 : (n == 49) = false := beq_eq_false_iff_ne.2 (by omega)
          rw [h1, h2]; rfl
        rw [e, Bool.false_and, Bool.false_and]
        exact ev_one (fun k => by rw [spec_l01Bits.l0, if_pos (by omega), if_pos (by omega), if_neg c1, if_neg c2])
def IB (s : ByteArray) : Bool := areB s.data.toList && decide ((s.size : Int) ≤ 400)
theorem specBits_ev (s : ByteArray) (hn : s.size ≤ 9223372036854775807) : Ev (fun k => spec_l01Bits.f k s) (IB s) := specBits_loop s hn s.data.toList.length 0 (by omega)

theorem areBits_f (s : ByteArray) (hn : s.size ≤ 9223372036854775807) : impl_areBits.f s = some (areB s.data.toList) := by
  unfold impl_areBits.f strings_Trim.f
  rw [if_pos ⟨rfl, hn⟩, Option.bind_some]
  have e : (⟨(Lib.trimS s.data.toList [48, 49]).toArray⟩ : ByteArray).toList = Lib.trimS s.data.toList [48, 49] := by
    rw [Lib.toList_data]
  rw [e, ← trim_nil]

theorem ones_loop (s : ByteArray) (hn : s.size ≤ 1000) (hb : areB s.data.toList = true) (d : Nat) : ∀ (j : Nat) (acc : Int), j + d = s.size → 0 ≤ acc → acc ≤ j →
    Ev (fun k => spec_l01Ones.l0 k s acc (j : Int)) (acc + Lib.countByte (s.data.toList.drop j) 49) := by
  have hs := size_l s
  induction d with
  | zero =>
    intro j acc h _ _
    rw [List.drop_eq_nil_of_le (by omega)]
    exact ev_one (fun k => by rw [spec_l01Ones.l0, if_neg (by omega)]; simp [Lib.countByte])
  | succ d ih =>
    intro j acc h h0 h1
    have hj : j < s.data.toList.length := by omega
    have hw := wrap_succ (j := j) (n := s.size) (by omega) (by omega)
    have hbt := bt_l s j hj
    have hbit : s.data.toList[j].toNat = 48 ∨ s.data.toList[j].toNat = 49 := by
      have := List.all_eq_true.1 hb _ (List.getElem_mem hj)
      unfold isBit at this
      rw [Bool.or_eq_true, beq_iff_eq, beq_iff_eq] at this
      exact this
    rw [drop_cons _ _ hj]
    rcases hbit with hbit | hbit
    · have e0 : ((bt s (j : Int)) - 48) % 256 = 0 := by omega
      have ew : wrap64 (acc + 0) = acc := by rw [Int.add_zero, wrap64_in (by omega) (by omega)]
      have ne : (s.data.toList[j] == 49) = false := by
        rw [beq_eq_false_iff_ne]
        intro hh
        rw [hh] at hbit
        exact absurd hbit (by decide)
      have ec : Lib.countByte (s.data.toList[j] :: s.data.toList.drop (j + 1)) 49 = Lib.countByte (s.data.toList.drop (j + 1)) 49 := by unfold Lib.countByte; rw [List.count_cons, ne]; rfl
      rw [ec]
      exact Ev.step (fun k => by rw [spec_l01Ones.l0, if_pos (by omega), if_pos (by omega), e0, ew, hw]) (ih (j + 1) acc (by omega) h0 (by omega))
    · have e0 : ((bt s (j : Int)) - 48) % 256 = 1 := by omega
      have ew : wrap64 (acc + 1) = acc + 1 := wrap64_in (by omega) (by omega)
      have ne : s.data.toList[j] = 49 := by rw [← UInt8.toNat_inj]; exact hbit
      have ec : ((Lib.countByte (s.data.toList[j] :: s.data.toList.drop (j + 1)) 49 : Nat) : Int) = 1 + ((Lib.countByte (s.data.toList.drop (j + 1)) 49 : Nat) : Int) := by unfold Lib.countByte; rw [List.count_cons, ne]; simp; omega
      have := ih (j + 1) (acc + 1) (by omega) (by omega) (by omega)
      rw [ec, ← Int.add_assoc]
      exact Ev.step (fun k => by rw [spec_l01Ones.l0, if_pos (by omega), if_pos (by omega), e0, ew, hw]) this

theorem rdS_get (l : List ByteArray) (j : Nat) (h : j < l.length) : rdOf ByteArray.empty l (j : Int) = l[j] := by
  unfold rdOf; rw [Int.toNat_natCast, List.getD_eq_getElem?_getD, List.getElem?_eq_getElem h]; rfl
theorem toStringS_loop (l : List ByteArray) (hn : l.length ≤ 1048576) (d : Nat) : ∀ (j : Nat) (acc : List ByteArray), j + d = l.length → acc.length = l.length → acc.take j = l.take j →
    Ev (fun k => laws_toStringS.l0 k l acc (j : Int)) l := by
  induction d with
  | zero =>
    intro j acc h ha ht
    have e : acc = l := take_all (n := j) (by omega) (by omega) ht
    exact ev_one (fun k => by rw [laws_toStringS.l0, if_neg (by omega), e])
  | succ d ih =>
    intro j acc h ha ht
    have hj : j < l.length := by omega
    have hw := wrap_succ hj (by omega)
    have hi := ih (j + 1) (acc.set j l[j]) (by omega) (by rw [List.length_set]; exact ha) (by rw [set_take _ _ _ (by omega), ht, take_snoc' _ _ hj])
    exact Ev.step (fun k => by rw [laws_toStringS.l0, if_pos (by omega), if_pos (by omega), if_pos (by omega), rdS_get _ _ hj, Int.toNat_natCast, hw]) hi
theorem toStringS_ev (l : List ByteArray) (hn : l.length ≤ 1048576) : Ev (fun k => laws_toStringS.f k l) l := by
  refine Ev.congr (fun k => ?_) (toStringS_loop l hn l.length 0 (List.replicate l.length ⟨#[]⟩) (by omega) (by simp) rfl)
  unfold laws_toStringS.f
  rw [if_pos (by omega), Int.toNat_natCast, if_pos (by omega)]
  rfl
theorem eqStringS_loop (l : List ByteArray) (hn : l.length ≤ 1048576) (d : Nat) : ∀ j : Nat, j + d = l.length → Ev (fun k => laws_eqStringS.l0 k l l (j : Int)) true := by
  induction d with
  | zero => intro j h; exact ev_one (fun k => by rw [laws_eqStringS.l0, if_neg (by omega)])
  | succ d ih =>
    intro j h
    refine Ev.step (fun k => ?_) (ih (j + 1) (by omega))
    rw [laws_eqStringS.l0, if_pos (by omega), if_pos (by omega), if_pos (by omega), if_pos rfl, wrap_succ (n := l.length) (by omega) (by omega)]
theorem eqStringS_ev (l : List ByteArray) (hn : l.length ≤ 1048576) : Ev (fun k => laws_eqStringS.f k l l) true := by
  refine Ev.congr (fun k => ?_) (eqStringS_loop l hn l.length 0 (by omega))
  unfold laws_eqStringS.f
  rw [if_pos rfl]
  rfl
theorem szStringS_loop (l : List ByteArray) (hn : l.length ≤ 9223372036854775807) (hl : ∀ s ∈ l, s.size ≤ 9223372036854775807) (d : Nat) : ∀ (j : Nat) (left : Int), j + d = l.length → 0 ≤ left → left ≤ 1048576 →
    (∃ r, Ev (fun k => laws_szStringS.l0 k l left (j : Int)) r ∧ r ≤ left ∧ (0 ≤ r → ∀ x ∈ l.drop j, x.size ≤ 1048576)) := by
  induction d with
  | zero =>
    intro j left h h0 h1
    refine ⟨left, ev_one (fun k => by rw [laws_szStringS.l0, if_neg (by omega)]), Int.le_refl _, fun _ x hx => ?_⟩
    rw [List.drop_eq_nil_of_le (by omega)] at hx
    cases hx
  | succ d ih =>
    intro j left h h0 h1
    have hj : j < l.length := by omega
    have hlen := hl _ (List.getElem_mem hj)
    have hw : wrap64 (left - (l[j].size : Int)) = left - (l[j].size : Int) := wrap64_in (by omega) (by omega)
    by_cases c : left - (l[j].size : Int) < 0
    · refine ⟨-1, ev_one (fun k => ?_), by omega, fun h => by omega⟩
      rw [laws_szStringS.l0, if_pos (by omega), if_pos (by omega), rdS_get _ _ hj, hw, if_pos c]
    · obtain ⟨r, hr, hle, hp⟩ := ih (j + 1) (left - (l[j].size : Int)) (by omega) (by omega) (by omega)
      refine ⟨r, Ev.step (fun k => ?_) hr, by omega, fun h0 x hx => ?_⟩
      · rw [laws_szStringS.l0, if_pos (by omega), if_pos (by omega), rdS_get _ _ hj, hw, if_neg c, wrap_succ hj (by omega)]
      · rw [drop_cons _ _ hj] at hx
        rcases List.mem_cons.1 hx with rfl | hx
        · omega
        · exact hp h0 x hx
theorem szStringS_ev (l : List ByteArray) (hn : l.length ≤ 9223372036854775807) (hl : ∀ s ∈ l, s.size ≤ 9223372036854775807) (left : Int) (h0 : 0 ≤ left) (h1 : left ≤ 1048576) :
    ∃ r, Ev (fun k => laws_szStringS.f k l left) r ∧ r ≤ left ∧ (0 ≤ r → l.length ≤ 1048576 ∧ ∀ x ∈ l, x.size ≤ 1048576) := by
  have hw : wrap64 (left - (l.length : Int)) = left - (l.length : Int) := wrap64_in (by omega) (by omega)
  by_cases c : left - (l.length : Int) < 0
  · refine ⟨-1, Ev.congr (fun k => ?_) (Ev.now _), by omega, fun h => by omega⟩
    unfold laws_szStringS.f
    rw [hw, if_pos c]
  · obtain ⟨r, hr, hle, hp⟩ := szStringS_loop l hn hl l.length 0 (left - (l.length : Int)) (by omega) (by omega) (by omega)
    refine ⟨r, Ev.congr (fun k => ?_) hr, by omega, fun h => ⟨by omega, fun x hx => hp h x (by simpa using hx)⟩⟩
    unfold laws_szStringS.f
    rw [hw, if_neg c]
    rfl
theorem idx_both (L : List ByteArray) (s : ByteArray) (hn : L.length ≤ 1048576) (d : Nat) : ∀ j : Nat, j + d = L.length → ∃ r, Ev (fun k => spec_l03Index.l0 k L s (j : Int)) r ∧ Ev (fun k => slices_Index_string_string.l0 k L s (L.length : Int) (j : Int)) r ∧ (r ≥ 0 ↔ s.toList ∈ (L.drop j).map ByteArray.toList) ∧ (r < 0 → r = -1) ∧ (0 ≤ r → ∃ i : Nat, r = i ∧ j ≤ i ∧ ∃ h : i < L.length, L[i].toList = s.toList) := by
  induction d with
  | zero =>
    intro j h
    refine ⟨-1, ev_one (fun k => by rw [spec_l03Index.l0, if_neg (by omega)]), ev_one (fun k => by rw [slices_Index_string_string.l0, if_neg (by omega)]), ?_, fun _ => rfl, fun h => by omega⟩
    rw [List.drop_eq_nil_of_le (by omega)]; simp
  | succ d ih =>
    intro j h
    have hj : j < L.length := by omega
    have hw := wrap_succ hj (by omega)
    rw [drop_cons _ _ hj, List.map_cons, List.mem_cons]
    by_cases c : L[j].toList = s.toList
    · exact ⟨(j : Int), ev_one (fun k => by rw [spec_l03Index.l0, if_pos (by omega), if_pos (by omega), rdS_get _ _ hj, if_pos c]), ev_one (fun k => by rw [slices_Index_string_string.l0, if_pos (by omega), if_pos (by omega), if_pos (by omega), rdS_get _ _ hj, if_pos c.symm]), ⟨fun _ => .inl c.symm, fun _ => by omega⟩, fun h => by omega, fun _ => ⟨j, rfl, Nat.le_refl _, hj, c⟩⟩
    · obtain ⟨r, r1, r2, r3, r4, r5⟩ := ih (j + 1) (by omega)
      exact ⟨r, Ev.step (fun k => by rw [spec_l03Index.l0, if_pos (by omega), if_pos (by omega), rdS_get _ _ hj, if_neg c, hw]) r1, Ev.step (fun k => by rw [slices_Index_string_string.l0, if_pos (by omega), if_pos (by omega), if_pos (by omega), rdS_get _ _ hj, if_neg (fun e => c e.symm), hw]) r2, r3.trans ⟨.inr, fun h => h.resolve_left (fun e => c e.symm)⟩, r4, fun h0 => by
        obtain ⟨i, e1, e2, e3⟩ := r5 h0
        exact ⟨i, e1, by omega, e3⟩⟩

def dsp (s : ByteArray) : Int := wrap64 ((wrap64 (2 * ((Lib.countByte s.data.toList 49 : Nat) : Int))) - (s.size : Int))
theorem disp_f (s : ByteArray) : impl_disparity.f s = some (dsp s) := by
  unfold impl_disparity.f strings_Count.f
  rw [if_pos rfl]
  rfl
theorem ones_any (s : ByteArray) (hn : s.size ≤ 1048576) (d : Nat) : ∀ (j : Nat) (acc : Int), j + d = s.size → ∃ v, Ev (fun k => spec_l01Ones.l0 k s acc (j : Int)) v := by
  induction d with
  | zero => intro j acc h; exact ⟨acc, ev_one (fun k => by rw [spec_l01Ones.l0, if_neg (by omega)])⟩
  | succ d ih =>
    intro j acc h
    have hw := wrap_succ (j := j) (n := s.size) (by omega) (by omega)
    obtain ⟨v, hv⟩ := ih (j + 1) (wrap64 (acc + (((bt s (j : Int)) - 48) % 256))) (by omega)
    exact ⟨v, Ev.step (fun k => by rw [spec_l01Ones.l0, if_pos (by omega), if_pos (by omega), hw]) hv⟩
theorem IB_parts {s : ByteArray} (h : IB s = true) : areB s.data.toList = true ∧ s.size ≤ 400 := by
  unfold IB at h
  rw [Bool.and_eq_true, decide_eq_true_iff] at h
  exact ⟨h.1, by omega⟩
theorem specDisp_any (s : ByteArray) (hn : s.size ≤ 1048576) : ∃ v, Ev (fun k => spec_l03Disparity.f k s) v ∧ (IB s = true → v = dsp s) := by
  cases e : IB s with
  | false =>
    obtain ⟨v, hv⟩ := ones_any s hn s.size 0 0 (by omega)
    refine ⟨wrap64 ((wrap64 (2 * v)) - (s.size : Int)), ?_, fun h => by cases h⟩
    unfold spec_l03Disparity.f
    exact Ev.bind (f := fun k t => some (wrap64 ((wrap64 (2 * t)) - (s.size : Int)))) (show Ev (fun k => spec_l01Ones.f k s) v from hv) (Ev.now _)
  | true =>
    obtain ⟨e1, e2⟩ := IB_parts e
    have h := ones_loop s (by omega) e1 s.size 0 0 (by omega) (by omega) (by omega)
    rw [Int.zero_add, List.drop_zero] at h
    refine ⟨dsp s, ?_, fun _ => rfl⟩
    unfold spec_l03Disparity.f
    exact Ev.bind (f := fun k t => some (wrap64 ((wrap64 (2 * t)) - (s.size : Int)))) h (Ev.now _)
/-- A word of a list of a valid code. -/
def WOK (L : List ByteArray) (c1 o : Int) (i : Nat) (h : i < L.length) : Prop := areB L[i].data.toList = true ∧ (L[i].size : Int) = c1 ∧ (dsp L[i] = 0 ∨ dsp L[i] = o) ∧ ∀ (i' : Nat) (h' : i' < i), L[i'].toList ≠ L[i].toList
theorem words_both (L : List ByteArray) (c1 o : Int) (hc : c1 ≤ 400) (hn : L.length ≤ 1000) (hs : ∀ s ∈ L, s.size ≤ 1048576) (d : Nat) : ∀ (j : Nat) (seen : List (List UInt8)), j + d = L.length → seen.length ≤ j → (∀ y, y ∈ seen ↔ y ∈ (L.take j).map ByteArray.toList) →
    ∃ r, Ev (fun k => spec_l03Words.l0 k L c1 o (j : Int)) r ∧ Ev (fun k => impl_BlockCode_areWords.l0 k c1 L o seen (j : Int)) r ∧ (r = true → ∀ i : Nat, j ≤ i → ∀ h : i < L.length, WOK L c1 o i h) := by
  induction d with
  | zero => intro j seen h h1 h2; exact ⟨true, ev_one (fun k => by rw [spec_l03Words.l0, if_neg (by omega)]), ev_one (fun k => by rw [impl_BlockCode_areWords.l0, if_neg (by omega)]), fun _ i h1 h2 => by omega⟩
  | succ d ih =>
    intro j seen h h1 h2
    have hj : j < L.length := by omega
    have hw := wrap_succ hj (by omega)
    have hz := hs _ (List.getElem_mem hj)
    have hrd := rdS_get L j hj
    have htk := take_snoc' L j hj
    obtain ⟨s, hsj⟩ : ∃ s, s = L[j] := ⟨_, rfl⟩
    rw [← hsj] at hz hrd htk
    obtain ⟨v, hv, hv2⟩ := specDisp_any s hz
    have hb := specBits_ev s (by omega)
    have ia := areBits_f s (by omega)
    have st : ∀ R, Ev (fun k => if IB s = true then (if (s.size : Int) = c1 then (if v = 0 then ((spec_l03Index.f k (L.take j) s).bind fun t => (if t ≥ 0 then (some false) else (spec_l03Words.l0 k L c1 o ((j + 1 : Nat) : Int)))) else (if v = o then ((spec_l03Index.f k (L.take j) s).bind fun t => (if t ≥ 0 then (some false) else (spec_l03Words.l0 k L c1 o ((j + 1 : Nat) : Int)))) else some false)) else some false) else some false) R → Ev (fun k => spec_l03Words.l0 k L c1 o (j : Int)) R := by
      intro R hR
      refine Ev.step (fun k => by rw [spec_l03Words.l0, if_pos (by omega), if_pos (by omega), hrd, Int.toNat_natCast, hw, if_pos (show (j : Int) ≤ (L.length : Int) by omega)]) (Ev.bind hv (Ev.bind hb hR))
    have im : ∀ R, Ev (fun k => if (s.size : Int) = c1 then (if areB s.data.toList = true then (if dsp s = 0 ∨ dsp s = o then (if s.data.toList ∈ seen then some false else impl_BlockCode_areWords.l0 k c1 L o (s.data.toList :: seen) ((j + 1 : Nat) : Int)) else some false) else some false) else some false) R → Ev (fun k => impl_BlockCode_areWords.l0 k c1 L o seen (j : Int)) R := by
      intro R hR
      refine Ev.step (fun k => by rw [impl_BlockCode_areWords.l0, if_pos (by omega), if_pos (by omega), hrd, if_pos hz, disp_f, Option.bind_some, ia, Option.bind_some, if_pos (show seen.length < 1000000 by omega), hw]) hR
    cases e : IB s with
    | false =>
      refine ⟨false, st _ (ev_neg (by rw [e]; decide) (Ev.now _)), im _ ?_, (fun q => absurd q Bool.false_ne_true)⟩
      by_cases c : (s.size : Int) = c1
      · have hB : areB s.data.toList = false := by
          unfold IB at e
          rw [decide_eq_true (show (s.size : Int) ≤ 400 by omega), Bool.and_true] at e
          exact e
        exact ev_pos c (ev_neg (by rw [hB]; decide) (Ev.now _))
      · exact ev_neg c (Ev.now _)
    | true =>
      obtain ⟨p1, p2⟩ := IB_parts e
      obtain rfl := hv2 e
      by_cases c : (s.size : Int) = c1
      · obtain ⟨i, i1, _, i3, _, _⟩ := idx_both (L.take j) s (by rw [List.length_take]; omega) (L.take j).length 0 (by omega)
        rw [List.drop_zero, ← h2, Lib.toList_data] at i3
        have i1' : Ev (fun k => spec_l03Index.f k (L.take j) s) i := i1
        by_cases c9 : s.data.toList ∈ seen
        · have go : Ev (fun k => (spec_l03Index.f k (L.take j) s).bind fun t => (if t ≥ 0 then (some false) else (spec_l03Words.l0 k L c1 o ((j + 1 : Nat) : Int)))) false := Ev.bind i1' (ev_pos (i3.2 c9) (Ev.now _))
          refine ⟨false, st _ (ev_pos e (ev_pos c ?_)), im _ (ev_pos c (ev_pos p1 ?_)), (fun q => absurd q Bool.false_ne_true)⟩
          · by_cases c8 : dsp s = 0
            · exact ev_pos c8 go
            · by_cases c7 : dsp s = o
              · exact ev_neg c8 (ev_pos c7 go)
              · exact ev_neg c8 (ev_neg c7 (Ev.now _))
          · by_cases c8 : dsp s = 0 ∨ dsp s = o
            · exact ev_pos c8 (ev_pos c9 (Ev.now _))
            · exact ev_neg c8 (Ev.now _)
        · by_cases c8 : dsp s = 0 ∨ dsp s = o
          · obtain ⟨r, r1, r2, r3⟩ := ih (j + 1) (s.data.toList :: seen) (by omega) (by simp; omega) (by
              intro y
              rw [htk, List.map_append, List.mem_append, List.mem_cons, h2, Or.comm]
              simp [Lib.toList_data])
            have go : Ev (fun k => (spec_l03Index.f k (L.take j) s).bind fun t => (if t ≥ 0 then (some false) else (spec_l03Words.l0 k L c1 o ((j + 1 : Nat) : Int)))) r := Ev.bind i1' (ev_neg (fun hh => c9 (i3.1 hh)) r1)
            refine ⟨r, st _ (ev_pos e (ev_pos c ?_)), im _ (ev_pos c (ev_pos p1 (ev_pos c8 (ev_neg c9 r2)))), fun q i h1 h2' => ?_⟩
            rotate_left
            · by_cases ci : i = j
              · subst ci
                refine ⟨by rw [← hsj]; exact p1, by rw [← hsj]; exact c, by rw [← hsj]; exact c8, fun i' hi' he => ?_⟩
                apply c9
                rw [h2, ← Lib.toList_data, hsj, ← he]
                exact List.mem_map.2 ⟨L[i'], List.mem_take_iff_getElem.2 ⟨i', by omega, rfl⟩, rfl⟩
              · exact r3 q i (by omega) h2'
            by_cases c7 : dsp s = 0
            · exact ev_pos c7 go
            · exact ev_neg c7 (ev_pos (c8.resolve_left c7) go)
          · exact ⟨false, st _ (ev_pos e (ev_pos c (ev_neg (fun hh => c8 (.inl hh)) (ev_neg (fun hh => c8 (.inr hh)) (Ev.now _))))), im _ (ev_pos c (ev_pos p1 (ev_neg c8 (Ev.now _)))), (fun q => absurd q Bool.false_ne_true)⟩
      · exact ⟨false, st _ (ev_pos e (ev_neg c (Ev.now _))), im _ (ev_neg c (Ev.now _)), (fun q => absurd q Bool.false_ne_true)⟩

theorem last_both (L2 L3 : List ByteArray) (hn2 : L2.length ≤ 1048576) (hn3 : L3.length ≤ 1048576) (a0 a1 : Int) (d : Nat) : ∀ j : Nat, j + d = L2.length →
    ∃ r, Ev (fun k => spec_l03Is.l0 k (L2.length : Int) (j : Int) a0 a1 L2 L3) r ∧ Ev (fun k => impl_ValidBlockCode.l0 k L2 (L2.length : Int) (j : Int) a0 a1 L2 L3) r ∧ (r = true → ∀ i : Nat, j ≤ i → ∀ (h : i < L2.length) (i' : Nat) (h' : i' < L3.length), L2[i].toList = L3[i'].toList → (∀ (p q : Nat) (hp : p < L3.length) (hq : q < L3.length), p < q → L3[p].toList ≠ L3[q].toList) → i = i') := by
  induction d with
  | zero => intro j h; exact ⟨true, ev_one (fun k => by rw [spec_l03Is.l0, if_neg (by omega)]), ev_one (fun k => by rw [impl_ValidBlockCode.l0, if_neg (by omega)]), fun _ i h1 h2 => by omega⟩
  | succ d ih =>
    intro j h
    have hj : j < L2.length := by omega
    have hw := wrap_succ hj (by omega)
    have hrd := rdS_get L2 j hj
    obtain ⟨i, i1, i2, i3, _, i5⟩ := idx_both L3 L2[j] hn3 L3.length 0 (by omega)
    rw [List.drop_zero] at i3
    have i1' : Ev (fun k => spec_l03Index.f k L3 L2[j]) i := i1
    have i2' : Ev (fun k => slices_Index_string_string.f k L3 L2[j]) i := i2
    obtain ⟨r, r1, r2, r3⟩ := ih (j + 1) (by omega)
    have sp : ∀ R, Ev (fun k => if i ≥ 0 then (if i = (j : Int) then spec_l03Is.l0 k (L2.length : Int) ((j + 1 : Nat) : Int) a0 a1 L2 L3 else some false) else spec_l03Is.l0 k (L2.length : Int) ((j + 1 : Nat) : Int) a0 a1 L2 L3) R → Ev (fun k => spec_l03Is.l0 k (L2.length : Int) (j : Int) a0 a1 L2 L3) R :=
      fun R hR => Ev.step (fun k => by rw [spec_l03Is.l0, if_pos (by omega), if_pos (by omega), if_pos (by omega), hrd, hw]) (Ev.bind i1' hR)
    have im : ∀ R, Ev (fun k => if i ≥ 0 then (if i = (j : Int) then impl_ValidBlockCode.l0 k L2 (L2.length : Int) ((j + 1 : Nat) : Int) a0 a1 L2 L3 else some false) else impl_ValidBlockCode.l0 k L2 (L2.length : Int) ((j + 1 : Nat) : Int) a0 a1 L2 L3) R → Ev (fun k => impl_ValidBlockCode.l0 k L2 (L2.length : Int) (j : Int) a0 a1 L2 L3) R :=
      fun R hR => Ev.step (fun k => by rw [impl_ValidBlockCode.l0, if_pos (by omega), if_pos (by omega), if_pos (by omega), hrd, hw]) (Ev.bind i2' hR)
    by_cases c : i ≥ 0
    · by_cases c2 : i = (j : Int)
      · refine ⟨r, sp _ (ev_pos c (ev_pos c2 r1)), im _ (ev_pos c (ev_pos c2 r2)), fun q z h1 h2 i' h' he hd => ?_⟩
        by_cases cz : z = j
        · subst cz
          obtain ⟨y, e1, _, e2, e3⟩ := i5 c
          have ey : y = z := by omega
          subst ey
          rcases Nat.lt_trichotomy y i' with g | g | g
          · exact absurd (e3.trans he) (hd y i' e2 h' g)
          · exact g
          · exact absurd (e3.trans he).symm (hd i' y h' e2 g)
        · exact r3 q z (by omega) h2 i' h' he hd
      · exact ⟨false, sp _ (ev_pos c (ev_neg c2 (Ev.now _))), im _ (ev_pos c (ev_neg c2 (Ev.now _))), (fun q => absurd q Bool.false_ne_true)⟩
    · refine ⟨r, sp _ (ev_neg c r1), im _ (ev_neg c r2), fun q z h1 h2 i' h' he hd => ?_⟩
      by_cases cz : z = j
      · subst cz
        exact absurd (i3.2 (by rw [he]; exact List.mem_map.2 ⟨L3[i'], List.getElem_mem h', rfl⟩)) c
      · exact r3 q z (by omega) h2 i' h' he hd
theorem shl_data (a : Int) (h : 1 ≤ a ∧ a ≤ 6) : shl .i64 1 a = wrap64 (2 ^ min a.toNat 64) ∧ shl .i64 1 a ≤ 64 := by
  have : a = 1 ∨ a = 2 ∨ a = 3 ∨ a = 4 ∨ a = 5 ∨ a = 6 := by omega
  rcases this with rfl | rfl | rfl | rfl | rfl | rfl <;> decide +kernel
theorem isData_f (a : Int) : impl_isData.f a = some (decide (1 ≤ a ∧ a ≤ 6)) := by
  unfold impl_isData.f
  rw [impl_in]; rfl
theorem isWidth_f (a : Int) : impl_isWidth.f a = some (decide (2 ≤ a ∧ a ≤ 12) && ((Int.tmod a 2) == 0)) := by
  unfold impl_isWidth.f
  rw [impl_in, Option.bind_some]
  by_cases c : 2 ≤ a ∧ a ≤ 12
  · rw [decide_eq_true c, if_pos rfl, Bool.true_and]
  · rw [decide_eq_false c, if_neg Bool.false_ne_true, Bool.false_and]
/-- A valid block code. -/
structure VC (a0 a1 : Int) (L2 L3 : List ByteArray) : Prop where
  data : 1 ≤ a0 ∧ a0 ≤ 6
  width : 2 ≤ a1 ∧ a1 ≤ 12
  even : Int.tmod a1 2 = 0
  n2 : (L2.length : Int) = shl .i64 1 a0
  n3 : (L3.length : Int) = shl .i64 1 a0
  w2 : ∀ (i : Nat) (h : i < L2.length), WOK L2 a1 2 i h
  w3 : ∀ (i : Nat) (h : i < L3.length), WOK L3 a1 (-2) i h
  cross : ∀ (i : Nat) (h : i < L2.length) (i' : Nat) (h' : i' < L3.length), L2[i].toList = L3[i'].toList → i = i'
theorem code_both (a0 a1 : Int) (L2 L3 : List ByteArray) (h2 : L2.length ≤ 1048576) (h3 : L3.length ≤ 1048576) (s2 : ∀ s ∈ L2, s.size ≤ 1048576) (s3 : ∀ s ∈ L3, s.size ≤ 1048576) :
    ∃ r, Ev (fun k => spec_l03Is.f k a0 a1 L2 L3) r ∧ Ev (fun k => impl_ValidBlockCode.f k a0 a1 L2 L3) r ∧ (r = true → VC a0 a1 L2 L3) := by
  have sno : Ev (fun k => spec_l03Is.j0 k true a0 a1 L2 L3) false := ev_one (fun k => by rw [spec_l03Is.j0, if_pos rfl])
  have sn1 : ∀ n, Ev (fun k => spec_l03Is.j1 k n true a0 a1 L2 L3) false := fun n => ev_one (fun k => by rw [spec_l03Is.j1, if_pos rfl])
  have ino : Ev (fun k => impl_ValidBlockCode.j0 k true a0 a1 L2 L3) false := ev_one (fun k => by rw [impl_ValidBlockCode.j0, if_pos rfl])
  unfold spec_l03Is.f impl_ValidBlockCode.f
  by_cases c0 : 1 ≤ a0 ∧ a0 ≤ 6
  · by_cases c1 : 2 ≤ a1 ∧ a1 ≤ 12
    · by_cases ct : (Int.tmod a1 2) = 0
      · have hd := isData_f a0
        have hwd := isWidth_f a1
        rw [decide_eq_true c0] at hd
        rw [decide_eq_true c1, ct] at hwd
        have hs0 := spec_in a0 1 6
        have hs1 := spec_in a1 2 12
        rw [decide_eq_true c0] at hs0
        rw [decide_eq_true c1] at hs1
        have hu : IntKind.u64.wrap a0 = a0 := u64_in (by omega) (by omega)
        obtain ⟨hsh, hle⟩ := shl_data a0 c0
        suffices h : ∃ r, (r = true → VC a0 a1 L2 L3) ∧ Ev (fun k => if (L2.length : Int) = shl .i64 1 a0 then (if (L3.length : Int) = shl .i64 1 a0 then ((spec_l03Words.f k L2 a1 2).bind fun t => (if t = true then ((spec_l03Words.f k L3 a1 (-2)).bind fun t2 => (spec_l03Is.j1 k (shl .i64 1 a0) (!t2) a0 a1 L2 L3)) else (spec_l03Is.j1 k (shl .i64 1 a0) true a0 a1 L2 L3))) else (spec_l03Is.j1 k (shl .i64 1 a0) true a0 a1 L2 L3)) else (spec_l03Is.j1 k (shl .i64 1 a0) true a0 a1 L2 L3)) r ∧
            Ev (fun k => (impl_BlockCode_areWords.f k a0 a1 L2 L3 L2 2).bind fun t => (if t = true then ((impl_BlockCode_areWords.f k a0 a1 L2 L3 L3 (-2)).bind fun t2 => (impl_ValidBlockCode.j0 k (!t2) a0 a1 L2 L3)) else (impl_ValidBlockCode.j0 k true a0 a1 L2 L3))) r by
          obtain ⟨r, r0, r1, r2⟩ := h
          refine ⟨r, ev_to hs0 (ev_pos rfl (ev_to hs1 (ev_pos rfl ?_))), ev_to hd (ev_pos rfl (ev_to hwd (ev_pos rfl r2))), r0⟩
          exact Ev.step (fun k => by rw [ct, spec_l03Is.j0, if_neg (by decide), hu, if_pos (by omega)]) r1
        have aw : ∀ (L : List ByteArray) (o : Int) (R : Bool), (L.length : Int) = shl .i64 1 a0 → Ev (fun k => impl_BlockCode_areWords.l0 k a1 L o [] 0) R → Ev (fun k => impl_BlockCode_areWords.f k a0 a1 L2 L3 L o) R := by
          intro L o R hL hR
          unfold impl_BlockCode_areWords.f
          exact ev_pos (by omega) (ev_pos (by rw [hL, hsh]) hR)
        have an : ∀ (L : List ByteArray) (o : Int), (L.length : Int) ≠ shl .i64 1 a0 → Ev (fun k => impl_BlockCode_areWords.f k a0 a1 L2 L3 L o) false := by
          intro L o hL
          unfold impl_BlockCode_areWords.f
          exact ev_pos (by omega) (ev_neg (by rw [← hsh]; exact hL) (Ev.now _))
        by_cases e2 : (L2.length : Int) = shl .i64 1 a0
        · obtain ⟨w2, w2s, w2i, w2k⟩ := words_both L2 a1 2 (by omega) (by omega) s2 L2.length 0 [] (by omega) (by simp) (by simp)
          have w2s' : Ev (fun k => spec_l03Words.f k L2 a1 2) w2 := w2s
          have w2i' := aw L2 2 w2 e2 w2i
          by_cases e3 : (L3.length : Int) = shl .i64 1 a0
          · obtain ⟨w3, w3s, w3i, w3k⟩ := words_both L3 a1 (-2) (by omega) (by omega) s3 L3.length 0 [] (by omega) (by simp) (by simp)
            have w3s' : Ev (fun k => spec_l03Words.f k L3 a1 (-2)) w3 := w3s
            have w3i' := aw L3 (-2) w3 e3 w3i
            cases w2 with
            | false => exact ⟨false, (fun q => absurd q Bool.false_ne_true), ev_pos e2 (ev_pos e3 (Ev.bind w2s' (ev_neg Bool.false_ne_true (sn1 _)))), Ev.bind w2i' (ev_neg Bool.false_ne_true ino)⟩
            | true =>
              cases w3 with
              | false => exact ⟨false, (fun q => absurd q Bool.false_ne_true), ev_pos e2 (ev_pos e3 (Ev.bind w2s' (ev_pos rfl (Ev.bind w3s' (sn1 _))))), Ev.bind w2i' (ev_pos rfl (Ev.bind w3i' ino))⟩
              | true =>
                obtain ⟨r, r1, r2, r3⟩ := last_both L2 L3 h2 h3 a0 a1 L2.length 0 (by omega)
                refine ⟨r, fun q => ⟨c0, c1, ct, e2, e3, fun i h => w2k rfl i (Nat.zero_le _) h, fun i h => w3k rfl i (Nat.zero_le _) h, fun i h i' h' he => r3 q i (Nat.zero_le _) h i' h' he (fun p q' hp hq hpq => (w3k rfl q' (Nat.zero_le _) hq).2.2.2 p hpq)⟩, ev_pos e2 (ev_pos e3 (Ev.bind w2s' (ev_pos rfl (Ev.bind w3s' ?_)))), Ev.bind w2i' (ev_pos rfl (Ev.bind w3i' ?_))⟩
                · exact Ev.step (f := fun k => spec_l03Is.l0 k (L2.length : Int) 0 a0 a1 L2 L3) (fun k => by rw [spec_l03Is.j1, if_neg (by decide), e2]) r1
                · exact Ev.step (f := fun k => impl_ValidBlockCode.l0 k L2 (L2.length : Int) 0 a0 a1 L2 L3) (fun k => by rw [impl_ValidBlockCode.j0, if_neg (by decide)]) r2
          · refine ⟨false, (fun q => absurd q Bool.false_ne_true), ev_pos e2 (ev_neg e3 (sn1 _)), Ev.bind w2i' ?_⟩
            cases w2 with
            | false => exact ev_neg Bool.false_ne_true ino
            | true => exact ev_pos rfl (Ev.bind (an L3 (-2) e3) ino)
        · exact ⟨false, (fun q => absurd q Bool.false_ne_true), ev_neg e2 (sn1 _), Ev.bind (an L2 2 e2) (ev_neg Bool.false_ne_true ino)⟩
      · have hd := isData_f a0
        have hwd := isWidth_f a1
        rw [decide_eq_true c0] at hd
        rw [decide_eq_true c1, Bool.true_and, show ((Int.tmod a1 2) == 0) = false from by simpa using ct] at hwd
        have hs0 := spec_in a0 1 6
        have hs1 := spec_in a1 2 12
        rw [decide_eq_true c0] at hs0
        rw [decide_eq_true c1] at hs1
        refine ⟨false, ev_to hs0 (ev_pos rfl (ev_to hs1 (ev_pos rfl ?_))), ev_to hd (ev_pos rfl (ev_to hwd (ev_neg Bool.false_ne_true ino))), (fun q => absurd q Bool.false_ne_true)⟩
        rw [show ((Int.tmod a1 2) != 0) = true from by simpa using ct]
        exact sno
    · have hd := isData_f a0
      have hwd := isWidth_f a1
      rw [decide_eq_true c0] at hd
      rw [decide_eq_false c1, Bool.false_and] at hwd
      have hs0 := spec_in a0 1 6
      have hs1 := spec_in a1 2 12
      rw [decide_eq_true c0] at hs0
      rw [decide_eq_false c1] at hs1
      exact ⟨false, ev_to hs0 (ev_pos rfl (ev_to hs1 (ev_neg Bool.false_ne_true sno))), ev_to hd (ev_pos rfl (ev_to hwd (ev_neg Bool.false_ne_true ino))), (fun q => absurd q Bool.false_ne_true)⟩
  · have hd := isData_f a0
    have hs0 := spec_in a0 1 6
    rw [decide_eq_false c0] at hd hs0
    exact ⟨false, ev_to hs0 (ev_neg Bool.false_ne_true sno), ev_to hd (ev_neg Bool.false_ne_true ino), (fun q => absurd q Bool.false_ne_true)⟩

theorem szCode_ev (a0 a1 : Int) (L2 L3 : List ByteArray) (n2 : L2.length ≤ 9223372036854775807) (z2 : ∀ s ∈ L2, s.size ≤ 9223372036854775807) (n3 : L3.length ≤ 9223372036854775807) (z3 : ∀ s ∈ L3, s.size ≤ 9223372036854775807) :
    ∃ t, Ev (fun k => laws_szBlockCode.f k a0 a1 L2 L3 1048576) t ∧ (0 ≤ t → (L2.length ≤ 1048576 ∧ ∀ x ∈ L2, x.size ≤ 1048576) ∧ (L3.length ≤ 1048576 ∧ ∀ x ∈ L3, x.size ≤ 1048576)) := by
  obtain ⟨t1, e1, l1, p1⟩ := szStringS_ev L2 n2 z2 1048576 (by decide) (by decide)
  unfold laws_szBlockCode.f
  by_cases c : t1 < 0
  · exact ⟨-1, Ev.bind e1 (ev_pos c (Ev.now _)), fun h => by omega⟩
  · obtain ⟨t2, e2, l2, p2⟩ := szStringS_ev L3 n3 z3 t1 (by omega) (by omega)
    by_cases c2 : t2 < 0
    · exact ⟨-1, Ev.bind e1 (ev_neg c (Ev.bind e2 (ev_pos c2 (Ev.now _)))), fun h => by omega⟩
    · exact ⟨t2, Ev.bind e1 (ev_neg c (Ev.bind e2 (ev_neg c2 (Ev.now _)))), fun h => ⟨p1 (by omega), p2 h⟩⟩
theorem toCode_ev (a0 a1 : Int) (L2 L3 : List ByteArray) (h2 : L2.length ≤ 1048576) (h3 : L3.length ≤ 1048576) : Ev (fun k => laws_toBlockCode.f k a0 a1 L2 L3) (a0, a1, L2, L3) := by
  unfold laws_toBlockCode.f
  exact Ev.bind (toStringS_ev L2 h2) (Ev.bind (toStringS_ev L3 h3) (Ev.now _))
theorem eqCode_ev (a0 a1 : Int) (L2 L3 : List ByteArray) (h2 : L2.length ≤ 1048576) (h3 : L3.length ≤ 1048576) : Ev (fun k => laws_eqBlockCode.f k a0 a1 L2 L3 a0 a1 L2 L3) true := by
  unfold laws_eqBlockCode.f
  exact ev_pos rfl (ev_pos rfl (Ev.bind (eqStringS_ev L2 h2) (ev_pos rfl (Ev.bind (eqStringS_ev L3 h3) (ev_pos rfl (Ev.now _))))))

theorem VC.le64 {a0 a1 : Int} {L2 L3 : List ByteArray} (h : VC a0 a1 L2 L3) : L2.length ≤ 64 ∧ L3.length ≤ 64 := by
  have h1 := (shl_data a0 h.data).2
  have h2 := h.n2
  have h3 := h.n3
  omega
/-- A word's bits, whichever list it is of. -/
theorem VC.mem {a0 a1 : Int} {L2 L3 : List ByteArray} (h : VC a0 a1 L2 L3) {w : ByteArray} (hw : w ∈ L2 ∨ w ∈ L3) : IB w = true ∧ (w.size : Int) = a1 ∧ w.size ≤ 12 := by
  have hd := h.width
  rcases hw with hw | hw
  · obtain ⟨i, hi, rfl⟩ := List.mem_iff_getElem.1 hw
    obtain ⟨p1, p2, _⟩ := h.w2 i hi
    exact ⟨by unfold IB; rw [p1, decide_eq_true (by omega)]; rfl, p2, by omega⟩
  · obtain ⟨i, hi, rfl⟩ := List.mem_iff_getElem.1 hw
    obtain ⟨p1, p2, _⟩ := h.w3 i hi
    exact ⟨by unfold IB; rw [p1, decide_eq_true (by omega)]; rfl, p2, by omega⟩
/-- The state behind a word. -/
def nxt (st : Int) (w : ByteArray) : Int := if dsp w > 0 then 1 else if dsp w < 0 then -1 else st
theorem implBehindS_f (st : Int) (w : ByteArray) : impl_stateBehind.f st w = some (nxt st w) := by
  unfold impl_stateBehind.f nxt
  rw [disp_f, Option.bind_some]
  by_cases c : dsp w > 0
  · rw [if_pos c, if_pos c]
  · rw [if_neg c, if_neg c]
    by_cases c2 : dsp w < 0
    · rw [if_pos c2, if_pos c2]
    · rw [if_neg c2, if_neg c2]
theorem specNext_ev (st : Int) (w : ByteArray) (h : IB w = true) : Ev (fun k => spec_l03Next.f k st w) (nxt st w) := by
  obtain ⟨p1, p2⟩ := IB_parts h
  obtain ⟨v, hv, hv2⟩ := specDisp_any w (by omega)
  obtain rfl := hv2 h
  obtain ⟨r, hr⟩ : ∃ r, r = nxt st w := ⟨_, rfl⟩
  rw [← hr]
  unfold nxt at hr
  unfold spec_l03Next.f
  refine Ev.bind hv ?_
  by_cases c : dsp w > 0
  · rw [if_pos c] at hr
    rw [hr]
    exact ev_pos c (Ev.now _)
  · rw [if_neg c] at hr
    refine ev_neg c ?_
    by_cases c2 : dsp w < 0
    · rw [if_pos c2] at hr
      rw [hr]
      exact ev_pos c2 (Ev.now _)
    · rw [if_neg c2] at hr
      rw [hr]
      exact ev_neg c2 (Ev.now _)
def lst (L2 L3 : List ByteArray) (st : Int) : List ByteArray := if st < 0 then L2 else L3
theorem lst_mem {L2 L3 : List ByteArray} {st : Int} {w : ByteArray} (h : w ∈ lst L2 L3 st) : w ∈ L2 ∨ w ∈ L3 := by
  unfold lst at h
  split at h
  · exact .inl h
  · exact .inr h

theorem take_prefix (t l : List UInt8) : (l.take t.length == t) = t.isPrefixOf l := by
  rw [Bool.eq_iff_iff, beq_iff_eq, List.isPrefixOf_iff_prefix, List.prefix_iff_eq_take]
  exact eq_comm
theorem occAt_short (s t : List UInt8) (j : Nat) (h : s.length < j + t.length) (ht : 0 < t.length) : Lib.occAt s t j = false := by
  unfold Lib.occAt
  rw [Bool.eq_false_iff, ne_eq, List.isPrefixOf_iff_prefix]
  intro q
  have := q.length_le
  rw [List.length_drop] at this
  omega
theorem extract_list (s : ByteArray) (i j : Nat) : (s.extract i j).toList = (s.data.toList.drop i).take (j - i) := by
  rw [Lib.toList_data, ByteArray.data_extract, Array.toList_extract, List.extract_eq_take_drop]
theorem specAt_f (s t : ByteArray) (j : Nat) (hj : j ≤ s.size) (hs : s.size ≤ 2305843009213693952) (ht : t.size ≤ 2305843009213693952) (h0 : 0 < t.size) : spec_l01At.f s t (j : Int) = some (Lib.occAt s.data.toList t.data.toList j) := by
  have hw : wrap64 ((j : Int) + (t.size : Int)) = ((j + t.size : Nat) : Int) := by rw [wrap64_in (by omega) (by omega)]; omega
  have es := size_l s
  have et := size_l t
  unfold spec_l01At.f
  rw [hw]
  by_cases c : j + t.size ≤ s.size
  · rw [if_pos (by omega), if_pos (by omega), if_pos (by omega), Int.toNat_natCast, Int.toNat_natCast, extract_list, Lib.toList_data, show j + t.size - j = t.data.toList.length by omega, take_prefix]
    rfl
  · rw [if_neg (by omega), occAt_short _ _ _ (by omega) (by omega)]
theorem occAt_drop (s t : List UInt8) (i j : Nat) : Lib.occAt (s.drop i) t j = Lib.occAt s t (i + j) := by
  unfold Lib.occAt
  rw [List.drop_drop]

theorem nxt_pm {st : Int} (h : st = 1 ∨ st = -1) (w : ByteArray) : nxt st w = 1 ∨ nxt st w = -1 := by
  unfold nxt
  split
  · exact .inl rfl
  · split
    · exact .inr rfl
    · exact h
theorem slneg (a0 a1 : Int) (L2 L3 : List ByteArray) : spec_l03List_neg.f a0 a1 L2 L3 (-1) = some () := if_pos (by decide)
theorem slpos (a0 a1 : Int) (L2 L3 : List ByteArray) : spec_l03List_pos.f a0 a1 L2 L3 1 = some () := if_pos (by decide)
theorem app_l (s u : ByteArray) : (s ++ u).data.toList = s.data.toList ++ u.data.toList := by simp [ByteArray.data_append]
def cutL (t : List UInt8) (n p : Nat) : List UInt8 := (t.drop p).take n
/-- z is a part of t, n long, that begins within its first half. -/
def Part (W n : Nat) (t z : List UInt8) : Prop := ∃ p, p < W ∧ p + n ≤ 2 * W ∧ z = cutL t n p
theorem parts_l3 (L2 L3 : List ByteArray) (y : List Int) (x st : Int) (l : List ByteArray) (j : Int) (s : ByteArray) (m : List ByteArray) (i : Int) (t : ByteArray) (W n : Nat) (hs : s.size = W) (ht : t.size = 2 * W) (hW : W ≤ 12) (hn : n ≤ 13) (d : Nat) : ∀ (q : Nat) (seen : List (List UInt8)), q + d = W → seen.length + d < 1000000 →
    ∃ seen', (∀ z, z ∈ seen' ↔ z ∈ seen ∨ ∃ p, q ≤ p ∧ p < W ∧ p + n ≤ 2 * W ∧ z = cutL t.data.toList n p) ∧ seen'.length ≤ seen.length + d ∧ ∀ R, Ev (fun k => impl_BlockCode_parts.l2 k L2 L3 (n : Int) y x st l j s m (wrap64 (i + 1)) seen') R → Ev (fun k => impl_BlockCode_parts.l3 k L2 L3 (n : Int) y x st l j s m i t (q : Int) seen) R := by
  induction d with
  | zero =>
    intro q seen h h1
    refine ⟨seen, fun z => ⟨.inl, fun hh => hh.elim id fun ⟨p, p1, p2, _⟩ => by omega⟩, by omega, fun R hR => ?_⟩
    refine Ev.step (fun k => ?_) hR
    simp only [impl_BlockCode_parts.l3]
    by_cases c : wrap64 ((q : Int) + (n : Int)) ≤ (t.size : Int)
    · rw [if_pos c, if_neg (by omega)]
    · rw [if_neg c]
  | succ d ih =>
    intro q seen h h1
    have hw : wrap64 ((q : Int) + (n : Int)) = ((q + n : Nat) : Int) := by rw [wrap64_in (by omega) (by omega)]; omega
    have hq : wrap64 ((q : Int) + 1) = ((q + 1 : Nat) : Int) := by rw [wrap64_in (by omega) (by omega)]; omega
    by_cases c : q + n ≤ 2 * W
    · have ez : (t.extract q (q + n)).data.toList = cutL t.data.toList n q := by
        rw [ByteArray.data_extract, Array.toList_extract, List.extract_eq_take_drop, show q + n - q = n by omega]
        rfl
      obtain ⟨seen', e1, e2, e3⟩ := ih (q + 1) (cutL t.data.toList n q :: seen) (by omega) (by simp; omega)
      refine ⟨seen', fun z => ?_, by simp at e2; omega, fun R hR => ?_⟩
      · rw [e1, List.mem_cons]
        constructor
        · rintro ((rfl | hh) | ⟨p, p1, p2, p3, p4⟩)
          · exact .inr ⟨q, Nat.le_refl _, by omega, c, rfl⟩
          · exact .inl hh
          · exact .inr ⟨p, by omega, p2, p3, p4⟩
        · rintro (hh | ⟨p, p1, p2, p3, p4⟩)
          · exact .inl (.inr hh)
          · by_cases e : p = q
            · subst e; exact .inl (.inl p4)
            · exact .inr ⟨p, by omega, p2, p3, p4⟩
      · refine Ev.step (fun k => ?_) (e3 R hR)
        simp only [impl_BlockCode_parts.l3]
        rw [hw, hq, Int.toNat_natCast, Int.toNat_natCast, ez, if_pos (by omega), if_pos (by omega), if_pos (by omega), if_pos (by omega), if_pos (by rw [ByteArray.size_extract]; omega), if_pos (by omega)]
    · refine ⟨seen, fun z => ⟨.inl, fun hh => hh.elim id fun ⟨p, p1, p2, p3, _⟩ => by omega⟩, by omega, fun R hR => ?_⟩
      refine Ev.step (fun k => ?_) hR
      simp only [impl_BlockCode_parts.l3]
      rw [hw, if_neg (by omega)]
theorem parts_l2 (L2 L3 : List ByteArray) (y : List Int) (x st : Int) (l : List ByteArray) (j : Int) (s : ByteArray) (m : List ByteArray) (W n : Nat) (hs : s.size = W) (hm : ∀ v ∈ m, v.size = W) (hml : m.length ≤ 64) (hW : W ≤ 12) (hn : n ≤ 13) (d : Nat) : ∀ (i : Nat) (seen : List (List UInt8)), i + d = m.length → seen.length + 12 * d < 1000000 →
    ∃ seen', (∀ z, z ∈ seen' ↔ z ∈ seen ∨ ∃ v ∈ m.drop i, Part W n (s ++ v).data.toList z) ∧ seen'.length ≤ seen.length + 12 * d ∧ ∀ R, Ev (fun k => impl_BlockCode_parts.l1 k L2 L3 (n : Int) y x st l (wrap64 (j + 1)) seen') R → Ev (fun k => impl_BlockCode_parts.l2 k L2 L3 (n : Int) y x st l j s m (i : Int) seen) R := by
  induction d with
  | zero =>
    intro i seen h h1
    refine ⟨seen, fun z => ⟨.inl, fun hh => hh.elim id fun ⟨v, hv, _⟩ => ?_⟩, by omega, fun R hR => Ev.step (fun k => by simp only [impl_BlockCode_parts.l2]; rw [if_neg (by omega)]) hR⟩
    rw [List.drop_eq_nil_of_le (by omega)] at hv; cases hv
  | succ d ih =>
    intro i seen h h1
    have hi : i < m.length := by omega
    have hrd := rdS_get m i hi
    have hv := hm _ (List.getElem_mem hi)
    have hd := drop_cons m i hi
    generalize m[i] = v at hrd hv hd
    have hsz : (s ++ v).size = 2 * W := by rw [ByteArray.size_append]; omega
    obtain ⟨s1, f1, f2, f3⟩ := parts_l3 L2 L3 y x st l j s m (i : Int) (s ++ v) W n hs hsz hW hn W 0 seen (by omega) (by omega)
    have hw := wrap_succ hi (by omega)
    rw [hw] at f3
    obtain ⟨s2, e1, e2, e3⟩ := ih (i + 1) s1 (by omega) (by omega)
    refine ⟨s2, fun z => ?_, by omega, fun R hR => ?_⟩
    · rw [e1, f1, hd]
      constructor
      · rintro ((hh | ⟨p, p1, p2, p3, p4⟩) | ⟨v', hv', hh⟩)
        · exact .inl hh
        · exact .inr ⟨v, List.mem_cons_self, p, p2, p3, p4⟩
        · exact .inr ⟨v', List.mem_cons_of_mem _ hv', hh⟩
      · rintro (hh | ⟨v', hv', p, p2, p3, p4⟩)
        · exact .inl (.inl hh)
        · rcases List.mem_cons.1 hv' with rfl | hv'
          · exact .inl (.inr ⟨p, Nat.zero_le _, p2, p3, p4⟩)
          · exact .inr ⟨v', hv', p, p2, p3, p4⟩
    · refine Ev.step (fun k => ?_) (f3 R (e3 R hR))
      simp only [impl_BlockCode_parts.l2]
      rw [hrd, if_pos (by omega), if_pos (nat0 i), if_pos (by omega)]
      rfl
theorem parts_l1 (L2 L3 : List ByteArray) (y : List Int) (x st : Int) (l : List ByteArray) (W n : Nat) (hl : ∀ v ∈ l, v.size = W) (hll : l.length ≤ 64) (h2 : ∀ v ∈ L2, v.size = W) (hl2 : L2.length ≤ 64) (h3 : ∀ v ∈ L3, v.size = W) (hl3 : L3.length ≤ 64) (hW : W ≤ 12) (hn : n ≤ 13) (d : Nat) : ∀ (j : Nat) (seen : List (List UInt8)), j + d = l.length → seen.length + 768 * d < 1000000 →
    ∃ seen', (∀ z, z ∈ seen' ↔ z ∈ seen ∨ ∃ w ∈ l.drop j, ∃ v ∈ lst L2 L3 (nxt st w), Part W n (w ++ v).data.toList z) ∧ seen'.length ≤ seen.length + 768 * d ∧ ∀ R, Ev (fun k => impl_BlockCode_parts.l0 k L2 L3 (n : Int) y (wrap64 (x + 1)) seen') R → Ev (fun k => impl_BlockCode_parts.l1 k L2 L3 (n : Int) y x st l (j : Int) seen) R := by
  induction d with
  | zero =>
    intro j seen h h1
    refine ⟨seen, fun z => ⟨.inl, fun hh => hh.elim id fun ⟨v, hv, _⟩ => ?_⟩, by omega, fun R hR => Ev.step (fun k => by simp only [impl_BlockCode_parts.l1]; rw [if_neg (by omega)]) hR⟩
    rw [List.drop_eq_nil_of_le (by omega)] at hv; cases hv
  | succ d ih =>
    intro j seen h h1
    have hj : j < l.length := by omega
    have hrd := rdS_get l j hj
    have hv := hl _ (List.getElem_mem hj)
    have hd := drop_cons l j hj
    generalize l[j] = w at hrd hv hd
    have hm : ∀ v ∈ lst L2 L3 (nxt st w), v.size = W := fun v hh => (lst_mem hh).elim (h2 v) (h3 v)
    have hml : (lst L2 L3 (nxt st w)).length ≤ 64 := by unfold lst; split <;> omega
    obtain ⟨s1, f1, f2, f3⟩ := parts_l2 L2 L3 y x st l (j : Int) w (lst L2 L3 (nxt st w)) W n hv hm hml hW hn (lst L2 L3 (nxt st w)).length 0 seen (by omega) (by omega)
    have hw := wrap_succ hj (by omega)
    rw [hw] at f3
    rw [List.drop_zero] at f1
    obtain ⟨s2, e1, e2, e3⟩ := ih (j + 1) s1 (by omega) (by omega)
    refine ⟨s2, fun z => ?_, by omega, fun R hR => ?_⟩
    · rw [e1, f1, hd]
      constructor
      · rintro ((hh | ⟨v, hv', hh⟩) | ⟨w', hw', hh⟩)
        · exact .inl hh
        · exact .inr ⟨w, List.mem_cons_self, v, hv', hh⟩
        · exact .inr ⟨w', List.mem_cons_of_mem _ hw', hh⟩
      · rintro (hh | ⟨w', hw', hh⟩)
        · exact .inl (.inl hh)
        · rcases List.mem_cons.1 hw' with rfl | hw'
          · exact .inl (.inr hh)
          · exact .inr ⟨w', hw', hh⟩
    · refine Ev.step (fun k => ?_) (f3 R (e3 R hR))
      simp only [impl_BlockCode_parts.l1]
      rw [hrd, if_pos (by omega), if_pos (nat0 j), implBehindS_f, Option.bind_some]
      rfl
/-- A text is a part of two words that follow one another. -/
def Arises (L2 L3 : List ByteArray) (W n : Nat) (z : List UInt8) : Prop := (∃ w ∈ L2, ∃ v ∈ lst L2 L3 (nxt (-1) w), Part W n (w ++ v).data.toList z) ∨ (∃ w ∈ L3, ∃ v ∈ lst L2 L3 (nxt 1 w), Part W n (w ++ v).data.toList z)
theorem VC.sizes {a0 a1 : Int} {L2 L3 : List ByteArray} (hv : VC a0 a1 L2 L3) : ∃ W : Nat, a1 = (W : Int) ∧ 2 ≤ W ∧ W ≤ 12 ∧ (∀ v ∈ L2, v.size = W) ∧ (∀ v ∈ L3, v.size = W) := by
  have hd := hv.width
  refine ⟨a1.toNat, by omega, by omega, by omega, fun v h => ?_, fun v h => ?_⟩
  · have := (hv.mem (.inl h)).2.1; omega
  · have := (hv.mem (.inr h)).2.1; omega
theorem parts_ev (a0 a1 : Int) (L2 L3 : List ByteArray) (hv : VC a0 a1 L2 L3) (W n : Nat) (hW : W ≤ 12) (h2 : ∀ v ∈ L2, v.size = W) (h3 : ∀ v ∈ L3, v.size = W) (hn : n ≤ 13) :
    ∃ z, (∀ u, u ∈ z ↔ Arises L2 L3 W n u) ∧ Ev (fun k => impl_BlockCode_parts.f k a0 a1 L2 L3 (n : Int)) z := by
  obtain ⟨hl2, hl3⟩ := hv.le64
  obtain ⟨s1, e1, e2, e3⟩ := parts_l1 L2 L3 [-1, 1] 0 (-1) L2 W n h2 hl2 h2 hl2 h3 hl3 hW hn L2.length 0 [] (by omega) (by simp; omega)
  obtain ⟨s2, f1, f2, f3⟩ := parts_l1 L2 L3 [-1, 1] 1 1 L3 W n h3 hl3 h2 hl2 h3 hl3 hW hn L3.length 0 s1 (by omega) (by simp at e2; omega)
  rw [List.drop_zero] at e1 f1
  rw [w01] at e3
  rw [w11] at f3
  refine ⟨s2, fun u => ?_, ?_⟩
  · rw [f1, e1]
    unfold Arises
    simp
  · unfold impl_BlockCode_parts.f
    have r0 : rd [-1, 1] 0 = -1 := rfl
    have r1 : rd [-1, 1] 1 = 1 := rfl
    refine Ev.step (fun k => ?_) (e3 s2 (Ev.step (fun k => ?_) (f3 s2 (ev_one (fun k => ?_)))))
    · simp only [impl_BlockCode_parts.l0]
      rw [if_pos (by decide), if_pos (by decide), r0]
      rfl
    · simp only [impl_BlockCode_parts.l0]
      rw [if_pos (by decide), if_pos (by decide), r1]
      rfl
    · simp only [impl_BlockCode_parts.l0]
      rw [if_neg (by decide)]

theorem scan {F : Nat → Nat → Option Bool} {G : Nat → Option Bool} {P : Nat → Prop} (n : Nat) (h : ∀ i, i < n → (P i ∧ Ev (fun k => F k i) true) ∨ (¬ P i ∧ ∀ R, Ev (fun k => F k (i + 1)) R → Ev (fun k => F k i) R)) (hend : ∀ R, Ev G R → Ev (fun k => F k n) R) (d : Nat) : ∀ i, i + d = n →
    ((∃ p, i ≤ p ∧ p < n ∧ P p) ∧ Ev (fun k => F k i) true) ∨ ((∀ p, i ≤ p → p < n → ¬ P p) ∧ ∀ R, Ev G R → Ev (fun k => F k i) R) := by
  induction d with
  | zero =>
    intro i hi
    obtain rfl : i = n := by omega
    exact .inr ⟨fun p p1 p2 => by omega, hend⟩
  | succ d ih =>
    intro i hi
    rcases h i (by omega) with ⟨h1, h2⟩ | ⟨h1, h2⟩
    · exact .inl ⟨⟨i, Nat.le_refl _, by omega, h1⟩, h2⟩
    · rcases ih (i + 1) (by omega) with ⟨⟨p, p1, p2, p3⟩, g⟩ | ⟨g1, g2⟩
      · exact .inl ⟨⟨p, by omega, p2, p3⟩, h2 _ g⟩
      · refine .inr ⟨fun p p1 p2 hp => ?_, fun R hR => h2 R (g2 R hR)⟩
        by_cases e : p = i
        · subst e; exact h1 hp
        · exact g1 p (by omega) p2 hp
def OC (pat t : ByteArray) : Prop := ∃ p, p < t.size ∧ Lib.occAt t.data.toList pat.data.toList p = true
theorem occ_l3 (a0 a1 : Int) (L2 L3 : List ByteArray) (pat : ByteArray) (h0 : 0 < pat.size) (hp : pat.size ≤ 1048576) (st : Int) (l : List ByteArray) (j : Int) (m : List ByteArray) (i : Int) (t : ByteArray) (ht : t.size ≤ 24) :
    (OC pat t ∧ Ev (fun k => spec_l03Occurs.l3 k pat st l j m i t 0 a0 a1 L2 L3) true) ∨ (¬ OC pat t ∧ ∀ R, Ev (fun k => spec_l03Occurs.l2 k pat st l j m (wrap64 (i + 1)) a0 a1 L2 L3) R → Ev (fun k => spec_l03Occurs.l3 k pat st l j m i t 0 a0 a1 L2 L3) R) := by
  have key := scan (F := fun k p => spec_l03Occurs.l3 k pat st l j m i t (p : Int) a0 a1 L2 L3) (G := fun k => spec_l03Occurs.l2 k pat st l j m (wrap64 (i + 1)) a0 a1 L2 L3) (P := fun p => Lib.occAt t.data.toList pat.data.toList p = true) t.size (fun p hp_ => ?_) (fun R hR => Ev.step (fun k => by simp only [spec_l03Occurs.l3]; rw [if_neg (by omega)]) hR) t.size 0 (by omega)
  · rcases key with ⟨⟨p, _, p2, p3⟩, g⟩ | ⟨g1, g2⟩
    · exact .inl ⟨⟨p, p2, p3⟩, g⟩
    · exact .inr ⟨fun ⟨p, p2, p3⟩ => g1 p (Nat.zero_le _) p2 p3, g2⟩
  · have hf := specAt_f t pat p (by omega) (by omega) (by omega) h0
    have hw : wrap64 ((p : Int) + 1) = ((p + 1 : Nat) : Int) := by rw [wrap64_in (by omega) (by omega)]; omega
    cases e : Lib.occAt t.data.toList pat.data.toList p with
    | true => exact .inl ⟨rfl, ev_one (fun k => by simp only [spec_l03Occurs.l3]; rw [if_pos (by omega), hf, e, Option.bind_some, if_pos rfl])⟩
    | false => exact .inr ⟨Bool.false_ne_true, fun R hR => Ev.step (fun k => by simp only [spec_l03Occurs.l3]; rw [if_pos (by omega), hf, e, Option.bind_some, if_neg Bool.false_ne_true, hw]) hR⟩
theorem occ_l2 (a0 a1 : Int) (L2 L3 : List ByteArray) (pat : ByteArray) (h0 : 0 < pat.size) (hp : pat.size ≤ 1048576) (st : Int) (l : List ByteArray) (j : Nat) (hj : j < l.length) (hs : l[j].size ≤ 12) (m : List ByteArray) (hml : m.length ≤ 64) (hm : ∀ v ∈ m, v.size ≤ 12) :
    ((∃ v ∈ m, OC pat (l[j] ++ v)) ∧ Ev (fun k => spec_l03Occurs.l2 k pat st l (j : Int) m 0 a0 a1 L2 L3) true) ∨ ((¬ ∃ v ∈ m, OC pat (l[j] ++ v)) ∧ ∀ R, Ev (fun k => spec_l03Occurs.l1 k pat st l (wrap64 ((j : Int) + 1)) a0 a1 L2 L3) R → Ev (fun k => spec_l03Occurs.l2 k pat st l (j : Int) m 0 a0 a1 L2 L3) R) := by
  have key := scan (F := fun k i => spec_l03Occurs.l2 k pat st l (j : Int) m (i : Int) a0 a1 L2 L3) (G := fun k => spec_l03Occurs.l1 k pat st l (wrap64 ((j : Int) + 1)) a0 a1 L2 L3) (P := fun i => ∃ h : i < m.length, OC pat (l[j] ++ m[i])) m.length (fun i hi => ?_) (fun R hR => Ev.step (fun k => by simp only [spec_l03Occurs.l2]; rw [if_neg (by omega)]) hR) m.length 0 (by omega)
  · rcases key with ⟨⟨p, _, p2, p3, p4⟩, g⟩ | ⟨g1, g2⟩
    · exact .inl ⟨⟨m[p], List.getElem_mem p3, p4⟩, g⟩
    · refine .inr ⟨fun ⟨v, hv, ho⟩ => ?_, g2⟩
      obtain ⟨p, p3, rfl⟩ := List.mem_iff_getElem.1 hv
      exact g1 p (Nat.zero_le _) p3 ⟨p3, ho⟩
  · have hz := hm _ (List.getElem_mem hi)
    have hw := wrap_succ hi (by omega)
    have r1 := rdS_get l j hj
    have r2 := rdS_get m i hi
    have hst : ∀ k, spec_l03Occurs.l2 (k + 1) pat st l (j : Int) m (i : Int) a0 a1 L2 L3 = spec_l03Occurs.l3 k pat st l (j : Int) m (i : Int) (l[j] ++ m[i]) 0 a0 a1 L2 L3 := fun k => by
      simp only [spec_l03Occurs.l2]
      rw [r1, r2, if_pos (by omega), if_pos (by omega), if_pos (by omega), if_pos (by omega), if_pos (by omega)]
    rcases occ_l3 a0 a1 L2 L3 pat h0 hp st l (j : Int) m (i : Int) (l[j] ++ m[i]) (by rw [ByteArray.size_append]; omega) with ⟨g1, g2⟩ | ⟨g1, g2⟩
    · exact .inl ⟨⟨hi, g1⟩, Ev.step hst g2⟩
    · rw [hw] at g2
      exact .inr ⟨fun ⟨_, hh⟩ => g1 hh, fun R hR => Ev.step hst (g2 R hR)⟩
theorem occ_l103 (a0 a1 : Int) (L2 L3 : List ByteArray) (pat : ByteArray) (h0 : 0 < pat.size) (hp : pat.size ≤ 1048576) (st : Int) (l : List ByteArray) (j : Int) (m : List ByteArray) (i : Int) (t : ByteArray) (ht : t.size ≤ 24) :
    (OC pat t ∧ Ev (fun k => spec_l03Occurs.l103 k pat st l j m i t 0 a0 a1 L2 L3) true) ∨ (¬ OC pat t ∧ ∀ R, Ev (fun k => spec_l03Occurs.l102 k pat st l j m (wrap64 (i + 1)) a0 a1 L2 L3) R → Ev (fun k => spec_l03Occurs.l103 k pat st l j m i t 0 a0 a1 L2 L3) R) := by
  have key := scan (F := fun k p => spec_l03Occurs.l103 k pat st l j m i t (p : Int) a0 a1 L2 L3) (G := fun k => spec_l03Occurs.l102 k pat st l j m (wrap64 (i + 1)) a0 a1 L2 L3) (P := fun p => Lib.occAt t.data.toList pat.data.toList p = true) t.size (fun p hp_ => ?_) (fun R hR => Ev.step (fun k => by simp only [spec_l03Occurs.l103]; rw [if_neg (by omega)]) hR) t.size 0 (by omega)
  · rcases key with ⟨⟨p, _, p2, p3⟩, g⟩ | ⟨g1, g2⟩
    · exact .inl ⟨⟨p, p2, p3⟩, g⟩
    · exact .inr ⟨fun ⟨p, p2, p3⟩ => g1 p (Nat.zero_le _) p2 p3, g2⟩
  · have hf := specAt_f t pat p (by omega) (by omega) (by omega) h0
    have hw : wrap64 ((p : Int) + 1) = ((p + 1 : Nat) : Int) := by rw [wrap64_in (by omega) (by omega)]; omega
    cases e : Lib.occAt t.data.toList pat.data.toList p with
    | true => exact .inl ⟨rfl, ev_one (fun k => by simp only [spec_l03Occurs.l103]; rw [if_pos (by omega), hf, e, Option.bind_some, if_pos rfl])⟩
    | false => exact .inr ⟨Bool.false_ne_true, fun R hR => Ev.step (fun k => by simp only [spec_l03Occurs.l103]; rw [if_pos (by omega), hf, e, Option.bind_some, if_neg Bool.false_ne_true, hw]) hR⟩
theorem occ_l102 (a0 a1 : Int) (L2 L3 : List ByteArray) (pat : ByteArray) (h0 : 0 < pat.size) (hp : pat.size ≤ 1048576) (st : Int) (l : List ByteArray) (j : Nat) (hj : j < l.length) (hs : l[j].size ≤ 12) (m : List ByteArray) (hml : m.length ≤ 64) (hm : ∀ v ∈ m, v.size ≤ 12) :
    ((∃ v ∈ m, OC pat (l[j] ++ v)) ∧ Ev (fun k => spec_l03Occurs.l102 k pat st l (j : Int) m 0 a0 a1 L2 L3) true) ∨ ((¬ ∃ v ∈ m, OC pat (l[j] ++ v)) ∧ ∀ R, Ev (fun k => spec_l03Occurs.l1 k pat st l (wrap64 ((j : Int) + 1)) a0 a1 L2 L3) R → Ev (fun k => spec_l03Occurs.l102 k pat st l (j : Int) m 0 a0 a1 L2 L3) R) := by
  have key := scan (F := fun k i => spec_l03Occurs.l102 k pat st l (j : Int) m (i : Int) a0 a1 L2 L3) (G := fun k => spec_l03Occurs.l1 k pat st l (wrap64 ((j : Int) + 1)) a0 a1 L2 L3) (P := fun i => ∃ h : i < m.length, OC pat (l[j] ++ m[i])) m.length (fun i hi => ?_) (fun R hR => Ev.step (fun k => by simp only [spec_l03Occurs.l102]; rw [if_neg (by omega)]) hR) m.length 0 (by omega)
  · rcases key with ⟨⟨p, _, p2, p3, p4⟩, g⟩ | ⟨g1, g2⟩
    · exact .inl ⟨⟨m[p], List.getElem_mem p3, p4⟩, g⟩
    · refine .inr ⟨fun ⟨v, hv, ho⟩ => ?_, g2⟩
      obtain ⟨p, p3, rfl⟩ := List.mem_iff_getElem.1 hv
      exact g1 p (Nat.zero_le _) p3 ⟨p3, ho⟩
  · have hz := hm _ (List.getElem_mem hi)
    have hw := wrap_succ hi (by omega)
    have r1 := rdS_get l j hj
    have r2 := rdS_get m i hi
    have hst : ∀ k, spec_l03Occurs.l102 (k + 1) pat st l (j : Int) m (i : Int) a0 a1 L2 L3 = spec_l03Occurs.l103 k pat st l (j : Int) m (i : Int) (l[j] ++ m[i]) 0 a0 a1 L2 L3 := fun k => by
      simp only [spec_l03Occurs.l102]
      rw [r1, r2, if_pos (by omega), if_pos (by omega), if_pos (by omega), if_pos (by omega), if_pos (by omega)]
    rcases occ_l103 a0 a1 L2 L3 pat h0 hp st l (j : Int) m (i : Int) (l[j] ++ m[i]) (by rw [ByteArray.size_append]; omega) with ⟨g1, g2⟩ | ⟨g1, g2⟩
    · exact .inl ⟨⟨hi, g1⟩, Ev.step hst g2⟩
    · rw [hw] at g2
      exact .inr ⟨fun ⟨_, hh⟩ => g1 hh, fun R hR => Ev.step hst (g2 R hR)⟩
theorem occ_l203 (a0 a1 : Int) (L2 L3 : List ByteArray) (pat : ByteArray) (h0 : 0 < pat.size) (hp : pat.size ≤ 1048576) (st : Int) (l : List ByteArray) (j : Int) (m : List ByteArray) (i : Int) (t : ByteArray) (ht : t.size ≤ 24) :
    (OC pat t ∧ Ev (fun k => spec_l03Occurs.l203 k pat st l j m i t 0 a0 a1 L2 L3) true) ∨ (¬ OC pat t ∧ ∀ R, Ev (fun k => spec_l03Occurs.l202 k pat st l j m (wrap64 (i + 1)) a0 a1 L2 L3) R → Ev (fun k => spec_l03Occurs.l203 k pat st l j m i t 0 a0 a1 L2 L3) R) := by
  have key := scan (F := fun k p => spec_l03Occurs.l203 k pat st l j m i t (p : Int) a0 a1 L2 L3) (G := fun k => spec_l03Occurs.l202 k pat st l j m (wrap64 (i + 1)) a0 a1 L2 L3) (P := fun p => Lib.occAt t.data.toList pat.data.toList p = true) t.size (fun p hp_ => ?_) (fun R hR => Ev.step (fun k => by simp only [spec_l03Occurs.l203]; rw [if_neg (by omega)]) hR) t.size 0 (by omega)
  · rcases key with ⟨⟨p, _, p2, p3⟩, g⟩ | ⟨g1, g2⟩
    · exact .inl ⟨⟨p, p2, p3⟩, g⟩
    · exact .inr ⟨fun ⟨p, p2, p3⟩ => g1 p (Nat.zero_le _) p2 p3, g2⟩
  · have hf := specAt_f t pat p (by omega) (by omega) (by omega) h0
    have hw : wrap64 ((p : Int) + 1) = ((p + 1 : Nat) : Int) := by rw [wrap64_in (by omega) (by omega)]; omega
    cases e : Lib.occAt t.data.toList pat.data.toList p with
    | true => exact .inl ⟨rfl, ev_one (fun k => by simp only [spec_l03Occurs.l203]; rw [if_pos (by omega), hf, e, Option.bind_some, if_pos rfl])⟩
    | false => exact .inr ⟨Bool.false_ne_true, fun R hR => Ev.step (fun k => by simp only [spec_l03Occurs.l203]; rw [if_pos (by omega), hf, e, Option.bind_some, if_neg Bool.false_ne_true, hw]) hR⟩
theorem occ_l202 (a0 a1 : Int) (L2 L3 : List ByteArray) (pat : ByteArray) (h0 : 0 < pat.size) (hp : pat.size ≤ 1048576) (st : Int) (l : List ByteArray) (j : Nat) (hj : j < l.length) (hs : l[j].size ≤ 12) (m : List ByteArray) (hml : m.length ≤ 64) (hm : ∀ v ∈ m, v.size ≤ 12) :
    ((∃ v ∈ m, OC pat (l[j] ++ v)) ∧ Ev (fun k => spec_l03Occurs.l202 k pat st l (j : Int) m 0 a0 a1 L2 L3) true) ∨ ((¬ ∃ v ∈ m, OC pat (l[j] ++ v)) ∧ ∀ R, Ev (fun k => spec_l03Occurs.l101 k pat st l (wrap64 ((j : Int) + 1)) a0 a1 L2 L3) R → Ev (fun k => spec_l03Occurs.l202 k pat st l (j : Int) m 0 a0 a1 L2 L3) R) := by
  have key := scan (F := fun k i => spec_l03Occurs.l202 k pat st l (j : Int) m (i : Int) a0 a1 L2 L3) (G := fun k => spec_l03Occurs.l101 k pat st l (wrap64 ((j : Int) + 1)) a0 a1 L2 L3) (P := fun i => ∃ h : i < m.length, OC pat (l[j] ++ m[i])) m.length (fun i hi => ?_) (fun R hR => Ev.step (fun k => by simp only [spec_l03Occurs.l202]; rw [if_neg (by omega)]) hR) m.length 0 (by omega)
  · rcases key with ⟨⟨p, _, p2, p3, p4⟩, g⟩ | ⟨g1, g2⟩
    · exact .inl ⟨⟨m[p], List.getElem_mem p3, p4⟩, g⟩
    · refine .inr ⟨fun ⟨v, hv, ho⟩ => ?_, g2⟩
      obtain ⟨p, p3, rfl⟩ := List.mem_iff_getElem.1 hv
      exact g1 p (Nat.zero_le _) p3 ⟨p3, ho⟩
  · have hz := hm _ (List.getElem_mem hi)
    have hw := wrap_succ hi (by omega)
    have r1 := rdS_get l j hj
    have r2 := rdS_get m i hi
    have hst : ∀ k, spec_l03Occurs.l202 (k + 1) pat st l (j : Int) m (i : Int) a0 a1 L2 L3 = spec_l03Occurs.l203 k pat st l (j : Int) m (i : Int) (l[j] ++ m[i]) 0 a0 a1 L2 L3 := fun k => by
      simp only [spec_l03Occurs.l202]
      rw [r1, r2, if_pos (by omega), if_pos (by omega), if_pos (by omega), if_pos (by omega), if_pos (by omega)]
    rcases occ_l203 a0 a1 L2 L3 pat h0 hp st l (j : Int) m (i : Int) (l[j] ++ m[i]) (by rw [ByteArray.size_append]; omega) with ⟨g1, g2⟩ | ⟨g1, g2⟩
    · exact .inl ⟨⟨hi, g1⟩, Ev.step hst g2⟩
    · rw [hw] at g2
      exact .inr ⟨fun ⟨_, hh⟩ => g1 hh, fun R hR => Ev.step hst (g2 R hR)⟩
theorem occ_l303 (a0 a1 : Int) (L2 L3 : List ByteArray) (pat : ByteArray) (h0 : 0 < pat.size) (hp : pat.size ≤ 1048576) (st : Int) (l : List ByteArray) (j : Int) (m : List ByteArray) (i : Int) (t : ByteArray) (ht : t.size ≤ 24) :
    (OC pat t ∧ Ev (fun k => spec_l03Occurs.l303 k pat st l j m i t 0 a0 a1 L2 L3) true) ∨ (¬ OC pat t ∧ ∀ R, Ev (fun k => spec_l03Occurs.l302 k pat st l j m (wrap64 (i + 1)) a0 a1 L2 L3) R → Ev (fun k => spec_l03Occurs.l303 k pat st l j m i t 0 a0 a1 L2 L3) R) := by
  have key := scan (F := fun k p => spec_l03Occurs.l303 k pat st l j m i t (p : Int) a0 a1 L2 L3) (G := fun k => spec_l03Occurs.l302 k pat st l j m (wrap64 (i + 1)) a0 a1 L2 L3) (P := fun p => Lib.occAt t.data.toList pat.data.toList p = true) t.size (fun p hp_ => ?_) (fun R hR => Ev.step (fun k => by simp only [spec_l03Occurs.l303]; rw [if_neg (by omega)]) hR) t.size 0 (by omega)
  · rcases key with ⟨⟨p, _, p2, p3⟩, g⟩ | ⟨g1, g2⟩
    · exact .inl ⟨⟨p, p2, p3⟩, g⟩
    · exact .inr ⟨fun ⟨p, p2, p3⟩ => g1 p (Nat.zero_le _) p2 p3, g2⟩
  · have hf := specAt_f t pat p (by omega) (by omega) (by omega) h0
    have hw : wrap64 ((p : Int) + 1) = ((p + 1 : Nat) : Int) := by rw [wrap64_in (by omega) (by omega)]; omega
    cases e : Lib.occAt t.data.toList pat.data.toList p with
    | true => exact .inl ⟨rfl, ev_one (fun k => by simp only [spec_l03Occurs.l303]; rw [if_pos (by omega), hf, e, Option.bind_some, if_pos rfl])⟩
    | false => exact .inr ⟨Bool.false_ne_true, fun R hR => Ev.step (fun k => by simp only [spec_l03Occurs.l303]; rw [if_pos (by omega), hf, e, Option.bind_some, if_neg Bool.false_ne_true, hw]) hR⟩
theorem occ_l302 (a0 a1 : Int) (L2 L3 : List ByteArray) (pat : ByteArray) (h0 : 0 < pat.size) (hp : pat.size ≤ 1048576) (st : Int) (l : List ByteArray) (j : Nat) (hj : j < l.length) (hs : l[j].size ≤ 12) (m : List ByteArray) (hml : m.length ≤ 64) (hm : ∀ v ∈ m, v.size ≤ 12) :
    ((∃ v ∈ m, OC pat (l[j] ++ v)) ∧ Ev (fun k => spec_l03Occurs.l302 k pat st l (j : Int) m 0 a0 a1 L2 L3) true) ∨ ((¬ ∃ v ∈ m, OC pat (l[j] ++ v)) ∧ ∀ R, Ev (fun k => spec_l03Occurs.l101 k pat st l (wrap64 ((j : Int) + 1)) a0 a1 L2 L3) R → Ev (fun k => spec_l03Occurs.l302 k pat st l (j : Int) m 0 a0 a1 L2 L3) R) := by
  have key := scan (F := fun k i => spec_l03Occurs.l302 k pat st l (j : Int) m (i : Int) a0 a1 L2 L3) (G := fun k => spec_l03Occurs.l101 k pat st l (wrap64 ((j : Int) + 1)) a0 a1 L2 L3) (P := fun i => ∃ h : i < m.length, OC pat (l[j] ++ m[i])) m.length (fun i hi => ?_) (fun R hR => Ev.step (fun k => by simp only [spec_l03Occurs.l302]; rw [if_neg (by omega)]) hR) m.length 0 (by omega)
  · rcases key with ⟨⟨p, _, p2, p3, p4⟩, g⟩ | ⟨g1, g2⟩
    · exact .inl ⟨⟨m[p], List.getElem_mem p3, p4⟩, g⟩
    · refine .inr ⟨fun ⟨v, hv, ho⟩ => ?_, g2⟩
      obtain ⟨p, p3, rfl⟩ := List.mem_iff_getElem.1 hv
      exact g1 p (Nat.zero_le _) p3 ⟨p3, ho⟩
  · have hz := hm _ (List.getElem_mem hi)
    have hw := wrap_succ hi (by omega)
    have r1 := rdS_get l j hj
    have r2 := rdS_get m i hi
    have hst : ∀ k, spec_l03Occurs.l302 (k + 1) pat st l (j : Int) m (i : Int) a0 a1 L2 L3 = spec_l03Occurs.l303 k pat st l (j : Int) m (i : Int) (l[j] ++ m[i]) 0 a0 a1 L2 L3 := fun k => by
      simp only [spec_l03Occurs.l302]
      rw [r1, r2, if_pos (by omega), if_pos (by omega), if_pos (by omega), if_pos (by omega), if_pos (by omega)]
    rcases occ_l303 a0 a1 L2 L3 pat h0 hp st l (j : Int) m (i : Int) (l[j] ++ m[i]) (by rw [ByteArray.size_append]; omega) with ⟨g1, g2⟩ | ⟨g1, g2⟩
    · exact .inl ⟨⟨hi, g1⟩, Ev.step hst g2⟩
    · rw [hw] at g2
      exact .inr ⟨fun ⟨_, hh⟩ => g1 hh, fun R hR => Ev.step hst (g2 R hR)⟩
theorem occ_l1 (a0 a1 : Int) (L2 L3 : List ByteArray) (hv : VC a0 a1 L2 L3) (pat : ByteArray) (h0 : 0 < pat.size) (hp : pat.size ≤ 1048576) (l : List ByteArray) (hll : l.length ≤ 64) (hl : ∀ w ∈ l, w ∈ L2 ∨ w ∈ L3) (st : Int) (hst : st = 1 ∨ st = -1) :
    ((∃ w ∈ l, ∃ v ∈ lst L2 L3 (nxt st w), OC pat (w ++ v)) ∧ Ev (fun k => spec_l03Occurs.l1 k pat st l 0 a0 a1 L2 L3) true) ∨ ((¬ ∃ w ∈ l, ∃ v ∈ lst L2 L3 (nxt st w), OC pat (w ++ v)) ∧ ∀ R, Ev (fun k => spec_l03Occurs.l0 k pat (wrap64 (st + 2)) a0 a1 L2 L3) R → Ev (fun k => spec_l03Occurs.l1 k pat st l 0 a0 a1 L2 L3) R) := by
  obtain ⟨hl2, hl3⟩ := hv.le64
  have key := scan (F := fun k j => spec_l03Occurs.l1 k pat st l (j : Int) a0 a1 L2 L3) (G := fun k => spec_l03Occurs.l0 k pat (wrap64 (st + 2)) a0 a1 L2 L3) (P := fun j => ∃ h : j < l.length, ∃ v ∈ lst L2 L3 (nxt st l[j]), OC pat (l[j] ++ v)) l.length (fun j hj => ?_) (fun R hR => Ev.step (fun k => by simp only [spec_l03Occurs.l1]; rw [if_neg (by omega)]) hR) l.length 0 (by omega)
  · rcases key with ⟨⟨p, _, p2, p3, p4⟩, g⟩ | ⟨g1, g2⟩
    · exact .inl ⟨⟨l[p], List.getElem_mem p3, p4⟩, g⟩
    · refine .inr ⟨fun ⟨v, hv, ho⟩ => ?_, g2⟩
      obtain ⟨p, p3, rfl⟩ := List.mem_iff_getElem.1 hv
      exact g1 p (Nat.zero_le _) p3 ⟨p3, ho⟩
  · have hw := wrap_succ hj (by omega)
    have r1 := rdS_get l j hj
    obtain ⟨b1, b2, b3⟩ := hv.mem (hl _ (List.getElem_mem hj))
    have hnx := nxt_pm hst l[j]
    have hev := specNext_ev st l[j] b1
    have z2 : ∀ v ∈ L2, v.size ≤ 12 := fun v h => (hv.mem (.inl h)).2.2
    have z3 : ∀ v ∈ L3, v.size ≤ 12 := fun v h => (hv.mem (.inr h)).2.2
    rcases hnx with e | e
    · rw [e] at hev
      have em : ∀ h : j < l.length, lst L2 L3 (nxt st (l[j]'h)) = L3 := fun _ => by show lst L2 L3 (nxt st l[j]) = L3; rw [e]; rfl
      have go : ∀ R, Ev (fun k => spec_l03Occurs.l102 k pat st l (j : Int) L3 0 a0 a1 L2 L3) R → Ev (fun k => spec_l03Occurs.l1 k pat st l (j : Int) a0 a1 L2 L3) R := by
        intro R ⟨K1, h1⟩
        obtain ⟨K2, h2_⟩ := hev
        have h2 := fun k hk => (show spec_l03Next.f k st l[j] = some _ from h2_ k hk)
        refine ⟨K1 + K2 + 1, fun k hk => ?_⟩
        obtain ⟨k, rfl⟩ : ∃ q, k = q + 1 := ⟨k - 1, by omega⟩
        simp only [spec_l03Occurs.l1]
        rw [if_pos (by omega), if_pos (by omega), r1, h2 k (by omega), Option.bind_some, if_neg (by decide), slpos, Option.bind_some]
        exact h1 k (by omega)
      rcases occ_l102 a0 a1 L2 L3 pat h0 hp st l j hj b3 L3 hl3 z3 with ⟨g1, g2⟩ | ⟨g1, g2⟩
      · exact .inl ⟨⟨hj, by rw [em]; exact g1⟩, go _ g2⟩
      · rw [hw] at g2
        exact .inr ⟨fun ⟨h, hh⟩ => g1 (by rw [em h] at hh; exact hh), fun R hR => go R (g2 R hR)⟩
    · rw [e] at hev
      have em : ∀ h : j < l.length, lst L2 L3 (nxt st (l[j]'h)) = L2 := fun _ => by show lst L2 L3 (nxt st l[j]) = L2; rw [e]; rfl
      have go : ∀ R, Ev (fun k => spec_l03Occurs.l2 k pat st l (j : Int) L2 0 a0 a1 L2 L3) R → Ev (fun k => spec_l03Occurs.l1 k pat st l (j : Int) a0 a1 L2 L3) R := by
        intro R ⟨K1, h1⟩
        obtain ⟨K2, h2_⟩ := hev
        have h2 := fun k hk => (show spec_l03Next.f k st l[j] = some _ from h2_ k hk)
        refine ⟨K1 + K2 + 1, fun k hk => ?_⟩
        obtain ⟨k, rfl⟩ : ∃ q, k = q + 1 := ⟨k - 1, by omega⟩
        simp only [spec_l03Occurs.l1]
        rw [if_pos (by omega), if_pos (by omega), r1, h2 k (by omega), Option.bind_some, if_pos (by decide), slneg, Option.bind_some]
        exact h1 k (by omega)
      rcases occ_l2 a0 a1 L2 L3 pat h0 hp st l j hj b3 L2 hl2 z2 with ⟨g1, g2⟩ | ⟨g1, g2⟩
      · exact .inl ⟨⟨hj, by rw [em]; exact g1⟩, go _ g2⟩
      · rw [hw] at g2
        exact .inr ⟨fun ⟨h, hh⟩ => g1 (by rw [em h] at hh; exact hh), fun R hR => go R (g2 R hR)⟩
theorem occ_l101 (a0 a1 : Int) (L2 L3 : List ByteArray) (hv : VC a0 a1 L2 L3) (pat : ByteArray) (h0 : 0 < pat.size) (hp : pat.size ≤ 1048576) (l : List ByteArray) (hll : l.length ≤ 64) (hl : ∀ w ∈ l, w ∈ L2 ∨ w ∈ L3) (st : Int) (hst : st = 1 ∨ st = -1) :
    ((∃ w ∈ l, ∃ v ∈ lst L2 L3 (nxt st w), OC pat (w ++ v)) ∧ Ev (fun k => spec_l03Occurs.l101 k pat st l 0 a0 a1 L2 L3) true) ∨ ((¬ ∃ w ∈ l, ∃ v ∈ lst L2 L3 (nxt st w), OC pat (w ++ v)) ∧ ∀ R, Ev (fun k => spec_l03Occurs.l0 k pat (wrap64 (st + 2)) a0 a1 L2 L3) R → Ev (fun k => spec_l03Occurs.l101 k pat st l 0 a0 a1 L2 L3) R) := by
  obtain ⟨hl2, hl3⟩ := hv.le64
  have key := scan (F := fun k j => spec_l03Occurs.l101 k pat st l (j : Int) a0 a1 L2 L3) (G := fun k => spec_l03Occurs.l0 k pat (wrap64 (st + 2)) a0 a1 L2 L3) (P := fun j => ∃ h : j < l.length, ∃ v ∈ lst L2 L3 (nxt st l[j]), OC pat (l[j] ++ v)) l.length (fun j hj => ?_) (fun R hR => Ev.step (fun k => by simp only [spec_l03Occurs.l101]; rw [if_neg (by omega)]) hR) l.length 0 (by omega)
  · rcases key with ⟨⟨p, _, p2, p3, p4⟩, g⟩ | ⟨g1, g2⟩
    · exact .inl ⟨⟨l[p], List.getElem_mem p3, p4⟩, g⟩
    · refine .inr ⟨fun ⟨v, hv, ho⟩ => ?_, g2⟩
      obtain ⟨p, p3, rfl⟩ := List.mem_iff_getElem.1 hv
      exact g1 p (Nat.zero_le _) p3 ⟨p3, ho⟩
  · have hw := wrap_succ hj (by omega)
    have r1 := rdS_get l j hj
    obtain ⟨b1, b2, b3⟩ := hv.mem (hl _ (List.getElem_mem hj))
    have hnx := nxt_pm hst l[j]
    have hev := specNext_ev st l[j] b1
    have z2 : ∀ v ∈ L2, v.size ≤ 12 := fun v h => (hv.mem (.inl h)).2.2
    have z3 : ∀ v ∈ L3, v.size ≤ 12 := fun v h => (hv.mem (.inr h)).2.2
    rcases hnx with e | e
    · rw [e] at hev
      have em : ∀ h : j < l.length, lst L2 L3 (nxt st (l[j]'h)) = L3 := fun _ => by show lst L2 L3 (nxt st l[j]) = L3; rw [e]; rfl
      have go : ∀ R, Ev (fun k => spec_l03Occurs.l302 k pat st l (j : Int) L3 0 a0 a1 L2 L3) R → Ev (fun k => spec_l03Occurs.l101 k pat st l (j : Int) a0 a1 L2 L3) R := by
        intro R ⟨K1, h1⟩
        obtain ⟨K2, h2_⟩ := hev
        have h2 := fun k hk => (show spec_l03Next.f k st l[j] = some _ from h2_ k hk)
        refine ⟨K1 + K2 + 1, fun k hk => ?_⟩
        obtain ⟨k, rfl⟩ : ∃ q, k = q + 1 := ⟨k - 1, by omega⟩
        simp only [spec_l03Occurs.l101]
        rw [if_pos (by omega), if_pos (by omega), r1, h2 k (by omega), Option.bind_some, if_neg (by decide), slpos, Option.bind_some]
        exact h1 k (by omega)
      rcases occ_l302 a0 a1 L2 L3 pat h0 hp st l j hj b3 L3 hl3 z3 with ⟨g1, g2⟩ | ⟨g1, g2⟩
      · exact .inl ⟨⟨hj, by rw [em]; exact g1⟩, go _ g2⟩
      · rw [hw] at g2
        exact .inr ⟨fun ⟨h, hh⟩ => g1 (by rw [em h] at hh; exact hh), fun R hR => go R (g2 R hR)⟩
    · rw [e] at hev
      have em : ∀ h : j < l.length, lst L2 L3 (nxt st (l[j]'h)) = L2 := fun _ => by show lst L2 L3 (nxt st l[j]) = L2; rw [e]; rfl
      have go : ∀ R, Ev (fun k => spec_l03Occurs.l202 k pat st l (j : Int) L2 0 a0 a1 L2 L3) R → Ev (fun k => spec_l03Occurs.l101 k pat st l (j : Int) a0 a1 L2 L3) R := by
        intro R ⟨K1, h1⟩
        obtain ⟨K2, h2_⟩ := hev
        have h2 := fun k hk => (show spec_l03Next.f k st l[j] = some _ from h2_ k hk)
        refine ⟨K1 + K2 + 1, fun k hk => ?_⟩
        obtain ⟨k, rfl⟩ : ∃ q, k = q + 1 := ⟨k - 1, by omega⟩
        simp only [spec_l03Occurs.l101]
        rw [if_pos (by omega), if_pos (by omega), r1, h2 k (by omega), Option.bind_some, if_pos (by decide), slneg, Option.bind_some]
        exact h1 k (by omega)
      rcases occ_l202 a0 a1 L2 L3 pat h0 hp st l j hj b3 L2 hl2 z2 with ⟨g1, g2⟩ | ⟨g1, g2⟩
      · exact .inl ⟨⟨hj, by rw [em]; exact g1⟩, go _ g2⟩
      · rw [hw] at g2
        exact .inr ⟨fun ⟨h, hh⟩ => g1 (by rw [em h] at hh; exact hh), fun R hR => go R (g2 R hR)⟩
def Occ2 (L2 L3 : List ByteArray) (pat : ByteArray) : Prop := (∃ w ∈ L2, ∃ v ∈ lst L2 L3 (nxt (-1) w), OC pat (w ++ v)) ∨ (∃ w ∈ L3, ∃ v ∈ lst L2 L3 (nxt 1 w), OC pat (w ++ v))
theorem occurs_ev (a0 a1 : Int) (L2 L3 : List ByteArray) (hv : VC a0 a1 L2 L3) (pat : ByteArray) (h0 : 0 < pat.size) (hp : pat.size ≤ 1048576) : ∃ b, (b = true ↔ Occ2 L2 L3 pat) ∧ Ev (fun k => spec_l03Occurs.f k a0 a1 L2 L3 pat) b := by
  obtain ⟨hl2, hl3⟩ := hv.le64
  have w1 : wrap64 ((-1 : Int) + 2) = 1 := wrap64_in (by decide) (by decide)
  have w2 : wrap64 ((1 : Int) + 2) = 3 := wrap64_in (by decide) (by decide)
  have go1 : ∀ R, Ev (fun k => spec_l03Occurs.l1 k pat (-1) L2 0 a0 a1 L2 L3) R → Ev (fun k => spec_l03Occurs.f k a0 a1 L2 L3 pat) R := fun R hR => by
    unfold spec_l03Occurs.f
    exact Ev.step (fun k => by simp only [spec_l03Occurs.l0]; rw [if_pos (by decide), if_pos (by decide), slneg, Option.bind_some]) hR
  have go2 : ∀ R, Ev (fun k => spec_l03Occurs.l101 k pat 1 L3 0 a0 a1 L2 L3) R → Ev (fun k => spec_l03Occurs.l0 k pat 1 a0 a1 L2 L3) R := fun R hR =>
    Ev.step (fun k => by simp only [spec_l03Occurs.l0]; rw [if_pos (by decide), if_neg (by decide), slpos, Option.bind_some]) hR
  unfold Occ2
  rcases occ_l1 a0 a1 L2 L3 hv pat h0 hp L2 hl2 (fun w h => .inl h) (-1) (.inr rfl) with ⟨g1, g2⟩ | ⟨g1, g2⟩
  · exact ⟨true, ⟨fun _ => .inl g1, fun _ => rfl⟩, go1 _ g2⟩
  · rw [w1] at g2
    rcases occ_l101 a0 a1 L2 L3 hv pat h0 hp L3 hl3 (fun w h => .inr h) 1 (.inl rfl) with ⟨f1, f2⟩ | ⟨f1, f2⟩
    · exact ⟨true, ⟨fun _ => .inr f1, fun _ => rfl⟩, go1 _ (g2 _ (go2 _ f2))⟩
    · rw [w2] at f2
      refine ⟨false, ⟨fun h => absurd h (by decide), fun h => absurd h (fun h => h.elim g1 f1)⟩, go1 _ (g2 _ (go2 _ (f2 _ (ev_one (fun k => by simp only [spec_l03Occurs.l0]; rw [if_neg (by decide)])))))⟩

theorem VC.pos {a0 a1 : Int} {L2 L3 : List ByteArray} (hv : VC a0 a1 L2 L3) : 0 < L2.length ∧ 0 < L3.length := by
  have h1 : 0 < shl .i64 1 a0 := by
    have hd := hv.data
    have : a0 = 1 ∨ a0 = 2 ∨ a0 = 3 ∨ a0 = 4 ∨ a0 = 5 ∨ a0 = 6 := by omega
    rcases this with rfl | rfl | rfl | rfl | rfl | rfl <;> decide
  have h2 := hv.n2
  have h3 := hv.n3
  omega
theorem occ_cut (t p : List UInt8) (j : Nat) : Lib.occAt t p j = true ↔ p = cutL t p.length j := by
  unfold Lib.occAt cutL
  rw [← take_prefix, beq_iff_eq]
  exact eq_comm
theorem part_oc {W : Nat} {pat w v : ByteArray} (hw : w.size = W) (hv : v.size = W) (h : Part W pat.size (w ++ v).data.toList pat.data.toList) : OC pat (w ++ v) := by
  obtain ⟨p, p1, p2, p3⟩ := h
  refine ⟨p, by rw [ByteArray.size_append]; omega, ?_⟩
  rw [occ_cut, ← size_l]
  exact p3
theorem occ_arises {a0 a1 : Int} {L2 L3 : List ByteArray} (hv : VC a0 a1 L2 L3) (W : Nat) (h2 : ∀ v ∈ L2, v.size = W) (h3 : ∀ v ∈ L3, v.size = W) (hW : 0 < W) (pat : ByteArray) (h0 : 0 < pat.size) :
    Arises L2 L3 W pat.size pat.data.toList ↔ Occ2 L2 L3 pat := by
  have hsz : ∀ st w, w ∈ lst L2 L3 st → w.size = W := fun st w h => (lst_mem h).elim (h2 w) (h3 w)
  have one : ∀ st w v, (st = 1 ∨ st = -1) → w ∈ lst L2 L3 st → v ∈ lst L2 L3 (nxt st w) → OC pat (w ++ v) → ∃ st' w' v', (st' = 1 ∨ st' = -1) ∧ w' ∈ lst L2 L3 st' ∧ v' ∈ lst L2 L3 (nxt st' w') ∧ Part W pat.size (w' ++ v').data.toList pat.data.toList := by
    rintro st w v hst hw hv' ⟨p, p1, p2⟩
    have zw := hsz _ _ hw
    have zv := hsz _ _ hv'
    have hp : p + pat.size ≤ 2 * W := by
      by_cases c : p + pat.size ≤ 2 * W
      · exact c
      · exfalso
        rw [occAt_short _ _ _ (by rw [← size_l, ← size_l, ByteArray.size_append]; omega) (by rw [← size_l]; exact h0)] at p2
        cases p2
    rw [occ_cut, ← size_l] at p2
    by_cases c : p < W
    · exact ⟨st, w, v, hst, hw, hv', p, c, hp, p2⟩
    · obtain ⟨q1, q2⟩ := hv.pos
      have hne : 0 < (lst L2 L3 (nxt (nxt st w) v)).length := by unfold lst; split <;> omega
      have hv2 := List.getElem_mem hne
      generalize (lst L2 L3 (nxt (nxt st w) v))[0] = v2 at hv2
      refine ⟨nxt st w, v, v2, nxt_pm hst w, hv', hv2, p - W, by rw [ByteArray.size_append] at p1; omega, by omega, ?_⟩
      rw [p2]
      unfold cutL
      rw [app_l, app_l, List.drop_append, List.drop_append, List.drop_eq_nil_of_le (by rw [← size_l]; omega), List.nil_append, ← size_l, zw, List.take_append_of_le_length (by rw [List.length_drop, ← size_l]; omega)]
  have em : lst L2 L3 (-1) = L2 := rfl
  have ep : lst L2 L3 1 = L3 := rfl
  unfold Arises Occ2
  constructor
  · rintro (⟨w, hw, v, hv', h⟩ | ⟨w, hw, v, hv', h⟩)
    · exact .inl ⟨w, hw, v, hv', part_oc (h2 w hw) (hsz _ _ hv') h⟩
    · exact .inr ⟨w, hw, v, hv', part_oc (h3 w hw) (hsz _ _ hv') h⟩
  · rintro (⟨w, hw, v, hv', h⟩ | ⟨w, hw, v, hv', h⟩)
    · obtain ⟨st', w', v', h1, h2', h3', h4⟩ := one (-1) w v (.inr rfl) hw hv' h
      rcases h1 with rfl | rfl
      · exact .inr ⟨w', h2', v', h3', h4⟩
      · exact .inl ⟨w', h2', v', h3', h4⟩
    · obtain ⟨st', w', v', h1, h2', h3', h4⟩ := one 1 w v (.inl rfl) hw hv' h
      rcases h1 with rfl | rfl
      · exact .inr ⟨w', h2', v', h3', h4⟩
      · exact .inl ⟨w', h2', v', h3', h4⟩
theorem comma_both (a0 a1 : Int) (L2 L3 : List ByteArray) (h2 : L2.length ≤ 1048576) (h3 : L3.length ≤ 1048576) (s2 : ∀ s ∈ L2, s.size ≤ 1048576) (s3 : ∀ s ∈ L3, s.size ≤ 1048576) (pat : ByteArray) (hp : pat.size ≤ 1048576) :
    ∃ r, Ev (fun k => spec_IsComma.f k a0 a1 L2 L3 pat) r ∧ Ev (fun k => impl_IsComma.f k a0 a1 L2 L3 pat) r := by
  obtain ⟨r, r1, r2, r3⟩ := code_both a0 a1 L2 L3 h2 h3 s2 s3
  unfold spec_IsComma.f impl_IsComma.f
  cases r with
  | false => exact ⟨_, Ev.bind r1 (ev_neg Bool.false_ne_true (Ev.now _)), Ev.bind r2 (ev_neg Bool.false_ne_true (Ev.now _))⟩
  | true =>
    have hv := r3 rfl
    obtain ⟨W, rfl, w1, w2, z2, z3⟩ := hv.sizes
    have hb := specBits_ev pat (by omega)
    have hi := areBits_f pat (by omega)
    have hwr : wrap64 ((W : Int) + 1) = ((W + 1 : Nat) : Int) := by rw [wrap64_in (by omega) (by omega)]; omega
    suffices h : ∃ r, Ev (fun k => (spec_l01Bits.f k pat).bind fun t163 => (if t163 = true then (if (pat.size : Int) = 0 then (some false) else (if (pat.size : Int) > (wrap64 ((W : Int) + 1)) then (some false) else ((spec_l03Occurs.f k a0 (W : Int) L2 L3 pat).bind fun t164 => (some (!t164))))) else (some false))) r ∧ Ev (fun k => if (pat.size : Int) < 1 then some false else (if (pat.size : Int) > wrap64 ((W : Int) + 1) then some false else ((impl_areBits.f pat).bind fun b => if b = true then (if pat.size ≤ 1048576 then (impl_BlockCode_parts.f k a0 (W : Int) L2 L3 (pat.size : Int)).bind fun z => some (!(decide (pat.data.toList ∈ z))) else none) else some false))) r by
      obtain ⟨r, e1, e2⟩ := h
      exact ⟨r, Ev.bind r1 (ev_pos rfl e1), Ev.bind r2 (ev_pos rfl e2)⟩
    by_cases c0 : (pat.size : Int) = 0
    · refine ⟨false, Ev.bind hb ?_, ev_pos (by omega) (Ev.now _)⟩
      cases e : IB pat with
      | true => exact ev_pos rfl (ev_pos c0 (Ev.now _))
      | false => exact ev_neg Bool.false_ne_true (Ev.now _)
    · by_cases c1 : (pat.size : Int) > wrap64 ((W : Int) + 1)
      · refine ⟨false, Ev.bind hb ?_, ev_neg (by omega) (ev_pos c1 (Ev.now _))⟩
        cases e : IB pat with
        | true => exact ev_pos rfl (ev_neg c0 (ev_pos c1 (Ev.now _)))
        | false => exact ev_neg Bool.false_ne_true (Ev.now _)
      · have hn : pat.size ≤ 13 := by omega
        have eIB : IB pat = areB pat.data.toList := by unfold IB; rw [decide_eq_true (by omega), Bool.and_true]
        cases e : areB pat.data.toList with
        | false =>
          rw [eIB, e] at hb
          rw [e] at hi
          exact ⟨false, Ev.bind hb (ev_neg Bool.false_ne_true (Ev.now _)), ev_neg (by omega) (ev_neg c1 (ev_to hi (ev_neg Bool.false_ne_true (Ev.now _))))⟩
        | true =>
          rw [eIB, e] at hb
          rw [e] at hi
          obtain ⟨b, b1, b2⟩ := occurs_ev a0 (W : Int) L2 L3 hv pat (by omega) hp
          obtain ⟨z, y1, y2⟩ := parts_ev a0 (W : Int) L2 L3 hv W pat.size w2 z2 z3 hn
          have hz : decide (pat.data.toList ∈ z) = b := by
            rw [Bool.eq_iff_iff, decide_eq_true_iff, y1, b1]
            exact occ_arises hv W z2 z3 (by omega) pat (by omega)
          refine ⟨!b, Ev.bind hb (ev_pos rfl (ev_neg c0 (ev_neg c1 (Ev.bind b2 (Ev.now _))))), ev_neg (by omega) (ev_neg c1 (ev_to hi (ev_pos rfl (ev_pos hp (Ev.bind y2 ?_)))))⟩
          show Ev (fun _ => some (!(decide (pat.data.toList ∈ z)))) (!b)
          rw [hz]
          exact Ev.now _
theorem FnExactIsComma : laws_FnExactIsComma.Pure := by
  intro a0 a1 L2 L3 pat _ _ n2 z2 n3 z3 np
  apply Ev.rounds
  unfold laws_FnExactIsComma.f
  by_cases cp : (pat.size : Int) > 1048576
  · exact ev_pos cp (Ev.now _)
  refine ev_neg cp ?_
  obtain ⟨t, e, hp⟩ := szCode_ev a0 a1 L2 L3 n2 z2 n3 z3
  refine Ev.bind e ?_
  by_cases c : t < 0
  · exact ev_pos c (Ev.now _)
  obtain ⟨⟨h2, s2⟩, h3, s3⟩ := hp (by omega)
  have ht := toCode_ev a0 a1 L2 L3 h2 h3
  obtain ⟨b, r1, r2⟩ := comma_both a0 a1 L2 L3 h2 h3 s2 s3 pat (by omega)
  refine ev_neg c (Ev.bind ht (Ev.bind r1 (Ev.bind ht (Ev.bind r2 ?_))))
  refine ev_neg (by simp) (Ev.bind ht (Ev.bind (eqCode_ev a0 a1 L2 L3 h2 h3) (ev_pos rfl (Ev.now _))))

end Go.Proofs.YtegeaoiclepkkaaDoor.Pure
