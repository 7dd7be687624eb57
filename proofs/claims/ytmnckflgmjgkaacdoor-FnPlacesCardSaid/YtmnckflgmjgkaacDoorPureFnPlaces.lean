/-
The plain law of FnPlaces: places found one after another are those counted, bytes come back from their bits; conditions: those of the statement.
-/
import Derived.Test.YtmnckflgmjgkaacDoorQFnPlacesx4
import Derived.Lib.IndexMore
namespace Go.Proofs.YtmnckflgmjgkaacDoor.Pure
open Go.RowKit Go.Proofs.YtmnckflgmjgkaacDoor.QFnPlaces Go.Proofs.YtmnckflgmjgkaacDoorW.PrintWords Go.Proofs.YtmnckflgmjgkaacDoorW.PrintLast Go.Proofs.YtmnckflgmjgkaacDoorW.PrintMore
set_option linter.unusedVariables false

theorem ev_one {α : Type} {g : Nat → Option α} {r : α} (h : ∀ k, g (k + 1) = some r) : Ev g r :=
  ⟨1, fun k hk => by obtain ⟨m, rfl⟩ : ∃ m, k = m + 1 := ⟨k - 1, by omega⟩; exact h m⟩
theorem wrap64_in {x : Int} (h0 : -9223372036854775808 ≤ x) (h1 : x ≤ 9223372036854775807) : wrap64 x = x := by
  unfold wrap64; omega
theorem u64_in {x : Int} (h0 : 0 ≤ x) (h1 : x ≤ 18446744073709551615) : IntKind.u64.wrap x = x := by
  simp [IntKind.wrap, IntKind.bits, IntKind.signed]; omega
theorem i64_in {x : Int} (h0 : -9223372036854775808 ≤ x) (h1 : x ≤ 9223372036854775807) : IntKind.i64.wrap x = x := by
  rw [IntKind.wrap_i64]; omega
theorem and_one (x : Int) : Go.bits .and .i64 x 1 = x % 2 := by
  have h : (BitVec.ofInt 64 x &&& BitVec.ofInt 64 1).toNat = (x % 2).toNat := by
    have e1 : BitVec.ofInt 64 1 = 1#64 := by decide
    rw [e1, BitVec.toNat_and, BitVec.toNat_ofInt]
    have e2 : (1#64).toNat = 1 := by decide
    rw [e2, Nat.and_one_is_mod]
    omega
  show IntKind.i64.wrap (((BitVec.ofInt 64 x &&& BitVec.ofInt 64 1).toNat : Nat) : Int) = x % 2
  rw [h, i64_in (by omega) (by omega)]
  omega
theorem wf_i64 {x : Int} (h : (Lit.int .i64 x).wf = true) : -9223372036854775808 ≤ x ∧ x ≤ 9223372036854775807 := by
  simp [Lit.wf, IntKind.min, IntKind.max, IntKind.signed, IntKind.bits] at h
  omega
theorem pow_pos_int (d : Nat) : (0 : Int) < 2 ^ d := Int.pow_pos (by decide)
theorem pow_le_int {a b : Nat} (h : a ≤ b) : (2 : Int) ^ a ≤ 2 ^ b := by
  have := Nat.pow_le_pow_right (n := 2) (by decide) h
  exact_mod_cast this

theorem ev_pos {α : Type} {c : Prop} [Decidable c] {g h : Nat → Option α} {r : α} (hc : c) (hg : Ev g r) : Ev (fun k => if c then g k else h k) r := by
  obtain ⟨K, hK⟩ := hg
  exact ⟨K, fun k hk => (if_pos hc).trans (hK k hk)⟩
theorem ev_neg {α : Type} {c : Prop} [Decidable c] {g h : Nat → Option α} {r : α} (hc : ¬ c) (hg : Ev h r) : Ev (fun k => if c then g k else h k) r := by
  obtain ⟨K, hK⟩ := hg
  exact ⟨K, fun k hk => (if_neg hc).trans (hK k hk)⟩
theorem ev_some {α β : Type} {f : Nat → α → Option β} {a : α} {r : β} (h : Ev (fun k => f k a) r) : Ev (fun k => (some a).bind (f k)) r := h
theorem ev_to {α β : Type} {x : Option α} {f : Nat → α → Option β} {a : α} {r : β} (e : x = some a) (h : Ev (fun k => f k a) r) : Ev (fun k => x.bind (f k)) r := by subst e; exact h
theorem ev_det {α : Type} {g : Nat → Option α} {r r' : α} (h : Ev g r) (h' : Ev g r') : r = r' := by
  obtain ⟨K, hK⟩ := h
  obtain ⟨K', hK'⟩ := h'
  have h1 := hK (max K K') (Nat.le_max_left _ _)
  have h2 := hK' (max K K') (Nat.le_max_right _ _)
  rw [h1] at h2
  exact Option.some.inj h2
theorem wrap_succ {j n : Nat} (h : j < n) (hn : n ≤ 9223372036854775807) : wrap64 ((j : Int) + 1) = ((j + 1 : Nat) : Int) := by
  rw [wrap64_in (by omega) (by omega)]; omega
theorem nat0 (j : Nat) : (0 : Int) ≤ (j : Int) := Int.natCast_nonneg j
theorem rd_nat (l : List Int) (j : Nat) : rd l (j : Int) = l.getD j 0 := by unfold rd; rw [Int.toNat_natCast]
theorem rd_get (l : List Int) (j : Nat) (h : j < l.length) : rd l (j : Int) = l[j] := by rw [rd_nat, List.getD_eq_getElem?_getD, List.getElem?_eq_getElem h]; rfl
theorem drop_cons {α : Type} (l : List α) (j : Nat) (h : j < l.length) : l.drop j = l[j] :: l.drop (j + 1) := List.drop_eq_getElem_cons h
theorem take_snoc' {α : Type} (l : List α) (j : Nat) (h : j < l.length) : l.take (j + 1) = l.take j ++ [l[j]] := List.take_succ_eq_append_getElem h
theorem set_take {α : Type} (acc : List α) (j : Nat) (x : α) (h : j < acc.length) : (acc.set j x).take (j + 1) = acc.take j ++ [x] := by
  rw [List.take_set, List.take_succ_eq_append_getElem h, List.set_append_right _ _ (by simp; omega)]
  have : (acc.take j).length = j := by rw [List.length_take]; omega
  rw [this, Nat.sub_self]
  rfl
theorem take_all {α : Type} {a b : List α} {n : Nat} (ha : a.length = n) (hb : b.length = n) (h : a.take n = b.take n) : a = b := by
  rw [List.take_of_length_le (by omega), List.take_of_length_le (by omega)] at h; exact h
theorem w01 : wrap64 (0 + 1) = 1 := by unfold wrap64; decide
theorem w11 : wrap64 (1 + 1) = 2 := by unfold wrap64; decide

theorem impl_in (a b c : Int) : impl_within.f a b c = some (decide (b ≤ a ∧ a ≤ c)) := by
  unfold impl_within.f
  by_cases h : a ≥ b
  · rw [if_pos h]; congr 1; have : b ≤ a := h; simp [this]
  · rw [if_neg h]; congr 1; have : ¬ b ≤ a := h; simp [this]

def isBit (b : UInt8) : Bool := b.toNat == 48 || b.toNat == 49
def areB (l : List UInt8) : Bool := l.all isBit
theorem size_l (s : ByteArray) : s.size = s.data.toList.length := by rw [Array.length_toList]; rfl
theorem bt_l (s : ByteArray) (j : Nat) (h : j < s.data.toList.length) : bt s (j : Int) = ((s.data.toList[j].toNat : Nat) : Int) := by
  have h2 : ((j : Int)).toNat < s.size := by rw [Int.toNat_natCast, size_l]; exact h
  have h3 : j < s.data.size := by rw [Array.length_toList] at h; exact h
  have e : s[((j : Int)).toNat]'h2 = s.data[j] := rfl
  rw [← bt_at s j h2, e, Array.getElem_toList]
theorem cs_bit (b : UInt8) : ([48, 49] : List UInt8).contains b = isBit b := by
  have h1 : (b == 48) = (b.toNat == 48) := by rw [Bool.eq_iff_iff]; simp [← UInt8.toNat_inj]
  have h2 : (b == 49) = (b.toNat == 49) := by rw [Bool.eq_iff_iff]; simp [← UInt8.toNat_inj]
  unfold isBit
  rw [← h1, ← h2]
  show (match b == 48 with | true => true | false => (match b == 49 with | true => true | false => false)) = (b == 48 || b == 49)
  cases (b == 48) <;> cases (b == 49) <;> rfl
theorem drop_nil {p : UInt8 → Bool} (l : List UInt8) : l.dropWhile p = [] ↔ ∀ x ∈ l, p x = true := by
  induction l with
  | nil => simp
  | cons a t ih =>
    rw [List.dropWhile_cons]
    cases e : p a with
    | true => rw [if_pos rfl, ih]; simp [e]
    | false => rw [if_neg (by decide)]; simp [e]
theorem drop_all {p : UInt8 → Bool} (l : List UInt8) (h : (l.dropWhile p).all p = true) : l.all p = true := by
  induction l with
  | nil => rfl
  | cons a t ih =>
    rw [List.dropWhile_cons] at h
    cases e : p a with
    | true => rw [e, if_pos rfl] at h; rw [List.all_cons, e, ih h]; rfl
    | false => rw [e, if_neg (by decide)] at h; exact h
theorem trim_nil (l : List UInt8) : (Lib.trimS l [48, 49] == []) = areB l := by
  have e : (fun b => ([48, 49] : List UInt8).contains b) = isBit := funext cs_bit
  unfold Lib.trimS Lib.trimLeftS Lib.trimRightS areB
  rw [e]
  rw [Bool.eq_iff_iff, beq_iff_eq, drop_nil]
  constructor
  · intro h
    have h1 : (l.reverse.dropWhile isBit).all isBit = true := List.all_eq_true.2 (fun x hx => h x (List.mem_reverse.2 hx))
    have h2 := drop_all _ h1
    rw [List.all_reverse] at h2
    exact h2
  · intro h x hx
    have h3 := List.mem_reverse.1 hx
    have h4 : x ∈ l.reverse := (List.dropWhile_sublist _).subset h3
    exact List.all_eq_true.1 h x (List.mem_reverse.1 h4)

def IB (s : ByteArray) : Bool := areB s.data.toList && decide ((s.size : Int) ≤ 400)
theorem areBits_f (s : ByteArray) (hn : s.size ≤ 9223372036854775807) : impl_areBits.f s = some (areB s.data.toList) := by
  unfold impl_areBits.f strings_Trim.f
  rw [if_pos ⟨rfl, hn⟩, Option.bind_some]
  have e : (⟨(Lib.trimS s.data.toList [48, 49]).toArray⟩ : ByteArray).toList = Lib.trimS s.data.toList [48, 49] := by
    rw [Lib.toList_data]
  rw [e, ← trim_nil]

theorem isBits_f (s : ByteArray) (hn : s.size ≤ 9223372036854775807) : impl_IsBits.f s = some (IB s) := by
  unfold impl_IsBits.f IB
  by_cases c : (s.size : Int) ≤ 400
  · rw [if_pos c, areBits_f s hn, decide_eq_true c, Bool.and_true]; rfl
  · rw [if_neg c, decide_eq_false c, Bool.and_false]

theorem wf_u8 {x : Int} (h : (Lit.int .u8 x).wf = true) : 0 ≤ x ∧ x ≤ 255 := by
  simp [Lit.wf, IntKind.min, IntKind.max, IntKind.signed, IntKind.bits] at h
  omega
theorem tmod_in {x n : Int} (h0 : 0 ≤ x) (hn : 0 < n) : 0 ≤ Int.tmod x n ∧ Int.tmod x n < n := by
  rw [Int.tmod_eq_emod_of_nonneg h0]
  exact ⟨Int.emod_nonneg _ (by omega), Int.emod_lt_of_pos _ hn⟩
theorem and_255 (x : Int) : 0 ≤ Go.bits .and .u64 x 255 ∧ Go.bits .and .u64 x 255 ≤ 255 := by
  show 0 ≤ IntKind.u64.wrap (((BitVec.ofInt 64 x &&& BitVec.ofInt 64 255).toNat : Nat) : Int) ∧ IntKind.u64.wrap (((BitVec.ofInt 64 x &&& BitVec.ofInt 64 255).toNat : Nat) : Int) ≤ 255
  have e1 : (BitVec.ofInt 64 255).toNat = 255 := by decide
  have h : (BitVec.ofInt 64 x &&& BitVec.ofInt 64 255).toNat ≤ 255 := by
    rw [BitVec.toNat_and, e1]
    exact Nat.and_le_right
  rw [u64_in (by omega) (by omega)]
  omega
theorem byte_of (l : List Int) (hb : ∀ x ∈ l, (Lit.int .u8 x).wf = true) (i : Int) (h0 : 0 ≤ i) (h1 : i < l.length) : 0 ≤ rd l i ∧ rd l i ≤ 255 := by
  obtain ⟨j, rfl⟩ := Int.eq_ofNat_of_zero_le h0
  rw [rd_get _ _ (by omega)]
  exact wf_u8 (hb _ (List.getElem_mem _))

theorem next_f (l : List Int) (hl : l.length ≤ 9223372036854775807) (hb : ∀ x ∈ l, (Lit.int .u8 x).wf = true) (at_ seed : Int) (h0 : 0 ≤ at_) (h1 : at_ ≤ 4611686018427387904) :
    ∃ v seed', spec_l00Src_next.f l at_ seed = some (v, at_ + 1, seed') ∧ 0 ≤ v ∧ v ≤ 255 := by
  unfold spec_l00Src_next.f
  rw [wrap64_in (x := at_ + 1) (by omega) (by omega)]
  by_cases c : at_ < (l.length : Int)
  · have hr := byte_of l hb at_ h0 c
    rw [if_pos c, if_pos h0, wrap64_in (x := rd l at_) (by omega) (by omega)]
    rw [if_pos (by omega)]
    exact ⟨_, _, rfl, hr⟩
  · rw [if_neg c]
    rw [if_neg (by omega)]
    refine ⟨_, _, rfl, ?_⟩
    have h := and_255 ((IntKind.u64.wrap ((IntKind.u64.wrap ((IntKind.u64.wrap (seed * 6364136223846793005)))) + 1442695040888963407)) / 1099511627776)
    rw [wrap64_in (by omega) (by omega)]
    exact h
theorem pick_f (l : List Int) (hl : l.length ≤ 9223372036854775807) (hb : ∀ x ∈ l, (Lit.int .u8 x).wf = true) (at_ seed n : Int) (h0 : 0 ≤ at_) (h1 : at_ ≤ 4611686018427387904) (hn : n ≤ 200) :
    ∃ v at' seed', spec_l00Src_pick.f l at_ seed n = some (v, at', seed') ∧ 0 ≤ v ∧ (v < n ∨ v = 0) ∧ at_ ≤ at' ∧ at' ≤ at_ + 1 := by
  unfold spec_l00Src_pick.f
  by_cases c : n ≤ 1
  · rw [if_pos c]; exact ⟨0, at_, seed, rfl, by omega, by omega, by omega, by omega⟩
  · rw [if_neg c]
    obtain ⟨v, seed', e, h2, h3⟩ := next_f l hl hb at_ seed h0 h1
    rw [e, Option.bind_some, if_neg (by omega), if_neg (by omega)]
    have := tmod_in h2 (show 0 < n by omega)
    exact ⟨_, _, _, rfl, this.1, .inl this.2, by show at_ ≤ at_ + 1; omega, by show at_ + 1 ≤ at_ + 1; omega⟩
theorem one_f (l : List Int) (hl : l.length ≤ 9223372036854775807) (hb : ∀ x ∈ l, (Lit.int .u8 x).wf = true) (at_ seed n : Int) (h0 : 0 ≤ at_) (h1 : at_ ≤ 4611686018427387904) (hn : n ≤ 200) :
    ∃ v at' seed', spec_l00Src_one.f l at_ seed n = some (v, at', seed') ∧ at_ ≤ at' ∧ at' ≤ at_ + 1 := by
  unfold spec_l00Src_one.f
  obtain ⟨v, at', seed', e, _, _, h3, h4⟩ := pick_f l hl hb at_ seed n h0 h1 hn
  rw [e, Option.bind_some]
  exact ⟨_, _, _, rfl, h3, h4⟩

/-- A list of 48 and 49 is a text of bits. -/
def bitsL (l : List Int) : Prop := ∀ x ∈ l, x = 48 ∨ x = 49
theorem areB_strOf (l : List Int) (h : bitsL l) : areB (strOfNums l).data.toList = true := by
  rw [strOfNums_data]
  unfold areB
  rw [List.all_eq_true]
  intro b hb
  obtain ⟨x, hx, rfl⟩ := List.mem_map.1 hb
  rcases h x hx with rfl | rfl <;> decide
theorem size_strOf (l : List Int) : (strOfNums l).size = l.length := by rw [size_l, strOfNums_data, List.length_map]
theorem b10Bits_loop (l : List Int) (hl : l.length ≤ 9223372036854775807) (hb : ∀ x ∈ l, (Lit.int .u8 x).wf = true) (d : Nat) : ∀ (acc : List Int) (bit at_ seed : Int), bitsL acc → (bit = 48 ∨ bit = 49) → acc.length + d ≤ 1000 → 0 ≤ at_ → at_ + 2 * d ≤ 4611686018427387904 →
    ∃ r, Ev (fun k => spec_B10Bits.l0 k acc bit (d : Int) l at_ seed) (strOfNums r) ∧ bitsL r ∧ r.length = acc.length + d := by
  induction d with
  | zero => intro acc bit at_ seed ha _ h1 h2 h3; exact ⟨acc, ev_one (fun k => by rw [spec_B10Bits.l0, if_neg (by omega)]), ha, rfl⟩
  | succ d ih =>
    intro acc bit at_ seed ha hbit h1 h2 h3
    have hw : wrap64 (((d + 1 : Nat) : Int) - 1) = (d : Int) := by rw [wrap64_in (by omega) (by omega)]; omega
    have snoc : ∀ y, (y = 48 ∨ y = 49) → bitsL (acc ++ [y]) := by
      intro y hy x hx
      rcases List.mem_append.1 hx with hx | hx
      · exact ha x hx
      · rw [List.mem_singleton.1 hx]; exact hy
    have len1 : ∀ y : Int, (acc ++ [y]).length = acc.length + 1 := by intro y; simp
    obtain ⟨o, at1, seed1, e1, a1, a2⟩ := one_f l hl hb at_ seed 2 h2 (by omega) (by decide)
    cases o with
    | true =>
      obtain ⟨v, at2, seed2, e2, v0, v1, b1, b2⟩ := pick_f l hl hb at1 seed1 2 (by omega) (by omega) (by decide)
      have hv : wrap64 (48 + v) = 48 + v := wrap64_in (by omega) (by omega)
      have hv2 : (48 + v) % 256 = 48 + v := by omega
      obtain ⟨r, hr, h4, h5⟩ := ih (acc ++ [48 + v]) (48 + v) at2 seed2 (snoc _ (by omega)) (by omega) (by rw [len1]; omega) (by omega) (by omega)
      exact ⟨r, Ev.step (fun k => by rw [spec_B10Bits.l0, if_pos (by omega), e1, Option.bind_some, if_pos rfl, e2, Option.bind_some, if_pos (by omega), hv, hv2, hw]) hr, h4, by rw [h5, len1]; omega⟩
    | false =>
      obtain ⟨r, hr, h4, h5⟩ := ih (acc ++ [bit]) bit at1 seed1 (snoc _ hbit) hbit (by rw [len1]; omega) (by omega) (by omega)
      exact ⟨r, Ev.step (fun k => by rw [spec_B10Bits.l0, if_pos (by omega), e1, Option.bind_some, if_neg Bool.false_ne_true, if_pos (by omega), hw]) hr, h4, by rw [h5, len1]; omega⟩
theorem b10Bits_ev (l : List Int) (hl : l.length ≤ 9223372036854775807) (hb : ∀ x ∈ l, (Lit.int .u8 x).wf = true) :
    ∃ r, Ev (fun k => spec_B10Bits.f k l) (strOfNums r) ∧ bitsL r ∧ r.length ≤ 40 := by
  obtain ⟨v, at1, seed1, e1, v0, v1, a1, a2⟩ := pick_f l hl hb 0 0 41 (by decide) (by decide) (by decide)
  obtain ⟨n, rfl⟩ := Int.eq_ofNat_of_zero_le v0
  obtain ⟨r, hr, h1, h2⟩ := b10Bits_loop l hl hb n [] 48 at1 seed1 (by intro x hx; cases hx) (.inl rfl) (by simp; omega) (by omega) (by omega)
  refine ⟨r, ?_, h1, by rw [h2]; simp; omega⟩
  unfold spec_B10Bits.f spec_l00From.f
  exact ev_some (ev_to (a := ((n : Int), at1, seed1)) e1 hr)

/-- The lowest d binary digits of n as letters, the greatest one first. -/
def digs (n : Int) : Nat → List Int
  | 0 => []
  | d + 1 => (48 + (n / 2 ^ d) % 2) :: digs n d
theorem digs_length (n : Int) (d : Nat) : (digs n d).length = d := by
  induction d with
  | zero => rfl
  | succ d ih => simp [digs, ih]
theorem shr_nat (n : Int) (d : Nat) (h : d ≤ 64) : shr .i64 n (d : Int) = n / 2 ^ d := by
  unfold shr; rw [Int.toNat_natCast]; congr 2; exact Nat.min_eq_left h

theorem impl_digits_ev (n : Int) (d : Nat) : ∀ l : List Int, d ≤ 64 → l.length + d ≤ 1000 → Ev (fun k => impl_digits.l0 k n l ((d : Int) - 1)) (strOfNums (l ++ digs n d)) := by
  induction d with
  | zero =>
    intro l _ _
    exact ev_one (fun k => by rw [impl_digits.l0, if_neg (by omega)]; simp [digs])
  | succ d ih =>
    intro l hd hl
    have e : ((d + 1 : Nat) : Int) - 1 = (d : Int) := by omega
    have hs := shr_nat n d (by omega)
    have hw : wrap64 ((d : Int) - 1) = (d : Int) - 1 := wrap64_in (by omega) (by omega)
    have h := ih (l ++ [48 + (n / 2 ^ d) % 2]) (by omega) (by simp; omega)
    have e2 : l ++ digs n (d + 1) = l ++ [48 + (n / 2 ^ d) % 2] ++ digs n d := by simp [digs]
    rw [e2]
    refine Ev.step (fun k => ?_) h
    rw [e, impl_digits.l0, if_pos (by omega), if_pos (by omega), if_pos (by omega), hs, and_one, hw]
    congr 3
    omega
theorem impl_digits_f (n : Int) (w : Int) (h0 : 0 ≤ w) (h1 : w ≤ 64) : Ev (fun k => impl_digits.f k n w) (strOfNums (digs n w.toNat)) := by
  obtain ⟨d, rfl⟩ := Int.eq_ofNat_of_zero_le h0
  have h := impl_digits_ev n d [] (by omega) (by simp; omega)
  refine Ev.congr (fun k => ?_) h
  unfold impl_digits.f
  rw [wrap64_in (by omega) (by omega)]

theorem areIn_loop (l : List Int) (lo hi : Int) (hn : l.length ≤ 9223372036854775807) (d : Nat) : ∀ j : Nat, j + d = l.length →
    Ev (fun k => impl_areIn.l0 k lo hi l (l.length : Int) (j : Int)) ((l.drop j).all fun x => decide (lo ≤ x ∧ x ≤ hi)) := by
  induction d with
  | zero =>
    intro j h
    rw [List.drop_eq_nil_of_le (by omega)]
    exact ev_one (fun k => by rw [impl_areIn.l0, if_neg (by omega)]; rfl)
  | succ d ih =>
    intro j h
    have hj : j < l.length := by omega
    rw [drop_cons _ _ hj, List.all_cons]
    by_cases c : lo ≤ l[j] ∧ l[j] ≤ hi
    · rw [decide_eq_true c, Bool.true_and]
      refine Ev.step (fun k => ?_) (ih (j + 1) (by omega))
      rw [impl_areIn.l0, if_pos (by omega), if_pos (by omega), if_pos (by omega), rd_get _ _ hj, impl_in, decide_eq_true c, Option.bind_some, if_pos rfl, wrap_succ hj hn]
    · rw [decide_eq_false c, Bool.false_and]
      refine ev_one (fun k => ?_)
      rw [impl_areIn.l0, if_pos (by omega), if_pos (by omega), if_pos (by omega), rd_get _ _ hj, impl_in, decide_eq_false c, Option.bind_some, if_neg (by decide)]
theorem areIn_ev (l : List Int) (lo hi : Int) (hn : l.length ≤ 9223372036854775807) : Ev (fun k => impl_areIn.f k l lo hi) (l.all fun x => decide (lo ≤ x ∧ x ≤ hi)) :=
  areIn_loop l lo hi hn l.length 0 (by omega)

theorem bt_strOf (r : List Int) (hr : bitsL r) (j : Nat) (h : j < r.length) : bt (strOfNums r) (j : Int) = rd r (j : Int) := by
  have h2 : j < (strOfNums r).data.toList.length := by rw [strOfNums_data, List.length_map]; exact h
  rw [bt_l _ j h2, rd_get _ _ h]
  have e : (strOfNums r).data.toList[j] = UInt8.ofNat r[j].toNat := by simp [strOfNums_data]
  rw [e]
  rcases hr _ (List.getElem_mem h) with q | q <;> rw [q] <;> decide
theorem rd_bit (r : List Int) (hr : bitsL r) (j : Nat) (h : j < r.length) : rd r (j : Int) = 48 ∨ rd r (j : Int) = 49 := by
  rw [rd_get _ _ h]; exact hr _ (List.getElem_mem h)
/-- The number of the first j bits. -/
def nJ (r : List Int) : Nat → Nat
  | 0 => 0
  | j + 1 => 2 * nJ r j + (rd r (j : Int) - 48).toNat
theorem nJ_lt (r : List Int) (hr : bitsL r) : ∀ j, j ≤ r.length → nJ r j < 2 ^ j := by
  intro j
  induction j with
  | zero => intro _; show (0 : Nat) < 2 ^ 0; decide
  | succ j ih =>
    intro h
    have h1 := ih (by omega)
    have h2 : (rd r (j : Int) - 48).toNat ≤ 1 := by rcases rd_bit r hr j (by omega) with q | q <;> rw [q] <;> decide
    rw [nJ, Nat.pow_succ]
    omega
theorem number_loop (r : List Int) (hr : bitsL r) (hl : r.length ≤ 60) (d : Nat) : ∀ j : Nat, j + d = r.length →
    Ev (fun k => impl_number.l0 k (strOfNums r) ((nJ r j : Nat) : Int) (r.length : Int) (j : Int)) ((nJ r r.length : Nat) : Int) := by
  have hs := size_strOf r
  induction d with
  | zero => intro j h; exact ev_one (fun k => by rw [impl_number.l0, if_neg (by omega)]; rw [show j = r.length by omega])
  | succ d ih =>
    intro j h
    have hw := wrap_succ (j := j) (n := r.length) (by omega) (by omega)
    have hb := bt_strOf r hr j (by omega)
    have h1 := nJ_lt r hr j (by omega)
    have h2 : 2 ^ j ≤ 2 ^ 59 := Nat.pow_le_pow_right (by decide) (by omega)
    have h3 : (2 : Nat) ^ 59 = 576460752303423488 := by decide
    have e : wrap64 (wrap64 (2 * ((nJ r j : Nat) : Int)) + ((bt (strOfNums r) (j : Int)) - 48) % 256) = ((nJ r (j + 1) : Nat) : Int) := by
      rw [hb, nJ]
      rcases rd_bit r hr j (by omega) with q | q <;> rw [q]
      · rw [wrap64_in (x := 2 * _) (by omega) (by omega), wrap64_in (by omega) (by omega)]; omega
      · rw [wrap64_in (x := 2 * _) (by omega) (by omega), wrap64_in (by omega) (by omega)]; omega
    exact Ev.step (fun k => by rw [impl_number.l0, if_pos (by omega), if_pos (by omega), if_pos (by omega), e, hw]) (ih (j + 1) (by omega))
theorem take_prefix (t l : List UInt8) : (l.take t.length == t) = t.isPrefixOf l := by
  rw [Bool.eq_iff_iff, beq_iff_eq, List.isPrefixOf_iff_prefix, List.prefix_iff_eq_take]
  exact eq_comm
theorem occAt_short (s t : List UInt8) (j : Nat) (h : s.length < j + t.length) (ht : 0 < t.length) : Lib.occAt s t j = false := by
  unfold Lib.occAt
  rw [Bool.eq_false_iff, ne_eq, List.isPrefixOf_iff_prefix]
  intro q
  have := q.length_le
  rw [List.length_drop] at this
  omega
theorem extract_list (s : ByteArray) (i j : Nat) : (s.extract i j).toList = (s.data.toList.drop i).take (j - i) := by
  rw [Lib.toList_data, ByteArray.data_extract, Array.toList_extract, List.extract_eq_take_drop]
theorem occAt_drop (s t : List UInt8) (i j : Nat) : Lib.occAt (s.drop i) t j = Lib.occAt s t (i + j) := by
  unfold Lib.occAt
  rw [List.drop_drop]

/-- The least place from an index on, told by the library's own. -/
def findF (s t : ByteArray) (i : Nat) : Int × Bool := if Lib.index (s.data.toList.drop i) t.data.toList < 0 then (0, false) else ((i : Int) + Lib.index (s.data.toList.drop i) t.data.toList, true)
theorem implFind_from (s t : ByteArray) (hs : s.size ≤ 1000) (i : Nat) (hi : i ≤ s.size) : Ev (fun k => impl_FindBits.j0 k s t (i : Int) false) (findF s t i) := by
  have es := size_l s
  have hx : (s.extract i s.size).data.toList = s.data.toList.drop i := by
    rw [← Lib.toList_data, extract_list, List.take_of_length_le (by rw [List.length_drop]; omega)]
  have hge := Lib.index_ge (s.data.toList.drop i) t.data.toList
  have hle := Lib.index_le (s.data.toList.drop i) t.data.toList
  rw [List.length_drop] at hle
  refine ev_one (fun k => ?_)
  rw [impl_FindBits.j0, if_neg Bool.false_ne_true, if_pos (nat0 i), if_pos (by omega), Int.toNat_natCast]
  unfold strings_Index.f findF
  have hz : (s.extract i s.size).size ≤ s.size := by rw [ByteArray.size_extract]; omega
  rw [if_pos (by omega), Option.bind_some, hx]
  by_cases c : Lib.index (s.data.toList.drop i) t.data.toList < 0
  · rw [if_pos c, if_pos c]
  · rw [if_neg c, if_neg c, wrap64_in (by omega) (by omega)]
theorem empty_l (t : ByteArray) : t.toList = ([] : List UInt8) ↔ t.size = 0 := by
  rw [Lib.toList_data]
  have := size_l t
  constructor
  · intro h; rw [h] at this; exact this
  · intro h; exact List.eq_nil_of_length_eq_zero (by omega)
theorem hasPrefix_f (s t : ByteArray) (j : Nat) (hj : j ≤ s.size) (h0 : 0 < t.size) : strings_HasPrefix.f (s.extract j s.size) t = some (Lib.occAt s.data.toList t.data.toList j) := by
  have hu : (s.extract j s.size).size = s.size - j := by simp
  have es := size_l s
  have et := size_l t
  unfold strings_HasPrefix.f stringslite_HasPrefix.f
  by_cases c : j + t.size ≤ s.size
  · rw [if_pos (by omega), if_pos (by omega), if_pos (by omega), Option.bind_some, Int.toNat_natCast]
    have e : (s.extract j s.size).extract 0 t.size = s.extract j (j + t.size) := by
      rw [ByteArray.extract_extract, Nat.add_zero, Nat.min_eq_left c]
    rw [e, extract_list, Lib.toList_data, show j + t.size - j = t.data.toList.length by omega, take_prefix]
    rfl
  · rw [if_neg (by omega), Option.bind_some, occAt_short _ _ _ (by omega) (by omega)]
/-- At how many of the first j places it begins. -/
def cP (s t : List UInt8) : Nat → Nat
  | 0 => 0
  | j + 1 => cP s t j + if Lib.occAt s t j = true then 1 else 0
theorem cP_le (s t : List UInt8) (j : Nat) : cP s t j ≤ j := by induction j with | zero => exact Nat.le_refl _ | succ j ih => rw [cP]; split <;> omega
theorem cP_none (s t : List UInt8) (j d : Nat) (h : ∀ i, j ≤ i → i < j + d → Lib.occAt s t i = false) : cP s t (j + d) = cP s t j := by
  induction d with
  | zero => rfl
  | succ d ih =>
    show cP s t (j + d + 1) = _
    rw [cP, ih (fun i h1 h2 => h i h1 (by omega)), h (j + d) (by omega) (by omega)]
    rfl
theorem count_loop (s t : ByteArray) (hs : s.size ≤ 400) (h0 : 0 < t.size) (d : Nat) : ∀ j : Nat, j + d = s.size →
    Ev (fun k => impl_CountBits.l0 k s t ((cP s.data.toList t.data.toList j : Nat) : Int) (s.size : Int) (j : Int)) (((cP s.data.toList t.data.toList s.size : Nat) : Int), true) := by
  induction d with
  | zero => intro j h; exact ev_one (fun k => by rw [impl_CountBits.l0, if_neg (by omega), show j = s.size by omega])
  | succ d ih =>
    intro j h
    have hle := cP_le s.data.toList t.data.toList j
    have h1 := ih (j + 1) (by omega)
    have hx := hasPrefix_f s t j (by omega) h0
    rw [cP] at h1
    refine Ev.step (fun k => by rw [impl_CountBits.l0, if_pos (by omega), if_pos (by omega), if_pos (by omega), Int.toNat_natCast, hx, Option.bind_some, wrap_succ (j := j) (n := s.size) (by omega) (by omega)]) ?_
    cases e : Lib.occAt s.data.toList t.data.toList j with
    | true =>
      rw [e, if_pos rfl] at h1
      refine ev_pos rfl ?_
      rw [show wrap64 (((cP s.data.toList t.data.toList j : Nat) : Int) + 1) = ((cP s.data.toList t.data.toList j + 1 : Nat) : Int) by rw [wrap64_in (by omega) (by omega)]; omega]
      exact h1
    | false =>
      rw [e, if_neg Bool.false_ne_true] at h1
      exact ev_neg Bool.false_ne_true h1
theorem count_ev (s t : ByteArray) (hb : areB s.data.toList = true) (hbt : areB t.data.toList = true) (hs : s.size ≤ 400) (ht : t.size ≤ 400) (h0 : 0 < t.size) : Ev (fun k => impl_CountBits.f k s t) (((cP s.data.toList t.data.toList s.size : Nat) : Int), true) := by
  have hi := isBits_f s (by omega)
  have hi2 := isBits_f t (by omega)
  have e : IB s = true := by unfold IB; rw [hb, decide_eq_true (by omega)]; rfl
  have e2 : IB t = true := by unfold IB; rw [hbt, decide_eq_true (by omega)]; rfl
  rw [e] at hi
  rw [e2] at hi2
  have e3 : (t.toList == ([] : List UInt8)) = false := by
    rw [beq_eq_false_iff_ne]
    intro q
    have := (empty_l t).1 q
    omega
  unfold impl_CountBits.f
  refine ev_to hi (ev_pos rfl (ev_to hi2 (ev_pos rfl ?_)))
  rw [e3]
  exact Ev.step (fun k => by rw [impl_CountBits.j0, if_neg Bool.false_ne_true]; rfl) (count_loop s t hs h0 s.size 0 (by omega))
theorem find_ev (s t : ByteArray) (hb : areB s.data.toList = true) (hbt : areB t.data.toList = true) (hs : s.size ≤ 400) (ht : t.size ≤ 400) (h0 : 0 < t.size) (i : Nat) (hi' : i ≤ s.size) : Ev (fun k => impl_FindBits.f k s t (i : Int)) (findF s t i) := by
  have hi := isBits_f s (by omega)
  have hi2 := isBits_f t (by omega)
  have e : IB s = true := by unfold IB; rw [hb, decide_eq_true (by omega)]; rfl
  have e2 : IB t = true := by unfold IB; rw [hbt, decide_eq_true (by omega)]; rfl
  rw [e] at hi
  rw [e2] at hi2
  unfold impl_FindBits.f
  refine ev_to hi (ev_pos rfl (ev_to hi2 (ev_pos rfl (ev_neg (fun q => by have := (empty_l t).1 q; omega) (ev_to (impl_in _ _ _) ?_)))))
  rw [decide_eq_true (show (0 : Int) ≤ (i : Int) ∧ (i : Int) ≤ (s.size : Int) by omega)]
  exact implFind_from s t (by omega) i hi'
/-- Between two places that are found nothing begins. -/
theorem gap_loop (l1 : List Int) (s t : ByteArray) (hs : s.size ≤ 400) (ht : t.size ≤ 400) (h0 : 0 < t.size) (x7 : Int) (x8 : Bool) (x9 : Int) (n : Nat) (hn : n ≤ s.size) (R : Bool) (hR : Ev (fun k => laws_FnPlaces.l0 k l1 s t x7 x8 (wrap64 (x9 + 1)) (wrap64 ((n : Int) + 1))) R) (d : Nat) : ∀ j : Nat, j + d = n → (∀ i, j ≤ i → i < n → Lib.occAt s.data.toList t.data.toList i = false) →
    Ev (fun k => laws_FnPlaces.l1 k l1 s t x7 x8 x9 (n : Int) (j : Int)) R := by
  have es := size_l s
  have et := size_l t
  induction d with
  | zero =>
    intro j h _
    exact Ev.step (fun k => by rw [laws_FnPlaces.l1, if_neg (by omega)]) hR
  | succ d ih =>
    intro j h hno
    have h1 := ih (j + 1) (by omega) (fun i a b => hno i (by omega) b)
    have hw : wrap64 ((j : Int) + (t.size : Int)) = ((j + t.size : Nat) : Int) := by rw [wrap64_in (by omega) (by omega)]; omega
    have ho := hno j (Nat.le_refl _) (by omega)
    by_cases c : j + t.size ≤ s.size
    · have hx : ¬ (s.extract j (j + t.size)).toList = t.toList := by
        intro q
        have := take_prefix t.data.toList (s.data.toList.drop j)
        rw [extract_list, Lib.toList_data, show j + t.size - j = t.data.toList.length by omega] at q
        rw [q] at this
        unfold Lib.occAt at ho
        rw [ho] at this
        simp at this
      exact Ev.step (fun k => by rw [laws_FnPlaces.l1, if_pos (by omega), hw, if_pos (by omega), if_pos (by omega), if_pos (by omega), Int.toNat_natCast, Int.toNat_natCast, if_neg hx, wrap_succ (j := j) (n := n) (by omega) (by omega)]) h1
    · exact Ev.step (fun k => by rw [laws_FnPlaces.l1, if_pos (by omega), hw, if_neg (by omega), wrap_succ (j := j) (n := n) (by omega) (by omega)]) h1
theorem places_loop (l1 : List Int) (s t : ByteArray) (hb : areB s.data.toList = true) (hbt : areB t.data.toList = true) (hs : s.size ≤ 400) (ht : t.size ≤ 400) (h0 : 0 < t.size) (x7 : Int)
    (hR : Ev (fun k => laws_FnPlaces.l2 k l1 x7 true ((cP s.data.toList t.data.toList s.size : Nat) : Int) (([] : List Int)) 0) true) (d : Nat) : ∀ j : Nat, j ≤ s.size → s.size - j ≤ d →
    Ev (fun k => laws_FnPlaces.l0 k l1 s t x7 true ((cP s.data.toList t.data.toList j : Nat) : Int) (j : Int)) true := by
  have es := size_l s
  have et := size_l t
  induction d with
  | zero => 
    intro j h1 h2
    obtain rfl : j = s.size := by omega
    have hf := find_ev s t hb hbt hs ht h0 s.size (Nat.le_refl _)
    have e : findF s t s.size = (0, false) := by
      unfold findF
      rw [List.drop_eq_nil_of_le (by omega)]
      unfold Lib.index
      have : t.data.toList.isEmpty = false := by
        cases q : t.data.toList with
        | nil => rw [q] at et; have e0 : t.size = 0 := et; omega
        | cons a b => rfl
      rw [this, if_neg Bool.false_ne_true, if_pos (by decide)]
    rw [e] at hf
    exact Ev.step (fun k => by rw [laws_FnPlaces.l0]) (Ev.bind hf (ev_neg Bool.false_ne_true hR))
  | succ d ih =>
    intro j h1 h2
    have hf := find_ev s t hb hbt hs ht h0 j h1
    refine Ev.step (fun k => by rw [laws_FnPlaces.l0]) (Ev.bind hf ?_)
    unfold findF
    rcases Lib.index_spec (s.data.toList.drop j) t.data.toList with ⟨e, hno⟩ | ⟨m, e, hm, ho, hno⟩
    · rw [e, if_pos (by decide)]
      refine ev_neg Bool.false_ne_true ?_
      have hc := cP_none s.data.toList t.data.toList j (s.size - j) (fun i a b => by
        have := hno (i - j) (by rw [List.length_drop]; omega)
        rw [occAt_drop, show j + (i - j) = i by omega] at this
        exact this)
      rw [show j + (s.size - j) = s.size by omega] at hc
      rw [← hc]
      exact hR
    · rw [e, if_neg (by omega)]
      have hr := Lib.index_room (s.data.toList.drop j) t.data.toList (by omega)
      rw [e, List.length_drop] at hr
      rw [occAt_drop] at ho
      have hno2 : ∀ i, j ≤ i → i < j + m → Lib.occAt s.data.toList t.data.toList i = false := fun i a b => by
        have := hno (i - j) (by omega)
        rw [occAt_drop, show j + (i - j) = i by omega] at this
        exact this
      have hc := cP_none s.data.toList t.data.toList j m hno2
      have hc2 : cP s.data.toList t.data.toList (j + m + 1) = cP s.data.toList t.data.toList j + 1 := by rw [cP, hc, ho]; rfl
      have hle := cP_le s.data.toList t.data.toList j
      have hn := ih (j + m + 1) (by omega) (by omega)
      have hx : (s.extract (j + m) (j + m + t.size)).toList = t.toList := by
        have := take_prefix t.data.toList (s.data.toList.drop (j + m))
        unfold Lib.occAt at ho
        rw [ho, beq_iff_eq] at this
        rw [extract_list, Lib.toList_data, show j + m + t.size - (j + m) = t.data.toList.length by omega]
        exact this
      have hjm : (j : Int) + (m : Int) = ((j + m : Nat) : Int) := by omega
      have q1 : ¬ (((j + m : Nat) : Int) < (j : Int)) := by omega
      have q2 : ¬ (((j + m + t.size : Nat) : Int) > (s.size : Int)) := by omega
      have q3 : ((j + m : Nat) : Int) ≤ ((j + m + t.size : Nat) : Int) := by omega
      have q4 : ((j + m + t.size : Nat) : Int) ≤ (s.size : Int) := by omega
      have q5 : j + m ≤ s.size := by omega
      have hw := Aside0.mk (show wrap64 (((j + m : Nat) : Int) + (t.size : Int)) = ((j + m + t.size : Nat) : Int) by rw [wrap64_in (by omega) (by omega)]; omega)
      have hw1 := Aside0.mk (show wrap64 (((j + m : Nat) : Int) + 1) = ((j + m + 1 : Nat) : Int) by rw [wrap64_in (by omega) (by omega)]; omega)
      have hw2 := Aside0.mk (show wrap64 (((cP s.data.toList t.data.toList j : Nat) : Int) + 1) = ((cP s.data.toList t.data.toList j + 1 : Nat) : Int) by rw [wrap64_in (by omega) (by omega)]; omega)
      have hg := gap_loop l1 s t hs ht h0 x7 true ((cP s.data.toList t.data.toList j : Nat) : Int) (j + m) q5 true (by rw [hw1.out, hw2.out, ← hc2]; exact hn) m j rfl hno2
      rw [hjm]
      refine ev_pos rfl (ev_neg q1 ?_)
      show Ev (fun k => if wrap64 (((j + m : Nat) : Int) + (t.size : Int)) > (s.size : Int) then _ else _) true
      rw [hw.out]
      refine ev_neg q2 (ev_pos (nat0 _) (ev_pos q3 (ev_pos q4 ?_)))
      show Ev (fun k => laws_FnPlaces.j1 k l1 s t x7 true _ (j : Int) (((j + m : Nat) : Int)) ((s.extract (((j + m : Nat) : Int)).toNat (((j + m + t.size : Nat) : Int)).toNat).toList != t.toList)) true
      rw [Int.toNat_natCast, Int.toNat_natCast, hx, show (t.toList != t.toList) = false by simp]
      exact Ev.step (fun k => by rw [laws_FnPlaces.j1, if_neg Bool.false_ne_true]) hg
/-- The bits of bytes. -/
def bitsL8 : List Int → List Int
  | [] => []
  | x :: l => digs x 8 ++ bitsL8 l
theorem bitsL8_length (l : List Int) : (bitsL8 l).length = 8 * l.length := by
  induction l with
  | nil => rfl
  | cons x l ih => rw [bitsL8, List.length_append, digs_length, ih, List.length_cons]; omega
theorem digs_bits (n : Int) (d : Nat) : bitsL (digs n d) := by
  induction d with
  | zero => intro x hx; cases hx
  | succ d ih =>
    intro x hx
    rcases List.mem_cons.1 hx with p | p
    · rw [p]; omega
    · exact ih x p
theorem bitsL8_bits (l : List Int) : bitsL (bitsL8 l) := by
  induction l with
  | nil => intro x hx; cases hx
  | cons x l ih =>
    intro y hy
    rcases List.mem_append.1 hy with p | p
    · exact digs_bits _ _ y p
    · exact ih y p
theorem bytes_loop (L : List Int) (hL : L.length ≤ 50) (d : Nat) : ∀ (j : Nat) (l : List Int), j + d = L.length → l.length = 8 * j →
    Ev (fun k => impl_bitsOfBytes.l0 k L (l.map fun n => UInt8.ofNat n.toNat) (j : Int)) (strOfNums (l ++ bitsL8 (L.drop j))) := by
  induction d with
  | zero => intro j l h hl; exact ev_one (fun k => by rw [impl_bitsOfBytes.l0, if_neg (by omega), List.drop_eq_nil_of_le (by omega)]; rw [bitsL8, List.append_nil]; rfl)
  | succ d ih =>
    intro j l h hl
    have hj : j < L.length := by omega
    have hd2 := impl_digits_f (L[j]) 8 (by decide) (by decide)
    have hz : (strOfNums (digs (L[j]) (8 : Int).toNat)).size = 8 := by rw [strOfNums_size, digs_length]; rfl
    have h1 := ih (j + 1) (l ++ digs (L[j]) 8) (by omega) (by rw [List.length_append, digs_length]; omega)
    rw [drop_cons _ _ hj, bitsL8, ← List.append_assoc]
    rw [List.map_append] at h1
    refine Ev.step (fun k => by rw [impl_bitsOfBytes.l0, if_pos (by omega), if_pos (by omega), rd_get _ _ hj, wrap_succ hj (by omega)]) (Ev.bind hd2 (ev_pos ?_ ?_))
    · rw [hz, List.length_map, hl]; omega
    · rw [strOfNums_data]; exact h1
theorem bitsOfBytes_ev (L : List Int) (hL : L.length ≤ 50) (hb : ∀ x ∈ L, 0 ≤ x ∧ x ≤ 255) : Ev (fun k => impl_BitsOfBytes.f k L) (strOfNums (bitsL8 L), true) := by
  have ha := areIn_ev L 0 255 (by omega)
  rw [show (L.all fun x => decide (0 ≤ x ∧ x ≤ 255)) = true from List.all_eq_true.2 (fun x hx => decide_eq_true (hb x hx))] at ha
  unfold impl_BitsOfBytes.f
  have h := bytes_loop L hL L.length 0 [] (by omega) rfl
  rw [List.drop_zero, List.nil_append] at h
  exact ev_neg (by omega) (Ev.bind ha (ev_pos rfl (Ev.bind (f := fun k t => some (t, true)) (show Ev (fun k => impl_bitsOfBytes.f k L) _ from h) (Ev.now _))))
theorem strOf_extract (l : List Int) (a b : Nat) : (strOfNums l).extract a b = strOfNums ((l.drop a).take (b - a)) := by
  apply ByteArray.ext
  apply Array.toList_inj.1
  rw [← Lib.toList_data, extract_list, strOfNums_data, strOfNums_data, List.map_take, List.map_drop]
theorem bits8_at (L : List Int) (j : Nat) (h : j < L.length) : ((bitsL8 L).drop (8 * j)).take 8 = digs (L[j]) 8 := by
  induction L generalizing j with
  | nil => simp at h
  | cons x L ih =>
    cases j with
    | zero =>
      rw [bitsL8, Nat.mul_zero, List.drop_zero]
      have := digs_length x 8
      rw [List.take_append_of_le_length (by omega), List.take_of_length_le (by omega)]
      rfl
    | succ j =>
      have := digs_length x 8
      rw [bitsL8, List.drop_append, List.drop_eq_nil_of_le (by omega), List.nil_append, show 8 * (j + 1) - (digs x 8).length = 8 * j by omega]
      exact ih j (by simpa using h)
theorem num8 : ∀ x : Fin 256, nJ (digs ((x.val : Nat) : Int) 8) 8 = x.val := by decide +kernel
theorem back_loop (L : List Int) (hL : L.length ≤ 50) (hb : ∀ x ∈ L, 0 ≤ x ∧ x ≤ 255) (d : Nat) : ∀ j : Nat, j + d = L.length →
    Ev (fun k => impl_BytesOfBits.l0 k (strOfNums (bitsL8 L)) (L.take j) ((8 * j : Nat) : Int)) (L, true) := by
  have hz : (strOfNums (bitsL8 L)).size = 8 * L.length := by rw [strOfNums_size, bitsL8_length]
  induction d with
  | zero => intro j h; exact ev_one (fun k => by rw [impl_BytesOfBits.l0, if_neg (by omega), List.take_of_length_le (by omega)])
  | succ d ih =>
    intro j h
    have hj : j < L.length := by omega
    have hw : wrap64 (((8 * j : Nat) : Int) + 8) = ((8 * (j + 1) : Nat) : Int) := by rw [wrap64_in (by omega) (by omega)]; omega
    have hx := hb _ (List.getElem_mem hj)
    obtain ⟨y, hy⟩ := Int.eq_ofNat_of_zero_le hx.1
    have h8 := num8 ⟨y, by omega⟩
    have hd := digs_length (L[j]) 8
    have hn := number_loop (digs (L[j]) 8) (digs_bits _ _) (by omega) 8 0 (by omega)
    rw [hd, hy] at hn
    simp only at h8
    rw [h8, ← hy] at hn
    have e : (strOfNums (bitsL8 L)).extract (8 * j) (8 * (j + 1)) = strOfNums (digs (L[j]) 8) := by
      rw [strOf_extract, show 8 * (j + 1) - 8 * j = 8 by omega, bits8_at L j hj]
    have hn2 : Ev (fun k => impl_number.f k (strOfNums (digs (L[j]) 8))) (L[j]) := by
      unfold impl_number.f
      rw [strOfNums_size, hd]
      rw [hy] at hn ⊢
      exact hn
    have hlt : (L.take j).length < 17592186044416 := by rw [List.length_take]; omega
    have h1 := ih (j + 1) (by omega)
    rw [take_snoc' L j hj] at h1
    exact Ev.step (fun k => by rw [impl_BytesOfBits.l0, if_pos (by omega), if_pos (by omega), hw, if_pos (by omega), if_pos (by omega), Int.toNat_natCast, Int.toNat_natCast, e]) (Ev.bind hn2 (ev_pos hlt h1))
theorem bytesBack_ev (L : List Int) (hL : L.length ≤ 50) (hb : ∀ x ∈ L, 0 ≤ x ∧ x ≤ 255) : Ev (fun k => impl_BytesOfBits.f k (strOfNums (bitsL8 L))) (L, true) := by
  have hz : (strOfNums (bitsL8 L)).size = 8 * L.length := by rw [strOfNums_size, bitsL8_length]
  have hi := isBits_f (strOfNums (bitsL8 L)) (by omega)
  have e : IB (strOfNums (bitsL8 L)) = true := by unfold IB; rw [areB_strOf _ (bitsL8_bits L), decide_eq_true (by omega)]; rfl
  rw [e] at hi
  unfold impl_BytesOfBits.f
  refine ev_to hi (ev_pos rfl ?_)
  rw [show (((strOfNums (bitsL8 L)).size : Int) % 8 != 0) = false by rw [hz]; simp]
  exact Ev.step (fun k => by rw [impl_BytesOfBits.j0, if_neg Bool.false_ne_true]; rfl) (back_loop L hL hb L.length 0 (by omega))
theorem nums_loop (L : List Int) (hL : L.length ≤ 1000) (d : Nat) : ∀ j : Nat, j + d = L.length → Ev (fun k => laws_b10Nums.l0 k L L (j : Int)) true := by
  induction d with
  | zero => intro j h; exact ev_one (fun k => by rw [laws_b10Nums.l0, if_neg (by omega)])
  | succ d ih =>
    intro j h
    exact Ev.step (fun k => by rw [laws_b10Nums.l0, if_pos (by omega), if_pos (by omega), if_pos (by omega), if_pos rfl, wrap_succ (j := j) (n := L.length) (by omega) (by omega)]) (ih (j + 1) (by omega))
theorem b10At_in (l : List Int) (hl : l.length ≤ 9223372036854775807) (hb : ∀ x ∈ l, (Lit.int .u8 x).wf = true) (j : Nat) (hj : j ≤ 1000) (n : Int) (hn : 2 ≤ n) : ∃ v, laws_b10At.f l (j : Int) n = some v ∧ 0 ≤ v ∧ v < n := by
  unfold laws_b10At.f
  rw [if_neg (by omega)]
  by_cases c : (j : Int) < (l.length : Int)
  · have hr := byte_of l hb (j : Int) (by omega) c
    rw [if_pos c, if_pos (by omega), if_neg (by omega), wrap64_in (by omega) (by omega)]
    have := tmod_in hr.1 (show (0 : Int) < n by omega)
    exact ⟨_, rfl, this.1, by omega⟩
  · rw [if_neg c, if_neg (by omega), wrap64_in (x := (j : Int) * 37) (by omega) (by omega), wrap64_in (by omega) (by omega)]
    have := tmod_in (show (0 : Int) ≤ (j : Int) * 37 + 11 by omega) (show (0 : Int) < n by omega)
    exact ⟨_, rfl, this.1, by omega⟩
theorem bytesDraw_loop (l1 : List Int) (hl : l1.length ≤ 9223372036854775807) (hb : ∀ x ∈ l1, (Lit.int .u8 x).wf = true) (x7 : Int) (m : Nat) (hm : laws_b10At.f l1 1 6 = some (m : Int)) (hm6 : m < 6) (d : Nat) : ∀ (j : Nat) (L : List Int), j + d = m → L.length = j → (∀ x ∈ L, 0 ≤ x ∧ x ≤ 255) →
    Ev (fun k => laws_FnPlaces.l2 k l1 x7 true x7 L (j : Int)) true := by
  induction d with
  | zero =>
    intro j L h hL hx
    refine Ev.step (fun k => by rw [laws_FnPlaces.l2, hm, Option.bind_some, if_neg (by omega)]) (Ev.bind (bitsOfBytes_ev L (by omega) hx) (Ev.bind (bytesBack_ev L (by omega) hx) (ev_pos rfl (ev_pos rfl (ev_pos rfl (ev_pos rfl (Ev.bind (a := true) ?_ (ev_pos rfl ?_))))))))
    · unfold laws_b10Nums.f
      exact ev_pos rfl (nums_loop L (by omega) L.length 0 (by omega))
    · have e : (((strOfNums (bitsL8 L)).size : Int) == wrap64 (8 * (L.length : Int))) = true := by
        rw [strOfNums_size, bitsL8_length, wrap64_in (by omega) (by omega)]; simp
      show Ev (fun _ => some (((strOfNums (bitsL8 L)).size : Int) == wrap64 (8 * (L.length : Int)))) true
      rw [e]
      exact Ev.now _
  | succ d ih =>
    intro j L h hL hx
    obtain ⟨v, ev, v0, v1⟩ := b10At_in l1 hl hb (j + 2) (by omega) 256 (by decide)
    have hw : wrap64 ((j : Int) + 2) = ((j + 2 : Nat) : Int) := by rw [wrap64_in (by omega) (by omega)]; omega
    refine Ev.step (fun k => by rw [laws_FnPlaces.l2, hm, Option.bind_some, if_pos (by omega), hw, ev, Option.bind_some, if_pos (by omega), wrap_succ (j := j) (n := m) (by omega) (by omega)]) (ih (j + 1) (L ++ [v]) (by omega) (by rw [List.length_append, hL]; rfl) ?_)
    intro x hx2
    rcases List.mem_append.1 hx2 with p | p
    · exact hx x p
    · rw [List.mem_singleton.1 p]; omega
theorem short_ev (l : List Int) (hl : l.length ≤ 9223372036854775807) (hb : ∀ x ∈ l, (Lit.int .u8 x).wf = true) : ∃ t, spec_B10Short.f l = some t ∧ areB t.data.toList = true ∧ 0 < t.size ∧ t.size ≤ 400 := by
  unfold spec_B10Short.f spec_l00From.f
  rw [Option.bind_some]
  unfold spec_l00Src_text.f
  obtain ⟨v, at1, seed1, e1, v0, v1, a1, a2⟩ := pick_f l hl hb 0 0 8 (by decide) (by decide) (by decide)
  have hall : ∀ i : Fin 8, areB (rdOf ByteArray.empty [(⟨#[48]⟩ : ByteArray), (⟨#[49]⟩ : ByteArray), (⟨#[48, 49]⟩ : ByteArray), (⟨#[49, 49]⟩ : ByteArray), (⟨#[48, 48, 48]⟩ : ByteArray), (⟨#[49, 48, 49]⟩ : ByteArray), (⟨#[48, 49, 49, 48]⟩ : ByteArray), (⟨#[49, 48]⟩ : ByteArray)] ((i.val : Nat) : Int)).data.toList = true ∧ 0 < (rdOf ByteArray.empty [(⟨#[48]⟩ : ByteArray), (⟨#[49]⟩ : ByteArray), (⟨#[48, 49]⟩ : ByteArray), (⟨#[49, 49]⟩ : ByteArray), (⟨#[48, 48, 48]⟩ : ByteArray), (⟨#[49, 48, 49]⟩ : ByteArray), (⟨#[48, 49, 49, 48]⟩ : ByteArray), (⟨#[49, 48]⟩ : ByteArray)] ((i.val : Nat) : Int)).size ∧ (rdOf ByteArray.empty [(⟨#[48]⟩ : ByteArray), (⟨#[49]⟩ : ByteArray), (⟨#[48, 49]⟩ : ByteArray), (⟨#[49, 49]⟩ : ByteArray), (⟨#[48, 48, 48]⟩ : ByteArray), (⟨#[49, 48, 49]⟩ : ByteArray), (⟨#[48, 49, 49, 48]⟩ : ByteArray), (⟨#[49, 48]⟩ : ByteArray)] ((i.val : Nat) : Int)).size ≤ 400 := by decide
  obtain ⟨n, rfl⟩ := Int.eq_ofNat_of_zero_le v0
  have h := hall ⟨n, by omega⟩
  refine ⟨_, ?_, h.1, h.2.1, h.2.2⟩
  show ((spec_l00Src_pick.f l 0 0 8).bind _).bind _ = _
  rw [e1, Option.bind_some, if_pos (by show (0 : Int) ≤ (n : Int); omega), if_pos (by show (n : Int) < (8 : Int); omega)]
  rfl
theorem FnPlaces : laws_FnPlaces.Pure := by
  intro l0 l1 hl0 hb0 hl1 hb1
  apply Ev.rounds
  unfold laws_FnPlaces.f laws_b10Long.f
  by_cases c : (l0.length : Int) > 1048576
  · rw [if_pos c]; exact ev_some (ev_pos rfl (Ev.now _))
  rw [if_neg c]
  by_cases c2 : (l1.length : Int) > 1048576
  · rw [decide_eq_true c2]; exact ev_some (ev_pos rfl (Ev.now _))
  rw [decide_eq_false c2]
  refine ev_some (ev_neg Bool.false_ne_true ?_)
  obtain ⟨r, e1, hr, hl⟩ := b10Bits_ev l0 hl0 hb0
  have hs : (strOfNums r).size ≤ 400 := by rw [size_strOf]; omega
  obtain ⟨t, e2, ht, ht0, ht4⟩ := short_ev l1 hl1 hb1
  obtain ⟨m, em, m0, m1⟩ := b10At_in l1 hl1 hb1 1 (by decide) 6 (by decide)
  obtain ⟨m, rfl⟩ := Int.eq_ofNat_of_zero_le m0
  have hb := areB_strOf r hr
  refine Ev.bind e1 (ev_to e2 (Ev.bind (count_ev _ t hb ht hs ht4 ht0) ?_))
  exact places_loop l1 _ t hb ht hs ht4 ht0 _ (bytesDraw_loop l1 hl1 hb1 _ m em (by omega) m 0 [] (by omega) rfl (by intro x hx; cases hx)) (strOfNums r).size 0 (Nat.zero_le _) (by omega)

end Go.Proofs.YtmnckflgmjgkaacDoor.Pure
