/-
The law FnBits answers true for every two lists of bytes; there are no conditions beside the row's own bounds.
-/
import Derived.Test.YtmnckflgmjgkaacDoorQFnBitsx4
namespace Go.Proofs.YtmnckflgmjgkaacDoor.Pure
open Go.RowKit Go.Proofs.YtmnckflgmjgkaacDoor.QFnBits Go.Proofs.YtmnckflgmjgkaacDoorW.PrintWords Go.Proofs.YtmnckflgmjgkaacDoorW.PrintLast Go.Proofs.YtmnckflgmjgkaacDoorW.PrintMore
set_option linter.unusedVariables false

theorem ev_one {α : Type} {g : Nat → Option α} {r : α} (h : ∀ k, g (k + 1) = some r) : Ev g r :=
  ⟨1, fun k hk => by obtain ⟨m, rfl⟩ : ∃ m, k = m + 1 := ⟨k - 1, by omega⟩; exact h m⟩
theorem wrap64_in {x : Int} (h0 : -9223372036854775808 ≤ x) (h1 : x ≤ 9223372036854775807) : wrap64 x = x := by
  unfold wrap64; omega
theorem u64_in {x : Int} (h0 : 0 ≤ x) (h1 : x ≤ 18446744073709551615) : IntKind.u64.wrap x = x := by
  simp [IntKind.wrap, IntKind.bits, IntKind.signed]; omega
theorem i64_in {x : Int} (h0 : -9223372036854775808 ≤ x) (h1 : x ≤ 9223372036854775807) : IntKind.i64.wrap x = x := by
  rw [IntKind.wrap_i64]; omega
theorem and_one (x : Int) : Go.bits .and .i64 x 1 = x % 2 := by
  have h : (BitVec.ofInt 64 x &&& BitVec.ofInt 64 1).toNat = (x % 2).toNat := by
    have e1 : BitVec.ofInt 64 1 = 1#64 := by decide
    rw [e1, BitVec.toNat_and, BitVec.toNat_ofInt]
    have e2 : (1#64).toNat = 1 := by decide
    rw [e2, Nat.and_one_is_mod]
    omega
  show IntKind.i64.wrap (((BitVec.ofInt 64 x &&& BitVec.ofInt 64 1).toNat : Nat) : Int) = x % 2
  rw [h, i64_in (by omega) (by omega)]
  omega
theorem wf_i64 {x : Int} (h : (Lit.int .i64 x).wf = true) : -9223372036854775808 ≤ x ∧ x ≤ 9223372036854775807 := by
  simp [Lit.wf, IntKind.min, IntKind.max, IntKind.signed, IntKind.bits] at h
  omega
theorem pow_pos_int (d : Nat) : (0 : Int) < 2 ^ d := Int.pow_pos (by decide)
theorem pow_le_int {a b : Nat} (h : a ≤ b) : (2 : Int) ^ a ≤ 2 ^ b := by
  have := Nat.pow_le_pow_right (n := 2) (by decide) h
  exact_mod_cast this

theorem ev_pos {α : Type} {c : Prop} [Decidable c] {g h : Nat → Option α} {r : α} (hc : c) (hg : Ev g r) : Ev (fun k => if c then g k else h k) r := by
  obtain ⟨K, hK⟩ := hg
  exact ⟨K, fun k hk => (if_pos hc).trans (hK k hk)⟩
theorem ev_neg {α : Type} {c : Prop} [Decidable c] {g h : Nat → Option α} {r : α} (hc : ¬ c) (hg : Ev h r) : Ev (fun k => if c then g k else h k) r := by
  obtain ⟨K, hK⟩ := hg
  exact ⟨K, fun k hk => (if_neg hc).trans (hK k hk)⟩
theorem ev_some {α β : Type} {f : Nat → α → Option β} {a : α} {r : β} (h : Ev (fun k => f k a) r) : Ev (fun k => (some a).bind (f k)) r := h
theorem ev_to {α β : Type} {x : Option α} {f : Nat → α → Option β} {a : α} {r : β} (e : x = some a) (h : Ev (fun k => f k a) r) : Ev (fun k => x.bind (f k)) r := by subst e; exact h
theorem ev_det {α : Type} {g : Nat → Option α} {r r' : α} (h : Ev g r) (h' : Ev g r') : r = r' := by
  obtain ⟨K, hK⟩ := h
  obtain ⟨K', hK'⟩ := h'
  have h1 := hK (max K K') (Nat.le_max_left _ _)
  have h2 := hK' (max K K') (Nat.le_max_right _ _)
  rw [h1] at h2
  exact Option.some.inj h2
theorem wrap_succ {j n : Nat} (h : j < n) (hn : n ≤ 9223372036854775807) : wrap64 ((j : Int) + 1) = ((j + 1 : Nat) : Int) := by
  rw [wrap64_in (by omega) (by omega)]; omega
theorem nat0 (j : Nat) : (0 : Int) ≤ (j : Int) := Int.natCast_nonneg j
theorem rd_nat (l : List Int) (j : Nat) : rd l (j : Int) = l.getD j 0 := by unfold rd; rw [Int.toNat_natCast]
theorem rd_get (l : List Int) (j : Nat) (h : j < l.length) : rd l (j : Int) = l[j] := by rw [rd_nat, List.getD_eq_getElem?_getD, List.getElem?_eq_getElem h]; rfl
theorem drop_cons {α : Type} (l : List α) (j : Nat) (h : j < l.length) : l.drop j = l[j] :: l.drop (j + 1) := List.drop_eq_getElem_cons h
theorem take_snoc' {α : Type} (l : List α) (j : Nat) (h : j < l.length) : l.take (j + 1) = l.take j ++ [l[j]] := List.take_succ_eq_append_getElem h
theorem set_take {α : Type} (acc : List α) (j : Nat) (x : α) (h : j < acc.length) : (acc.set j x).take (j + 1) = acc.take j ++ [x] := by
  rw [List.take_set, List.take_succ_eq_append_getElem h, List.set_append_right _ _ (by simp; omega)]
  have : (acc.take j).length = j := by rw [List.length_take]; omega
  rw [this, Nat.sub_self]
  rfl
theorem take_all {α : Type} {a b : List α} {n : Nat} (ha : a.length = n) (hb : b.length = n) (h : a.take n = b.take n) : a = b := by
  rw [List.take_of_length_le (by omega), List.take_of_length_le (by omega)] at h; exact h
theorem w01 : wrap64 (0 + 1) = 1 := by unfold wrap64; decide
theorem w11 : wrap64 (1 + 1) = 2 := by unfold wrap64; decide

theorem impl_in (a b c : Int) : impl_within.f a b c = some (decide (b ≤ a ∧ a ≤ c)) := by
  unfold impl_within.f
  by_cases h : a ≥ b
  · rw [if_pos h]; congr 1; have : b ≤ a := h; simp [this]
  · rw [if_neg h]; congr 1; have : ¬ b ≤ a := h; simp [this]

def isBit (b : UInt8) : Bool := b.toNat == 48 || b.toNat == 49
def areB (l : List UInt8) : Bool := l.all isBit
theorem size_l (s : ByteArray) : s.size = s.data.toList.length := by rw [Array.length_toList]; rfl
theorem bt_l (s : ByteArray) (j : Nat) (h : j < s.data.toList.length) : bt s (j : Int) = ((s.data.toList[j].toNat : Nat) : Int) := by
  have h2 : ((j : Int)).toNat < s.size := by rw [Int.toNat_natCast, size_l]; exact h
  have h3 : j < s.data.size := by rw [Array.length_toList] at h; exact h
  have e : s[((j : Int)).toNat]'h2 = s.data[j] := rfl
  rw [← bt_at s j h2, e, Array.getElem_toList]
theorem cs_bit (b : UInt8) : ([48, 49] : List UInt8).contains b = isBit b := by
  have h1 : (b == 48) = (b.toNat == 48) := by rw [Bool.eq_iff_iff]; simp [← UInt8.toNat_inj]
  have h2 : (b == 49) = (b.toNat == 49) := by rw [Bool.eq_iff_iff]; simp [← UInt8.toNat_inj]
  unfold isBit
  rw [← h1, ← h2]
  show (match b == 48 with | true => true | false => (match b == 49 with | true => true | false => false)) = (b == 48 || b == 49)
  cases (b == 48) <;> cases (b == 49) <;> rfl
theorem drop_nil {p : UInt8 → Bool} (l : List UInt8) : l.dropWhile p = [] ↔ ∀ x ∈ l, p x = true := by
  induction l with
  | nil => simp
  | cons a t ih =>
    rw [List.dropWhile_cons]
    cases e : p a with
    | true => rw [if_pos rfl, ih]; simp [e]
    | false => rw [if_neg (by decide)]; simp [e]
theorem drop_all {p : UInt8 → Bool} (l : List UInt8) (h : (l.dropWhile p).all p = true) : l.all p = true := by
  induction l with
  | nil => rfl
  | cons a t ih =>
    rw [List.dropWhile_cons] at h
    cases e : p a with
    | true => rw [e, if_pos rfl] at h; rw [List.all_cons, e, ih h]; rfl
    | false => rw [e, if_neg (by decide)] at h; exact h
theorem trim_nil (l : List UInt8) : (Lib.trimS l [48, 49] == []) = areB l := by
  have e : (fun b => ([48, 49] : List UInt8).contains b) = isBit := funext cs_bit
  unfold Lib.trimS Lib.trimLeftS Lib.trimRightS areB
  rw [e]
  rw [Bool.eq_iff_iff, beq_iff_eq, drop_nil]
  constructor
  · intro h
    have h1 : (l.reverse.dropWhile isBit).all isBit = true := List.all_eq_true.2 (fun x hx => h x (List.mem_reverse.2 hx))
    have h2 := drop_all _ h1
    rw [List.all_reverse] at h2
    exact h2
  · intro h x hx
    have h3 := List.mem_reverse.1 hx
    have h4 : x ∈ l.reverse := (List.dropWhile_sublist _).subset h3
    exact List.all_eq_true.1 h x (List.mem_reverse.1 h4)

def IB (s : ByteArray) : Bool := areB s.data.toList && decide ((s.size : Int) ≤ 400)
theorem areBits_f (s : ByteArray) (hn : s.size ≤ 9223372036854775807) : impl_areBits.f s = some (areB s.data.toList) := by
  unfold impl_areBits.f strings_Trim.f
  rw [if_pos ⟨rfl, hn⟩, Option.bind_some]
  have e : (⟨(Lib.trimS s.data.toList [48, 49]).toArray⟩ : ByteArray).toList = Lib.trimS s.data.toList [48, 49] := by
    rw [Lib.toList_data]
  rw [e, ← trim_nil]

theorem isBits_f (s : ByteArray) (hn : s.size ≤ 9223372036854775807) : impl_IsBits.f s = some (IB s) := by
  unfold impl_IsBits.f IB
  by_cases c : (s.size : Int) ≤ 400
  · rw [if_pos c, areBits_f s hn, decide_eq_true c, Bool.and_true]; rfl
  · rw [if_neg c, decide_eq_false c, Bool.and_false]

theorem wf_u8 {x : Int} (h : (Lit.int .u8 x).wf = true) : 0 ≤ x ∧ x ≤ 255 := by
  simp [Lit.wf, IntKind.min, IntKind.max, IntKind.signed, IntKind.bits] at h
  omega
theorem tmod_in {x n : Int} (h0 : 0 ≤ x) (hn : 0 < n) : 0 ≤ Int.tmod x n ∧ Int.tmod x n < n := by
  rw [Int.tmod_eq_emod_of_nonneg h0]
  exact ⟨Int.emod_nonneg _ (by omega), Int.emod_lt_of_pos _ hn⟩
theorem and_255 (x : Int) : 0 ≤ Go.bits .and .u64 x 255 ∧ Go.bits .and .u64 x 255 ≤ 255 := by
  show 0 ≤ IntKind.u64.wrap (((BitVec.ofInt 64 x &&& BitVec.ofInt 64 255).toNat : Nat) : Int) ∧ IntKind.u64.wrap (((BitVec.ofInt 64 x &&& BitVec.ofInt 64 255).toNat : Nat) : Int) ≤ 255
  have e1 : (BitVec.ofInt 64 255).toNat = 255 := by decide
  have h : (BitVec.ofInt 64 x &&& BitVec.ofInt 64 255).toNat ≤ 255 := by
    rw [BitVec.toNat_and, e1]
    exact Nat.and_le_right
  rw [u64_in (by omega) (by omega)]
  omega
theorem byte_of (l : List Int) (hb : ∀ x ∈ l, (Lit.int .u8 x).wf = true) (i : Int) (h0 : 0 ≤ i) (h1 : i < l.length) : 0 ≤ rd l i ∧ rd l i ≤ 255 := by
  obtain ⟨j, rfl⟩ := Int.eq_ofNat_of_zero_le h0
  rw [rd_get _ _ (by omega)]
  exact wf_u8 (hb _ (List.getElem_mem _))

theorem next_f (l : List Int) (hl : l.length ≤ 9223372036854775807) (hb : ∀ x ∈ l, (Lit.int .u8 x).wf = true) (at_ seed : Int) (h0 : 0 ≤ at_) (h1 : at_ ≤ 4611686018427387904) :
    ∃ v seed', spec_l00Src_next.f l at_ seed = some (v, at_ + 1, seed') ∧ 0 ≤ v ∧ v ≤ 255 := by
  unfold spec_l00Src_next.f
  rw [wrap64_in (x := at_ + 1) (by omega) (by omega)]
  by_cases c : at_ < (l.length : Int)
  · have hr := byte_of l hb at_ h0 c
    rw [if_pos c, if_pos h0, wrap64_in (x := rd l at_) (by omega) (by omega)]
    rw [if_pos (by omega)]
    exact ⟨_, _, rfl, hr⟩
  · rw [if_neg c]
    rw [if_neg (by omega)]
    refine ⟨_, _, rfl, ?_⟩
    have h := and_255 ((IntKind.u64.wrap ((IntKind.u64.wrap ((IntKind.u64.wrap (seed * 6364136223846793005)))) + 1442695040888963407)) / 1099511627776)
    rw [wrap64_in (by omega) (by omega)]
    exact h
theorem pick_f (l : List Int) (hl : l.length ≤ 9223372036854775807) (hb : ∀ x ∈ l, (Lit.int .u8 x).wf = true) (at_ seed n : Int) (h0 : 0 ≤ at_) (h1 : at_ ≤ 4611686018427387904) (hn : n ≤ 200) :
    ∃ v at' seed', spec_l00Src_pick.f l at_ seed n = some (v, at', seed') ∧ 0 ≤ v ∧ (v < n ∨ v = 0) ∧ at_ ≤ at' ∧ at' ≤ at_ + 1 := by
  unfold spec_l00Src_pick.f
  by_cases c : n ≤ 1
  · rw [if_pos c]; exact ⟨0, at_, seed, rfl, by omega, by omega, by omega, by omega⟩
  · rw [if_neg c]
    obtain ⟨v, seed', e, h2, h3⟩ := next_f l hl hb at_ seed h0 h1
    rw [e, Option.bind_some, if_neg (by omega), if_neg (by omega)]
    have := tmod_in h2 (show 0 < n by omega)
    exact ⟨_, _, _, rfl, this.1, .inl this.2, by show at_ ≤ at_ + 1; omega, by show at_ + 1 ≤ at_ + 1; omega⟩
theorem one_f (l : List Int) (hl : l.length ≤ 9223372036854775807) (hb : ∀ x ∈ l, (Lit.int .u8 x).wf = true) (at_ seed n : Int) (h0 : 0 ≤ at_) (h1 : at_ ≤ 4611686018427387904) (hn : n ≤ 200) :
    ∃ v at' seed', spec_l00Src_one.f l at_ seed n = some (v, at', seed') ∧ at_ ≤ at' ∧ at' ≤ at_ + 1 := by
  unfold spec_l00Src_one.f
  obtain ⟨v, at', seed', e, _, _, h3, h4⟩ := pick_f l hl hb at_ seed n h0 h1 hn
  rw [e, Option.bind_some]
  exact ⟨_, _, _, rfl, h3, h4⟩

/-- A list of 48 and 49 is a text of bits. -/
def bitsL (l : List Int) : Prop := ∀ x ∈ l, x = 48 ∨ x = 49
theorem areB_strOf (l : List Int) (h : bitsL l) : areB (strOfNums l).data.toList = true := by
  rw [strOfNums_data]
  unfold areB
  rw [List.all_eq_true]
  intro b hb
  obtain ⟨x, hx, rfl⟩ := List.mem_map.1 hb
  rcases h x hx with rfl | rfl <;> decide
theorem size_strOf (l : List Int) : (strOfNums l).size = l.length := by rw [size_l, strOfNums_data, List.length_map]
theorem b10Bits_loop (l : List Int) (hl : l.length ≤ 9223372036854775807) (hb : ∀ x ∈ l, (Lit.int .u8 x).wf = true) (d : Nat) : ∀ (acc : List Int) (bit at_ seed : Int), bitsL acc → (bit = 48 ∨ bit = 49) → acc.length + d ≤ 1000 → 0 ≤ at_ → at_ + 2 * d ≤ 4611686018427387904 →
    ∃ r, Ev (fun k => spec_B10Bits.l0 k acc bit (d : Int) l at_ seed) (strOfNums r) ∧ bitsL r ∧ r.length = acc.length + d := by
  induction d with
  | zero => intro acc bit at_ seed ha _ h1 h2 h3; exact ⟨acc, ev_one (fun k => by rw [spec_B10Bits.l0, if_neg (by omega)]), ha, rfl⟩
  | succ d ih =>
    intro acc bit at_ seed ha hbit h1 h2 h3
    have hw : wrap64 (((d + 1 : Nat) : Int) - 1) = (d : Int) := by rw [wrap64_in (by omega) (by omega)]; omega
    have snoc : ∀ y, (y = 48 ∨ y = 49) → bitsL (acc ++ [y]) := by
      intro y hy x hx
      rcases List.mem_append.1 hx with hx | hx
      · exact ha x hx
      · rw [List.mem_singleton.1 hx]; exact hy
    have len1 : ∀ y : Int, (acc ++ [y]).length = acc.length + 1 := by intro y; simp
    obtain ⟨o, at1, seed1, e1, a1, a2⟩ := one_f l hl hb at_ seed 2 h2 (by omega) (by decide)
    cases o with
    | true =>
      obtain ⟨v, at2, seed2, e2, v0, v1, b1, b2⟩ := pick_f l hl hb at1 seed1 2 (by omega) (by omega) (by decide)
      have hv : wrap64 (48 + v) = 48 + v := wrap64_in (by omega) (by omega)
      have hv2 : (48 + v) % 256 = 48 + v := by omega
      obtain ⟨r, hr, h4, h5⟩ := ih (acc ++ [48 + v]) (48 + v) at2 seed2 (snoc _ (by omega)) (by omega) (by rw [len1]; omega) (by omega) (by omega)
      exact ⟨r, Ev.step (fun k => by rw [spec_B10Bits.l0, if_pos (by omega), e1, Option.bind_some, if_pos rfl, e2, Option.bind_some, if_pos (by omega), hv, hv2, hw]) hr, h4, by rw [h5, len1]; omega⟩
    | false =>
      obtain ⟨r, hr, h4, h5⟩ := ih (acc ++ [bit]) bit at1 seed1 (snoc _ hbit) hbit (by rw [len1]; omega) (by omega) (by omega)
      exact ⟨r, Ev.step (fun k => by rw [spec_B10Bits.l0, if_pos (by omega), e1, Option.bind_some, if_neg Bool.false_ne_true, if_pos (by omega), hw]) hr, h4, by rw [h5, len1]; omega⟩
theorem b10Bits_ev (l : List Int) (hl : l.length ≤ 9223372036854775807) (hb : ∀ x ∈ l, (Lit.int .u8 x).wf = true) :
    ∃ r, Ev (fun k => spec_B10Bits.f k l) (strOfNums r) ∧ bitsL r ∧ r.length ≤ 40 := by
  obtain ⟨v, at1, seed1, e1, v0, v1, a1, a2⟩ := pick_f l hl hb 0 0 41 (by decide) (by decide) (by decide)
  obtain ⟨n, rfl⟩ := Int.eq_ofNat_of_zero_le v0
  obtain ⟨r, hr, h1, h2⟩ := b10Bits_loop l hl hb n [] 48 at1 seed1 (by intro x hx; cases hx) (.inl rfl) (by simp; omega) (by omega) (by omega)
  refine ⟨r, ?_, h1, by rw [h2]; simp; omega⟩
  unfold spec_B10Bits.f spec_l00From.f
  exact ev_some (ev_to (a := ((n : Int), at1, seed1)) e1 hr)

/-- The lowest d binary digits of n as letters, the greatest one first. -/
def digs (n : Int) : Nat → List Int
  | 0 => []
  | d + 1 => (48 + (n / 2 ^ d) % 2) :: digs n d
theorem digs_length (n : Int) (d : Nat) : (digs n d).length = d := by
  induction d with
  | zero => rfl
  | succ d ih => simp [digs, ih]
theorem shr_nat (n : Int) (d : Nat) (h : d ≤ 64) : shr .i64 n (d : Int) = n / 2 ^ d := by
  unfold shr; rw [Int.toNat_natCast]; congr 2; exact Nat.min_eq_left h

theorem impl_digits_ev (n : Int) (d : Nat) : ∀ l : List Int, d ≤ 64 → l.length + d ≤ 1000 → Ev (fun k => impl_digits.l0 k n l ((d : Int) - 1)) (strOfNums (l ++ digs n d)) := by
  induction d with
  | zero =>
    intro l _ _
    exact ev_one (fun k => by rw [impl_digits.l0, if_neg (by omega)]; simp [digs])
  | succ d ih =>
    intro l hd hl
    have e : ((d + 1 : Nat) : Int) - 1 = (d : Int) := by omega
    have hs := shr_nat n d (by omega)
    have hw : wrap64 ((d : Int) - 1) = (d : Int) - 1 := wrap64_in (by omega) (by omega)
    have h := ih (l ++ [48 + (n / 2 ^ d) % 2]) (by omega) (by simp; omega)
    have e2 : l ++ digs n (d + 1) = l ++ [48 + (n / 2 ^ d) % 2] ++ digs n d := by simp [digs]
    rw [e2]
    refine Ev.step (fun k => ?_) h
    rw [e, impl_digits.l0, if_pos (by omega), if_pos (by omega), if_pos (by omega), hs, and_one, hw]
    congr 3
    omega
theorem impl_digits_f (n : Int) (w : Int) (h0 : 0 ≤ w) (h1 : w ≤ 64) : Ev (fun k => impl_digits.f k n w) (strOfNums (digs n w.toNat)) := by
  obtain ⟨d, rfl⟩ := Int.eq_ofNat_of_zero_le h0
  have h := impl_digits_ev n d [] (by omega) (by simp; omega)
  refine Ev.congr (fun k => ?_) h
  unfold impl_digits.f
  rw [wrap64_in (by omega) (by omega)]

theorem shl_one (a : Int) (h0 : 0 ≤ a) (h1 : a ≤ 62) : shl .i64 1 a = 2 ^ a.toNat := by
  obtain ⟨d, rfl⟩ := Int.eq_ofNat_of_zero_le h0
  unfold shl
  rw [Int.toNat_natCast]
  have e : min d IntKind.i64.bits = d := Nat.min_eq_left (by show d ≤ 64; omega)
  have h2 : (2 : Int) ^ d ≤ 2 ^ 62 := pow_le_int (by omega)
  have h3 : (2 : Int) ^ 62 = 4611686018427387904 := by decide
  have h4 := pow_pos_int d
  rw [e, i64_in (by omega) (by omega), Int.one_mul]
theorem land_step (a b m M : Nat) (ha : a < 256) (hm : m < 256) : (a + 256 * b) &&& (m + 256 * M) = (a &&& m) + 256 * (b &&& M) := by
  have h1 : ((a + 256 * b) &&& (m + 256 * M)) % 2 ^ 8 = (a &&& m) := by
    rw [Nat.and_mod_two_pow]
    congr 1 <;> omega
  have h2 : ((a + 256 * b) &&& (m + 256 * M)) / 2 ^ 8 = (b &&& M) := by
    rw [← Nat.shiftRight_eq_div_pow, Nat.shiftRight_and_distrib, Nat.shiftRight_eq_div_pow, Nat.shiftRight_eq_div_pow]
    congr 1 <;> omega
  omega
def maskN (m : Nat) : Nat → Nat
  | 0 => 0
  | n + 1 => m + 256 * maskN m n
def g1 (b : Nat) : Nat := ((b / 2) &&& 85) + (b &&& 85)
def g2 (b : Nat) : Nat := ((b / 4) &&& 51) + (b &&& 51)
def g3 (e : Nat) : Nat := (e / 16 + e) % 16
def S1 (n x : Nat) : Nat := ((x / 2) &&& maskN 85 n) + (x &&& maskN 85 n)
def S2 (n x : Nat) : Nat := ((x / 4) &&& maskN 51 n) + (x &&& maskN 51 n)
def S3 (n z : Nat) : Nat := (z / 16 + z) &&& maskN 15 n
theorem t1 : ∀ b : Fin 256, ∀ c : Fin 2, ((b.val / 2 + 128 * c.val) &&& 85) = ((b.val / 2) &&& 85) := by decide +kernel
theorem t2 : ∀ b : Fin 256, ∀ c : Fin 4, ((b.val / 4 + 64 * c.val) &&& 51) = ((b.val / 4) &&& 51) := by decide +kernel
theorem t3 : ∀ b : Fin 256, g1 b.val < 256 ∧ g2 (g1 b.val) ≤ 68 ∧ g2 (g1 b.val) % 16 ≤ 4 := by decide +kernel
theorem t4 : ∀ b : Fin 256, g3 (g2 (g1 b.val)) = b.val % 2 + (b.val / 2 % 2 + (b.val / 4 % 2 + (b.val / 8 % 2 + (b.val / 16 % 2 + (b.val / 32 % 2 + (b.val / 64 % 2 + b.val / 128 % 2)))))) := by decide +kernel
theorem S1_step (n b x : Nat) (hb : b < 256) : S1 (n + 1) (b + 256 * x) = g1 b + 256 * S1 n x := by
  have h := t1 ⟨b, hb⟩ ⟨x % 2, by omega⟩
  simp only at h
  have e : (b + 256 * x) / 2 = (b / 2 + 128 * (x % 2)) + 256 * (x / 2) := by omega
  unfold S1 g1
  rw [e, maskN, land_step _ _ _ _ (by omega) (by omega), land_step _ _ _ _ hb (by omega), h]
  omega
theorem S2_step (n b x : Nat) (hb : b < 256) : S2 (n + 1) (b + 256 * x) = g2 b + 256 * S2 n x := by
  have h := t2 ⟨b, hb⟩ ⟨x % 4, by omega⟩
  simp only at h
  have e : (b + 256 * x) / 4 = (b / 4 + 64 * (x % 4)) + 256 * (x / 4) := by omega
  unfold S2 g2
  rw [e, maskN, land_step _ _ _ _ (by omega) (by omega), land_step _ _ _ _ hb (by omega), h]
  omega
theorem S3_step (n e z : Nat) (he : e ≤ 68) (hz : z % 16 ≤ 4) : S3 (n + 1) (e + 256 * z) = g3 e + 256 * S3 n z := by
  have e1 : (e + 256 * z) / 16 + (e + 256 * z) = (e / 16 + 16 * (z % 16) + e) + 256 * (z / 16 + z) := by omega
  have e2 : ((e / 16 + 16 * (z % 16) + e) &&& 15) = g3 e := by
    rw [show (15 : Nat) = 2 ^ 4 - 1 from rfl, Nat.and_two_pow_sub_one_eq_mod]
    unfold g3
    omega
  unfold S3
  rw [e1, maskN, land_step _ _ _ _ (by omega) (by omega), e2]
def PP (n x : Nat) : Nat := S3 n (S2 n (S1 n x))
def pc8 (b : Nat) : Nat := b % 2 + (b / 2 % 2 + (b / 4 % 2 + (b / 8 % 2 + (b / 16 % 2 + (b / 32 % 2 + (b / 64 % 2 + b / 128 % 2))))))
theorem low_of (n x : Nat) (h : x < 256 ^ n) : S2 n (S1 n x) % 16 ≤ 4 := by
  cases n with
  | zero => simp [S2, maskN]
  | succ n =>
    have e : x = x % 256 + 256 * (x / 256) := by omega
    have ht := t3 ⟨x % 256, by omega⟩
    simp only at ht
    rw [e, S1_step _ _ _ (by omega), S2_step _ _ _ ht.1]
    omega
theorem PP_step (n x : Nat) (h : x < 256 ^ (n + 1)) : PP (n + 1) x = pc8 (x % 256) + 256 * PP n (x / 256) := by
  have e : x = x % 256 + 256 * (x / 256) := by omega
  have ht := t3 ⟨x % 256, by omega⟩
  have h4 := t4 ⟨x % 256, by omega⟩
  simp only at ht h4
  have hx : x / 256 < 256 ^ n := by rw [Nat.pow_succ] at h; omega
  unfold PP
  conv => lhs; rw [e]
  rw [S1_step _ _ _ (by omega), S2_step _ _ _ ht.1, S3_step _ _ _ ht.2.1 (low_of n _ hx), h4]
  rfl
def pcF : Nat → Nat → Nat
  | 0, _ => 0
  | f + 1, x => x % 2 + pcF f (x / 2)
theorem pcF_8 (f x : Nat) : pcF (f + 8) x = pc8 (x % 256) + pcF f (x / 256) := by
  have d : x / 2 / 2 / 2 / 2 / 2 / 2 / 2 / 2 = x / 256 := by omega
  show x % 2 + (x / 2 % 2 + (x / 2 / 2 % 2 + (x / 2 / 2 / 2 % 2 + (x / 2 / 2 / 2 / 2 % 2 + (x / 2 / 2 / 2 / 2 / 2 % 2 + (x / 2 / 2 / 2 / 2 / 2 / 2 % 2 + (x / 2 / 2 / 2 / 2 / 2 / 2 / 2 % 2 + pcF f (x / 2 / 2 / 2 / 2 / 2 / 2 / 2 / 2)))))))) = _
  rw [d]
  unfold pc8
  omega
theorem pc8_le (b : Nat) : pc8 b ≤ 8 := by unfold pc8; omega
theorem pcF_flip (f : Nat) : ∀ x : Nat, 0 < x → x < 2 ^ f → pcF f (x &&& (x - 1)) + 1 = pcF f x := by
  induction f with
  | zero => intro x h1 h2; simp at h2; omega
  | succ f ih =>
    intro x h1 h2
    rw [Nat.pow_succ] at h2
    have hm : (x &&& (x - 1)) % 2 = 0 := by
      rw [show (2 : Nat) = 2 ^ 1 from rfl, Nat.and_mod_two_pow]
      rcases Nat.mod_two_eq_zero_or_one x with h | h
      · rw [show x % 2 ^ 1 = 0 from h]; simp
      · rw [show (x - 1) % 2 ^ 1 = 0 by omega]; simp
    have hd : (x &&& (x - 1)) / 2 = (x / 2 &&& (x - 1) / 2) := Nat.and_div_two
    show (x &&& (x - 1)) % 2 + pcF f ((x &&& (x - 1)) / 2) + 1 = x % 2 + pcF f (x / 2)
    rw [hm, hd]
    rcases Nat.mod_two_eq_zero_or_one x with h | h
    · have e : (x - 1) / 2 = x / 2 - 1 := by omega
      have := ih (x / 2) (by omega) (by omega)
      rw [e]
      omega
    · have e : (x - 1) / 2 = x / 2 := by omega
      rw [e, Nat.and_self]
      omega

theorem and_u64 (x y : Nat) (hx : x < 2 ^ 64) (hy : y < 2 ^ 64) : Go.bits .and .u64 (x : Int) (y : Int) = ((x &&& y : Nat) : Int) := by
  have h : (BitVec.ofInt 64 (x : Int) &&& BitVec.ofInt 64 (y : Int)).toNat = x &&& y := by
    rw [BitVec.toNat_and, BitVec.ofInt_natCast, BitVec.ofInt_natCast, BitVec.toNat_ofNat, BitVec.toNat_ofNat, Nat.mod_eq_of_lt hx, Nat.mod_eq_of_lt hy]
  have hl : x &&& y ≤ x := Nat.and_le_left
  show IntKind.u64.wrap (((BitVec.ofInt 64 (x : Int) &&& BitVec.ofInt 64 (y : Int)).toNat : Nat) : Int) = _
  rw [h, u64_in (by omega) (by omega)]
theorem and_i64 (x y : Nat) (hx : x < 2 ^ 63) (hy : y < 2 ^ 63) : Go.bits .and .i64 (x : Int) (y : Int) = ((x &&& y : Nat) : Int) := by
  have h : (BitVec.ofInt 64 (x : Int) &&& BitVec.ofInt 64 (y : Int)).toNat = x &&& y := by
    rw [BitVec.toNat_and, BitVec.ofInt_natCast, BitVec.ofInt_natCast, BitVec.toNat_ofNat, BitVec.toNat_ofNat, Nat.mod_eq_of_lt (by omega), Nat.mod_eq_of_lt (by omega)]
  have hl : x &&& y ≤ x := Nat.and_le_left
  show IntKind.i64.wrap (((BitVec.ofInt 64 (x : Int) &&& BitVec.ofInt 64 (y : Int)).toNat : Nat) : Int) = _
  rw [h, i64_in (by omega) (by omega)]
theorem masks : maskN 85 8 = 6148914691236517205 ∧ maskN 51 8 = 3689348814741910323 ∧ maskN 15 8 = 1085102592571150095 := by decide +kernel
theorem S1_lt (x : Nat) (hx : x < 2 ^ 64) : S1 8 x < 2 ^ 64 ∧ (IntKind.u64.wrap ((Go.bits .and .u64 ((x : Int) / 2) 6148914691236517205) + (Go.bits .and .u64 (x : Int) 6148914691236517205))) = ((S1 8 x : Nat) : Int) := by
  have e2 : ((x : Int) / 2) = ((x / 2 : Nat) : Int) := by omega
  have a1 := and_u64 (x / 2) 6148914691236517205 (by omega) (by omega)
  have a2 := and_u64 x 6148914691236517205 hx (by omega)
  have l1 : (x / 2) &&& 6148914691236517205 ≤ 6148914691236517205 := Nat.and_le_right
  have l2 : x &&& 6148914691236517205 ≤ 6148914691236517205 := Nat.and_le_right
  have es : S1 8 x = ((x / 2) &&& 6148914691236517205) + (x &&& 6148914691236517205) := by unfold S1; rw [masks.1]
  rw [es, e2]
  refine ⟨by omega, ?_⟩
  rw [show (6148914691236517205 : Int) = ((6148914691236517205 : Nat) : Int) from rfl, a1, a2, u64_in (by omega) (by omega)]
  omega
theorem S2_lt (x : Nat) (hx : x < 2 ^ 64) : S2 8 x < 2 ^ 63 ∧ (IntKind.u64.wrap ((Go.bits .and .u64 ((x : Int) / 4) 3689348814741910323) + (Go.bits .and .u64 (x : Int) 3689348814741910323))) = ((S2 8 x : Nat) : Int) := by
  have e2 : ((x : Int) / 4) = ((x / 4 : Nat) : Int) := by omega
  have a1 := and_u64 (x / 4) 3689348814741910323 (by omega) (by omega)
  have a2 := and_u64 x 3689348814741910323 hx (by omega)
  have l1 : (x / 4) &&& 3689348814741910323 ≤ 3689348814741910323 := Nat.and_le_right
  have l2 : x &&& 3689348814741910323 ≤ 3689348814741910323 := Nat.and_le_right
  have es : S2 8 x = ((x / 4) &&& 3689348814741910323) + (x &&& 3689348814741910323) := by unfold S2; rw [masks.2.1]
  rw [es, e2]
  refine ⟨by omega, ?_⟩
  rw [show (3689348814741910323 : Int) = ((3689348814741910323 : Nat) : Int) from rfl, a1, a2, u64_in (by omega) (by omega)]
  omega
theorem S3_eq (x : Nat) (hx : x < 2 ^ 63) : (Go.bits .and .u64 (IntKind.u64.wrap (((x : Int) / 16) + (x : Int))) 1085102592571150095) = ((S3 8 x : Nat) : Int) := by
  have e2 : ((x : Int) / 16) + (x : Int) = ((x / 16 + x : Nat) : Int) := by omega
  have a1 := and_u64 (x / 16 + x) 1085102592571150095 (by omega) (by omega)
  have es : S3 8 x = ((x / 16 + x) &&& 1085102592571150095) := by unfold S3; rw [masks.2.2]
  rw [es, e2, u64_in (by omega) (by omega), show (1085102592571150095 : Int) = ((1085102592571150095 : Nat) : Int) from rfl, a1]
def fin64 (y : Int) : Int := Go.bits .and .i64 (wrap64 (IntKind.u64.wrap ((IntKind.u64.wrap ((IntKind.u64.wrap (y + (y / 256))) + ((IntKind.u64.wrap (y + (y / 256))) / 65536))) + ((IntKind.u64.wrap ((IntKind.u64.wrap (y + (y / 256))) + ((IntKind.u64.wrap (y + (y / 256))) / 65536))) / 4294967296)))) 127
theorem ones_f (x : Nat) (hx : x < 2 ^ 64) : bits_OnesCount64.f (x : Int) = some (fin64 ((PP 8 x : Nat) : Int)) := by
  obtain ⟨b1, h1⟩ := S1_lt x hx
  obtain ⟨b2, h2⟩ := S2_lt (S1 8 x) b1
  have h3 := S3_eq (S2 8 (S1 8 x)) b2
  unfold bits_OnesCount64.f
  simp only [h1, h2, h3]
  rfl
def packL : List Nat → Nat
  | [] => 0
  | p :: l => p + 256 * packL l
def sumL : List Nat → Nat
  | [] => 0
  | p :: l => p + sumL l
theorem pp_list (n : Nat) : ∀ x : Nat, x < 256 ^ n → ∃ l : List Nat, l.length = n ∧ (∀ p ∈ l, p ≤ 8) ∧ PP n x = packL l ∧ pcF (8 * n) x = sumL l := by
  induction n with
  | zero => intro x _; exact ⟨[], rfl, by simp, by simp [PP, S3, maskN, packL], rfl⟩
  | succ n ih =>
    intro x h
    have hx : x / 256 < 256 ^ n := by rw [Nat.pow_succ] at h; omega
    obtain ⟨l, h1, h2, h3, h4⟩ := ih (x / 256) hx
    refine ⟨pc8 (x % 256) :: l, by simp [h1], ?_, ?_, ?_⟩
    · intro p hp
      rcases List.mem_cons.1 hp with rfl | hp
      · exact pc8_le _
      · exact h2 p hp
    · rw [PP_step n x h, h3, packL]
    · rw [Nat.mul_succ, pcF_8, h4, sumL]
theorem fs_4 (y A T : Nat) (hA : y / 256 = A) (h : y + A = T) (hT : T < 9223372036854775808) : (IntKind.u64.wrap ((y : Int) + ((y : Int) / 256))) = (T : Int) := by
  have e : (y : Int) / 256 = (A : Int) := by omega
  have e2 : (y : Int) + (A : Int) = (T : Int) := by omega
  rw [e, e2, u64_in (by omega) (by omega)]
theorem fs_5 (y A T : Nat) (hA : y / 65536 = A) (h : y + A = T) (hT : T < 9223372036854775808) : (IntKind.u64.wrap ((y : Int) + ((y : Int) / 65536))) = (T : Int) := by
  have e : (y : Int) / 65536 = (A : Int) := by omega
  have e2 : (y : Int) + (A : Int) = (T : Int) := by omega
  rw [e, e2, u64_in (by omega) (by omega)]
theorem fs_6 (y A T : Nat) (hA : y / 4294967296 = A) (h : y + A = T) (hT : T < 9223372036854775808) : wrap64 (IntKind.u64.wrap ((y : Int) + ((y : Int) / 4294967296))) = (T : Int) := by
  have e : (y : Int) / 4294967296 = (A : Int) := by omega
  have e2 : (y : Int) + (A : Int) = (T : Int) := by omega
  rw [e, e2, u64_in (by omega) (by omega), wrap64_in (by omega) (by omega)]
theorem fs_127 (y s K : Nat) (h : y = s + 256 * K) (hs : s ≤ 64) (hy : y < 9223372036854775808) : Go.bits .and .i64 (y : Int) 127 = (s : Int) := by
  rw [show (127 : Int) = ((127 : Nat) : Int) from rfl, and_i64 y 127 (by omega) (by omega), show (127 : Nat) = 2 ^ 7 - 1 from rfl, Nat.and_two_pow_sub_one_eq_mod]
  omega
theorem fs_d1 (p0 A y : Nat) (h : y = p0 + 256 * A) (hp : p0 ≤ 8) : y / 256 = A := by omega
theorem fs_d4 (L R y : Nat) (h : y = L + 65536 * R) (hp : L < 65536) : y / 65536 = R := by omega
theorem fs_d5 (L R y : Nat) (h : y = L + 4294967296 * R) (hp : L < 4294967296) : y / 4294967296 = R := by omega
theorem fin_sum (y p0 p1 p2 p3 p4 p5 p6 p7 : Nat) (hp : p0 ≤ 8 ∧ p1 ≤ 8 ∧ p2 ≤ 8 ∧ p3 ≤ 8 ∧ p4 ≤ 8 ∧ p5 ≤ 8 ∧ p6 ≤ 8 ∧ p7 ≤ 8) (h : y = p0 + 256 * (p1 + 256 * (p2 + 256 * (p3 + 256 * (p4 + 256 * (p5 + 256 * (p6 + 256 * p7))))))) :
    fin64 (y : Int) = ((p0 + (p1 + (p2 + (p3 + (p4 + (p5 + (p6 + p7)))))) : Nat) : Int) := by
  have d1 := fs_d1 _ _ _ h hp.1
  have e4 := fs_4 y _ ((p0 + p1 + 256 * (p1 + p2)) + 65536 * ((p2 + p3 + 256 * (p3 + p4)) + 65536 * ((p4 + p5 + 256 * (p5 + p6)) + 65536 * (p6 + p7 + 256 * p7)))) d1 (by clear d1; omega) (by clear d1 h; omega)
  clear d1 h
  have d4 := fs_d4 (p0 + p1 + 256 * (p1 + p2)) ((p2 + p3 + 256 * (p3 + p4)) + 65536 * ((p4 + p5 + 256 * (p5 + p6)) + 65536 * (p6 + p7 + 256 * p7))) _ rfl (by omega)
  have e5 := fs_5 _ _ (((p0 + p1 + 256 * (p1 + p2)) + (p2 + p3 + 256 * (p3 + p4)) + 65536 * ((p2 + p3 + 256 * (p3 + p4)) + (p4 + p5 + 256 * (p5 + p6)))) + 4294967296 * ((p4 + p5 + 256 * (p5 + p6)) + (p6 + p7 + 256 * p7) + 65536 * (p6 + p7 + 256 * p7))) d4 (by clear d4 e4; omega) (by clear d4 e4; omega)
  clear d4
  have d5 := fs_d5 ((p0 + p1 + 256 * (p1 + p2)) + (p2 + p3 + 256 * (p3 + p4)) + 65536 * ((p2 + p3 + 256 * (p3 + p4)) + (p4 + p5 + 256 * (p5 + p6)))) ((p4 + p5 + 256 * (p5 + p6)) + (p6 + p7 + 256 * p7) + 65536 * (p6 + p7 + 256 * p7)) _ rfl (by clear e4 e5; omega)
  have e6 := fs_6 _ _ ((p0 + (p1 + (p2 + (p3 + (p4 + (p5 + (p6 + p7))))))) + 256 * ((p1 + p2 + p3 + p4 + p5 + p6 + p7) + 256 * ((p2 + p3 + 256 * (p3 + p4)) + (p4 + p5 + 256 * (p5 + p6)) + (p6 + p7 + 256 * p7)) + 16777216 * ((p4 + p5 + 256 * (p5 + p6)) + (p6 + p7 + 256 * p7) + 65536 * (p6 + p7 + 256 * p7)))) d5 (by clear d5 e4 e5; omega) (by clear d5 e4 e5; omega)
  clear d5
  have e7 := fs_127 _ (p0 + (p1 + (p2 + (p3 + (p4 + (p5 + (p6 + p7))))))) _ (rfl : _ = _ + 256 * ((p1 + p2 + p3 + p4 + p5 + p6 + p7) + 256 * ((p2 + p3 + 256 * (p3 + p4)) + (p4 + p5 + 256 * (p5 + p6)) + (p6 + p7 + 256 * p7)) + 16777216 * ((p4 + p5 + 256 * (p5 + p6)) + (p6 + p7 + 256 * p7) + 65536 * (p6 + p7 + 256 * p7)))) (by clear e4 e5 e6; omega) (by clear e4 e5 e6; omega)
  unfold fin64
  rw [e4, e5, e6, e7]
theorem fin_eq (x f : Nat) (hf : f = 8 * 8) (hx : x < 2 ^ 64) : fin64 ((PP 8 x : Nat) : Int) = ((pcF f x : Nat) : Int) := by
  obtain ⟨l, h1, h2, h3, h4⟩ := pp_list 8 x (by omega)
  rw [hf, h4, h3]
  match l, h1, h2 with
  | [p0, p1, p2, p3, p4, p5, p6, p7], _, h2 =>
    have b : ∀ p ∈ [p0, p1, p2, p3, p4, p5, p6, p7], p ≤ 8 := h2
    have r := fin_sum (packL [p0, p1, p2, p3, p4, p5, p6, p7]) p0 p1 p2 p3 p4 p5 p6 p7 ⟨b _ (by simp), b _ (by simp), b _ (by simp), b _ (by simp), b _ (by simp), b _ (by simp), b _ (by simp), b _ (by simp)⟩ (by simp [packL])
    rw [r]
    simp [sumL]
theorem pcF_zero (f : Nat) : pcF f 0 = 0 := by
  induction f with
  | zero => rfl
  | succ f ih => rw [pcF, ih]
def bump (y : List Int) : List Int := y.set (wrap64 ((y.length : Int) - 1)).toNat (wrap64 ((rd y (wrap64 ((y.length : Int) - 1))) + 1))
theorem bump_length (y : List Int) : (bump y).length = y.length := by unfold bump; rw [List.length_set]
theorem last_in (y : List Int) (h0 : 0 < y.length) (h1 : y.length ≤ 2000000) : 0 ≤ wrap64 ((y.length : Int) - 1) ∧ wrap64 ((y.length : Int) - 1) < (y.length : Int) := by
  rw [wrap64_in (by omega) (by omega)]; omega
theorem bt_strOf (r : List Int) (hr : bitsL r) (j : Nat) (h : j < r.length) : bt (strOfNums r) (j : Int) = rd r (j : Int) := by
  have h2 : j < (strOfNums r).data.toList.length := by rw [strOfNums_data, List.length_map]; exact h
  rw [bt_l _ j h2, rd_get _ _ h]
  have e : (strOfNums r).data.toList[j] = UInt8.ofNat r[j].toNat := by simp [strOfNums_data]
  rw [e]
  rcases hr _ (List.getElem_mem h) with q | q <;> rw [q] <;> decide
theorem rd_bit (r : List Int) (hr : bitsL r) (j : Nat) (h : j < r.length) : rd r (j : Int) = 48 ∨ rd r (j : Int) = 49 := by
  rw [rd_get _ _ h]; exact hr _ (List.getElem_mem h)
/-- The number of the first j bits. -/
def nJ (r : List Int) : Nat → Nat
  | 0 => 0
  | j + 1 => 2 * nJ r j + (rd r (j : Int) - 48).toNat
theorem nJ_lt (r : List Int) (hr : bitsL r) : ∀ j, j ≤ r.length → nJ r j < 2 ^ j := by
  intro j
  induction j with
  | zero => intro _; show (0 : Nat) < 2 ^ 0; decide
  | succ j ih =>
    intro h
    have h1 := ih (by omega)
    have h2 : (rd r (j : Int) - 48).toNat ≤ 1 := by rcases rd_bit r hr j (by omega) with q | q <;> rw [q] <;> decide
    rw [nJ, Nat.pow_succ]
    omega
theorem number_loop (r : List Int) (hr : bitsL r) (hl : r.length ≤ 60) (d : Nat) : ∀ j : Nat, j + d = r.length →
    Ev (fun k => impl_number.l0 k (strOfNums r) ((nJ r j : Nat) : Int) (r.length : Int) (j : Int)) ((nJ r r.length : Nat) : Int) := by
  have hs := size_strOf r
  induction d with
  | zero => intro j h; exact ev_one (fun k => by rw [impl_number.l0, if_neg (by omega)]; rw [show j = r.length by omega])
  | succ d ih =>
    intro j h
    have hw := wrap_succ (j := j) (n := r.length) (by omega) (by omega)
    have hb := bt_strOf r hr j (by omega)
    have h1 := nJ_lt r hr j (by omega)
    have h2 : 2 ^ j ≤ 2 ^ 59 := Nat.pow_le_pow_right (by decide) (by omega)
    have h3 : (2 : Nat) ^ 59 = 576460752303423488 := by decide
    have e : wrap64 (wrap64 (2 * ((nJ r j : Nat) : Int)) + ((bt (strOfNums r) (j : Int)) - 48) % 256) = ((nJ r (j + 1) : Nat) : Int) := by
      rw [hb, nJ]
      rcases rd_bit r hr j (by omega) with q | q <;> rw [q]
      · rw [wrap64_in (x := 2 * _) (by omega) (by omega), wrap64_in (by omega) (by omega)]; omega
      · rw [wrap64_in (x := 2 * _) (by omega) (by omega), wrap64_in (by omega) (by omega)]; omega
    exact Ev.step (fun k => by rw [impl_number.l0, if_pos (by omega), if_pos (by omega), if_pos (by omega), e, hw]) (ih (j + 1) (by omega))
theorem numberOf_ev (r : List Int) (hr : bitsL r) (hl : r.length ≤ 60) : Ev (fun k => impl_NumberOfBits.f k (strOfNums r)) (((nJ r r.length : Nat) : Int), true) := by
  have hs := size_strOf r
  unfold impl_NumberOfBits.f
  refine ev_neg (by omega) (ev_to (areBits_f _ (by omega)) ?_)
  rw [areB_strOf r hr]
  refine ev_pos rfl (Ev.bind (f := fun k t => some (t, true)) ?_ (Ev.now _))
  have := number_loop r hr hl r.length 0 (by omega)
  unfold impl_number.f
  rw [hs]
  exact this
/-- A number's digits are the bits that it was made of. -/
theorem nJ_div (r : List Int) (j i : Nat) (hr : bitsL r) (h : j + i ≤ r.length) : nJ r (j + i) / 2 ^ i = nJ r j := by
  induction i with
  | zero => simp
  | succ i ih =>
    have h2 : (rd r ((j + i : Nat) : Int) - 48).toNat ≤ 1 := by rcases rd_bit r hr (j + i) (by omega) with q | q <;> rw [q] <;> decide
    rw [show j + (i + 1) = (j + i) + 1 by omega, nJ, Nat.pow_succ, Nat.mul_comm (2 ^ i) 2, ← Nat.div_div_eq_div_mul]
    rw [show (2 * nJ r (j + i) + (rd r ((j + i : Nat) : Int) - 48).toNat) / 2 = nJ r (j + i) by omega]
    exact ih (by omega)
theorem digs_nJ (r : List Int) (hr : bitsL r) (d : Nat) (h : d ≤ r.length) : digs ((nJ r r.length : Nat) : Int) d = r.drop (r.length - d) := by
  induction d with
  | zero => rw [Nat.sub_zero, List.drop_length]; rfl
  | succ d ih =>
    have h3 : r.length - (d + 1) < r.length := by omega
    rw [digs, ih (by omega), drop_cons r _ h3, show r.length - (d + 1) + 1 = r.length - d by omega]
    congr 1
    have e := nJ_div r (r.length - d) d hr (by omega)
    rw [show r.length - d + d = r.length by omega] at e
    have e2 : ((nJ r r.length : Nat) : Int) / 2 ^ d = ((nJ r (r.length - d) : Nat) : Int) := by
      rw [← e]; push_cast; rfl
    rw [e2, show r.length - d = (r.length - (d + 1)) + 1 by omega, nJ, ← rd_get _ _ h3]
    rcases rd_bit r hr _ h3 with q | q <;> rw [q] <;> omega
theorem bitsOf_back (r : List Int) (hr : bitsL r) (hl : r.length ≤ 60) : Ev (fun k => impl_BitsOf.f k ((nJ r r.length : Nat) : Int) (r.length : Int)) (strOfNums r, true) := by
  have h1 := nJ_lt r hr r.length (Nat.le_refl _)
  have h2 : 2 ^ r.length ≤ 2 ^ 60 := Nat.pow_le_pow_right (by decide) (by omega)
  have h3 : (2 : Nat) ^ 60 = 1152921504606846976 := by decide
  have hs : shl .i64 1 (r.length : Int) = ((2 ^ r.length : Nat) : Int) := by rw [shl_one _ (by omega) (by omega), Int.toNat_natCast]; push_cast; rfl
  unfold impl_BitsOf.f
  refine ev_to (impl_in _ _ _) ?_
  rw [decide_eq_true (show (0 : Int) ≤ (r.length : Int) ∧ (r.length : Int) ≤ 60 by omega)]
  refine ev_pos rfl (ev_pos (by omega) (ev_to (impl_in _ _ _) ?_))
  rw [hs, wrap64_in (by omega) (by omega), decide_eq_true (by omega)]
  refine ev_pos rfl (Ev.bind (f := fun k t => some (t, true)) ?_ (Ev.now _))
  have := impl_digits_f ((nJ r r.length : Nat) : Int) (r.length : Int) (by omega) (by omega)
  rw [Int.toNat_natCast, digs_nJ r hr _ (Nat.le_refl _), Nat.sub_self, List.drop_zero] at this
  exact this

def cO (r : List Int) : Nat → Nat
  | 0 => 0
  | j + 1 => cO r j + if rd r (j : Int) = 49 then 1 else 0
def cB (r q : List Int) : Nat → Nat
  | 0 => 0
  | j + 1 => cB r q j + if rd r (j : Int) = 49 ∧ rd q (j : Int) = 49 then 1 else 0
def cC (r : List Int) : Nat → Nat
  | 0 => 0
  | j + 1 => cC r j + if j = 0 ∨ rd r (j : Int) ≠ rd r ((j : Int) - 1) then 1 else 0
theorem cO_le (r : List Int) (j : Nat) : cO r j ≤ j := by induction j with | zero => exact Nat.le_refl _ | succ j ih => rw [cO]; split <;> omega
theorem cB_le (r q : List Int) (j : Nat) : cB r q j ≤ j := by induction j with | zero => exact Nat.le_refl _ | succ j ih => rw [cB]; split <;> omega
theorem cC_le (r : List Int) (j : Nat) : cC r j ≤ j := by induction j with | zero => exact Nat.le_refl _ | succ j ih => rw [cC]; split <;> omega
theorem count_ones (r : List Int) (hr : bitsL r) : ∀ j, j ≤ r.length → Lib.countByte ((strOfNums r).data.toList.take j) 49 = cO r j := by
  intro j
  induction j with
  | zero => intro _; rfl
  | succ j ih =>
    intro h
    have hj : j < (strOfNums r).data.toList.length := by rw [strOfNums_data, List.length_map]; omega
    have e : (strOfNums r).data.toList[j] = UInt8.ofNat r[j].toNat := by simp [strOfNums_data]
    rw [take_snoc' _ _ hj, cO, ← ih (by omega), e, rd_get _ _ (show j < r.length by omega)]
    unfold Lib.countByte
    rw [List.count_append]
    congr 1
    rcases hr _ (List.getElem_mem (show j < r.length by omega)) with q | q <;> rw [q] <;> decide
theorem onesOf_ev (r : List Int) (hr : bitsL r) (hl : r.length ≤ 400) : impl_OnesOf.f (strOfNums r) = some (((cO r r.length : Nat) : Int), true) := by
  have hs := size_strOf r
  have hi := isBits_f (strOfNums r) (by omega)
  have e : IB (strOfNums r) = true := by unfold IB; rw [areB_strOf r hr, decide_eq_true (by omega)]; rfl
  rw [e] at hi
  unfold impl_OnesOf.f strings_Count.f
  rw [hi, Option.bind_some, if_pos rfl, if_pos rfl, Option.bind_some]
  have := count_ones r hr r.length (Nat.le_refl _)
  rw [List.take_of_length_le (by rw [strOfNums_data, List.length_map]; exact Nat.le_refl _)] at this
  rw [this]
def sm : List Int → Int
  | [] => 0
  | x :: l => x + sm l
theorem sm_snoc (l : List Int) (x : Int) : sm (l ++ [x]) = sm l + x := by
  induction l with
  | nil => show x + 0 = 0 + x; omega
  | cons a l ih => show a + sm (l ++ [x]) = a + sm l + x; rw [ih]; omega
theorem sm_nonneg (l : List Int) (h : ∀ x ∈ l, 0 ≤ x) : 0 ≤ sm l := by
  induction l with
  | nil => exact Int.le_refl _
  | cons a l ih =>
    have h1 := h a (by simp)
    have h2 := ih (fun x hx => h x (by simp [hx]))
    show 0 ≤ a + sm l
    omega
theorem bump_snoc (o : List Int) (z : Int) (hl : o.length ≤ 1000000) (h0 : 0 ≤ z) (h1 : z ≤ 1000000) : bump (o ++ [z]) = o ++ [z + 1] := by
  have e1 : wrap64 (((o ++ [z]).length : Int) - 1) = (o.length : Int) := by rw [List.length_append, List.length_singleton, wrap64_in (by omega) (by omega)]; omega
  unfold bump
  rw [e1, Int.toNat_natCast]
  have e2 : rd (o ++ [z]) (o.length : Int) = z := by rw [rd_get _ _ (by simp)]; simp
  rw [e2, wrap64_in (by omega) (by omega), List.set_append_right _ _ (Nat.le_refl _), Nat.sub_self]
  rfl
theorem runs_loop (r : List Int) (hr : bitsL r) (hl : r.length ≤ 400) (d : Nat) : ∀ (j : Nat) (o : List Int) (z : Int), j + 1 + d = r.length → (∀ x ∈ o, 0 ≤ x) → 0 ≤ z → z ≤ j + 1 → sm o + z = j + 1 → o.length + 1 = cC r (j + 1) →
    ∃ y, Ev (fun k => impl_runLengths.l0 k (strOfNums r) (o ++ [z]) (r.length : Int) ((j + 1 : Nat) : Int)) y ∧ y.length = cC r r.length ∧ sm y = r.length ∧ (∀ x ∈ y, 0 ≤ x) := by
  have hs := size_strOf r
  induction d with
  | zero =>
    intro j o z h h1 h2 h2b h3 h4
    refine ⟨o ++ [z], ev_one (fun k => by rw [impl_runLengths.l0, if_neg (by omega)]), by rw [List.length_append, List.length_singleton, h4, show j + 1 = r.length by omega], by rw [sm_snoc]; omega, ?_⟩
    intro x hx
    rcases List.mem_append.1 hx with q | q
    · exact h1 x q
    · rw [List.mem_singleton.1 q]; exact h2
  | succ d ih =>
    intro j o z h h1 h2 h2b h3 h4
    have hol : o.length ≤ 400 := by have := cC_le r (j + 1); omega
    have hw := wrap_succ (j := j + 1) (n := r.length) (by omega) (by omega)
    have hm : wrap64 (((j + 1 : Nat) : Int) - 1) = (j : Int) := by rw [wrap64_in (by omega) (by omega)]; omega
    have b1 := bt_strOf r hr (j + 1) (by omega)
    have b0 := bt_strOf r hr j (by omega)
    have hc : cC r (j + 1 + 1) = cC r (j + 1) + if j + 1 = 0 ∨ rd r ((j + 1 : Nat) : Int) ≠ rd r (((j + 1 : Nat) : Int) - 1) then 1 else 0 := rfl
    have hjm : ((j + 1 : Nat) : Int) - 1 = (j : Int) := by omega
    rw [hjm] at hc
    by_cases c : rd r ((j + 1 : Nat) : Int) = rd r (j : Int)
    · obtain ⟨y, g1, g2⟩ := ih (j + 1) o (z + 1) (by omega) h1 (by omega) (by omega) (by omega) (by rw [hc, if_neg (fun q => q.elim (fun q => by omega) (fun q => q c))]; omega)
      obtain ⟨t1, t2⟩ := last_in (o ++ [z]) (by simp) (by simp; omega)
      refine ⟨y, Ev.step (fun k => ?_) g1, g2⟩
      rw [impl_runLengths.l0, if_pos (by omega), if_neg (by omega), if_pos (by omega), if_pos (by omega), hm, if_pos (by omega), if_pos (by omega), b1, b0, if_pos c, if_pos t1, if_pos t2, hw]
      show impl_runLengths.l0 k (strOfNums r) (bump (o ++ [z])) _ _ = _
      rw [bump_snoc o z (by omega) h2 (by omega)]
    · have hall : ∀ x ∈ o ++ [z], 0 ≤ x := by
        intro x hx
        rcases List.mem_append.1 hx with q | q
        · exact h1 x q
        · rw [List.mem_singleton.1 q]; exact h2
      obtain ⟨y, g1, g2⟩ := ih (j + 1) (o ++ [z]) 1 (by omega) hall (by omega) (by omega) (by rw [sm_snoc]; omega) (by rw [hc, if_pos (.inr c), List.length_append, List.length_singleton, h4])
      obtain ⟨t1, t2⟩ := last_in (o ++ [z] ++ [0]) (by simp) (by simp; omega)
      refine ⟨y, Ev.step (fun k => ?_) g1, g2⟩
      rw [impl_runLengths.l0, if_pos (by omega), if_neg (by omega), if_pos (by omega), if_pos (by omega), hm, if_pos (by omega), if_pos (by omega), b1, b0, if_neg c, if_pos (by simp; omega), Option.bind_some, if_pos t1, if_pos t2, hw]
      show impl_runLengths.l0 k (strOfNums r) (bump (o ++ [z] ++ [0])) _ _ = _
      rw [bump_snoc (o ++ [z]) 0 (by simp; omega) (by omega) (by omega)]
      rfl
theorem runs_ev (r : List Int) (hr : bitsL r) (hl : r.length ≤ 400) : ∃ y, Ev (fun k => impl_RunLengths.f k (strOfNums r)) (y, true) ∧ y.length = cC r r.length ∧ sm y = r.length ∧ (∀ x ∈ y, 0 ≤ x) := by
  have hs := size_strOf r
  have hi := isBits_f (strOfNums r) (by omega)
  have e : IB (strOfNums r) = true := by unfold IB; rw [areB_strOf r hr, decide_eq_true (by omega)]; rfl
  rw [e] at hi
  suffices h : ∃ y, Ev (fun k => impl_runLengths.f k (strOfNums r)) y ∧ y.length = cC r r.length ∧ sm y = r.length ∧ (∀ x ∈ y, 0 ≤ x) by
    obtain ⟨y, h1, h2⟩ := h
    refine ⟨y, ?_, h2⟩
    unfold impl_RunLengths.f
    exact ev_to hi (ev_pos rfl (Ev.bind (f := fun k t => some (t, true)) h1 (Ev.now _)))
  unfold impl_runLengths.f
  rw [hs]
  by_cases c : r.length = 0
  · exact ⟨[], ev_one (fun k => by rw [impl_runLengths.l0, if_neg (by omega)]), by rw [c]; rfl, by rw [c]; rfl, by intro x hx; cases hx⟩
  · obtain ⟨y, g1, g2⟩ := runs_loop r hr hl (r.length - 1) 0 [] 1 (by omega) (by intro x hx; cases hx) (by omega) (by omega) (by decide) (by rfl)
    obtain ⟨t1, t2⟩ := last_in [0] (by decide) (by decide)
    have hw := wrap_succ (j := 0) (n := r.length) (by omega) (by omega)
    refine ⟨y, Ev.step (fun k => ?_) g1, g2⟩
    rw [impl_runLengths.l0, if_pos (by omega), if_pos (by rfl), if_pos (by decide), Option.bind_some]
    rw [show (([] : List Int) ++ [0]) = [0] from rfl, if_pos t1, if_pos t2]
    show impl_runLengths.l0 k (strOfNums r) (bump ([] ++ [0])) _ _ = _
    rw [bump_snoc [] 0 (by decide) (by omega) (by omega), show wrap64 (0 + 1) = ((0 + 1 : Nat) : Int) from hw]
    rfl
theorem sum_loop (y : List Int) (h0 : ∀ x ∈ y, 0 ≤ x) (hy : y.length ≤ 1000) (ht : sm y ≤ 1000) (d : Nat) : ∀ (j : Nat) (acc : Int), j + d = y.length → 0 ≤ acc → acc + sm (y.drop j) = sm y → Ev (fun k => laws_b10Sum.l0 k y acc (j : Int)) (sm y) := by
  induction d with
  | zero =>
    intro j acc h h1 h2
    rw [List.drop_eq_nil_of_le (by omega)] at h2
    exact ev_one (fun k => by rw [laws_b10Sum.l0, if_neg (by omega), ← h2]; show some acc = some (acc + 0); rw [Int.add_zero])
  | succ d ih =>
    intro j acc h h1 h2
    have hj : j < y.length := by omega
    have hw := wrap_succ (j := j) (n := y.length) hj (by omega)
    rw [drop_cons _ _ hj] at h2
    have h3 : acc + (y[j] + sm (y.drop (j + 1))) = sm y := h2
    have h4 := h0 _ (List.getElem_mem hj)
    have h5 := sm_nonneg (y.drop (j + 1)) (fun x hx => h0 x (List.mem_of_mem_drop hx))
    have ew : wrap64 (acc + y[j]) = acc + y[j] := wrap64_in (by omega) (by omega)
    exact Ev.step (fun k => by rw [laws_b10Sum.l0, if_pos (by omega), if_pos (by omega), rd_get _ _ hj, ew, hw]) (ih (j + 1) (acc + y[j]) (by omega) (by omega) (by omega))
/-- The first j bits, turned. -/
theorem rev_loop (r : List Int) (hr : bitsL r) (hl : r.length ≤ 400) (j : Nat) : ∀ (acc : List Int), j ≤ r.length → acc.length + j ≤ 400 →
    Ev (fun k => impl_ReverseBits.l0 k (strOfNums r) acc ((j : Int) - 1)) (strOfNums (acc ++ (r.take j).reverse), true) := by
  have hs := size_strOf r
  induction j with
  | zero => intro acc _ _; exact ev_one (fun k => by rw [impl_ReverseBits.l0, if_neg (by omega)]; simp)
  | succ j ih =>
    intro acc h1 h2
    have ex : ((j + 1 : Nat) : Int) - 1 = (j : Int) := by omega
    have ew : wrap64 ((j : Int) - 1) = (j : Int) - 1 := wrap64_in (by omega) (by omega)
    have h := ih (acc ++ [rd r (j : Int)]) (by omega) (by simp; omega)
    have e : acc ++ (r.take (j + 1)).reverse = acc ++ [rd r (j : Int)] ++ (r.take j).reverse := by
      rw [take_snoc' _ _ (show j < r.length by omega), List.reverse_append, rd_get _ _ (show j < r.length by omega)]
      simp
    rw [ex, e]
    exact Ev.step (fun k => by rw [impl_ReverseBits.l0, if_pos (by omega), if_pos (by omega), if_pos (by omega), if_pos (by omega), bt_strOf r hr j (by omega), ew]) h
theorem reverse_ev (r : List Int) (hr : bitsL r) (hl : r.length ≤ 400) : Ev (fun k => impl_ReverseBits.f k (strOfNums r)) (strOfNums r.reverse, true) := by
  have hs := size_strOf r
  have hi := isBits_f (strOfNums r) (by omega)
  have e : IB (strOfNums r) = true := by unfold IB; rw [areB_strOf r hr, decide_eq_true (by omega)]; rfl
  rw [e] at hi
  unfold impl_ReverseBits.f
  refine ev_to hi (ev_pos rfl ?_)
  have ew : wrap64 (((strOfNums r).size : Int) - 1) = (r.length : Int) - 1 := by rw [hs, wrap64_in (by omega) (by omega)]
  rw [ew]
  have := rev_loop r hr hl r.length [] (Nat.le_refl _) (by simp; omega)
  rw [List.take_of_length_le (Nat.le_refl _), List.nil_append] at this
  exact this
/-- Where the first j bits differ. -/
def xT (r q : List Int) : Nat → List Int
  | 0 => []
  | j + 1 => xT r q j ++ [if rd r (j : Int) = rd q (j : Int) then 48 else 49]
theorem xT_length (r q : List Int) (j : Nat) : (xT r q j).length = j := by induction j with | zero => rfl | succ j ih => rw [xT, List.length_append, ih]; rfl
theorem xT_bits (r q : List Int) (j : Nat) : bitsL (xT r q j) := by
  induction j with
  | zero => intro x hx; cases hx
  | succ j ih =>
    intro x hx
    rcases List.mem_append.1 hx with p | p
    · exact ih x p
    · rw [List.mem_singleton.1 p]; split <;> simp
theorem xT_rd (r q : List Int) (n : Nat) : ∀ j, j < n → rd (xT r q n) (j : Int) = if rd r (j : Int) = rd q (j : Int) then 48 else 49 := by
  induction n with
  | zero => intro j h; omega
  | succ n ih =>
    intro j h
    rw [rd_nat, xT, List.getD_eq_getElem?_getD]
    by_cases c : j < n
    · rw [List.getElem?_append_left (by rw [xT_length]; exact c), ← List.getD_eq_getElem?_getD, ← rd_nat]
      exact ih j c
    · obtain rfl : j = n := by omega
      rw [List.getElem?_append_right (by rw [xT_length]; exact Nat.le_refl _), xT_length, Nat.sub_self]
      rfl
theorem xor_loop (r q : List Int) (hr : bitsL r) (hq : bitsL q) (hl : r.length ≤ 400) (he : q.length = r.length) (d : Nat) : ∀ j : Nat, j + d = r.length →
    Ev (fun k => impl_xorBits.l0 k (strOfNums r) (strOfNums q) ((xT r q j).map fun n => UInt8.ofNat n.toNat) (j : Int)) (strOfNums (xT r q r.length)) := by
  have hs := size_strOf r
  have hsq := size_strOf q
  induction d with
  | zero => intro j h; exact ev_one (fun k => by rw [impl_xorBits.l0, if_neg (by omega), show j = r.length by omega]; rfl)
  | succ d ih =>
    intro j h
    have hw := wrap_succ (j := j) (n := r.length) (by omega) (by omega)
    have b1 := bt_strOf r hr j (by omega)
    have b2 := bt_strOf q hq j (by omega)
    have hh := ih (j + 1) (by omega)
    rw [xT, List.map_append] at hh
    by_cases c : rd r (j : Int) = rd q (j : Int)
    · rw [if_pos c] at hh
      refine Ev.step (fun k => ?_) hh
      rw [impl_xorBits.l0, if_pos (by omega), if_pos (by omega), if_pos (by omega), b1, b2, c]
      rw [show (rd q (j : Int) != rd q (j : Int)) = false by simp]
      show ((some (⟨#[48]⟩ : ByteArray)).bind _) = _
      rw [Option.bind_some, if_pos (by rw [List.length_map, xT_length]; show j + 1 ≤ _; omega), hw]
      rfl
    · rw [if_neg c] at hh
      refine Ev.step (fun k => ?_) hh
      rw [impl_xorBits.l0, if_pos (by omega), if_pos (by omega), if_pos (by omega), b1, b2]
      rw [show (rd r (j : Int) != rd q (j : Int)) = true by simp [c]]
      show ((some (⟨#[49]⟩ : ByteArray)).bind _) = _
      rw [Option.bind_some, if_pos (by rw [List.length_map, xT_length]; show j + 1 ≤ _; omega), hw]
      rfl
theorem xor_ev (r q : List Int) (hr : bitsL r) (hq : bitsL q) (hl : r.length ≤ 400) (he : q.length = r.length) : Ev (fun k => impl_XorBits.f k (strOfNums r) (strOfNums q)) (strOfNums (xT r q r.length), true) := by
  have hs := size_strOf r
  have hsq := size_strOf q
  have hi := isBits_f (strOfNums r) (by omega)
  have e : IB (strOfNums r) = true := by unfold IB; rw [areB_strOf r hr, decide_eq_true (by omega)]; rfl
  rw [e] at hi
  have hj := isBits_f (strOfNums q) (by omega)
  have e2 : IB (strOfNums q) = true := by unfold IB; rw [areB_strOf q hq, decide_eq_true (by omega)]; rfl
  rw [e2] at hj
  unfold impl_XorBits.f
  exact ev_to hi (ev_pos rfl (ev_to hj (ev_pos rfl (ev_pos (by omega) (Ev.bind (f := fun k t => some (t, true)) (xor_loop r q hr hq hl he r.length 0 (by omega)) (Ev.now _))))))
theorem and_two (x y p q : Nat) (hp : p ≤ 1) (hq : q ≤ 1) : (2 * x + p) &&& (2 * y + q) = 2 * (x &&& y) + (p &&& q) := by
  have h1 : ((2 * x + p) &&& (2 * y + q)) % 2 ^ 1 = (p &&& q) := by
    rw [Nat.and_mod_two_pow]
    congr 1 <;> omega
  have h2 : ((2 * x + p) &&& (2 * y + q)) / 2 ^ 1 = (x &&& y) := by
    rw [← Nat.shiftRight_eq_div_pow, Nat.shiftRight_and_distrib, Nat.shiftRight_eq_div_pow, Nat.shiftRight_eq_div_pow]
    congr 1 <;> omega
  omega
theorem pcF_and (r q : List Int) (hr : bitsL r) (hq : bitsL q) (he : q.length = r.length) : ∀ (j f : Nat), j ≤ r.length → j ≤ f → pcF f (nJ r j &&& nJ q j) = cB r q j := by
  intro j
  induction j with
  | zero =>
    intro f _ _
    show pcF f (0 &&& 0) = 0
    rw [Nat.and_zero]
    exact pcF_zero f
  | succ j ih =>
    intro f h1 h2
    obtain ⟨g, rfl⟩ : ∃ g, f = g + 1 := ⟨f - 1, by omega⟩
    have a1 := rd_bit r hr j (by omega)
    have a2 := rd_bit q hq j (by omega)
    have h3 := ih g (by omega) (by omega)
    have p1 : (rd r (j : Int) - 48).toNat ≤ 1 := by rcases a1 with p | p <;> rw [p] <;> decide
    have p2 : (rd q (j : Int) - 48).toNat ≤ 1 := by rcases a2 with p | p <;> rw [p] <;> decide
    rw [nJ, nJ, and_two _ _ _ _ p1 p2, cB, pcF]
    have hz : (rd r (j : Int) - 48).toNat &&& (rd q (j : Int) - 48).toNat = if rd r (j : Int) = 49 ∧ rd q (j : Int) = 49 then 1 else 0 := by
      rcases a1 with p | p <;> rcases a2 with p' | p' <;> rw [p, p'] <;> decide
    rw [hz]
    have hle : (if rd r (j : Int) = 49 ∧ rd q (j : Int) = 49 then 1 else 0) ≤ 1 := by split <;> omega
    generalize (if rd r (j : Int) = 49 ∧ rd q (j : Int) = 49 then 1 else 0) = z at hle ⊢
    rw [show (2 * (nJ r j &&& nJ q j) + z) / 2 = (nJ r j &&& nJ q j) by omega, h3]
    omega
theorem parityOf_ev (x y f : Nat) (hf : f = 8 * 8) (hx : x < 9223372036854775808) (hy : y < 9223372036854775808) : impl_ParityOf.f (x : Int) (y : Int) = some (((pcF f (x &&& y) % 2 : Nat) : Int), true) := by
  have hand := and_i64 x y (by omega) (by omega)
  have hl : x &&& y ≤ x := Nat.and_le_left
  obtain ⟨z, hz⟩ : ∃ z, z = x &&& y := ⟨_, rfl⟩
  rw [← hz] at hand hl ⊢
  unfold impl_ParityOf.f
  rw [if_neg (by omega), if_neg (by omega), hand, u64_in (by omega) (by omega), ones_f z (by omega), fin_eq z f hf (by omega), Option.bind_some, Int.tmod_eq_emod_of_nonneg (by omega)]
  rfl

theorem b10At_two (l : List Int) (hl : l.length ≤ 9223372036854775807) (hb : ∀ x ∈ l, (Lit.int .u8 x).wf = true) (j : Nat) (hj : j ≤ 1000) : ∃ v, laws_b10At.f l (j : Int) 2 = some v ∧ 0 ≤ v ∧ v ≤ 1 := by
  unfold laws_b10At.f
  rw [if_neg (by decide)]
  by_cases c : (j : Int) < (l.length : Int)
  · have hr := byte_of l hb (j : Int) (by omega) c
    rw [if_pos c, if_pos (by omega), if_neg (by decide), wrap64_in (by omega) (by omega)]
    have := tmod_in hr.1 (show (0 : Int) < 2 by decide)
    exact ⟨_, rfl, this.1, by omega⟩
  · rw [if_neg c, if_neg (by decide), wrap64_in (x := (j : Int) * 37) (by omega) (by omega), wrap64_in (by omega) (by omega)]
    have := tmod_in (show (0 : Int) ≤ (j : Int) * 37 + 11 by omega) (show (0 : Int) < 2 by decide)
    exact ⟨_, rfl, this.1, by omega⟩
theorem at_turned (r : List Int) (hr : bitsL r) (hl : r.length ≤ 40) (j : Nat) (hj : j < r.length) : wrap64 (wrap64 (((strOfNums r).size : Int) - 1) - (j : Int)) = ((r.length - 1 - j : Nat) : Int) ∧ bt (strOfNums r.reverse) ((r.length - 1 - j : Nat) : Int) = rd r (j : Int) := by
  have hrb : bitsL r.reverse := fun x hx => hr x (List.mem_reverse.1 hx)
  constructor
  · rw [size_strOf, wrap64_in (x := (r.length : Int) - 1) (by omega) (by omega), wrap64_in (by omega) (by omega)]; omega
  · rw [bt_strOf r.reverse hrb (r.length - 1 - j) (by rw [List.length_reverse]; omega), rd_get _ _ (by rw [List.length_reverse]; omega), rd_get _ _ hj, List.getElem_reverse]
    congr 1
    omega
theorem at_xor (r q : List Int) (hr : bitsL r) (j : Nat) (hj : j < r.length) : ((bt (strOfNums r) (j : Int) != rd q (j : Int)) != (bt (strOfNums (xT r q r.length)) (j : Int) == 49)) = false := by
  have b1 := bt_strOf r hr j hj
  have b3 := bt_strOf (xT r q r.length) (xT_bits _ _ _) j (by rw [xT_length]; exact hj)
  rw [xT_rd r q r.length j hj] at b3
  rw [b1, b3]
  by_cases c : rd r (j : Int) = rd q (j : Int)
  · rw [if_pos c, c]; simp
  · rw [if_neg c]; simp [c]
theorem inner_eq {α : Type} (r : List Int) (hr : bitsL r) (hl : r.length ≤ 40) (j : Nat) (hj : j < r.length) (G : Int → Int → α) (N : α) :
    (if (j : Int) = 0 then G (wrap64 (((cC r j : Nat) : Int) + 1)) (wrap64 ((j : Int) + 1)) else (if 0 ≤ (wrap64 ((j : Int) - 1)) then (if (wrap64 ((j : Int) - 1)) < ((strOfNums r).size : Int) then (if (bt (strOfNums r) (j : Int)) = (bt (strOfNums r) (wrap64 ((j : Int) - 1))) then G ((cC r j : Nat) : Int) (wrap64 ((j : Int) + 1)) else G (wrap64 (((cC r j : Nat) : Int) + 1)) (wrap64 ((j : Int) + 1))) else N) else N)) = G ((cC r (j + 1) : Nat) : Int) ((j + 1 : Nat) : Int) := by
  have hs := size_strOf r
  have b1 := bt_strOf r hr j hj
  have lC := cC_le r j
  have wC : wrap64 (((cC r j : Nat) : Int) + 1) = ((cC r j + 1 : Nat) : Int) := by rw [wrap64_in (by omega) (by omega)]; omega
  rw [wrap_succ (j := j) (n := r.length) hj (by omega), wC]
  clear wC
  by_cases j0 : j = 0
  · rw [if_pos (by omega), cC, if_pos (Or.inl j0)]
  · have b0 := bt_strOf r hr (j - 1) (by omega)
    rw [show ((j - 1 : Nat) : Int) = (j : Int) - 1 by omega] at b0
    rw [if_neg (by omega), wrap64_in (x := (j : Int) - 1) (by omega) (by omega), if_pos (by omega), if_pos (by omega), b0, b1, cC]
    by_cases c : rd r (j : Int) = rd r ((j : Int) - 1)
    · rw [if_pos c, if_neg (fun z => z.elim (fun z => j0 z) (fun z => z c))]; rfl
    · rw [if_neg c, if_pos (Or.inr c)]
theorem j3_step (r q : List Int) (hr : bitsL r) (hq : bitsL q) (he : q.length = r.length) (hl : r.length ≤ 40) (y : List Int) (p x12 : Int) (x14 x20 : ByteArray) (j : Nat) (hj : j < r.length) (k : Nat) :
    laws_FnBits.j3 (k + 1) (strOfNums r) y x12 x14 q x20 p ((cO r j : Nat) : Int) ((cB r q j : Nat) : Int) ((cC r j : Nat) : Int) (j : Int) false = laws_FnBits.l1 k (strOfNums r) y x12 x14 q x20 p ((cO r (j + 1) : Nat) : Int) ((cB r q (j + 1) : Nat) : Int) ((cC r (j + 1) : Nat) : Int) ((j + 1 : Nat) : Int) := by
  have hs := size_strOf r
  have b1 := bt_strOf r hr j hj
  have lO := cO_le r j
  have lB := cB_le r q j
  have wO : wrap64 (((cO r j : Nat) : Int) + 1) = ((cO r j + 1 : Nat) : Int) := by rw [wrap64_in (by omega) (by omega)]; omega
  have wB : wrap64 (((cB r q j : Nat) : Int) + 1) = ((cB r q j + 1 : Nat) : Int) := by rw [wrap64_in (by omega) (by omega)]; omega
  have hO := Aside0.mk wO
  have hB := Aside0.mk wB
  clear wO wB
  rw [laws_FnBits.j3, if_neg Bool.false_ne_true, if_pos (show (0 : Int) ≤ (j : Int) by omega), if_pos (show (j : Int) < ((strOfNums r).size : Int) by omega)]
  rcases rd_bit r hr j hj with a1 | a1
  · rw [if_neg (show ¬ bt (strOfNums r) (j : Int) = 49 by rw [b1, a1]; decide), cO, cB, if_neg (show ¬ rd r (j : Int) = 49 by rw [a1]; decide), if_neg (show ¬ (rd r (j : Int) = 49 ∧ rd q (j : Int) = 49) by rw [a1]; exact fun z => absurd z.1 (by decide))]
    exact inner_eq r hr hl j hj (fun c x => laws_FnBits.l1 k (strOfNums r) y x12 x14 q x20 p ((cO r j : Nat) : Int) ((cB r q j : Nat) : Int) c x) none
  · rw [if_pos (show bt (strOfNums r) (j : Int) = 49 by rw [b1, a1]), if_pos (show (j : Int) < (q.length : Int) by omega)]
    rcases rd_bit q hq j (by omega) with a2 | a2
    · rw [if_neg (show ¬ rd q (j : Int) = 49 by rw [a2]; decide), hO.out, cO, cB, if_pos a1, if_neg (show ¬ (rd r (j : Int) = 49 ∧ rd q (j : Int) = 49) by rw [a2]; exact fun z => absurd z.2 (by decide))]
      exact inner_eq r hr hl j hj (fun c x => laws_FnBits.l1 k (strOfNums r) y x12 x14 q x20 p ((cO r j + 1 : Nat) : Int) ((cB r q j : Nat) : Int) c x) none
    · rw [if_pos a2, hO.out, hB.out, cO, cB, if_pos a1, if_pos (show rd r (j : Int) = 49 ∧ rd q (j : Int) = 49 from ⟨a1, a2⟩)]
      exact inner_eq r hr hl j hj (fun c x => laws_FnBits.l1 k (strOfNums r) y x12 x14 q x20 p ((cO r j + 1 : Nat) : Int) ((cB r q j + 1 : Nat) : Int) c x) none
theorem law_loop (r q : List Int) (hr : bitsL r) (hq : bitsL q) (he : q.length = r.length) (hl : r.length ≤ 40) (y : List Int) (p : Int) (hy : y.length = cC r r.length) (hp : p = ((cB r q r.length % 2 : Nat) : Int)) (d : Nat) : ∀ j : Nat, j + d = r.length →
    Ev (fun k => laws_FnBits.l1 k (strOfNums r) y ((cO r r.length : Nat) : Int) (strOfNums r.reverse) q (strOfNums (xT r q r.length)) p ((cO r j : Nat) : Int) ((cB r q j : Nat) : Int) ((cC r j : Nat) : Int) (j : Int)) true := by
  have hs := size_strOf r
  have hsr : (strOfNums r.reverse).size = r.length := by rw [size_strOf, List.length_reverse]
  have hsx : (strOfNums (xT r q r.length)).size = r.length := by rw [size_strOf, xT_length]
  induction d with
  | zero =>
    intro j h
    obtain rfl : j = r.length := by omega
    refine ev_one (fun k => ?_)
    rw [laws_FnBits.l1, if_neg (by omega), if_pos rfl, if_pos (by rw [hy]), hp, Int.tmod_eq_emod_of_nonneg (by omega)]
    simp
  | succ d ih =>
    intro j h
    have hj : j < r.length := by omega
    have b1 := bt_strOf r hr j hj
    obtain ⟨e4, b4⟩ := at_turned r hr hl j hj
    have t1 := at_xor r q hr j hj
    have g1 : (j : Int) < ((strOfNums r).size : Int) := by rw [hs]; omega
    have g2 : (j : Int) < (q.length : Int) := by omega
    have g3 : (j : Int) < ((strOfNums (xT r q r.length)).size : Int) := by rw [hsx]; omega
    have g4 : (0 : Int) ≤ ((r.length - 1 - j : Nat) : Int) := nat0 _
    have g5 : ((r.length - 1 - j : Nat) : Int) < ((strOfNums r.reverse).size : Int) := by rw [hsr]; omega
    exact Ev.step (fun k => by rw [laws_FnBits.l1, if_pos g1, if_pos (nat0 j), if_pos g2, if_pos g3, t1, if_neg Bool.false_ne_true, e4, if_pos g4, if_pos g5, b4, b1, show (rd r (j : Int) != rd r (j : Int)) = false by simp]) (Ev.step (j3_step r q hr hq he hl y p _ _ _ j hj) (ih (j + 1) (by omega)))
theorem draw_loop (l1 : List Int) (hl1 : l1.length ≤ 9223372036854775807) (hb1 : ∀ x ∈ l1, (Lit.int .u8 x).wf = true) (r y : List Int) (hr : bitsL r) (hl : r.length ≤ 40) (hy : y.length = cC r r.length) (hys : sm y = r.length) (hy0 : ∀ x ∈ y, 0 ≤ x) (d : Nat) : ∀ (j : Nat) (q : List Int), j + d = r.length → bitsL q → q.length = j →
    Ev (fun k => laws_FnBits.l0 k l1 (strOfNums r) ((nJ r r.length : Nat) : Int) true (strOfNums r) true y true ((cO r r.length : Nat) : Int) true (strOfNums r.reverse) true (strOfNums r) true q (j : Int)) true := by
  have hs := size_strOf r
  induction d with
  | zero =>
    intro j q h hq hql
    have he : q.length = r.length := by omega
    have h1 := nJ_lt r hr r.length (Nat.le_refl _)
    have h2 := nJ_lt q hq q.length (Nat.le_refl _)
    have h3 : 2 ^ r.length ≤ 2 ^ 40 := Nat.pow_le_pow_right (by decide) (by omega)
    have h4 : (2 : Nat) ^ 40 = 1099511627776 := by decide
    have h5 : 2 ^ q.length ≤ 2 ^ 40 := Nat.pow_le_pow_right (by decide) (by omega)
    obtain ⟨f, hf⟩ : ∃ f, f = 8 * 8 := ⟨_, rfl⟩
    have hp := parityOf_ev (nJ r r.length) (nJ q q.length) f hf (by omega) (by omega)
    have hpc := pcF_and r q hr hq he r.length f (Nat.le_refl _) (by omega)
    rw [← he] at hpc
    rw [he] at hpc hp
    rw [hpc] at hp
    have hsum := sum_loop y hy0 (by have := cC_le r r.length; omega) (by omega) y.length 0 0 (by omega) (Int.le_refl _) (by rw [List.drop_zero, Int.zero_add])
    rw [hys] at hsum
    have hsx : (strOfNums (xT r q r.length)).size = r.length := by rw [size_strOf, xT_length]
    have hsr : (strOfNums r.reverse).size = r.length := by rw [size_strOf, List.length_reverse]
    have hlaw := law_loop r q hr hq he hl y _ hy rfl r.length 0 (by omega)
    have hnum := numberOf_ev q hq (by omega)
    rw [he] at hnum
    refine Ev.step (fun k => by rw [laws_FnBits.l0, if_neg (by omega)]) ?_
    refine Ev.bind (xor_ev r q hr hq (by omega) he) (Ev.bind hnum (ev_to hp ?_))
    refine ev_pos rfl (ev_pos rfl (ev_pos rfl (ev_pos rfl (ev_pos rfl (ev_pos rfl (ev_pos rfl (ev_pos rfl (ev_pos rfl (ev_pos rfl (ev_pos rfl (Ev.bind (f := fun k t => _) (show Ev (fun k => laws_b10Sum.f k y) (r.length : Int) from hsum) (ev_pos (by rw [hs]) (ev_pos (by rw [hsx, hs]) ?_)))))))))))))
    show Ev (fun k => laws_FnBits.j1 k (strOfNums r) y ((cO r r.length : Nat) : Int) (strOfNums r.reverse) q (strOfNums (xT r q r.length)) (((cB r q r.length % 2 : Nat) : Int)) (((strOfNums r.reverse).size : Int) != ((strOfNums r).size : Int))) true
    rw [hsr, hs, show ((r.length : Int) != (r.length : Int)) = false by simp]
    exact Ev.step (fun k => by rw [laws_FnBits.j1, if_neg Bool.false_ne_true]; rfl) hlaw
  | succ d ih =>
    intro j q h hq hql
    have hw := wrap_succ (j := j) (n := r.length) (by omega) (by omega)
    obtain ⟨v, ev, v0, v1⟩ := b10At_two l1 hl1 hb1 j (by omega)
    have ew : wrap64 (48 + v) % 256 = 48 + v := by rw [wrap64_in (by omega) (by omega)]; omega
    have hh := ih (j + 1) (q ++ [48 + v]) (by omega) (by
      intro x hx
      rcases List.mem_append.1 hx with p | p
      · exact hq x p
      · rw [List.mem_singleton.1 p]; omega) (by rw [List.length_append, hql]; rfl)
    exact Ev.step (fun k => by rw [laws_FnBits.l0, if_pos (by omega), ev, Option.bind_some, if_pos (by omega), ew, hw]) hh
theorem FnBits : laws_FnBits.Pure := by
  intro l0 l1 hl0 hb0 hl1 hb1
  apply Ev.rounds
  unfold laws_FnBits.f laws_b10Long.f
  by_cases c : (l0.length : Int) > 1048576
  · rw [if_pos c]; exact ev_some (ev_pos rfl (Ev.now _))
  rw [if_neg c]
  by_cases c2 : (l1.length : Int) > 1048576
  · rw [decide_eq_true c2]; exact ev_some (ev_pos rfl (Ev.now _))
  rw [decide_eq_false c2]
  refine ev_some (ev_neg Bool.false_ne_true ?_)
  obtain ⟨r, e1, hr, hl⟩ := b10Bits_ev l0 hl0 hb0
  have hs := size_strOf r
  obtain ⟨y, y1, y2, y3, y4⟩ := runs_ev r hr (by omega)
  have hrb : bitsL r.reverse := fun x hx => hr x (List.mem_reverse.1 hx)
  have hrr := reverse_ev r.reverse hrb (by rw [List.length_reverse]; omega)
  rw [List.reverse_reverse] at hrr
  refine Ev.bind e1 (Ev.bind (numberOf_ev r hr (by omega)) (Ev.bind (a := (strOfNums r, true)) ?_ (Ev.bind y1 (ev_to (onesOf_ev r hr (by omega)) (Ev.bind (reverse_ev r hr (by omega)) (Ev.bind hrr ?_))))))
  · rw [hs]; exact bitsOf_back r hr (by omega)
  · exact draw_loop l1 hl1 hb1 r y hr hl y2 y3 y4 r.length 0 [] (by omega) (by intro x hx; cases hx) rfl

end Go.Proofs.YtmnckflgmjgkaacDoor.Pure
