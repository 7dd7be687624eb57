/-
The plain law of FnExactFindBits: both look for the first place; conditions: those of the statement.
-/
import Derived.Test.YtmnckflgmjgkaabDoorQFnExactFindBitsx1
import Derived.Lib.IndexMore
namespace Go.Proofs.YtmnckflgmjgkaabDoor.Pure
open Go.RowKit Go.Proofs.YtmnckflgmjgkaabDoor.QFnExactFindBits Go.Proofs.YtmnckflgmjgkaabDoorW.PrintWords Go.Proofs.YtmnckflgmjgkaabDoorW.PrintLast Go.Proofs.YtmnckflgmjgkaabDoorW.PrintMore
set_option linter.unusedVariables false

theorem ev_one {α : Type} {g : Nat → Option α} {r : α} (h : ∀ k, g (k + 1) = some r) : Ev g r :=
  ⟨1, fun k hk => by obtain ⟨m, rfl⟩ : ∃ m, k = m + 1 := ⟨k - 1, by omega⟩; exact h m⟩
theorem wrap64_in {x : Int} (h0 : -9223372036854775808 ≤ x) (h1 : x ≤ 9223372036854775807) : wrap64 x = x := by
  unfold wrap64; omega
theorem u64_in {x : Int} (h0 : 0 ≤ x) (h1 : x ≤ 18446744073709551615) : IntKind.u64.wrap x = x := by
  simp [IntKind.wrap, IntKind.bits, IntKind.signed]; omega
theorem i64_in {x : Int} (h0 : -9223372036854775808 ≤ x) (h1 : x ≤ 9223372036854775807) : IntKind.i64.wrap x = x := by
  rw [IntKind.wrap_i64]; omega
theorem and_one (x : Int) : Go.bits .and .i64 x 1 = x % 2 := by
  have h : (BitVec.ofInt 64 x &&& BitVec.ofInt 64 1).toNat = (x % 2).toNat := by
    have e1 : BitVec.ofInt 64 1 = 1#64 := by decide
    rw [e1, BitVec.toNat_and, BitVec.toNat_ofInt]
    have e2 : (1#64).toNat = 1 := by decide
    rw [e2, Nat.and_one_is_mod]
    omega
  show IntKind.i64.wrap (((BitVec.ofInt 64 x &&& BitVec.ofInt 64 1).toNat : Nat) : Int) = x % 2
  rw [h, i64_in (by omega) (by omega)]
  omega
theorem wf_i64 {x : Int} (h : (Lit.int .i64 x).wf = true) : -9223372036854775808 ≤ x ∧ x ≤ 9223372036854775807 := by
  simp [Lit.wf, IntKind.min, IntKind.max, IntKind.signed, IntKind.bits] at h
  omega
theorem pow_pos_int (d : Nat) : (0 : Int) < 2 ^ d := Int.pow_pos (by decide)
theorem pow_le_int {a b : Nat} (h : a ≤ b) : (2 : Int) ^ a ≤ 2 ^ b := by
  have := Nat.pow_le_pow_right (n := 2) (by decide) h
  exact_mod_cast this

theorem ev_pos {α : Type} {c : Prop} [Decidable c] {g h : Nat → Option α} {r : α} (hc : c) (hg : Ev g r) : Ev (fun k => if c then g k else h k) r := by
  obtain ⟨K, hK⟩ := hg
  exact ⟨K, fun k hk => (if_pos hc).trans (hK k hk)⟩
theorem ev_neg {α : Type} {c : Prop} [Decidable c] {g h : Nat → Option α} {r : α} (hc : ¬ c) (hg : Ev h r) : Ev (fun k => if c then g k else h k) r := by
  obtain ⟨K, hK⟩ := hg
  exact ⟨K, fun k hk => (if_neg hc).trans (hK k hk)⟩
theorem ev_some {α β : Type} {f : Nat → α → Option β} {a : α} {r : β} (h : Ev (fun k => f k a) r) : Ev (fun k => (some a).bind (f k)) r := h
theorem ev_to {α β : Type} {x : Option α} {f : Nat → α → Option β} {a : α} {r : β} (e : x = some a) (h : Ev (fun k => f k a) r) : Ev (fun k => x.bind (f k)) r := by subst e; exact h
theorem ev_det {α : Type} {g : Nat → Option α} {r r' : α} (h : Ev g r) (h' : Ev g r') : r = r' := by
  obtain ⟨K, hK⟩ := h
  obtain ⟨K', hK'⟩ := h'
  have h1 := hK (max K K') (Nat.le_max_left _ _)
  have h2 := hK' (max K K') (Nat.le_max_right _ _)
  rw [h1] at h2
  exact Option.some.inj h2
theorem wrap_succ {j n : Nat} (h : j < n) (hn : n ≤ 9223372036854775807) : wrap64 ((j : Int) + 1) = ((j + 1 : Nat) : Int) := by
  rw [wrap64_in (by omega) (by omega)]; omega
theorem nat0 (j : Nat) : (0 : Int) ≤ (j : Int) := Int.natCast_nonneg j
theorem rd_nat (l : List Int) (j : Nat) : rd l (j : Int) = l.getD j 0 := by unfold rd; rw [Int.toNat_natCast]
theorem rd_get (l : List Int) (j : Nat) (h : j < l.length) : rd l (j : Int) = l[j] := by rw [rd_nat, List.getD_eq_getElem?_getD, List.getElem?_eq_getElem h]; rfl
theorem drop_cons {α : Type} (l : List α) (j : Nat) (h : j < l.length) : l.drop j = l[j] :: l.drop (j + 1) := List.drop_eq_getElem_cons h
theorem take_snoc' {α : Type} (l : List α) (j : Nat) (h : j < l.length) : l.take (j + 1) = l.take j ++ [l[j]] := List.take_succ_eq_append_getElem h
theorem set_take {α : Type} (acc : List α) (j : Nat) (x : α) (h : j < acc.length) : (acc.set j x).take (j + 1) = acc.take j ++ [x] := by
  rw [List.take_set, List.take_succ_eq_append_getElem h, List.set_append_right _ _ (by simp; omega)]
  have : (acc.take j).length = j := by rw [List.length_take]; omega
  rw [this, Nat.sub_self]
  rfl
theorem take_all {α : Type} {a b : List α} {n : Nat} (ha : a.length = n) (hb : b.length = n) (h : a.take n = b.take n) : a = b := by
  rw [List.take_of_length_le (by omega), List.take_of_length_le (by omega)] at h; exact h
theorem w01 : wrap64 (0 + 1) = 1 := by unfold wrap64; decide
theorem w11 : wrap64 (1 + 1) = 2 := by unfold wrap64; decide

theorem spec_in (a b c : Int) : spec_l00In.f a b c = some (decide (b ≤ a ∧ a ≤ c)) := by
  unfold spec_l00In.f
  by_cases h : a ≥ b
  · rw [if_pos h]; congr 1; have : b ≤ a := h; simp [this]
  · rw [if_neg h]; congr 1; have : ¬ b ≤ a := h; simp [this]
theorem impl_in (a b c : Int) : impl_within.f a b c = some (decide (b ≤ a ∧ a ≤ c)) := by
  unfold impl_within.f
  by_cases h : a ≥ b
  · rw [if_pos h]; congr 1; have : b ≤ a := h; simp [this]
  · rw [if_neg h]; congr 1; have : ¬ b ≤ a := h; simp [this]

def isBit (b : UInt8) : Bool := b.toNat == 48 || b.toNat == 49
def areB (l : List UInt8) : Bool := l.all isBit
theorem size_l (s : ByteArray) : s.size = s.data.toList.length := by rw [Array.length_toList]; rfl
theorem bt_l (s : ByteArray) (j : Nat) (h : j < s.data.toList.length) : bt s (j : Int) = ((s.data.toList[j].toNat : Nat) : Int) := by
  have h2 : ((j : Int)).toNat < s.size := by rw [Int.toNat_natCast, size_l]; exact h
  have h3 : j < s.data.size := by rw [Array.length_toList] at h; exact h
  have e : s[((j : Int)).toNat]'h2 = s.data[j] := rfl
  rw [← bt_at s j h2, e, Array.getElem_toList]
theorem cs_bit (b : UInt8) : ([48, 49] : List UInt8).contains b = isBit b := by
  have h1 : (b == 48) = (b.toNat == 48) := by rw [Bool.eq_iff_iff]; simp [← UInt8.toNat_inj]
  have h2 : (b == 49) = (b.toNat == 49) := by rw [Bool.eq_iff_iff]; simp [← UInt8.toNat_inj]
  unfold isBit
  rw [← h1, ← h2]
  show (match b == 48 with | true => true | false => (match b == 49 with | true => true | false => false)) = (b == 48 || b == 49)
  cases (b == 48) <;> cases (b == 49) <;> rfl
theorem drop_nil {p : UInt8 → Bool} (l : List UInt8) : l.dropWhile p = [] ↔ ∀ x ∈ l, p x = true := by
  induction l with
  | nil => simp
  | cons a t ih =>
    rw [List.dropWhile_cons]
    cases e : p a with
    | true => rw [if_pos rfl, ih]; simp [e]
    | false => rw [if_neg (by decide)]; simp [e]
theorem drop_all {p : UInt8 → Bool} (l : List UInt8) (h : (l.dropWhile p).all p = true) : l.all p = true := by
  induction l with
  | nil => rfl
  | cons a t ih =>
    rw [List.dropWhile_cons] at h
    cases e : p a with
    | true => rw [e, if_pos rfl] at h; rw [List.all_cons, e, ih h]; rfl
    | false => rw [e, if_neg (by decide)] at h; exact h
theorem trim_nil (l : List UInt8) : (Lib.trimS l [48, 49] == []) = areB l := by
  have e : (fun b => ([48, 49] : List UInt8).contains b) = isBit := funext cs_bit
  unfold Lib.trimS Lib.trimLeftS Lib.trimRightS areB
  rw [e]
  rw [Bool.eq_iff_iff, beq_iff_eq, drop_nil]
  constructor
  · intro h
    have h1 : (l.reverse.dropWhile isBit).all isBit = true := List.all_eq_true.2 (fun x hx => h x (List.mem_reverse.2 hx))
    have h2 := drop_all _ h1
    rw [List.all_reverse] at h2
    exact h2
  · intro h x hx
    have h3 := List.mem_reverse.1 hx
    have h4 : x ∈ l.reverse := (List.dropWhile_sublist _).subset h3
    exact List.all_eq_true.1 h x (List.mem_reverse.1 h4)

theorem specBits_loop (s : ByteArray) (hn : s.size ≤ 9223372036854775807) (d : Nat) : ∀ j : Nat, j + d = s.data.toList.length → Ev (fun k => spec_l01Bits.l0 k s (j : Int)) (areB (s.data.toList.drop j) && decide ((s.size : Int) ≤ 400)) := by
  have hs := size_l s
  induction d with
  | zero =>
    intro j h
    rw [List.drop_eq_nil_of_le (by omega)]
    exact ev_one (fun k => by rw [spec_l01Bits.l0, if_neg (by omega)]; rfl)
  | succ d ih =>
    intro j h
    have hj : j < s.data.toList.length := by omega
    have hb := bt_l s j hj
    have hw := wrap_succ hj (by omega)
    rw [drop_cons _ _ hj]
    unfold areB
    rw [List.all_cons]
    by_cases c1 : bt s (j : Int) = 48
    · have e : isBit s.data.toList[j] = true := by unfold isBit; have : s.data.toList[j].toNat = 48 := by omega
                                                   rw [this]; rfl
      rw [e, Bool.true_and]
      exact Ev.step (fun k => by rw [spec_l01Bits.l0, if_pos (by omega), if_pos (by omega), if_pos c1, hw]) (ih (j + 1) (by omega))
    · by_cases c2 : bt s (j : Int) = 49
      · have e : isBit s.data.toList[j] = true := by unfold isBit; have : s.data.toList[j].toNat = 49 := by omega
                                                     rw [this]; rfl
        rw [e, Bool.true_and]
        exact Ev.step (fun k => by rw [spec_l01Bits.l0, if_pos (by omega), if_pos (by omega), if_neg c1, if_pos c2, hw]) (ih (j + 1) (by omega))
      · have e : isBit s.data.toList[j] = false := by
          unfold isBit
          obtain ⟨n, hn⟩ : ∃ n, n = s.data.toList[j].toNat := ⟨_, rfl⟩
          rw [← hn] at hb ⊢
          have h1 : (n == 48) = false := beq_eq_false_iff_ne.2 (by omega)
          have h2 : (n == 49) = false := beq_eq_false_iff_ne.2 (by omega)
          rw [h1, h2]; rfl
        rw [e, Bool.false_and, Bool.false_and]
        exact ev_one (fun k => by rw [spec_l01Bits.l0, if_pos (by omega), if_pos (by omega), if_neg c1, if_neg c2])
def IB (s : ByteArray) : Bool := areB s.data.toList && decide ((s.size : Int) ≤ 400)
theorem specBits_ev (s : ByteArray) (hn : s.size ≤ 9223372036854775807) : Ev (fun k => spec_l01Bits.f k s) (IB s) := specBits_loop s hn s.data.toList.length 0 (by omega)

theorem areBits_f (s : ByteArray) (hn : s.size ≤ 9223372036854775807) : impl_areBits.f s = some (areB s.data.toList) := by
  unfold impl_areBits.f strings_Trim.f
  rw [if_pos ⟨rfl, hn⟩, Option.bind_some]
  have e : (⟨(Lib.trimS s.data.toList [48, 49]).toArray⟩ : ByteArray).toList = Lib.trimS s.data.toList [48, 49] := by
    rw [Lib.toList_data]
  rw [e, ← trim_nil]

theorem isBits_f (s : ByteArray) (hn : s.size ≤ 9223372036854775807) : impl_IsBits.f s = some (IB s) := by
  unfold impl_IsBits.f IB
  by_cases c : (s.size : Int) ≤ 400
  · rw [if_pos c, areBits_f s hn, decide_eq_true c, Bool.and_true]; rfl
  · rw [if_neg c, decide_eq_false c, Bool.and_false]

theorem take_prefix (t l : List UInt8) : (l.take t.length == t) = t.isPrefixOf l := by
  rw [Bool.eq_iff_iff, beq_iff_eq, List.isPrefixOf_iff_prefix, List.prefix_iff_eq_take]
  exact eq_comm
theorem occAt_short (s t : List UInt8) (j : Nat) (h : s.length < j + t.length) (ht : 0 < t.length) : Lib.occAt s t j = false := by
  unfold Lib.occAt
  rw [Bool.eq_false_iff, ne_eq, List.isPrefixOf_iff_prefix]
  intro q
  have := q.length_le
  rw [List.length_drop] at this
  omega
theorem extract_list (s : ByteArray) (i j : Nat) : (s.extract i j).toList = (s.data.toList.drop i).take (j - i) := by
  rw [Lib.toList_data, ByteArray.data_extract, Array.toList_extract, List.extract_eq_take_drop]
theorem specAt_f (s t : ByteArray) (j : Nat) (hj : j ≤ s.size) (hs : s.size ≤ 2305843009213693952) (ht : t.size ≤ 2305843009213693952) (h0 : 0 < t.size) : spec_l01At.f s t (j : Int) = some (Lib.occAt s.data.toList t.data.toList j) := by
  have hw : wrap64 ((j : Int) + (t.size : Int)) = ((j + t.size : Nat) : Int) := by rw [wrap64_in (by omega) (by omega)]; omega
  have es := size_l s
  have et := size_l t
  unfold spec_l01At.f
  rw [hw]
  by_cases c : j + t.size ≤ s.size
  · rw [if_pos (by omega), if_pos (by omega), if_pos (by omega), Int.toNat_natCast, Int.toNat_natCast, extract_list, Lib.toList_data, show j + t.size - j = t.data.toList.length by omega, take_prefix]
    rfl
  · rw [if_neg (by omega), occAt_short _ _ _ (by omega) (by omega)]
theorem occAt_drop (s t : List UInt8) (i j : Nat) : Lib.occAt (s.drop i) t j = Lib.occAt s t (i + j) := by
  unfold Lib.occAt
  rw [List.drop_drop]

theorem find_loop (s t : ByteArray) (hs : s.size ≤ 2305843009213693952) (ht : t.size ≤ 2305843009213693952) (h0 : 0 < t.size) (n : Nat) (hn : n ≤ s.size) (d : Nat) : ∀ j : Nat, j + d = n → (∀ i, j ≤ i → i < n → Lib.occAt s.data.toList t.data.toList i = false) →
    (n = s.size → Ev (fun k => spec_FindBits.l0 k s t (j : Int)) (0, false)) ∧ (n < s.size → Lib.occAt s.data.toList t.data.toList n = true → Ev (fun k => spec_FindBits.l0 k s t (j : Int)) ((n : Int), true)) := by
  induction d with
  | zero =>
    intro j h _
    obtain rfl : j = n := by omega
    refine ⟨fun e => ev_one (fun k => by rw [spec_FindBits.l0, if_neg (by omega)]), fun e ho => ev_one (fun k => ?_)⟩
    rw [spec_FindBits.l0, if_pos (by omega), specAt_f s t j (by omega) hs ht h0, ho, Option.bind_some, if_pos rfl]
  | succ d ih =>
    intro j h hno
    have hw := wrap_succ (j := j) (n := n) (by omega) (by omega)
    obtain ⟨a, b⟩ := ih (j + 1) (by omega) (fun i h1 h2 => hno i (by omega) h2)
    have st : ∀ k, spec_FindBits.l0 (k + 1) s t (j : Int) = spec_FindBits.l0 k s t ((j + 1 : Nat) : Int) := fun k => by
      rw [spec_FindBits.l0, if_pos (by omega), specAt_f s t j (by omega) hs ht h0, hno j (Nat.le_refl _) (by omega), Option.bind_some, if_neg Bool.false_ne_true, hw]
    exact ⟨fun e => Ev.step st (a e), fun e ho => Ev.step st (b e ho)⟩
/-- The least place from an index on, told by the library's own. -/
def findF (s t : ByteArray) (i : Nat) : Int × Bool := if Lib.index (s.data.toList.drop i) t.data.toList < 0 then (0, false) else ((i : Int) + Lib.index (s.data.toList.drop i) t.data.toList, true)
theorem specFind_from (s t : ByteArray) (hs : s.size ≤ 2305843009213693952) (ht : t.size ≤ 2305843009213693952) (h0 : 0 < t.size) (i : Nat) (hi : i ≤ s.size) : Ev (fun k => spec_FindBits.l0 k s t (i : Int)) (findF s t i) := by
  have es := size_l s
  have et := size_l t
  unfold findF
  rcases Lib.index_spec (s.data.toList.drop i) t.data.toList with ⟨e, hno⟩ | ⟨m, e, hm, ho, hno⟩
  · rw [e, if_pos (by decide)]
    refine (find_loop s t hs ht h0 s.size (Nat.le_refl _) (s.size - i) i (by omega) (fun j h1 h2 => ?_)).1 rfl
    have := hno (j - i) (by rw [List.length_drop]; omega)
    rw [occAt_drop, show i + (j - i) = j by omega] at this
    exact this
  · rw [e, if_neg (by omega)]
    have hr := Lib.index_room (s.data.toList.drop i) t.data.toList (by omega)
    rw [e, List.length_drop] at hr
    have := (find_loop s t hs ht h0 (i + m) (by omega) m i rfl (fun j h1 h2 => by
      have := hno (j - i) (by omega)
      rw [occAt_drop, show i + (j - i) = j by omega] at this
      exact this)).2 (by omega) (by rw [occAt_drop] at ho; exact ho)
    rw [show (i : Int) + (m : Int) = ((i + m : Nat) : Int) by omega]
    exact this
theorem implFind_from (s t : ByteArray) (hs : s.size ≤ 1000) (i : Nat) (hi : i ≤ s.size) : Ev (fun k => impl_FindBits.j0 k s t (i : Int) false) (findF s t i) := by
  have es := size_l s
  have hx : (s.extract i s.size).data.toList = s.data.toList.drop i := by
    rw [← Lib.toList_data, extract_list, List.take_of_length_le (by rw [List.length_drop]; omega)]
  have hge := Lib.index_ge (s.data.toList.drop i) t.data.toList
  have hle := Lib.index_le (s.data.toList.drop i) t.data.toList
  rw [List.length_drop] at hle
  refine ev_one (fun k => ?_)
  rw [impl_FindBits.j0, if_neg Bool.false_ne_true, if_pos (nat0 i), if_pos (by omega), Int.toNat_natCast]
  unfold strings_Index.f findF
  have hz : (s.extract i s.size).size ≤ s.size := by rw [ByteArray.size_extract]; omega
  rw [if_pos (by omega), Option.bind_some, hx]
  by_cases c : Lib.index (s.data.toList.drop i) t.data.toList < 0
  · rw [if_pos c, if_pos c]
  · rw [if_neg c, if_neg c, wrap64_in (by omega) (by omega)]
theorem empty_l (t : ByteArray) : t.toList = ([] : List UInt8) ↔ t.size = 0 := by
  rw [Lib.toList_data]
  have := size_l t
  constructor
  · intro h; rw [h] at this; exact this
  · intro h; exact List.eq_nil_of_length_eq_zero (by omega)
theorem findBits_both (s t : ByteArray) (a : Int) (hn : s.size ≤ 1048576) (hm : t.size ≤ 1048576) : ∃ r, Ev (fun k => spec_FindBits.f k s t a) r ∧ Ev (fun k => impl_FindBits.f k s t a) r := by
  have hs := specBits_ev s (by omega)
  have hi := isBits_f s (by omega)
  have hs2 := specBits_ev t (by omega)
  have hi2 := isBits_f t (by omega)
  have sno : Ev (fun k => spec_FindBits.j0 k s t a true) (0, false) := ev_one (fun k => by rw [spec_FindBits.j0, if_pos rfl])
  have ino : Ev (fun k => impl_FindBits.j0 k s t a true) (0, false) := ev_one (fun k => by rw [impl_FindBits.j0, if_pos rfl])
  unfold spec_FindBits.f impl_FindBits.f
  cases e : IB s with
  | false =>
    rw [e] at hs hi
    exact ⟨_, Ev.bind hs (ev_neg Bool.false_ne_true sno), ev_to hi (ev_neg Bool.false_ne_true ino)⟩
  | true =>
    rw [e] at hs hi
    have h400 : s.size ≤ 400 := by
      unfold IB at e
      rw [Bool.and_eq_true, decide_eq_true_iff] at e
      omega
    cases e2 : IB t with
    | false =>
      rw [e2] at hs2 hi2
      exact ⟨_, Ev.bind hs (ev_pos rfl (Ev.bind hs2 (ev_neg Bool.false_ne_true sno))), ev_to hi (ev_pos rfl (ev_to hi2 (ev_neg Bool.false_ne_true ino)))⟩
    | true =>
      rw [e2] at hs2 hi2
      by_cases c0 : t.size = 0
      · exact ⟨_, Ev.bind hs (ev_pos rfl (Ev.bind hs2 (ev_pos rfl (ev_pos (by omega) sno)))), ev_to hi (ev_pos rfl (ev_to hi2 (ev_pos rfl (ev_pos ((empty_l t).2 c0) ino))))⟩
      · by_cases ca : 0 ≤ a ∧ a ≤ (s.size : Int)
        · obtain ⟨i, rfl⟩ := Int.eq_ofNat_of_zero_le ca.1
          refine ⟨findF s t i, Ev.bind hs (ev_pos rfl (Ev.bind hs2 (ev_pos rfl (ev_neg (by omega) (ev_to (spec_in _ _ _) ?_))))), ev_to hi (ev_pos rfl (ev_to hi2 (ev_pos rfl (ev_neg (fun q => c0 ((empty_l t).1 q)) (ev_to (impl_in _ _ _) ?_)))))⟩
          · rw [decide_eq_true ca]
            exact Ev.step (fun k => by rw [spec_FindBits.j0, if_neg (by decide)]) (specFind_from s t (by omega) (by omega) (by omega) i (by omega))
          · rw [decide_eq_true ca]
            exact implFind_from s t (by omega) i (by omega)
        · refine ⟨(0, false), Ev.bind hs (ev_pos rfl (Ev.bind hs2 (ev_pos rfl (ev_neg (by omega) (ev_to (spec_in _ _ _) ?_))))), ev_to hi (ev_pos rfl (ev_to hi2 (ev_pos rfl (ev_neg (fun q => c0 ((empty_l t).1 q)) (ev_to (impl_in _ _ _) ?_)))))⟩
          · rw [decide_eq_false ca]; exact sno
          · rw [decide_eq_false ca]; exact ino
theorem FnExactFindBits : laws_FnExactFindBits.Pure := by
  intro s t a hn hm _
  apply Ev.rounds
  unfold laws_FnExactFindBits.f
  by_cases c : (s.size : Int) > 1048576
  · exact ev_pos c (Ev.now _)
  by_cases c2 : (t.size : Int) > 1048576
  · exact ev_neg c (ev_pos c2 (Ev.now _))
  obtain ⟨r, h1, h2⟩ := findBits_both s t a (by omega) (by omega)
  exact ev_neg c (ev_neg c2 (Ev.bind h1 (Ev.bind h2 (ev_pos rfl (ev_neg (by simp) (Ev.now _))))))

end Go.Proofs.YtmnckflgmjgkaabDoor.Pure
