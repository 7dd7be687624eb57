/-
The law FnExactXorBits answers true for every two texts; there are no conditions beside the row's own bounds.
-/
import Derived.Test.YtmnckflgmjgkaabDoorQFnExactXorBitsx2
namespace Go.Proofs.YtmnckflgmjgkaabDoor.Pure
open Go.RowKit Go.Proofs.YtmnckflgmjgkaabDoor.QFnExactXorBits Go.Proofs.YtmnckflgmjgkaabDoorW.PrintWords Go.Proofs.YtmnckflgmjgkaabDoorW.PrintLast Go.Proofs.YtmnckflgmjgkaabDoorW.PrintMore
set_option linter.unusedVariables false

theorem ev_one {α : Type} {g : Nat → Option α} {r : α} (h : ∀ k, g (k + 1) = some r) : Ev g r :=
  ⟨1, fun k hk => by obtain ⟨m, rfl⟩ : ∃ m, k = m + 1 := ⟨k - 1, by omega⟩; exact h m⟩
theorem wrap64_in {x : Int} (h0 : -9223372036854775808 ≤ x) (h1 : x ≤ 9223372036854775807) : wrap64 x = x := by
  unfold wrap64; omega
theorem u64_in {x : Int} (h0 : 0 ≤ x) (h1 : x ≤ 18446744073709551615) : IntKind.u64.wrap x = x := by
  simp [IntKind.wrap, IntKind.bits, IntKind.signed]; omega
theorem i64_in {x : Int} (h0 : -9223372036854775808 ≤ x) (h1 : x ≤ 9223372036854775807) : IntKind.i64.wrap x = x := by
  rw [IntKind.wrap_i64]; omega
theorem and_one (x : Int) : Go.bits .and .i64 x 1 = x % 2 := by
  have h : (BitVec.ofInt 64 x &&& BitVec.ofInt 64 1).toNat = (x % 2).toNat := by
    have e1 : BitVec.ofInt 64 1 = 1#64 := by decide
    rw [e1, BitVec.toNat_and, BitVec.toNat_ofInt]
    have e2 : (1#64).toNat = 1 := by decide
    rw [e2, Nat.and_one_is_mod]
    omega
  show IntKind.i64.wrap (((BitVec.ofInt 64 x &&& BitVec.ofInt 64 1).toNat : Nat) : Int) = x % 2
  rw [h, i64_in (by omega) (by omega)]
  omega
theorem wf_i64 {x : Int} (h : (Lit.int .i64 x).wf = true) : -9223372036854775808 ≤ x ∧ x ≤ 9223372036854775807 := by
  simp [Lit.wf, IntKind.min, IntKind.max, IntKind.signed, IntKind.bits] at h
  omega
theorem pow_pos_int (d : Nat) : (0 : Int) < 2 ^ d := Int.pow_pos (by decide)
theorem pow_le_int {a b : Nat} (h : a ≤ b) : (2 : Int) ^ a ≤ 2 ^ b := by
  have := Nat.pow_le_pow_right (n := 2) (by decide) h
  exact_mod_cast this

theorem ev_pos {α : Type} {c : Prop} [Decidable c] {g h : Nat → Option α} {r : α} (hc : c) (hg : Ev g r) : Ev (fun k => if c then g k else h k) r := by
  obtain ⟨K, hK⟩ := hg
  exact ⟨K, fun k hk => (if_pos hc).trans (hK k hk)⟩
theorem ev_neg {α : Type} {c : Prop} [Decidable c] {g h : Nat → Option α} {r : α} (hc : ¬ c) (hg : Ev h r) : Ev (fun k => if c then g k else h k) r := by
  obtain ⟨K, hK⟩ := hg
  exact ⟨K, fun k hk => (if_neg hc).trans (hK k hk)⟩
theorem ev_some {α β : Type} {f : Nat → α → Option β} {a : α} {r : β} (h : Ev (fun k => f k a) r) : Ev (fun k => (some a).bind (f k)) r := h
theorem ev_to {α β : Type} {x : Option α} {f : Nat → α → Option β} {a : α} {r : β} (e : x = some a) (h : Ev (fun k => f k a) r) : Ev (fun k => x.bind (f k)) r := by subst e; exact h
theorem ev_det {α : Type} {g : Nat → Option α} {r r' : α} (h : Ev g r) (h' : Ev g r') : r = r' := by
  obtain ⟨K, hK⟩ := h
  obtain ⟨K', hK'⟩ := h'
  have h1 := hK (max K K') (Nat.le_max_left _ _)
  have h2 := hK' (max K K') (Nat.le_max_right _ _)
  rw [h1] at h2
  exact Option.some.inj h2
theorem wrap_succ {j n : Nat} (h : j < n) (hn : n ≤ 9223372036854775807) : wrap64 ((j : Int) + 1) = ((j + 1 : Nat) : Int) := by
  rw [wrap64_in (by omega) (by omega)]; omega
theorem nat0 (j : Nat) : (0 : Int) ≤ (j : Int) := Int.natCast_nonneg j
theorem rd_nat (l : List Int) (j : Nat) : rd l (j : Int) = l.getD j 0 := by unfold rd; rw [Int.toNat_natCast]
theorem rd_get (l : List Int) (j : Nat) (h : j < l.length) : rd l (j : Int) = l[j] := by rw [rd_nat, List.getD_eq_getElem?_getD, List.getElem?_eq_getElem h]; rfl
theorem drop_cons {α : Type} (l : List α) (j : Nat) (h : j < l.length) : l.drop j = l[j] :: l.drop (j + 1) := List.drop_eq_getElem_cons h
theorem take_snoc' {α : Type} (l : List α) (j : Nat) (h : j < l.length) : l.take (j + 1) = l.take j ++ [l[j]] := List.take_succ_eq_append_getElem h
theorem set_take {α : Type} (acc : List α) (j : Nat) (x : α) (h : j < acc.length) : (acc.set j x).take (j + 1) = acc.take j ++ [x] := by
  rw [List.take_set, List.take_succ_eq_append_getElem h, List.set_append_right _ _ (by simp; omega)]
  have : (acc.take j).length = j := by rw [List.length_take]; omega
  rw [this, Nat.sub_self]
  rfl
theorem take_all {α : Type} {a b : List α} {n : Nat} (ha : a.length = n) (hb : b.length = n) (h : a.take n = b.take n) : a = b := by
  rw [List.take_of_length_le (by omega), List.take_of_length_le (by omega)] at h; exact h
theorem w01 : wrap64 (0 + 1) = 1 := by unfold wrap64; decide
theorem w11 : wrap64 (1 + 1) = 2 := by unfold wrap64; decide

def isBit (b : UInt8) : Bool := b.toNat == 48 || b.toNat == 49
def areB (l : List UInt8) : Bool := l.all isBit
theorem size_l (s : ByteArray) : s.size = s.data.toList.length := by rw [Array.length_toList]; rfl
theorem bt_l (s : ByteArray) (j : Nat) (h : j < s.data.toList.length) : bt s (j : Int) = ((s.data.toList[j].toNat : Nat) : Int) := by
  have h2 : ((j : Int)).toNat < s.size := by rw [Int.toNat_natCast, size_l]; exact h
  have h3 : j < s.data.size := by rw [Array.length_toList] at h; exact h
  have e : s[((j : Int)).toNat]'h2 = s.data[j] := rfl
  rw [← bt_at s j h2, e, Array.getElem_toList]
theorem cs_bit (b : UInt8) : ([48, 49] : List UInt8).contains b = isBit b := by
  have h1 : (b == 48) = (b.toNat == 48) := by rw [Bool.eq_iff_iff]; simp [← UInt8.toNat_inj]
  have h2 : (b == 49) = (b.toNat == 49) := by rw [Bool.eq_iff_iff]; simp [← UInt8.toNat_inj]
  unfold isBit
  rw [← h1, ← h2]
  show (match b == 48 with | true => true | false => (match b == 49 with | true => true | false => false)) = (b == 48 || b == 49)
  cases (b == 48) <;> cases (b == 49) <;> rfl
theorem drop_nil {p : UInt8 → Bool} (l : List UInt8) : l.dropWhile p = [] ↔ ∀ x ∈ l, p x = true := by
  induction l with
  | nil => simp
  | cons a t ih =>
    rw [List.dropWhile_cons]
    cases e : p a with
    | true => rw [if_pos rfl, ih]; simp [e]
    | false => rw [if_neg (by decide)]; simp [e]
theorem drop_all {p : UInt8 → Bool} (l : List UInt8) (h : (l.dropWhile p).all p = true) : l.all p = true := by
  induction l with
  | nil => rfl
  | cons a t ih =>
    rw [List.dropWhile_cons] at h
    cases e : p a with
    | true => rw [e, if_pos rfl] at h; rw [List.all_cons, e, ih h]; rfl
    | false => rw [e, if_neg (by decide)] at h; exact h
theorem trim_nil (l : List UInt8) : (Lib.trimS l [48, 49] == []) = areB l := by
  have e : (fun b => ([48, 49] : List UInt8).contains b) = isBit := funext cs_bit
  unfold Lib.trimS Lib.trimLeftS Lib.trimRightS areB
  rw [e]
  rw [Bool.eq_iff_iff, beq_iff_eq, drop_nil]
  constructor
  · intro h
    have h1 : (l.reverse.dropWhile isBit).all isBit = true := List.all_eq_true.2 (fun x hx => h x (List.mem_reverse.2 hx))
    have h2 := drop_all _ h1
    rw [List.all_reverse] at h2
    exact h2
  · intro h x hx
    have h3 := List.mem_reverse.1 hx
    have h4 : x ∈ l.reverse := (List.dropWhile_sublist _).subset h3
    exact List.all_eq_true.1 h x (List.mem_reverse.1 h4)

theorem specBits_loop (s : ByteArray) (hn : s.size ≤ 9223372036854775807) (d : Nat) : ∀ j : Nat, j + d = s.data.toList.length → Ev (fun k => spec_l01Bits.l0 k s (j : Int)) (areB (s.data.toList.drop j) && decide ((s.size : Int) ≤ 400)) := by
  have hs := size_l s
  induction d with
  | zero =>
    intro j h
    rw [List.drop_eq_nil_of_le (by omega)]
    exact ev_one (fun k => by rw [spec_l01Bits.l0, if_neg (by omega)]; rfl)
  | succ d ih =>
    intro j h
    have hj : j < s.data.toList.length := by omega
    have hb := bt_l s j hj
    have hw := wrap_succ hj (by omega)
    rw [drop_cons _ _ hj]
    unfold areB
    rw [List.all_cons]
    by_cases c1 : bt s (j : Int) = 48
    · have e : isBit s.data.toList[j] = true := by unfold isBit; have : s.data.toList[j].toNat = 48 := by omega
                                                   rw [this]; rfl
      rw [e, Bool.true_and]
      exact Ev.step (fun k => by rw [spec_l01Bits.l0, if_pos (by omega), if_pos (by omega), if_pos c1, hw]) (ih (j + 1) (by omega))
    · by_cases c2 : bt s (j : Int) = 49
      · have e : isBit s.data.toList[j] = true := by unfold isBit; have : s.data.toList[j].toNat = 49 := by omega
                                                     rw [this]; rfl
        rw [e, Bool.true_and]
        exact Ev.step (fun k => by rw [spec_l01Bits.l0, if_pos (by omega), if_pos (by omega), if_neg c1, if_pos c2, hw]) (ih (j + 1) (by omega))
      · have e : isBit s.data.toList[j] = false := by
          unfold isBit
          obtain ⟨n, hn⟩ : ∃ n, n = s.data.toList[j].toNat := ⟨_, rfl⟩
          rw [← hn] at hb ⊢
          have h1 : (n == 48) = false := beq_eq_false_iff_ne.2 (by omega)
          have h2 : (n == 49) = false := beq_eq_false_iff_ne.2 (by omega)
          rw [h1, h2]; rfl
        rw [e, Bool.false_and, Bool.false_and]
        exact ev_one (fun k => by rw [spec_l01Bits.l0, if_pos (by omega), if_pos (by omega), if_neg c1, if_neg c2])
def IB (s : ByteArray) : Bool := areB s.data.toList && decide ((s.size : Int) ≤ 400)
theorem specBits_ev (s : ByteArray) (hn : s.size ≤ 9223372036854775807) : Ev (fun k => spec_l01Bits.f k s) (IB s) := specBits_loop s hn s.data.toList.length 0 (by omega)

theorem areBits_f (s : ByteArray) (hn : s.size ≤ 9223372036854775807) : impl_areBits.f s = some (areB s.data.toList) := by
  unfold impl_areBits.f strings_Trim.f
  rw [if_pos ⟨rfl, hn⟩, Option.bind_some]
  have e : (⟨(Lib.trimS s.data.toList [48, 49]).toArray⟩ : ByteArray).toList = Lib.trimS s.data.toList [48, 49] := by
    rw [Lib.toList_data]
  rw [e, ← trim_nil]

theorem isBits_f (s : ByteArray) (hn : s.size ≤ 9223372036854775807) : impl_IsBits.f s = some (IB s) := by
  unfold impl_IsBits.f IB
  by_cases c : (s.size : Int) ≤ 400
  · rw [if_pos c, areBits_f s hn, decide_eq_true c, Bool.and_true]; rfl
  · rw [if_neg c, decide_eq_false c, Bool.and_false]

theorem bit_at {s : ByteArray} (hb : areB s.data.toList = true) (j : Nat) (hj : j < s.size) : bt s (j : Int) = 48 ∨ bt s (j : Int) = 49 := by
  have hs := size_l s
  have hj' : j < s.data.toList.length := by omega
  have hbt := bt_l s j hj'
  have := List.all_eq_true.1 hb _ (List.getElem_mem hj')
  unfold isBit at this
  rw [Bool.or_eq_true, beq_iff_eq, beq_iff_eq] at this
  omega
theorem xor_both (a b : ByteArray) (ha : areB a.data.toList = true) (hb : areB b.data.toList = true) (hs : a.size = b.size) (h4 : a.size ≤ 400) (d : Nat) : ∀ (j : Nat) (L : List Int), j + d = a.size → L.length = j →
    ∃ r, Ev (fun k => spec_l01Xor.l0 k a b L (j : Int)) r ∧ Ev (fun k => impl_xorBits.l0 k a b (L.map fun n => UInt8.ofNat n.toNat) (j : Int)) r := by
  induction d with
  | zero =>
    intro j L h hl
    exact ⟨strOfNums L, ev_one (fun k => by rw [spec_l01Xor.l0, if_neg (by omega)]), ev_one (fun k => by rw [impl_xorBits.l0, if_neg (by omega)]; rfl)⟩
  | succ d ih =>
    intro j L h hl
    have hw := wrap_succ (j := j) (n := a.size) (by omega) (by omega)
    have go : ∀ (v : Int) (t : ByteArray), Go.bits .xor .u8 ((48 + ((bt a (j : Int)) - 48)) % 256) (((bt b (j : Int)) - 48) % 256) = v → impl_bitOf.f (bt a (j : Int) != bt b (j : Int)) = some t → t.size = 1 → t.data.toList = [UInt8.ofNat v.toNat] →
        ∃ r, Ev (fun k => spec_l01Xor.l0 k a b L (j : Int)) r ∧ Ev (fun k => impl_xorBits.l0 k a b (L.map fun n => UInt8.ofNat n.toNat) (j : Int)) r := by
      intro v t e1 e2 e3 e4
      obtain ⟨r, r1, r2⟩ := ih (j + 1) (L ++ [v]) (by omega) (by simp; omega)
      rw [List.map_append, show ([v].map fun n : Int => UInt8.ofNat n.toNat) = t.data.toList from e4.symm] at r2
      refine ⟨r, Ev.step (fun k => ?_) r1, Ev.step (fun k => ?_) r2⟩
      · rw [spec_l01Xor.l0, if_pos (by omega), if_pos (by omega), if_pos (by omega), if_pos (by omega), e1, hw]
      · rw [impl_xorBits.l0, if_pos (by omega), if_pos (by omega), if_pos (by omega), e2, Option.bind_some, if_pos (by rw [List.length_map, e3]; omega), hw]
    rcases bit_at ha j (by omega) with x | x <;> rcases bit_at hb j (by omega) with y | y
    · exact go 48 ⟨#[48]⟩ (by rw [x, y]; decide) (by rw [x, y]; rfl) rfl rfl
    · exact go 49 ⟨#[49]⟩ (by rw [x, y]; decide) (by rw [x, y]; rfl) rfl rfl
    · exact go 49 ⟨#[49]⟩ (by rw [x, y]; decide) (by rw [x, y]; rfl) rfl rfl
    · exact go 48 ⟨#[48]⟩ (by rw [x, y]; decide) (by rw [x, y]; rfl) rfl rfl
theorem IB_parts {s : ByteArray} (h : IB s = true) : areB s.data.toList = true ∧ s.size ≤ 400 := by
  unfold IB at h
  rw [Bool.and_eq_true, decide_eq_true_iff] at h
  exact ⟨h.1, by omega⟩
theorem xorBits_both (a b : ByteArray) (h1 : a.size ≤ 9223372036854775807) (h2 : b.size ≤ 9223372036854775807) : ∃ r, Ev (fun k => spec_XorBits.f k a b) r ∧ Ev (fun k => impl_XorBits.f k a b) r := by
  have sa := specBits_ev a h1
  have sb := specBits_ev b h2
  have ia := isBits_f a h1
  have ib := isBits_f b h2
  unfold spec_XorBits.f impl_XorBits.f
  cases ea : IB a with
  | false =>
    rw [ea] at sa ia
    exact ⟨_, Ev.bind sa (ev_neg Bool.false_ne_true (Ev.now _)), ev_to ia (ev_neg Bool.false_ne_true (Ev.now _))⟩
  | true =>
    rw [ea] at sa ia
    cases eb : IB b with
    | false =>
      rw [eb] at sb ib
      exact ⟨_, Ev.bind sa (ev_pos rfl (Ev.bind sb (ev_neg Bool.false_ne_true (Ev.now _)))), ev_to ia (ev_pos rfl (ev_to ib (ev_neg Bool.false_ne_true (Ev.now _))))⟩
    | true =>
      rw [eb] at sb ib
      by_cases c : (a.size : Int) = (b.size : Int)
      · obtain ⟨p1, p2⟩ := IB_parts ea
        obtain ⟨r, r1, r2⟩ := xor_both a b p1 (IB_parts eb).1 (by omega) p2 a.size 0 [] (by omega) rfl
        have f1 : Ev (fun k => spec_l01Xor.f k a b) r := r1
        have f2 : Ev (fun k => impl_xorBits.f k a b) r := r2
        exact ⟨_, Ev.bind sa (ev_pos rfl (Ev.bind sb (ev_pos rfl (ev_pos c (Ev.bind f1 (Ev.now _)))))), ev_to ia (ev_pos rfl (ev_to ib (ev_pos rfl (ev_pos c (Ev.bind f2 (Ev.now _))))))⟩
      · exact ⟨_, Ev.bind sa (ev_pos rfl (Ev.bind sb (ev_pos rfl (ev_neg c (Ev.now _))))), ev_to ia (ev_pos rfl (ev_to ib (ev_pos rfl (ev_neg c (Ev.now _)))))⟩

theorem FnExactXorBits : laws_FnExactXorBits.Pure := by
  intro a b h1 h2
  apply Ev.rounds
  unfold laws_FnExactXorBits.f
  by_cases c : (a.size : Int) > 1048576
  · exact ev_pos c (Ev.now _)
  · by_cases c2 : (b.size : Int) > 1048576
    · exact ev_neg c (ev_pos c2 (Ev.now _))
    · obtain ⟨r, r1, r2⟩ := xorBits_both a b h1 h2
      exact ev_neg c (ev_neg c2 (Ev.bind r1 (Ev.bind r2 (ev_pos rfl (ev_neg (by simp) (Ev.now _))))))

end Go.Proofs.YtmnckflgmjgkaabDoor.Pure
