/-
The plain law of FnExactReadList: both read the same pieces between commas; conditions: those of the statement.
-/
import Derived.Test.YtmnckflgmjgkaacDoorQFnExactReadListx3
import Derived.Lib.IndexMore
import Derived.Lib.SplitLaws
namespace Go.Proofs.YtmnckflgmjgkaacDoor.Pure
open Go.RowKit Go.Proofs.YtmnckflgmjgkaacDoor.QFnExactReadList Go.Proofs.YtmnckflgmjgkaacDoorW.PrintWords Go.Proofs.YtmnckflgmjgkaacDoorW.PrintLast Go.Proofs.YtmnckflgmjgkaacDoorW.PrintMore
set_option linter.unusedVariables false

theorem ev_one {α : Type} {g : Nat → Option α} {r : α} (h : ∀ k, g (k + 1) = some r) : Ev g r :=
  ⟨1, fun k hk => by obtain ⟨m, rfl⟩ : ∃ m, k = m + 1 := ⟨k - 1, by omega⟩; exact h m⟩
theorem wrap64_in {x : Int} (h0 : -9223372036854775808 ≤ x) (h1 : x ≤ 9223372036854775807) : wrap64 x = x := by
  unfold wrap64; omega
theorem u64_in {x : Int} (h0 : 0 ≤ x) (h1 : x ≤ 18446744073709551615) : IntKind.u64.wrap x = x := by
  simp [IntKind.wrap, IntKind.bits, IntKind.signed]; omega
theorem i64_in {x : Int} (h0 : -9223372036854775808 ≤ x) (h1 : x ≤ 9223372036854775807) : IntKind.i64.wrap x = x := by
  rw [IntKind.wrap_i64]; omega
theorem and_one (x : Int) : Go.bits .and .i64 x 1 = x % 2 := by
  have h : (BitVec.ofInt 64 x &&& BitVec.ofInt 64 1).toNat = (x % 2).toNat := by
    have e1 : BitVec.ofInt 64 1 = 1#64 := by decide
    rw [e1, BitVec.toNat_and, BitVec.toNat_ofInt]
    have e2 : (1#64).toNat = 1 := by decide
    rw [e2, Nat.and_one_is_mod]
    omega
  show IntKind.i64.wrap (((BitVec.ofInt 64 x &&& BitVec.ofInt 64 1).toNat : Nat) : Int) = x % 2
  rw [h, i64_in (by omega) (by omega)]
  omega
theorem wf_i64 {x : Int} (h : (Lit.int .i64 x).wf = true) : -9223372036854775808 ≤ x ∧ x ≤ 9223372036854775807 := by
  simp [Lit.wf, IntKind.min, IntKind.max, IntKind.signed, IntKind.bits] at h
  omega
theorem pow_pos_int (d : Nat) : (0 : Int) < 2 ^ d := Int.pow_pos (by decide)
theorem pow_le_int {a b : Nat} (h : a ≤ b) : (2 : Int) ^ a ≤ 2 ^ b := by
  have := Nat.pow_le_pow_right (n := 2) (by decide) h
  exact_mod_cast this

theorem ev_pos {α : Type} {c : Prop} [Decidable c] {g h : Nat → Option α} {r : α} (hc : c) (hg : Ev g r) : Ev (fun k => if c then g k else h k) r := by
  obtain ⟨K, hK⟩ := hg
  exact ⟨K, fun k hk => (if_pos hc).trans (hK k hk)⟩
theorem ev_neg {α : Type} {c : Prop} [Decidable c] {g h : Nat → Option α} {r : α} (hc : ¬ c) (hg : Ev h r) : Ev (fun k => if c then g k else h k) r := by
  obtain ⟨K, hK⟩ := hg
  exact ⟨K, fun k hk => (if_neg hc).trans (hK k hk)⟩
theorem ev_some {α β : Type} {f : Nat → α → Option β} {a : α} {r : β} (h : Ev (fun k => f k a) r) : Ev (fun k => (some a).bind (f k)) r := h
theorem ev_to {α β : Type} {x : Option α} {f : Nat → α → Option β} {a : α} {r : β} (e : x = some a) (h : Ev (fun k => f k a) r) : Ev (fun k => x.bind (f k)) r := by subst e; exact h
theorem ev_det {α : Type} {g : Nat → Option α} {r r' : α} (h : Ev g r) (h' : Ev g r') : r = r' := by
  obtain ⟨K, hK⟩ := h
  obtain ⟨K', hK'⟩ := h'
  have h1 := hK (max K K') (Nat.le_max_left _ _)
  have h2 := hK' (max K K') (Nat.le_max_right _ _)
  rw [h1] at h2
  exact Option.some.inj h2
theorem wrap_succ {j n : Nat} (h : j < n) (hn : n ≤ 9223372036854775807) : wrap64 ((j : Int) + 1) = ((j + 1 : Nat) : Int) := by
  rw [wrap64_in (by omega) (by omega)]; omega
theorem nat0 (j : Nat) : (0 : Int) ≤ (j : Int) := Int.natCast_nonneg j
theorem rd_nat (l : List Int) (j : Nat) : rd l (j : Int) = l.getD j 0 := by unfold rd; rw [Int.toNat_natCast]
theorem rd_get (l : List Int) (j : Nat) (h : j < l.length) : rd l (j : Int) = l[j] := by rw [rd_nat, List.getD_eq_getElem?_getD, List.getElem?_eq_getElem h]; rfl
theorem drop_cons {α : Type} (l : List α) (j : Nat) (h : j < l.length) : l.drop j = l[j] :: l.drop (j + 1) := List.drop_eq_getElem_cons h
theorem take_snoc' {α : Type} (l : List α) (j : Nat) (h : j < l.length) : l.take (j + 1) = l.take j ++ [l[j]] := List.take_succ_eq_append_getElem h
theorem set_take {α : Type} (acc : List α) (j : Nat) (x : α) (h : j < acc.length) : (acc.set j x).take (j + 1) = acc.take j ++ [x] := by
  rw [List.take_set, List.take_succ_eq_append_getElem h, List.set_append_right _ _ (by simp; omega)]
  have : (acc.take j).length = j := by rw [List.length_take]; omega
  rw [this, Nat.sub_self]
  rfl
theorem take_all {α : Type} {a b : List α} {n : Nat} (ha : a.length = n) (hb : b.length = n) (h : a.take n = b.take n) : a = b := by
  rw [List.take_of_length_le (by omega), List.take_of_length_le (by omega)] at h; exact h
theorem w01 : wrap64 (0 + 1) = 1 := by unfold wrap64; decide
theorem w11 : wrap64 (1 + 1) = 2 := by unfold wrap64; decide

theorem spec_in (a b c : Int) : spec_l00In.f a b c = some (decide (b ≤ a ∧ a ≤ c)) := by
  unfold spec_l00In.f
  by_cases h : a ≥ b
  · rw [if_pos h]; congr 1; have : b ≤ a := h; simp [this]
  · rw [if_neg h]; congr 1; have : ¬ b ≤ a := h; simp [this]
theorem impl_in (a b c : Int) : impl_within.f a b c = some (decide (b ≤ a ∧ a ≤ c)) := by
  unfold impl_within.f
  by_cases h : a ≥ b
  · rw [if_pos h]; congr 1; have : b ≤ a := h; simp [this]
  · rw [if_neg h]; congr 1; have : ¬ b ≤ a := h; simp [this]

theorem size_l (s : ByteArray) : s.size = s.data.toList.length := by rw [Array.length_toList]; rfl
theorem bt_l (s : ByteArray) (j : Nat) (h : j < s.data.toList.length) : bt s (j : Int) = ((s.data.toList[j].toNat : Nat) : Int) := by
  have h2 : ((j : Int)).toNat < s.size := by rw [Int.toNat_natCast, size_l]; exact h
  have h3 : j < s.data.size := by rw [Array.length_toList] at h; exact h
  have e : s[((j : Int)).toNat]'h2 = s.data[j] := rfl
  rw [← bt_at s j h2, e, Array.getElem_toList]
def revD (u : Nat) : List Int := if h : u = 0 then [] else ((48 + u % 10 : Nat) : Int) :: revD (u / 10)
termination_by u
decreasing_by omega
theorem revD_pos {u : Nat} (h : 0 < u) : revD u = ((48 + u % 10 : Nat) : Int) :: revD (u / 10) := by
  rw [revD, dif_neg (by omega)]
theorem revD_zero : revD 0 = [] := by rw [revD, dif_pos rfl]
theorem revD_len (u : Nat) : ∀ m, u < 10 ^ m → (revD u).length ≤ m := by
  induction u using Nat.strongRecOn with
  | ind u ih =>
    intro m hm
    by_cases h : u = 0
    · subst h; rw [revD_zero]; simp
    · cases m with
      | zero => simp at hm; omega
      | succ m =>
        rw [Nat.pow_succ] at hm
        rw [revD_pos (by omega), List.length_cons]
        have := ih (u / 10) (by omega) m (by omega)
        omega
def toB (x : Int) : UInt8 := UInt8.ofNat x.toNat
theorem dec_rev (u : Nat) : 0 < u → Lib.decDigits u = (revD u).reverse.map toB := by
  induction u using Nat.strongRecOn with
  | ind u ih =>
    intro h
    rw [Lib.decDigits, revD_pos h, List.reverse_cons, List.map_append]
    by_cases c : u < 10
    · have e : u / 10 = 0 := by omega
      have e2 : u % 10 = u := by omega
      rw [dif_pos c, e, revD_zero, e2]
      rfl
    · rw [dif_neg c, ih (u / 10) (by omega) (by omega)]
      rfl
theorem dec_l1 (L : List Int) (hL : L.length ≤ 100) (j : Nat) : ∀ acc : List Int, j ≤ L.length → acc.length + j ≤ 200 → Ev (fun k => spec_l01Dec.l1 k L acc ((j : Int) - 1)) (strOfNums (acc ++ (L.take j).reverse)) := by
  induction j with
  | zero => intro acc _ _; rw [List.take_zero, List.reverse_nil, List.append_nil]; exact ev_one (fun k => by rw [spec_l01Dec.l1, if_neg (by omega)])
  | succ j ih =>
    intro acc h1 h2
    have hj : j < L.length := by omega
    have ex : ((j + 1 : Nat) : Int) - 1 = (j : Int) := by omega
    have ew : wrap64 ((j : Int) - 1) = (j : Int) - 1 := wrap64_in (by omega) (by omega)
    have h := ih (acc ++ [L[j]]) (by omega) (by simp; omega)
    rw [List.append_assoc, show [L[j]] ++ (L.take j).reverse = (L.take (j + 1)).reverse by rw [take_snoc' L j hj, List.reverse_append]; rfl] at h
    rw [ex]
    exact Ev.step (fun k => by rw [spec_l01Dec.l1, if_pos (by omega), if_pos (by omega), if_pos (by omega), if_pos (by omega), rd_get L j hj, ew]) h
theorem dec_j1 (L : List Int) (hL : L.length ≤ 100) : Ev (fun k => spec_l01Dec.j1 k L) (strOfNums L.reverse) := by
  have h := dec_l1 L hL L.length [] (Nat.le_refl _) (by simp; omega)
  rw [List.nil_append, List.take_length] at h
  have ew : wrap64 ((L.length : Int) - 1) = (L.length : Int) - 1 := wrap64_in (by omega) (by omega)
  exact Ev.step (fun k => by rw [spec_l01Dec.j1, ew]) h
theorem dec_l0 (n : Int) (u : Nat) : ∀ (x : Int) (acc : List Int), x.natAbs = u → -9223372036854775808 ≤ x → x ≤ 9223372036854775807 → acc.length + (revD u).length ≤ 60 →
    Ev (fun k => spec_l01Dec.l0 k n acc x) (strOfNums ((acc ++ revD u) ++ (if n < 0 then [45] else [])).reverse) := by
  induction u using Nat.strongRecOn with
  | ind u ih =>
    intro x acc hx h0 h1 hl
    by_cases h : x = 0
    · subst h
      obtain rfl : u = 0 := by simpa using hx.symm
      rw [revD_zero, List.append_nil] 
      rw [revD_zero] at hl
      by_cases c : n < 0
      · rw [if_pos c]
        exact Ev.step (fun k => by rw [spec_l01Dec.l0, if_pos rfl, if_pos c, if_pos (by simp at hl; omega)]) (dec_j1 (acc ++ [45]) (by simp at hl ⊢; omega))
      · rw [if_neg c, List.append_nil]
        exact Ev.step (fun k => by rw [spec_l01Dec.l0, if_pos rfl, if_neg c]) (dec_j1 acc (by simp at hl; omega))
    · have hu : 0 < u := by omega
      have e1 : (Int.tmod x 10).natAbs = u % 10 := by rw [Int.natAbs_tmod, hx]; rfl
      have e2 : (Int.tdiv x 10).natAbs = u / 10 := by rw [Int.natAbs_tdiv, hx]; rfl
      rw [revD_pos hu] at hl ⊢
      rw [List.length_cons] at hl
      have hw : wrap64 (Int.tdiv x 10) = Int.tdiv x 10 := wrap64_in (by omega) (by omega)
      have hr := ih (u / 10) (by omega) (Int.tdiv x 10) (acc ++ [((48 + u % 10 : Nat) : Int)]) e2 (by omega) (by omega) (by simp; omega)
      rw [List.append_assoc acc, List.singleton_append] at hr
      by_cases c : Int.tmod x 10 < 0
      · have ed : (wrap64 (48 + (wrap64 (-(Int.tmod x 10))))) % 256 = ((48 + u % 10 : Nat) : Int) := by
          rw [wrap64_in (x := -(Int.tmod x 10)) (by omega) (by omega), wrap64_in (by omega) (by omega)]; omega
        exact Ev.step (fun k => by rw [spec_l01Dec.l0, if_neg h, if_pos c, if_pos (by omega), ed, hw]) hr
      · have ed : (wrap64 (48 + (Int.tmod x 10))) % 256 = ((48 + u % 10 : Nat) : Int) := by
          rw [wrap64_in (by omega) (by omega)]; omega
        exact Ev.step (fun k => by rw [spec_l01Dec.l0, if_neg h, if_neg c, if_pos (by omega), ed, hw]) hr
theorem dec_text (n : Int) (h : n ≠ 0) : ((([] ++ revD n.natAbs) ++ (if n < 0 then [45] else [])).reverse).map toB = Lib.itoa n := by
  have hu : 0 < n.natAbs := by omega
  rw [List.nil_append, List.reverse_append, List.map_append, ← dec_rev _ hu]
  unfold Lib.itoa
  by_cases c : n < 0
  · rw [if_pos c, if_pos c]; rfl
  · rw [if_neg c, if_neg c, show n.toNat = n.natAbs by omega]; rfl
theorem extract_list (s : ByteArray) (i j : Nat) : (s.extract i j).toList = (s.data.toList.drop i).take (j - i) := by
  rw [Lib.toList_data, ByteArray.data_extract, Array.toList_extract, List.extract_eq_take_drop]
theorem occAt_drop (s t : List UInt8) (i j : Nat) : Lib.occAt (s.drop i) t j = Lib.occAt s t (i + j) := by
  unfold Lib.occAt
  rw [List.drop_drop]

theorem specDec_ev (n : Int) (hn : -9223372036854775808 ≤ n ∧ n ≤ 9223372036854775807) : ∃ r : ByteArray, Ev (fun k => spec_l01Dec.f k n) r ∧ Lib.itoa n = r.data.toList := by
  unfold spec_l01Dec.f
  by_cases c : n = 0
  · subst c
    refine ⟨⟨#[48]⟩, ev_pos rfl (Ev.now _), ?_⟩
    unfold Lib.itoa
    rw [if_neg (by decide), Lib.decDigits, dif_pos (by decide)]
    rfl
  · have hl : (revD n.natAbs).length ≤ 19 := revD_len _ 19 (by omega)
    have h := dec_l0 n n.natAbs n [] rfl hn.1 hn.2 (by simp; omega)
    refine ⟨_, ev_neg c h, ?_⟩
    rw [strOfNums_data, ← dec_text n c]
    rfl
/-- What digits spell; nothing where one is no digit, or the number before it is too great. -/
def gF : List UInt8 → Int → Option Int
  | [], acc => some acc
  | b :: l, acc => if b.toNat < 48 ∨ b.toNat > 57 ∨ acc > 100000000000000000 then none else gF l (10 * acc + (b.toNat - 48))
theorem gF_snoc (l : List UInt8) (b : UInt8) : ∀ acc, gF (l ++ [b]) acc = (gF l acc).bind fun a => if b.toNat < 48 ∨ b.toNat > 57 ∨ a > 100000000000000000 then none else some (10 * a + (b.toNat - 48)) := by
  induction l with
  | nil => intro acc; rfl
  | cons c l ih =>
    intro acc
    rw [List.cons_append, gF, gF]
    split
    · rfl
    · exact ih _
theorem dig_nat (d : Nat) (h : d < 10) : (UInt8.ofNat (48 + d)).toNat = 48 + d := by
  rw [UInt8.toNat_ofNat']; omega
theorem gF_dec (u : Nat) : u ≤ 1000000000000000000 → gF (Lib.decDigits u) 0 = some (u : Int) := by
  induction u using Nat.strongRecOn with
  | ind u ih =>
    intro hu
    rw [Lib.decDigits]
    by_cases c : u < 10
    · rw [dif_pos c, gF, dig_nat u c, if_neg (by omega)]
      rw [gF]
      congr 1
      omega
    · rw [dif_neg c, gF_snoc, ih (u / 10) (by omega) (by omega), Option.bind_some, dig_nat _ (by omega), if_neg (by omega)]
      congr 1
      omega
theorem pM_snoc (M : Nat) (l : List UInt8) (b : UInt8) : ∀ acc u, Lib.parseUintM M acc l = .ok u → Lib.parseUintM M acc (l ++ [b]) = Lib.parseUintM M u [b] := by
  induction l with
  | nil =>
    intro acc u h
    rw [Lib.parseUintM] at h
    injection h with h
    subst h
    rfl
  | cons c l ih =>
    intro acc u h
    rw [List.cons_append, Lib.parseUintM]
    rw [Lib.parseUintM] at h
    split at h
    · rename_i c1
      rw [if_pos c1]
      split at h
      · cases h
      · rename_i c2
        rw [if_neg c2]
        split at h
        · cases h
        · rename_i c3
          rw [if_neg c3]
          exact ih _ _ h
    · cases h
theorem pM_dec (u : Nat) : u ≤ 1000000000000000000 → Lib.parseUintM 18446744073709551615 0 (Lib.decDigits u) = .ok u := by
  induction u using Nat.strongRecOn with
  | ind u ih =>
    intro hu
    rw [Lib.decDigits]
    by_cases c : u < 10
    · rw [dif_pos c, Lib.parseUintM, dig_nat u c, if_pos (by omega), if_neg (by omega), if_neg (by omega), Lib.parseUintM]
      congr 1
      omega
    · rw [dif_neg c, pM_snoc _ _ _ _ _ (ih (u / 10) (by omega) (by omega)), Lib.parseUintM, dig_nat _ (by omega), if_pos (by omega), if_neg (by omega), if_neg (by omega), Lib.parseUintM]
      congr 1
      omega
theorem dec_first (u : Nat) : ∃ c l, Lib.decDigits u = c :: l ∧ 48 ≤ c.toNat ∧ c.toNat ≤ 57 := by
  induction u using Nat.strongRecOn with
  | ind u ih =>
    rw [Lib.decDigits]
    by_cases c : u < 10
    · rw [dif_pos c]
      exact ⟨_, _, rfl, by rw [dig_nat u c]; omega, by rw [dig_nat u c]; omega⟩
    · rw [dif_neg c]
      obtain ⟨d, l, e, h1, h2⟩ := ih (u / 10) (by omega)
      exact ⟨d, l ++ _, by rw [e]; rfl, h1, h2⟩
theorem dec_len (u : Nat) : ∀ m, u < 10 ^ (m + 1) → (Lib.decDigits u).length ≤ m + 1 := by
  induction u using Nat.strongRecOn with
  | ind u ih =>
    intro m h
    rw [Lib.decDigits]
    by_cases c : u < 10
    · rw [dif_pos c]; simp
    · rw [dif_neg c, List.length_append, List.length_singleton]
      cases m with
      | zero => rw [show 10 ^ (0 + 1) = 10 from rfl] at h; omega
      | succ m =>
        rw [Nat.pow_succ] at h
        have := ih (u / 10) (by omega) m (by omega)
        omega
/-- The library reads what is the text of a number. -/
theorem parse_itoa (v : Int) (h0 : -1000000000000000000 ≤ v) (h1 : v ≤ 1000000000000000000) : Lib.parseIntB 64 (Lib.itoa v) = .ok v := by
  have p64 : 2 ^ 64 - 1 = 18446744073709551615 := by decide
  have p63 : 2 ^ (64 - 1) = 9223372036854775808 := by decide
  unfold Lib.itoa
  by_cases c : v < 0
  · rw [if_pos c]
    obtain ⟨d, l, e, _, _⟩ := dec_first v.natAbs
    have hp := pM_dec v.natAbs (by omega)
    unfold Lib.parseIntB Lib.parseUintB
    rw [p64, p63]
    have e45 : (45 : UInt8).toNat = 45 := by decide
    simp only [e45, or_true, if_true, not_true_eq_false, false_and, if_false, true_and]
    rw [if_neg (by rw [e]; simp), hp]
    simp only
    rw [if_neg (by omega)]
    congr 1
    omega
  · rw [if_neg c]
    obtain ⟨d, l, e, h2, h3⟩ := dec_first v.toNat
    have hp := pM_dec v.toNat (by omega)
    rw [e] at hp ⊢
    unfold Lib.parseIntB Lib.parseUintB
    rw [p64, p63]
    simp only
    rw [if_neg (show ¬ (d.toNat = 43 ∨ d.toNat = 45) by omega), if_neg (by simp), hp]
    simp only
    rw [if_neg (by omega), if_neg (by omega), if_neg (by omega)]
    congr 1
    omega
/-- What ends the reading: the sign, the bounds, the text of the number that was read. -/
def gEnd (s : ByteArray) (neg : Bool) : Option Int → Int × Bool
  | none => (0, false)
  | some n => (if neg then -n else n, decide (-1000000000000000000 ≤ (if neg then -n else n) ∧ (if neg then -n else n) ≤ 1000000000000000000) && (Lib.itoa (if neg then -n else n) == s.data.toList))
theorem great_end (s : ByteArray) (n : Int) (hn : -9223372036854775808 ≤ n ∧ n ≤ 9223372036854775807) :
    Ev (fun k => (spec_l00In.f n (-1000000000000000000) 1000000000000000000).bind fun t => if t = true then ((spec_l01Dec.f k n).bind fun t' => some (n, (t'.toList == s.toList))) else some (n, false)) (n, decide (-1000000000000000000 ≤ n ∧ n ≤ 1000000000000000000) && (Lib.itoa n == s.data.toList)) := by
  refine ev_to (spec_in _ _ _) ?_
  by_cases c : -1000000000000000000 ≤ n ∧ n ≤ 1000000000000000000
  · rw [decide_eq_true c, Bool.true_and]
    obtain ⟨r, h1, h2⟩ := specDec_ev n hn
    refine ev_pos rfl (Ev.bind h1 ?_)
    rw [Lib.toList_data, Lib.toList_data, h2]
    exact Ev.now _
  · rw [decide_eq_false c, Bool.false_and]
    exact ev_neg Bool.false_ne_true (Ev.now _)
theorem great_loop (s t : ByteArray) (ht : t.size ≤ 100) (neg : Bool) (hneg : neg = true ↔ (t.size : Int) < (s.size : Int)) (d : Nat) : ∀ (j : Nat) (acc : Int), j + d = t.size → 0 ≤ acc → acc ≤ 1000000000000000009 →
    Ev (fun k => spec_l01Great.l0 k s t acc (j : Int)) (gEnd s neg (gF (t.data.toList.drop j) acc)) := by
  have et := size_l t
  induction d with
  | zero =>
    intro j acc h h0 h1
    rw [List.drop_eq_nil_of_le (by omega), gF]
    have st : ∀ k, spec_l01Great.l0 (k + 1) s t acc (j : Int) = if (t.size : Int) < (s.size : Int) then ((spec_l00In.f (wrap64 (-acc)) (-1000000000000000000) 1000000000000000000).bind fun t120 => (if t120 = true then ((spec_l01Dec.f k (wrap64 (-acc))).bind fun t121 => (some (wrap64 (-acc), (t121.toList == s.toList)))) else (some (wrap64 (-acc), false)))) else ((spec_l00In.f acc (-1000000000000000000) 1000000000000000000).bind fun t122 => (if t122 = true then ((spec_l01Dec.f k acc).bind fun t123 => (some (acc, (t123.toList == s.toList)))) else (some (acc, false)))) := fun k => by
      rw [spec_l01Great.l0, if_neg (by omega)]
    refine Ev.step st ?_
    have ew : wrap64 (-acc) = -acc := wrap64_in (by omega) (by omega)
    rw [ew]
    unfold gEnd
    cases neg with
    | true =>
      refine ev_pos (hneg.1 rfl) ?_
      exact great_end s (-acc) (by omega)
    | false =>
      refine ev_neg (fun q => Bool.false_ne_true (hneg.2 q)) ?_
      exact great_end s acc (by omega)
  | succ d ih =>
    intro j acc h h0 h1
    have hj : j < t.data.toList.length := by omega
    have hb := bt_l t j hj
    rw [drop_cons _ _ hj, gF]
    by_cases c1 : t.data.toList[j].toNat < 48
    · rw [if_pos (Or.inl c1)]
      exact ev_one (fun k => by rw [spec_l01Great.l0, if_pos (by omega), if_pos (by omega), if_pos (by omega)]; rfl)
    · by_cases c2 : t.data.toList[j].toNat > 57
      · rw [if_pos (Or.inr (Or.inl c2))]
        exact ev_one (fun k => by rw [spec_l01Great.l0, if_pos (by omega), if_pos (by omega), if_neg (by omega), if_pos (by omega)]; rfl)
      · by_cases c3 : acc > 100000000000000000
        · rw [if_pos (Or.inr (Or.inr c3))]
          exact ev_one (fun k => by rw [spec_l01Great.l0, if_pos (by omega), if_pos (by omega), if_neg (by omega), if_neg (by omega), if_pos c3]; rfl)
        · rw [if_neg (by omega)]
          have e : wrap64 ((wrap64 (10 * acc)) + (((bt t (j : Int)) - 48) % 256)) = 10 * acc + ((t.data.toList[j].toNat : Int) - 48) := by
            rw [hb, wrap64_in (x := 10 * acc) (by omega) (by omega), wrap64_in (by omega) (by omega)]; omega
          have hh := ih (j + 1) (10 * acc + ((t.data.toList[j].toNat : Int) - 48)) (by omega) (by omega) (by omega)
          exact Ev.step (fun k => by rw [spec_l01Great.l0, if_pos (by omega), if_pos (by omega), if_neg (by omega), if_neg (by omega), if_neg c3, e, wrap_succ (j := j) (n := t.size) (by omega) (by omega)]) hh
/-- The text behind a sign. -/
def gRest (s : ByteArray) : ByteArray := if bt s 0 = 45 ∧ 0 < s.size then s.extract 1 s.size else s
theorem great_ev (s : ByteArray) (hs : s.size ≤ 1048576) :
    ∃ r, Ev (fun k => spec_l01Great.f k s) r ∧ ((¬ (1 ≤ (gRest s).size ∧ (gRest s).size ≤ 19) ∧ r = (0, false)) ∨ (1 ≤ (gRest s).size ∧ (gRest s).size ≤ 19 ∧ r = gEnd s (decide ((gRest s).size < s.size)) (gF (gRest s).data.toList 0))) := by
  have j2 : ∀ t : ByteArray, t.size ≤ s.size → ∃ r, Ev (fun k => spec_l01Great.j1 k s t) r ∧ ((¬ (1 ≤ t.size ∧ t.size ≤ 19) ∧ r = (0, false)) ∨ (1 ≤ t.size ∧ t.size ≤ 19 ∧ r = gEnd s (decide (t.size < s.size)) (gF t.data.toList 0))) := by
    intro t ht
    by_cases c1 : t.size < 1
    · exact ⟨(0, false), Ev.step (fun k => by rw [spec_l01Great.j1, if_pos (by omega)]) (ev_one (fun k => by rw [spec_l01Great.j2, if_pos rfl])), .inl ⟨by omega, rfl⟩⟩
    · by_cases c2 : (t.size : Int) > 19
      · exact ⟨(0, false), Ev.step (fun k => by rw [spec_l01Great.j1, if_neg (by omega), decide_eq_true c2]) (ev_one (fun k => by rw [spec_l01Great.j2, if_pos rfl])), .inl ⟨by omega, rfl⟩⟩
      · refine ⟨_, Ev.step (fun k => by rw [spec_l01Great.j1, if_neg (by omega), decide_eq_false c2]) (Ev.step (fun k => by rw [spec_l01Great.j2, if_neg Bool.false_ne_true]; rfl) (great_loop s t (by omega) (decide (t.size < s.size)) (by rw [decide_eq_true_iff]; omega) t.size 0 0 (by omega) (by omega) (by omega))), .inr ⟨by omega, by omega, by rw [List.drop_zero]⟩⟩
  unfold spec_l01Great.f gRest
  by_cases c : (s.size : Int) > 0
  · by_cases c1 : bt s 0 = 45
    · rw [if_pos ⟨c1, by omega⟩]
      obtain ⟨r, h1, h2⟩ := j2 (s.extract 1 s.size) (by rw [ByteArray.size_extract]; omega)
      refine ⟨r, ev_pos c (ev_pos c ?_), h2⟩
      rw [c1]
      exact Ev.step (fun k => by rw [spec_l01Great.j0, if_pos (by rfl), if_pos (by omega)]) h1
    · rw [if_neg (fun q => c1 q.1)]
      obtain ⟨r, h1, h2⟩ := j2 s (Nat.le_refl _)
      refine ⟨r, ev_pos c (ev_pos c ?_), h2⟩
      rw [show (bt s 0 == 45) = false by rw [beq_eq_false_iff_ne]; exact c1]
      exact Ev.step (fun k => by rw [spec_l01Great.j0, if_neg Bool.false_ne_true]) h1
  · rw [if_neg (fun q => c (by omega))]
    obtain ⟨r, h1, h2⟩ := j2 s (Nat.le_refl _)
    exact ⟨r, ev_neg c (Ev.step (fun k => by rw [spec_l01Great.j0, if_neg Bool.false_ne_true]) h1), h2⟩
theorem gEnd_true {s : ByteArray} {neg : Bool} {o : Option Int} {n : Int} (h : gEnd s neg o = (n, true)) : Lib.itoa n = s.data.toList := by
  cases o with
  | none => cases h
  | some m =>
    unfold gEnd at h
    obtain ⟨h1, h2⟩ := Prod.mk.inj h
    rw [Bool.and_eq_true, beq_iff_eq, h1] at h2
    exact h2.2
theorem rest_data (s : ByteArray) (c : UInt8) (l : List UInt8) (h : s.data.toList = c :: l) : (s.extract 1 s.size).data.toList = l ∧ bt s 0 = (c.toNat : Int) := by
  have es := size_l s
  constructor
  · rw [← Lib.toList_data, extract_list, List.take_of_length_le (by rw [List.length_drop]; omega), h]; rfl
  · have := bt_l s 0 (by rw [h]; simp)
    rw [show ((0 : Nat) : Int) = 0 from rfl] at this
    rw [this]
    simp [h]
/-- The text of a number is read. -/
theorem great_itoa (s : ByteArray) (hs : s.size ≤ 1048576) (v : Int) (h0 : -1000000000000000 ≤ v) (h1 : v ≤ 1000000000000000) (h : Lib.itoa v = s.data.toList) : Ev (fun k => spec_l01Great.f k s) (v, true) := by
  have es := size_l s
  obtain ⟨r, e, hr⟩ := great_ev s hs
  suffices hv : r = (v, true) by rw [hv] at e; exact e
  have lim : v.natAbs < 10 ^ (16 + 1) := by have : (10 : Nat) ^ (16 + 1) = 100000000000000000 := by decide
                                            omega
  have hl := dec_len v.natAbs 16 lim
  obtain ⟨d, l, ed, d1, d2⟩ := dec_first v.natAbs
  have hg := gF_dec v.natAbs (by omega)
  unfold Lib.itoa at h
  by_cases c : v < 0
  · rw [if_pos c] at h
    obtain ⟨r1, r2⟩ := rest_data s 45 _ h.symm
    have er : gRest s = s.extract 1 s.size := by unfold gRest; rw [if_pos ⟨r2, by rw [es, ← h]; simp⟩]
    have sr : (gRest s).size = (Lib.decDigits v.natAbs).length := by rw [size_l, er, r1]
    have ss : s.size = (Lib.decDigits v.natAbs).length + 1 := by rw [es, ← h]; rfl
    have l1 : 1 ≤ (Lib.decDigits v.natAbs).length := by rw [ed]; simp
    rcases hr with ⟨q, _⟩ | ⟨_, _, q⟩
    · exact absurd ⟨by omega, by omega⟩ q
    · rw [q, er, r1, hg, ← er, decide_eq_true (by omega)]
      unfold gEnd
      simp only [if_true]
      rw [show -((v.natAbs : Nat) : Int) = v by omega, decide_eq_true (by omega), Bool.true_and]
      congr 1
      rw [beq_iff_eq]
      unfold Lib.itoa
      rw [if_pos c, h]
  · rw [if_neg c, show v.toNat = v.natAbs by omega] at h
    rw [ed] at h
    obtain ⟨r1, r2⟩ := rest_data s d l h.symm
    have er : gRest s = s := by unfold gRest; rw [if_neg (fun q => by have := q.1; rw [r2] at this; omega)]
    have ss : s.size = (Lib.decDigits v.natAbs).length := by rw [es, ← h, ed]
    have l1 : 1 ≤ (Lib.decDigits v.natAbs).length := by rw [ed]; simp
    rcases hr with ⟨q, _⟩ | ⟨_, _, q⟩
    · exact absurd ⟨by rw [er]; omega, by rw [er]; omega⟩ q
    · rw [q, er, ← h, ← ed, hg, decide_eq_false (by omega)]
      unfold gEnd
      simp only [Bool.false_eq_true, if_false]
      rw [show ((v.natAbs : Nat) : Int) = v by omega, decide_eq_true (by omega), Bool.true_and]
      congr 1
      rw [beq_iff_eq]
      unfold Lib.itoa
      rw [if_neg c, show v.toNat = v.natAbs by omega, ed, h]
/-- What both answer. -/
theorem specRead_ev (s : ByteArray) (hs : s.size ≤ 1048576) :
    (∀ v : Int, -1000000000000000 ≤ v → v ≤ 1000000000000000 → Lib.itoa v = s.data.toList → Ev (fun k => spec_l01Value.f k s) (v, true)) ∧
    ((∀ v : Int, -1000000000000000 ≤ v → v ≤ 1000000000000000 → Lib.itoa v ≠ s.data.toList) → Ev (fun k => spec_l01Value.f k s) (0, false)) := by
  unfold spec_l01Value.f
  constructor
  · intro v h0 h1 h
    refine Ev.bind (great_itoa s hs v h0 h1 h) (ev_pos rfl (ev_to (spec_in _ _ _) ?_))
    rw [decide_eq_true (show (-1000000000000000 : Int) ≤ v ∧ v ≤ 1000000000000000 from ⟨h0, h1⟩)]
    exact ev_pos rfl (Ev.now _)
  · intro h
    obtain ⟨⟨n, b⟩, e, hr⟩ := great_ev s hs
    refine Ev.bind e ?_
    cases b with
    | false => exact ev_neg Bool.false_ne_true (Ev.now _)
    | true =>
      have hi : Lib.itoa n = s.data.toList := by
        rcases hr with ⟨_, q⟩ | ⟨_, _, q⟩
        · cases q
        · exact gEnd_true q.symm
      refine ev_pos rfl (ev_to (spec_in _ _ _) ?_)
      rw [decide_eq_false (fun q => h n q.1 q.2 hi)]
      exact ev_neg Bool.false_ne_true (Ev.now _)
theorem implDecimal_f (n : Int) (hn : -9223372036854775808 ≤ n ∧ n ≤ 9223372036854775807) : impl_Decimal.f n = some ⟨(Lib.itoa n).toArray⟩ := by
  unfold impl_Decimal.f strconv_FormatInt_73.f
  rw [if_pos ⟨rfl, hn⟩]; rfl
theorem implRead_f (s : ByteArray) (hs : s.size ≤ 1048576) :
    (∀ v : Int, -1000000000000000 ≤ v → v ≤ 1000000000000000 → Lib.itoa v = s.data.toList → impl_ReadDecimal.f s = some (v, true)) ∧
    ((∀ v : Int, -1000000000000000 ≤ v → v ≤ 1000000000000000 → Lib.itoa v ≠ s.data.toList) → impl_ReadDecimal.f s = some (0, false)) := by
  unfold impl_ReadDecimal.f impl_readInteger.f
  rw [if_pos (by omega), show wrap64 (-1000000000000000) = -1000000000000000 from wrap64_in (by decide) (by decide)]
  constructor
  · intro v h0 h1 h
    have hp := parse_itoa v (by omega) (by omega)
    rw [h] at hp
    rw [hp]
    simp only
    rw [impl_in, decide_eq_true (show (-1000000000000000 : Int) ≤ v ∧ v ≤ 1000000000000000 from ⟨h0, h1⟩), Option.bind_some, if_pos rfl, implDecimal_f v (by omega), Option.bind_some, if_pos (by rw [Lib.toList_data, Lib.toList_data, ← h])]
    rfl
  · intro h
    cases hp : Lib.parseIntB 64 s.data.toList with
    | «syntax» => rfl
    | range => rfl
    | ok v =>
      simp only
      rw [impl_in]
      by_cases c : (-1000000000000000 : Int) ≤ v ∧ v ≤ 1000000000000000
      · rw [decide_eq_true c, Option.bind_some, if_pos rfl, implDecimal_f v (by omega), Option.bind_some, if_neg (by rw [Lib.toList_data, Lib.toList_data]; exact h v c.1 c.2)]
        rfl
      · rw [decide_eq_false c, Option.bind_some, if_neg Bool.false_ne_true]
        rfl
theorem value_both (s : ByteArray) (hs : s.size ≤ 1048576) : ∃ r, Ev (fun k => spec_l01Value.f k s) r ∧ impl_ReadDecimal.f s = some r := by
  by_cases c : ∃ v : Int, -1000000000000000 ≤ v ∧ v ≤ 1000000000000000 ∧ Lib.itoa v = s.data.toList
  · obtain ⟨v, h0, h1, h⟩ := c
    exact ⟨_, (specRead_ev s hs).1 v h0 h1 h, (implRead_f s hs).1 v h0 h1 h⟩
  · have hn : ∀ v : Int, -1000000000000000 ≤ v → v ≤ 1000000000000000 → Lib.itoa v ≠ s.data.toList := fun v h0 h1 h => c ⟨v, h0, h1, h⟩
    exact ⟨_, (specRead_ev s hs).2 hn, (implRead_f s hs).2 hn⟩

theorem eqInt64S_loop (l : List Int) (hn : l.length ≤ 1048576) (d : Nat) : ∀ j : Nat, j + d = l.length → Ev (fun k => laws_eqInt64S.l0 k l l (j : Int)) true := by
  induction d with
  | zero => intro j h; exact ev_one (fun k => by rw [laws_eqInt64S.l0, if_neg (by omega)])
  | succ d ih =>
    intro j h
    refine Ev.step (fun k => ?_) (ih (j + 1) (by omega))
    rw [laws_eqInt64S.l0, if_pos (by omega), if_pos (by omega), if_pos (by omega), if_pos rfl, wrap_succ (n := l.length) (by omega) (by omega)]
theorem eqInt64S_ev (l : List Int) (hn : l.length ≤ 1048576) : Ev (fun k => laws_eqInt64S.f k l l) true := by
  refine Ev.congr (fun k => ?_) (eqInt64S_loop l hn l.length 0 (by omega))
  unfold laws_eqInt64S.f
  rw [if_pos rfl]
  rfl

/-- 1, 2, .. as many as there are. -/
def seqL (n : Nat) : List Int := (List.range n).map fun (i : Nat) => (i : Int) + 1
theorem seqL_length (n : Nat) : (seqL n).length = n := by simp [seqL]
theorem seqL_succ (n : Nat) : seqL (n + 1) = seqL n ++ [(n : Int) + 1] := by simp [seqL, List.range_succ]
theorem seqL_rd (n j : Nat) (h : j < n) : rd (seqL n) (j : Int) = (j : Int) + 1 := by
  rw [rd_get _ _ (by rw [seqL_length]; exact h)]; simp [seqL]
theorem mark_loop (n : Nat) (hn : n ≤ 4611686018427387904) (d : Nat) : ∀ (j : Nat) (l : List Int), j + d = n → l.length = n → l.take j = seqL j →
    Ev (fun k => laws_markInt64S.l0 k l ((j : Int) + 1) (j : Int)) ((n : Int) + 1, seqL n) := by
  induction d with
  | zero =>
    intro j l h hl ht
    obtain rfl : j = n := by omega
    have e : l = seqL j := by rw [← ht, List.take_of_length_le (by omega)]
    exact ev_one (fun k => by rw [laws_markInt64S.l0, if_neg (by omega), e])
  | succ d ih =>
    intro j l h hl ht
    have hw := wrap_succ (j := j) (n := n) (by omega) (by omega)
    have hw2 : wrap64 ((j : Int) + 1 + 1) = ((j + 1 : Nat) : Int) + 1 := by rw [wrap64_in (by omega) (by omega)]; omega
    exact Ev.step (fun k => by rw [laws_markInt64S.l0, if_pos (by omega), if_pos (by omega), hw, hw2, Int.toNat_natCast]) (ih (j + 1) _ (by omega) (by rw [List.length_set]; exact hl) (by rw [set_take _ _ _ (by omega), ht, seqL_succ]))
theorem mark_ev (l : List Int) (hn : l.length ≤ 4611686018427387904) : Ev (fun k => laws_markInt64S.f k l 1) ((l.length : Int) + 1, seqL l.length) :=
  mark_loop l.length hn l.length 0 l (by omega) rfl rfl
theorem held_loop (n : Nat) (hn : n ≤ 4611686018427387904) (d : Nat) : ∀ j : Nat, j + d = n → Ev (fun k => laws_heldInt64S.l0 k (seqL n) ((j : Int) + 1) (j : Int)) ((n : Int) + 1) := by
  have hl := seqL_length n
  induction d with
  | zero =>
    intro j h
    obtain rfl : j = n := by omega
    exact ev_one (fun k => by rw [laws_heldInt64S.l0, if_neg (by omega)])
  | succ d ih =>
    intro j h
    have hw := wrap_succ (j := j) (n := n) (by omega) (by omega)
    have hw2 : wrap64 ((j : Int) + 1 + 1) = ((j + 1 : Nat) : Int) + 1 := by rw [wrap64_in (by omega) (by omega)]; omega
    have hr := seqL_rd n j (by omega)
    exact Ev.step (fun k => by rw [laws_heldInt64S.l0, if_pos (by omega), if_pos (by omega), if_pos hr, hw, hw2]) (ih (j + 1) (by omega))
theorem held_ev (n : Nat) (hn : n ≤ 4611686018427387904) : Ev (fun k => laws_heldInt64S.f k (seqL n) 1) ((n : Int) + 1) := held_loop n hn n 0 (by omega)

theorem comma_at (l : List UInt8) (j : Nat) (h : j < l.length) : Lib.occAt l [44] j = (l[j] == 44) := by
  unfold Lib.occAt
  rw [drop_cons _ _ h, List.isPrefixOf, List.isPrefixOf, Bool.and_true]
  rw [Bool.eq_iff_iff, beq_iff_eq, beq_iff_eq]
  exact eq_comm
theorem comma_end (l : List UInt8) : Lib.occAt l [44] l.length = false := by
  unfold Lib.occAt
  rw [List.drop_length]
  rfl
/-- To the end of a piece nothing is read. -/
theorem scan_loop (s : ByteArray) (hs : s.size ≤ 1048576) (hne : (s.toList != ([110, 111, 110, 101] : List UInt8)) = true) (out : List Int) (a n : Nat) (hn : n ≤ s.size) (R : List Int × Bool) (hR : Ev (fun k => spec_l01Numbers.l0 k s out (a : Int) (n : Int)) R) (d : Nat) : ∀ j : Nat, j + d = n → (∀ (i : Nat) (h : i < s.data.toList.length), j ≤ i → i < n → s.data.toList[i] ≠ 44) → Ev (fun k => spec_l01Numbers.l0 k s out (a : Int) (j : Int)) R := by
  have es := size_l s
  induction d with
  | zero => intro j h _; rw [show j = n by omega]; exact hR
  | succ d ih =>
    intro j h hno
    have hj : j < s.data.toList.length := by omega
    have hb := bt_l s j hj
    have hc := hno j hj (Nat.le_refl _) (by omega)
    have hx : (bt s (j : Int) != 44) = true := by
      rw [hb, bne_iff_ne]
      intro q
      apply hc
      rw [← UInt8.toNat_inj]
      show s.data.toList[j].toNat = 44
      omega
    refine Ev.step (fun k => by rw [spec_l01Numbers.l0, if_pos (by omega), hne]) (Ev.step (fun k => by rw [spec_l01Numbers.j1, if_pos rfl, if_pos (by omega), if_pos (by omega), hx]) (Ev.step (fun k => by rw [spec_l01Numbers.j2, if_pos rfl, wrap_succ (j := j) (n := s.size) (by omega) (by omega)]) (ih (j + 1) (by omega) (fun i hi h1 h2 => hno i hi (by omega) h2))))
/-- A piece is read, or the reading ends. -/
theorem piece_both (s : ByteArray) (hs : s.size ≤ 1048576) (hne : (s.toList != ([110, 111, 110, 101] : List UInt8)) = true) (out : List Int) (ho : out.length ≤ 64) (a n : Nat) (han : a ≤ n) (hn : n ≤ s.size) (hc : ∀ h : n < s.data.toList.length, s.data.toList[n] = 44) (L : List ByteArray) (j : Nat) (hj : j < L.length) (hL : L.length ≤ 9223372036854775807) (hp : L[j] = s.extract a n)
    (hgo : ∀ m : Int, out.length < 64 → ∃ r : List Int × Bool, (Ev (fun k => spec_l01Numbers.l0 k s (out ++ [m]) ((n + 1 : Nat) : Int) ((n + 1 : Nat) : Int)) r ∧ Ev (fun k => impl_ReadList.l0 k (out ++ [m]) L (L.length : Int) ((j + 1 : Nat) : Int)) r) ∧ r.1.length ≤ 64) :
    ∃ r : List Int × Bool, (Ev (fun k => spec_l01Numbers.l0 k s out (a : Int) (n : Int)) r ∧ Ev (fun k => impl_ReadList.l0 k out L (L.length : Int) (j : Int)) r) ∧ r.1.length ≤ 64 := by
  have es := size_l s
  obtain ⟨⟨v, b⟩, h1, h2⟩ := value_both (s.extract a n) (by rw [ByteArray.size_extract]; omega)
  have st : ∀ R, Ev (fun k => (spec_l01Value.f k (s.extract a n)).bind fun bt130 => (if bt130.2 = true then (if (out.length : Int) = 64 then (some (([] : List Int), false)) else (if out.length < 17592186044416 then (spec_l01Numbers.l0 k s (out ++ [bt130.1]) ((n + 1 : Nat) : Int) ((n + 1 : Nat) : Int)) else (none))) else (some (([] : List Int), false)))) R → Ev (fun k => spec_l01Numbers.l0 k s out (a : Int) (n : Int)) R := by
    intro R hR
    refine Ev.step (fun k => by rw [spec_l01Numbers.l0, if_pos (by omega), hne]) ?_
    have j2 : Ev (fun k => spec_l01Numbers.j2 k s out (a : Int) (n : Int) false) R := Ev.step (fun k => by rw [spec_l01Numbers.j2, if_neg Bool.false_ne_true, if_pos (by omega), if_pos (by omega), if_pos (by omega), Int.toNat_natCast, Int.toNat_natCast, wrap_succ (j := n) (n := s.size + 1) (by omega) (by omega)]) hR
    by_cases c : n < s.size
    · have hx : (bt s (n : Int) != 44) = false := by
        rw [bt_l s n (by omega), hc (by omega)]; rfl
      exact Ev.step (fun k => by rw [spec_l01Numbers.j1, if_pos rfl, if_pos (by omega), if_pos (by omega), hx]) j2
    · exact Ev.step (fun k => by rw [spec_l01Numbers.j1, if_pos rfl, if_neg (by omega)]) j2
  have sti : ∀ k, impl_ReadList.l0 (k + 1) out L (L.length : Int) (j : Int) = (if b = true then (if (out.length : Int) = 64 then (some (([] : List Int), false)) else (if out.length < 17592186044416 then (impl_ReadList.l0 k (out ++ [v]) L (L.length : Int) ((j + 1 : Nat) : Int)) else (none))) else (some (([] : List Int), false))) := fun k => by
    have er : rdOf ByteArray.empty L (j : Int) = s.extract a n := by rw [← hp]; unfold rdOf; rw [Int.toNat_natCast, List.getD_eq_getElem?_getD, List.getElem?_eq_getElem hj]; rfl
    rw [impl_ReadList.l0, if_pos (by omega), if_pos (by omega), if_pos (by omega), er, h2, Option.bind_some, wrap_succ hj hL]
  cases b with
  | false => exact ⟨([], false), ⟨st _ (Ev.bind h1 (ev_neg Bool.false_ne_true (Ev.now _))), Ev.step sti (ev_neg Bool.false_ne_true (Ev.now _))⟩, by simp⟩
  | true =>
    by_cases c64 : out.length = 64
    · exact ⟨([], false), ⟨st _ (Ev.bind h1 (ev_pos rfl (ev_pos (by omega) (Ev.now _)))), Ev.step sti (ev_pos rfl (ev_pos (by omega) (Ev.now _)))⟩, by simp⟩
    · obtain ⟨r, ⟨g1, g2⟩, g3⟩ := hgo v (by omega)
      exact ⟨r, ⟨st _ (Ev.bind h1 (ev_pos rfl (ev_neg (by omega) (ev_pos (by omega) g1)))), Ev.step sti (ev_pos rfl (ev_neg (by omega) (ev_pos (by omega) g2)))⟩, g3⟩
theorem list_both (s : ByteArray) (hs : s.size ≤ 1048576) (hne : (s.toList != ([110, 111, 110, 101] : List UInt8)) = true) (L : List ByteArray) (hL : L.length ≤ 9223372036854775807) (K : Nat) : ∀ (a j : Nat) (out : List Int), a ≤ s.size → Lib.countB (s.extract a s.size) ⟨#[44]⟩ = K → out.length ≤ 64 → j ≤ L.length → L.drop j = Lib.splitB ⟨#[44]⟩ 0 K (s.extract a s.size) →
    ∃ r : List Int × Bool, (Ev (fun k => spec_l01Numbers.l0 k s out (a : Int) (a : Int)) r ∧ Ev (fun k => impl_ReadList.l0 k out L (L.length : Int) (j : Int)) r) ∧ r.1.length ≤ 64 := by
  have es := size_l s
  induction K with
  | zero =>
    intro a j out ha hK ho hj hd
    have el : (s.extract a s.size).data.toList = s.data.toList.drop a := by rw [← Lib.toList_data, extract_list, List.take_of_length_le (by rw [List.length_drop]; omega)]
    have hno : ∀ (i : Nat) (h : i < s.data.toList.length), a ≤ i → s.data.toList[i] ≠ 44 := by
      intro i h hi q
      rcases Lib.index_spec (s.extract a s.size).data.toList [44] with ⟨_, hn⟩ | ⟨m, e, _⟩
      · have := hn (i - a) (by rw [el, List.length_drop]; omega)
        rw [el, occAt_drop, show a + (i - a) = i by omega, comma_at _ _ h, q] at this
        exact absurd this (by decide)
      · have := Lib.countB_hit (s.extract a s.size) ⟨#[44]⟩ m (Nat.le_refl _) e
        omega
    rw [Lib.splitB_zero] at hd
    have hjl : j < L.length := by
      rcases Nat.lt_or_ge j L.length with q | q
      · exact q
      · rw [List.drop_eq_nil_of_le q] at hd; cases hd
    have hL1 : L.length = j + 1 := by
      have := congrArg List.length hd
      rw [List.length_drop, List.length_singleton] at this
      omega
    have hp : L[j] = s.extract a s.size := by
      rw [drop_cons _ _ hjl] at hd
      exact (List.cons.inj hd).1
    obtain ⟨r, ⟨r1, r2⟩, r3⟩ := piece_both s hs hne out ho a s.size ha (Nat.le_refl _) (fun h => by omega) L j hjl hL hp (fun m hm => by
      refine ⟨(out ++ [m], true), ⟨?_, ev_one (fun k => by rw [impl_ReadList.l0, if_neg (by omega)])⟩, by simp; omega⟩
      exact Ev.step (fun k => by rw [spec_l01Numbers.l0, if_neg (by omega)]) (ev_one (fun k => by rw [spec_l01Numbers.j1, if_neg Bool.false_ne_true])))
    exact ⟨r, ⟨scan_loop s hs hne out a s.size (Nat.le_refl _) r r1 (s.size - a) a (by omega) (fun i h h1 _ => hno i h h1), r2⟩, r3⟩
  | succ K ih =>
    intro a j out ha hK ho hj hd
    have el : (s.extract a s.size).data.toList = s.data.toList.drop a := by rw [← Lib.toList_data, extract_list, List.take_of_length_le (by rw [List.length_drop]; omega)]
    rcases Lib.index_spec (s.extract a s.size).data.toList [44] with ⟨e, _⟩ | ⟨m, e, hm, ho2, hno⟩
    · have := Lib.countB_miss (s.extract a s.size) ⟨#[44]⟩ e
      omega
    · have hc := Lib.countB_hit (s.extract a s.size) ⟨#[44]⟩ m (Nat.le_refl _) e
      have hsp := Lib.splitB_hit ⟨#[44]⟩ 0 K (s.extract a s.size) m e
      have hz : (s.extract a s.size).size = s.size - a := by rw [ByteArray.size_extract]; omega
      rw [hz] at hc hsp
      rw [el, List.length_drop] at hm
      rw [el, occAt_drop] at ho2
      have hml : a + m < s.data.toList.length := by
        rcases Nat.lt_or_ge (a + m) s.data.toList.length with q | q
        · exact q
        · rw [show a + m = s.data.toList.length by omega, comma_end] at ho2; cases ho2
      rw [comma_at _ _ hml, beq_iff_eq] at ho2
      have e1 : (s.extract a s.size).extract 0 (m + 0) = s.extract a (a + m) := by rw [ByteArray.extract_extract, Nat.add_zero, Nat.min_eq_left (by omega)]; rfl
      have e2 : (s.extract a s.size).extract (m + (⟨#[44]⟩ : ByteArray).size) (s.size - a) = s.extract (a + m + 1) s.size := by
        rw [ByteArray.extract_extract, show a + (s.size - a) = s.size by omega, Nat.min_self]
        rfl
      rw [e2] at hc
      rw [e1, e2] at hsp
      rw [hsp] at hd
      have hjl : j < L.length := by
        rcases Nat.lt_or_ge j L.length with q | q
        · exact q
        · rw [List.drop_eq_nil_of_le q] at hd; cases hd
      rw [drop_cons _ _ hjl] at hd
      obtain ⟨hp, hd2⟩ := List.cons.inj hd
      obtain ⟨r, ⟨r1, r2⟩, r3⟩ := piece_both s hs hne out ho a (a + m) (by omega) (by omega) (fun _ => ho2) L j hjl hL hp (fun v hv => by
        exact ih (a + m + 1) (j + 1) (out ++ [v]) (by omega) (by omega) (by simp; omega) (by omega) hd2)
      refine ⟨r, ⟨scan_loop s hs hne out a (a + m) (by omega) r r1 m a rfl (fun i h h1 h2 q => ?_), r2⟩, r3⟩
      have := hno (i - a) (by omega)
      rw [el, occAt_drop, show a + (i - a) = i by omega, comma_at _ _ h, q] at this
      exact absurd this (by decide)
theorem readList_both (s : ByteArray) (hs : s.size ≤ 1048576) : ∃ r : List Int × Bool, (Ev (fun k => spec_ReadList.f k s) r ∧ Ev (fun k => impl_ReadList.f k s) r) ∧ r.1.length ≤ 64 := by
  unfold spec_ReadList.f spec_l01Numbers.f impl_ReadList.f
  by_cases c : s.toList = ([110, 111, 110, 101] : List UInt8)
  · refine ⟨([], true), ⟨Ev.bind (a := ([], true)) ?_ (Ev.now _), ev_some (ev_pos c (Ev.now _))⟩, by simp⟩
    have hne : (s.toList != ([110, 111, 110, 101] : List UInt8)) = false := by rw [c]; rfl
    exact Ev.step (fun k => by rw [spec_l01Numbers.l0, if_pos (by omega), hne]) (ev_one (fun k => by rw [spec_l01Numbers.j1, if_neg Bool.false_ne_true]))
  · have hne : (s.toList != ([110, 111, 110, 101] : List UInt8)) = true := bne_iff_ne.2 c
    have hf : s.extract 0 s.size = s := by simp
    have hle := Lib.countB_le ⟨#[44]⟩ (Nat.le_refl _) s.size s (Nat.le_refl _)
    have hlen := Lib.splitB_all ⟨#[44]⟩ (Nat.le_refl _) 0 _ s rfl
    obtain ⟨r, ⟨r1, r2⟩, r3⟩ := list_both s hs hne (Lib.splitB ⟨#[44]⟩ 0 (Lib.countB s ⟨#[44]⟩) s) (by omega) (Lib.countB s ⟨#[44]⟩) 0 0 [] (Nat.zero_le _) (by rw [hf]) (by simp) (Nat.zero_le _) (by rw [hf]; rfl)
    refine ⟨r, ⟨Ev.bind r1 (Ev.now _), ev_some (ev_neg c (ev_to ?_ r2))⟩, r3⟩
    unfold strings_Split.f
    rw [if_pos ⟨by omega, Nat.le_refl _⟩]
theorem FnExactReadList : laws_FnExactReadList.Pure := by
  intro s hn
  apply Ev.rounds
  unfold laws_FnExactReadList.f
  by_cases c : (s.size : Int) > 1048576
  · exact ev_pos c (Ev.now _)
  obtain ⟨⟨v, b⟩, ⟨h1, h2⟩, hl⟩ := readList_both s (by omega)
  have hl : v.length ≤ 64 := hl
  have hq := eqInt64S_ev v (Nat.le_trans hl (by decide))
  have hm := mark_ev v (Nat.le_trans hl (by decide))
  have hh := held_ev v.length (Nat.le_trans hl (by decide))
  have eb : (b != b) = false := by simp
  have n0 : ¬ ((v.length : Int) + 1 < 0) := by omega
  refine ev_neg c (Ev.bind h1 (Ev.bind h2 (Ev.bind hq (ev_pos rfl ?_))))
  show Ev (fun k => laws_FnExactReadList.j0 k s v b v (b != b)) true
  rw [eb]
  refine Ev.step (fun k => by rw [laws_FnExactReadList.j0, if_neg Bool.false_ne_true]) (Ev.bind hm (Ev.bind hh (ev_neg n0 (ev_pos rfl (Ev.bind h2 (Ev.bind hq (ev_pos rfl ?_)))))))
  show Ev (fun k => laws_FnExactReadList.j1 k (seqL v.length) ((v.length : Int) + 1) (b != b)) true
  rw [eb]
  exact Ev.step (fun k => by rw [laws_FnExactReadList.j1, if_neg Bool.false_ne_true]) (Ev.bind hh (ev_neg n0 (ev_pos rfl (Ev.now _))))

end Go.Proofs.YtmnckflgmjgkaacDoor.Pure
