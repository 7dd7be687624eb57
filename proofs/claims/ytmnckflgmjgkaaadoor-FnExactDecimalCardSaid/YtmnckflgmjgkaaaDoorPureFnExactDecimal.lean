/-
The law FnExactDecimal answers true for every number; conditions: the library's table of powers of ten stands as it began (the row's own listed variables).
-/
import Derived.Test.YtmnckflgmjgkaaaDoorQFnExactDecimalx1
namespace Go.Proofs.YtmnckflgmjgkaaaDoor.Pure
open Go.RowKit Go.Proofs.YtmnckflgmjgkaaaDoor.QFnExactDecimal Go.Proofs.YtmnckflgmjgkaaaDoorW.PrintWords Go.Proofs.YtmnckflgmjgkaaaDoorW.PrintLast Go.Proofs.YtmnckflgmjgkaaaDoorW.PrintMore
set_option linter.unusedVariables false

theorem ev_one {α : Type} {g : Nat → Option α} {r : α} (h : ∀ k, g (k + 1) = some r) : Ev g r :=
  ⟨1, fun k hk => by obtain ⟨m, rfl⟩ : ∃ m, k = m + 1 := ⟨k - 1, by omega⟩; exact h m⟩
theorem wrap64_in {x : Int} (h0 : -9223372036854775808 ≤ x) (h1 : x ≤ 9223372036854775807) : wrap64 x = x := by
  unfold wrap64; omega
theorem u64_in {x : Int} (h0 : 0 ≤ x) (h1 : x ≤ 18446744073709551615) : IntKind.u64.wrap x = x := by
  simp [IntKind.wrap, IntKind.bits, IntKind.signed]; omega
theorem i64_in {x : Int} (h0 : -9223372036854775808 ≤ x) (h1 : x ≤ 9223372036854775807) : IntKind.i64.wrap x = x := by
  rw [IntKind.wrap_i64]; omega
theorem and_one (x : Int) : Go.bits .and .i64 x 1 = x % 2 := by
  have h : (BitVec.ofInt 64 x &&& BitVec.ofInt 64 1).toNat = (x % 2).toNat := by
    have e1 : BitVec.ofInt 64 1 = 1#64 := by decide
    rw [e1, BitVec.toNat_and, BitVec.toNat_ofInt]
    have e2 : (1#64).toNat = 1 := by decide
    rw [e2, Nat.and_one_is_mod]
    omega
  show IntKind.i64.wrap (((BitVec.ofInt 64 x &&& BitVec.ofInt 64 1).toNat : Nat) : Int) = x % 2
  rw [h, i64_in (by omega) (by omega)]
  omega
theorem wf_i64 {x : Int} (h : (Lit.int .i64 x).wf = true) : -9223372036854775808 ≤ x ∧ x ≤ 9223372036854775807 := by
  simp [Lit.wf, IntKind.min, IntKind.max, IntKind.signed, IntKind.bits] at h
  omega
theorem pow_pos_int (d : Nat) : (0 : Int) < 2 ^ d := Int.pow_pos (by decide)
theorem pow_le_int {a b : Nat} (h : a ≤ b) : (2 : Int) ^ a ≤ 2 ^ b := by
  have := Nat.pow_le_pow_right (n := 2) (by decide) h
  exact_mod_cast this

theorem ev_pos {α : Type} {c : Prop} [Decidable c] {g h : Nat → Option α} {r : α} (hc : c) (hg : Ev g r) : Ev (fun k => if c then g k else h k) r := by
  obtain ⟨K, hK⟩ := hg
  exact ⟨K, fun k hk => (if_pos hc).trans (hK k hk)⟩
theorem ev_neg {α : Type} {c : Prop} [Decidable c] {g h : Nat → Option α} {r : α} (hc : ¬ c) (hg : Ev h r) : Ev (fun k => if c then g k else h k) r := by
  obtain ⟨K, hK⟩ := hg
  exact ⟨K, fun k hk => (if_neg hc).trans (hK k hk)⟩
theorem ev_some {α β : Type} {f : Nat → α → Option β} {a : α} {r : β} (h : Ev (fun k => f k a) r) : Ev (fun k => (some a).bind (f k)) r := h
theorem ev_to {α β : Type} {x : Option α} {f : Nat → α → Option β} {a : α} {r : β} (e : x = some a) (h : Ev (fun k => f k a) r) : Ev (fun k => x.bind (f k)) r := by subst e; exact h
theorem ev_det {α : Type} {g : Nat → Option α} {r r' : α} (h : Ev g r) (h' : Ev g r') : r = r' := by
  obtain ⟨K, hK⟩ := h
  obtain ⟨K', hK'⟩ := h'
  have h1 := hK (max K K') (Nat.le_max_left _ _)
  have h2 := hK' (max K K') (Nat.le_max_right _ _)
  rw [h1] at h2
  exact Option.some.inj h2
theorem wrap_succ {j n : Nat} (h : j < n) (hn : n ≤ 9223372036854775807) : wrap64 ((j : Int) + 1) = ((j + 1 : Nat) : Int) := by
  rw [wrap64_in (by omega) (by omega)]; omega
theorem nat0 (j : Nat) : (0 : Int) ≤ (j : Int) := Int.natCast_nonneg j
theorem rd_nat (l : List Int) (j : Nat) : rd l (j : Int) = l.getD j 0 := by unfold rd; rw [Int.toNat_natCast]
theorem rd_get (l : List Int) (j : Nat) (h : j < l.length) : rd l (j : Int) = l[j] := by rw [rd_nat, List.getD_eq_getElem?_getD, List.getElem?_eq_getElem h]; rfl
theorem drop_cons {α : Type} (l : List α) (j : Nat) (h : j < l.length) : l.drop j = l[j] :: l.drop (j + 1) := List.drop_eq_getElem_cons h
theorem take_snoc' {α : Type} (l : List α) (j : Nat) (h : j < l.length) : l.take (j + 1) = l.take j ++ [l[j]] := List.take_succ_eq_append_getElem h
theorem set_take {α : Type} (acc : List α) (j : Nat) (x : α) (h : j < acc.length) : (acc.set j x).take (j + 1) = acc.take j ++ [x] := by
  rw [List.take_set, List.take_succ_eq_append_getElem h, List.set_append_right _ _ (by simp; omega)]
  have : (acc.take j).length = j := by rw [List.length_take]; omega
  rw [this, Nat.sub_self]
  rfl
theorem take_all {α : Type} {a b : List α} {n : Nat} (ha : a.length = n) (hb : b.length = n) (h : a.take n = b.take n) : a = b := by
  rw [List.take_of_length_le (by omega), List.take_of_length_le (by omega)] at h; exact h
theorem w01 : wrap64 (0 + 1) = 1 := by unfold wrap64; decide
theorem w11 : wrap64 (1 + 1) = 2 := by unfold wrap64; decide

def revD (u : Nat) : List Int := if h : u = 0 then [] else ((48 + u % 10 : Nat) : Int) :: revD (u / 10)
termination_by u
decreasing_by omega
theorem revD_pos {u : Nat} (h : 0 < u) : revD u = ((48 + u % 10 : Nat) : Int) :: revD (u / 10) := by
  rw [revD, dif_neg (by omega)]
theorem revD_zero : revD 0 = [] := by rw [revD, dif_pos rfl]
theorem revD_len (u : Nat) : ∀ m, u < 10 ^ m → (revD u).length ≤ m := by
  induction u using Nat.strongRecOn with
  | ind u ih =>
    intro m hm
    by_cases h : u = 0
    · subst h; rw [revD_zero]; simp
    · cases m with
      | zero => simp at hm; omega
      | succ m =>
        rw [Nat.pow_succ] at hm
        rw [revD_pos (by omega), List.length_cons]
        have := ih (u / 10) (by omega) m (by omega)
        omega
def toB (x : Int) : UInt8 := UInt8.ofNat x.toNat
theorem dec_rev (u : Nat) : 0 < u → Lib.decDigits u = (revD u).reverse.map toB := by
  induction u using Nat.strongRecOn with
  | ind u ih =>
    intro h
    rw [Lib.decDigits, revD_pos h, List.reverse_cons, List.map_append]
    by_cases c : u < 10
    · have e : u / 10 = 0 := by omega
      have e2 : u % 10 = u := by omega
      rw [dif_pos c, e, revD_zero, e2]
      rfl
    · rw [dif_neg c, ih (u / 10) (by omega) (by omega)]
      rfl
theorem dec_l1 (L : List Int) (hL : L.length ≤ 100) (j : Nat) : ∀ acc : List Int, j ≤ L.length → acc.length + j ≤ 200 → Ev (fun k => spec_l01Dec.l1 k L acc ((j : Int) - 1)) (strOfNums (acc ++ (L.take j).reverse)) := by
  induction j with
  | zero => intro acc _ _; rw [List.take_zero, List.reverse_nil, List.append_nil]; exact ev_one (fun k => by rw [spec_l01Dec.l1, if_neg (by omega)])
  | succ j ih =>
    intro acc h1 h2
    have hj : j < L.length := by omega
    have ex : ((j + 1 : Nat) : Int) - 1 = (j : Int) := by omega
    have ew : wrap64 ((j : Int) - 1) = (j : Int) - 1 := wrap64_in (by omega) (by omega)
    have h := ih (acc ++ [L[j]]) (by omega) (by simp; omega)
    rw [List.append_assoc, show [L[j]] ++ (L.take j).reverse = (L.take (j + 1)).reverse by rw [take_snoc' L j hj, List.reverse_append]; rfl] at h
    rw [ex]
    exact Ev.step (fun k => by rw [spec_l01Dec.l1, if_pos (by omega), if_pos (by omega), if_pos (by omega), if_pos (by omega), rd_get L j hj, ew]) h
theorem dec_j1 (L : List Int) (hL : L.length ≤ 100) : Ev (fun k => spec_l01Dec.j1 k L) (strOfNums L.reverse) := by
  have h := dec_l1 L hL L.length [] (Nat.le_refl _) (by simp; omega)
  rw [List.nil_append, List.take_length] at h
  have ew : wrap64 ((L.length : Int) - 1) = (L.length : Int) - 1 := wrap64_in (by omega) (by omega)
  exact Ev.step (fun k => by rw [spec_l01Dec.j1, ew]) h
theorem dec_l0 (n : Int) (u : Nat) : ∀ (x : Int) (acc : List Int), x.natAbs = u → -9223372036854775808 ≤ x → x ≤ 9223372036854775807 → acc.length + (revD u).length ≤ 60 →
    Ev (fun k => spec_l01Dec.l0 k n acc x) (strOfNums ((acc ++ revD u) ++ (if n < 0 then [45] else [])).reverse) := by
  induction u using Nat.strongRecOn with
  | ind u ih =>
    intro x acc hx h0 h1 hl
    by_cases h : x = 0
    · subst h
      obtain rfl : u = 0 := by simpa using hx.symm
      rw [revD_zero, List.append_nil] 
      rw [revD_zero] at hl
      by_cases c : n < 0
      · rw [if_pos c]
        exact Ev.step (fun k => by rw [spec_l01Dec.l0, if_pos rfl, if_pos c, if_pos (by simp at hl; omega)]) (dec_j1 (acc ++ [45]) (by simp at hl ⊢; omega))
      · rw [if_neg c, List.append_nil]
        exact Ev.step (fun k => by rw [spec_l01Dec.l0, if_pos rfl, if_neg c]) (dec_j1 acc (by simp at hl; omega))
    · have hu : 0 < u := by omega
      have e1 : (Int.tmod x 10).natAbs = u % 10 := by rw [Int.natAbs_tmod, hx]; rfl
      have e2 : (Int.tdiv x 10).natAbs = u / 10 := by rw [Int.natAbs_tdiv, hx]; rfl
      rw [revD_pos hu] at hl ⊢
      rw [List.length_cons] at hl
      have hw : wrap64 (Int.tdiv x 10) = Int.tdiv x 10 := wrap64_in (by omega) (by omega)
      have hr := ih (u / 10) (by omega) (Int.tdiv x 10) (acc ++ [((48 + u % 10 : Nat) : Int)]) e2 (by omega) (by omega) (by simp; omega)
      rw [List.append_assoc acc, List.singleton_append] at hr
      by_cases c : Int.tmod x 10 < 0
      · have ed : (wrap64 (48 + (wrap64 (-(Int.tmod x 10))))) % 256 = ((48 + u % 10 : Nat) : Int) := by
          rw [wrap64_in (x := -(Int.tmod x 10)) (by omega) (by omega), wrap64_in (by omega) (by omega)]; omega
        exact Ev.step (fun k => by rw [spec_l01Dec.l0, if_neg h, if_pos c, if_pos (by omega), ed, hw]) hr
      · have ed : (wrap64 (48 + (Int.tmod x 10))) % 256 = ((48 + u % 10 : Nat) : Int) := by
          rw [wrap64_in (by omega) (by omega)]; omega
        exact Ev.step (fun k => by rw [spec_l01Dec.l0, if_neg h, if_neg c, if_pos (by omega), ed, hw]) hr
theorem dec_text (n : Int) (h : n ≠ 0) : ((([] ++ revD n.natAbs) ++ (if n < 0 then [45] else [])).reverse).map toB = Lib.itoa n := by
  have hu : 0 < n.natAbs := by omega
  rw [List.nil_append, List.reverse_append, List.map_append, ← dec_rev _ hu]
  unfold Lib.itoa
  by_cases c : n < 0
  · rw [if_pos c, if_pos c]; rfl
  · rw [if_neg c, if_neg c, show n.toNat = n.natAbs by omega]; rfl
theorem FnExactDecimal : laws_FnExactDecimal.Pure := by
  intro n hn
  have hn := wf_i64 hn
  apply Ev.rounds
  suffices h : ∃ r : ByteArray, Ev (fun k => spec_Decimal.f k n) r ∧ Lib.itoa n = r.data.toList by
    obtain ⟨r, h1, h2⟩ := h
    unfold laws_FnExactDecimal.f
    have hi : impl_Decimal.f n = some ⟨(Lib.itoa n).toArray⟩ := by
      unfold impl_Decimal.f strconv_FormatInt_16.f
      rw [if_pos ⟨rfl, hn⟩]; rfl
    exact Ev.bind h1 (ev_to hi (ev_pos (by rw [Lib.toList_data, Lib.toList_data, ← h2]) (Ev.now _)))
  unfold spec_Decimal.f spec_l01Dec.f
  by_cases c : n = 0
  · subst c
    refine ⟨⟨#[48]⟩, Ev.bind (f := fun k t => some t) (ev_pos rfl (Ev.now _)) (Ev.now _), ?_⟩
    unfold Lib.itoa
    rw [if_neg (by decide), Lib.decDigits, dif_pos (by decide)]
    rfl
  · have hl : (revD n.natAbs).length ≤ 19 := revD_len _ 19 (by omega)
    have h := dec_l0 n n.natAbs n [] rfl hn.1 hn.2 (by simp; omega)
    refine ⟨_, Ev.bind (f := fun k t => some t) (ev_neg c h) (Ev.now _), ?_⟩
    rw [strOfNums_data, ← dec_text n c]
    rfl

end Go.Proofs.YtmnckflgmjgkaaaDoor.Pure
