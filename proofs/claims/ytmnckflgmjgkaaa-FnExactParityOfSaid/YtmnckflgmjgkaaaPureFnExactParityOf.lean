/-
The law FnExactParityOf answers true for all numbers; there are no conditions beside the row's own bounds.
-/
import Derived.Test.YtmnckflgmjgkaaaQFnExactParityOfx1
namespace Go.Proofs.Ytmnckflgmjgkaaa.Pure
open Go.RowKit Go.Proofs.Ytmnckflgmjgkaaa.QFnExactParityOf Go.Proofs.YtmnckflgmjgkaaaW.PrintWords Go.Proofs.YtmnckflgmjgkaaaW.PrintLast Go.Proofs.YtmnckflgmjgkaaaW.PrintMore
set_option linter.unusedVariables false

theorem ev_one {α : Type} {g : Nat → Option α} {r : α} (h : ∀ k, g (k + 1) = some r) : Ev g r :=
  ⟨1, fun k hk => by obtain ⟨m, rfl⟩ : ∃ m, k = m + 1 := ⟨k - 1, by omega⟩; exact h m⟩
theorem wrap64_in {x : Int} (h0 : -9223372036854775808 ≤ x) (h1 : x ≤ 9223372036854775807) : wrap64 x = x := by
  unfold wrap64; omega
theorem u64_in {x : Int} (h0 : 0 ≤ x) (h1 : x ≤ 18446744073709551615) : IntKind.u64.wrap x = x := by
  simp [IntKind.wrap, IntKind.bits, IntKind.signed]; omega
theorem i64_in {x : Int} (h0 : -9223372036854775808 ≤ x) (h1 : x ≤ 9223372036854775807) : IntKind.i64.wrap x = x := by
  rw [IntKind.wrap_i64]; omega
theorem and_one (x : Int) : Go.bits .and .i64 x 1 = x % 2 := by
  have h : (BitVec.ofInt 64 x &&& BitVec.ofInt 64 1).toNat = (x % 2).toNat := by
    have e1 : BitVec.ofInt 64 1 = 1#64 := by decide
    rw [e1, BitVec.toNat_and, BitVec.toNat_ofInt]
    have e2 : (1#64).toNat = 1 := by decide
    rw [e2, Nat.and_one_is_mod]
    omega
  show IntKind.i64.wrap (((BitVec.ofInt 64 x &&& BitVec.ofInt 64 1).toNat : Nat) : Int) = x % 2
  rw [h, i64_in (by omega) (by omega)]
  omega
theorem wf_i64 {x : Int} (h : (Lit.int .i64 x).wf = true) : -9223372036854775808 ≤ x ∧ x ≤ 9223372036854775807 := by
  simp [Lit.wf, IntKind.min, IntKind.max, IntKind.signed, IntKind.bits] at h
  omega
theorem pow_pos_int (d : Nat) : (0 : Int) < 2 ^ d := Int.pow_pos (by decide)
theorem pow_le_int {a b : Nat} (h : a ≤ b) : (2 : Int) ^ a ≤ 2 ^ b := by
  have := Nat.pow_le_pow_right (n := 2) (by decide) h
  exact_mod_cast this

theorem ev_pos {α : Type} {c : Prop} [Decidable c] {g h : Nat → Option α} {r : α} (hc : c) (hg : Ev g r) : Ev (fun k => if c then g k else h k) r := by
  obtain ⟨K, hK⟩ := hg
  exact ⟨K, fun k hk => (if_pos hc).trans (hK k hk)⟩
theorem ev_neg {α : Type} {c : Prop} [Decidable c] {g h : Nat → Option α} {r : α} (hc : ¬ c) (hg : Ev h r) : Ev (fun k => if c then g k else h k) r := by
  obtain ⟨K, hK⟩ := hg
  exact ⟨K, fun k hk => (if_neg hc).trans (hK k hk)⟩
theorem ev_some {α β : Type} {f : Nat → α → Option β} {a : α} {r : β} (h : Ev (fun k => f k a) r) : Ev (fun k => (some a).bind (f k)) r := h
theorem ev_to {α β : Type} {x : Option α} {f : Nat → α → Option β} {a : α} {r : β} (e : x = some a) (h : Ev (fun k => f k a) r) : Ev (fun k => x.bind (f k)) r := by subst e; exact h
theorem ev_det {α : Type} {g : Nat → Option α} {r r' : α} (h : Ev g r) (h' : Ev g r') : r = r' := by
  obtain ⟨K, hK⟩ := h
  obtain ⟨K', hK'⟩ := h'
  have h1 := hK (max K K') (Nat.le_max_left _ _)
  have h2 := hK' (max K K') (Nat.le_max_right _ _)
  rw [h1] at h2
  exact Option.some.inj h2
theorem wrap_succ {j n : Nat} (h : j < n) (hn : n ≤ 9223372036854775807) : wrap64 ((j : Int) + 1) = ((j + 1 : Nat) : Int) := by
  rw [wrap64_in (by omega) (by omega)]; omega
theorem nat0 (j : Nat) : (0 : Int) ≤ (j : Int) := Int.natCast_nonneg j
theorem rd_nat (l : List Int) (j : Nat) : rd l (j : Int) = l.getD j 0 := by unfold rd; rw [Int.toNat_natCast]
theorem rd_get (l : List Int) (j : Nat) (h : j < l.length) : rd l (j : Int) = l[j] := by rw [rd_nat, List.getD_eq_getElem?_getD, List.getElem?_eq_getElem h]; rfl
theorem drop_cons {α : Type} (l : List α) (j : Nat) (h : j < l.length) : l.drop j = l[j] :: l.drop (j + 1) := List.drop_eq_getElem_cons h
theorem take_snoc' {α : Type} (l : List α) (j : Nat) (h : j < l.length) : l.take (j + 1) = l.take j ++ [l[j]] := List.take_succ_eq_append_getElem h
theorem set_take {α : Type} (acc : List α) (j : Nat) (x : α) (h : j < acc.length) : (acc.set j x).take (j + 1) = acc.take j ++ [x] := by
  rw [List.take_set, List.take_succ_eq_append_getElem h, List.set_append_right _ _ (by simp; omega)]
  have : (acc.take j).length = j := by rw [List.length_take]; omega
  rw [this, Nat.sub_self]
  rfl
theorem take_all {α : Type} {a b : List α} {n : Nat} (ha : a.length = n) (hb : b.length = n) (h : a.take n = b.take n) : a = b := by
  rw [List.take_of_length_le (by omega), List.take_of_length_le (by omega)] at h; exact h
theorem w01 : wrap64 (0 + 1) = 1 := by unfold wrap64; decide
theorem w11 : wrap64 (1 + 1) = 2 := by unfold wrap64; decide

theorem land_step (a b m M : Nat) (ha : a < 256) (hm : m < 256) : (a + 256 * b) &&& (m + 256 * M) = (a &&& m) + 256 * (b &&& M) := by
  have h1 : ((a + 256 * b) &&& (m + 256 * M)) % 2 ^ 8 = (a &&& m) := by
    rw [Nat.and_mod_two_pow]
    congr 1 <;> omega
  have h2 : ((a + 256 * b) &&& (m + 256 * M)) / 2 ^ 8 = (b &&& M) := by
    rw [← Nat.shiftRight_eq_div_pow, Nat.shiftRight_and_distrib, Nat.shiftRight_eq_div_pow, Nat.shiftRight_eq_div_pow]
    congr 1 <;> omega
  omega
def maskN (m : Nat) : Nat → Nat
  | 0 => 0
  | n + 1 => m + 256 * maskN m n
def g1 (b : Nat) : Nat := ((b / 2) &&& 85) + (b &&& 85)
def g2 (b : Nat) : Nat := ((b / 4) &&& 51) + (b &&& 51)
def g3 (e : Nat) : Nat := (e / 16 + e) % 16
def S1 (n x : Nat) : Nat := ((x / 2) &&& maskN 85 n) + (x &&& maskN 85 n)
def S2 (n x : Nat) : Nat := ((x / 4) &&& maskN 51 n) + (x &&& maskN 51 n)
def S3 (n z : Nat) : Nat := (z / 16 + z) &&& maskN 15 n
theorem t1 : ∀ b : Fin 256, ∀ c : Fin 2, ((b.val / 2 + 128 * c.val) &&& 85) = ((b.val / 2) &&& 85) := by decide +kernel
theorem t2 : ∀ b : Fin 256, ∀ c : Fin 4, ((b.val / 4 + 64 * c.val) &&& 51) = ((b.val / 4) &&& 51) := by decide +kernel
theorem t3 : ∀ b : Fin 256, g1 b.val < 256 ∧ g2 (g1 b.val) ≤ 68 ∧ g2 (g1 b.val) % 16 ≤ 4 := by decide +kernel
theorem t4 : ∀ b : Fin 256, g3 (g2 (g1 b.val)) = b.val % 2 + (b.val / 2 % 2 + (b.val / 4 % 2 + (b.val / 8 % 2 + (b.val / 16 % 2 + (b.val / 32 % 2 + (b.val / 64 % 2 + b.val / 128 % 2)))))) := by decide +kernel
theorem S1_step (n b x : Nat) (hb : b < 256) : S1 (n + 1) (b + 256 * x) = g1 b + 256 * S1 n x := by
  have h := t1 ⟨b, hb⟩ ⟨x % 2, by omega⟩
  simp only at h
  have e : (b + 256 * x) / 2 = (b / 2 + 128 * (x % 2)) + 256 * (x / 2) := by omega
  unfold S1 g1
  rw [e, maskN, land_step _ _ _ _ (by omega) (by omega), land_step _ _ _ _ hb (by omega), h]
  omega
theorem S2_step (n b x : Nat) (hb : b < 256) : S2 (n + 1) (b + 256 * x) = g2 b + 256 * S2 n x := by
  have h := t2 ⟨b, hb⟩ ⟨x % 4, by omega⟩
  simp only at h
  have e : (b + 256 * x) / 4 = (b / 4 + 64 * (x % 4)) + 256 * (x / 4) := by omega
  unfold S2 g2
  rw [e, maskN, land_step _ _ _ _ (by omega) (by omega), land_step _ _ _ _ hb (by omega), h]
  omega
theorem S3_step (n e z : Nat) (he : e ≤ 68) (hz : z % 16 ≤ 4) : S3 (n + 1) (e + 256 * z) = g3 e + 256 * S3 n z := by
  have e1 : (e + 256 * z) / 16 + (e + 256 * z) = (e / 16 + 16 * (z % 16) + e) + 256 * (z / 16 + z) := by omega
  have e2 : ((e / 16 + 16 * (z % 16) + e) &&& 15) = g3 e := by
    rw [show (15 : Nat) = 2 ^ 4 - 1 from rfl, Nat.and_two_pow_sub_one_eq_mod]
    unfold g3
    omega
  unfold S3
  rw [e1, maskN, land_step _ _ _ _ (by omega) (by omega), e2]
def PP (n x : Nat) : Nat := S3 n (S2 n (S1 n x))
def pc8 (b : Nat) : Nat := b % 2 + (b / 2 % 2 + (b / 4 % 2 + (b / 8 % 2 + (b / 16 % 2 + (b / 32 % 2 + (b / 64 % 2 + b / 128 % 2))))))
theorem low_of (n x : Nat) (h : x < 256 ^ n) : S2 n (S1 n x) % 16 ≤ 4 := by
  cases n with
  | zero => simp [S2, maskN]
  | succ n =>
    have e : x = x % 256 + 256 * (x / 256) := by omega
    have ht := t3 ⟨x % 256, by omega⟩
    simp only at ht
    rw [e, S1_step _ _ _ (by omega), S2_step _ _ _ ht.1]
    omega
theorem PP_step (n x : Nat) (h : x < 256 ^ (n + 1)) : PP (n + 1) x = pc8 (x % 256) + 256 * PP n (x / 256) := by
  have e : x = x % 256 + 256 * (x / 256) := by omega
  have ht := t3 ⟨x % 256, by omega⟩
  have h4 := t4 ⟨x % 256, by omega⟩
  simp only at ht h4
  have hx : x / 256 < 256 ^ n := by rw [Nat.pow_succ] at h; omega
  unfold PP
  conv => lhs; rw [e]
  rw [S1_step _ _ _ (by omega), S2_step _ _ _ ht.1, S3_step _ _ _ ht.2.1 (low_of n _ hx), h4]
  rfl
def pcF : Nat → Nat → Nat
  | 0, _ => 0
  | f + 1, x => x % 2 + pcF f (x / 2)
theorem pcF_8 (f x : Nat) : pcF (f + 8) x = pc8 (x % 256) + pcF f (x / 256) := by
  have d : x / 2 / 2 / 2 / 2 / 2 / 2 / 2 / 2 = x / 256 := by omega
  show x % 2 + (x / 2 % 2 + (x / 2 / 2 % 2 + (x / 2 / 2 / 2 % 2 + (x / 2 / 2 / 2 / 2 % 2 + (x / 2 / 2 / 2 / 2 / 2 % 2 + (x / 2 / 2 / 2 / 2 / 2 / 2 % 2 + (x / 2 / 2 / 2 / 2 / 2 / 2 / 2 % 2 + pcF f (x / 2 / 2 / 2 / 2 / 2 / 2 / 2 / 2)))))))) = _
  rw [d]
  unfold pc8
  omega
theorem pc8_le (b : Nat) : pc8 b ≤ 8 := by unfold pc8; omega
theorem pcF_flip (f : Nat) : ∀ x : Nat, 0 < x → x < 2 ^ f → pcF f (x &&& (x - 1)) + 1 = pcF f x := by
  induction f with
  | zero => intro x h1 h2; simp at h2; omega
  | succ f ih =>
    intro x h1 h2
    rw [Nat.pow_succ] at h2
    have hm : (x &&& (x - 1)) % 2 = 0 := by
      rw [show (2 : Nat) = 2 ^ 1 from rfl, Nat.and_mod_two_pow]
      rcases Nat.mod_two_eq_zero_or_one x with h | h
      · rw [show x % 2 ^ 1 = 0 from h]; simp
      · rw [show (x - 1) % 2 ^ 1 = 0 by omega]; simp
    have hd : (x &&& (x - 1)) / 2 = (x / 2 &&& (x - 1) / 2) := Nat.and_div_two
    show (x &&& (x - 1)) % 2 + pcF f ((x &&& (x - 1)) / 2) + 1 = x % 2 + pcF f (x / 2)
    rw [hm, hd]
    rcases Nat.mod_two_eq_zero_or_one x with h | h
    · have e : (x - 1) / 2 = x / 2 - 1 := by omega
      have := ih (x / 2) (by omega) (by omega)
      rw [e]
      omega
    · have e : (x - 1) / 2 = x / 2 := by omega
      rw [e, Nat.and_self]
      omega

theorem and_u64 (x y : Nat) (hx : x < 2 ^ 64) (hy : y < 2 ^ 64) : Go.bits .and .u64 (x : Int) (y : Int) = ((x &&& y : Nat) : Int) := by
  have h : (BitVec.ofInt 64 (x : Int) &&& BitVec.ofInt 64 (y : Int)).toNat = x &&& y := by
    rw [BitVec.toNat_and, BitVec.ofInt_natCast, BitVec.ofInt_natCast, BitVec.toNat_ofNat, BitVec.toNat_ofNat, Nat.mod_eq_of_lt hx, Nat.mod_eq_of_lt hy]
  have hl : x &&& y ≤ x := Nat.and_le_left
  show IntKind.u64.wrap (((BitVec.ofInt 64 (x : Int) &&& BitVec.ofInt 64 (y : Int)).toNat : Nat) : Int) = _
  rw [h, u64_in (by omega) (by omega)]
theorem and_i64 (x y : Nat) (hx : x < 2 ^ 63) (hy : y < 2 ^ 63) : Go.bits .and .i64 (x : Int) (y : Int) = ((x &&& y : Nat) : Int) := by
  have h : (BitVec.ofInt 64 (x : Int) &&& BitVec.ofInt 64 (y : Int)).toNat = x &&& y := by
    rw [BitVec.toNat_and, BitVec.ofInt_natCast, BitVec.ofInt_natCast, BitVec.toNat_ofNat, BitVec.toNat_ofNat, Nat.mod_eq_of_lt (by omega), Nat.mod_eq_of_lt (by omega)]
  have hl : x &&& y ≤ x := Nat.and_le_left
  show IntKind.i64.wrap (((BitVec.ofInt 64 (x : Int) &&& BitVec.ofInt 64 (y : Int)).toNat : Nat) : Int) = _
  rw [h, i64_in (by omega) (by omega)]
theorem masks : maskN 85 8 = 6148914691236517205 ∧ maskN 51 8 = 3689348814741910323 ∧ maskN 15 8 = 1085102592571150095 := by decide +kernel
theorem S1_lt (x : Nat) (hx : x < 2 ^ 64) : S1 8 x < 2 ^ 64 ∧ (IntKind.u64.wrap ((Go.bits .and .u64 ((x : Int) / 2) 6148914691236517205) + (Go.bits .and .u64 (x : Int) 6148914691236517205))) = ((S1 8 x : Nat) : Int) := by
  have e2 : ((x : Int) / 2) = ((x / 2 : Nat) : Int) := by omega
  have a1 := and_u64 (x / 2) 6148914691236517205 (by omega) (by omega)
  have a2 := and_u64 x 6148914691236517205 hx (by omega)
  have l1 : (x / 2) &&& 6148914691236517205 ≤ 6148914691236517205 := Nat.and_le_right
  have l2 : x &&& 6148914691236517205 ≤ 6148914691236517205 := Nat.and_le_right
  have es : S1 8 x = ((x / 2) &&& 6148914691236517205) + (x &&& 6148914691236517205) := by unfold S1; rw [masks.1]
  rw [es, e2]
  refine ⟨by omega, ?_⟩
  rw [show (6148914691236517205 : Int) = ((6148914691236517205 : Nat) : Int) from rfl, a1, a2, u64_in (by omega) (by omega)]
  omega
theorem S2_lt (x : Nat) (hx : x < 2 ^ 64) : S2 8 x < 2 ^ 63 ∧ (IntKind.u64.wrap ((Go.bits .and .u64 ((x : Int) / 4) 3689348814741910323) + (Go.bits .and .u64 (x : Int) 3689348814741910323))) = ((S2 8 x : Nat) : Int) := by
  have e2 : ((x : Int) / 4) = ((x / 4 : Nat) : Int) := by omega
  have a1 := and_u64 (x / 4) 3689348814741910323 (by omega) (by omega)
  have a2 := and_u64 x 3689348814741910323 hx (by omega)
  have l1 : (x / 4) &&& 3689348814741910323 ≤ 3689348814741910323 := Nat.and_le_right
  have l2 : x &&& 3689348814741910323 ≤ 3689348814741910323 := Nat.and_le_right
  have es : S2 8 x = ((x / 4) &&& 3689348814741910323) + (x &&& 3689348814741910323) := by unfold S2; rw [masks.2.1]
  rw [es, e2]
  refine ⟨by omega, ?_⟩
  rw [show (3689348814741910323 : Int) = ((3689348814741910323 : Nat) : Int) from rfl, a1, a2, u64_in (by omega) (by omega)]
  omega
theorem S3_eq (x : Nat) (hx : x < 2 ^ 63) : (Go.bits .and .u64 (IntKind.u64.wrap (((x : Int) / 16) + (x : Int))) 1085102592571150095) = ((S3 8 x : Nat) : Int) := by
  have e2 : ((x : Int) / 16) + (x : Int) = ((x / 16 + x : Nat) : Int) := by omega
  have a1 := and_u64 (x / 16 + x) 1085102592571150095 (by omega) (by omega)
  have es : S3 8 x = ((x / 16 + x) &&& 1085102592571150095) := by unfold S3; rw [masks.2.2]
  rw [es, e2, u64_in (by omega) (by omega), show (1085102592571150095 : Int) = ((1085102592571150095 : Nat) : Int) from rfl, a1]
def fin64 (y : Int) : Int := Go.bits .and .i64 (wrap64 (IntKind.u64.wrap ((IntKind.u64.wrap ((IntKind.u64.wrap (y + (y / 256))) + ((IntKind.u64.wrap (y + (y / 256))) / 65536))) + ((IntKind.u64.wrap ((IntKind.u64.wrap (y + (y / 256))) + ((IntKind.u64.wrap (y + (y / 256))) / 65536))) / 4294967296)))) 127
theorem ones_f (x : Nat) (hx : x < 2 ^ 64) : bits_OnesCount64.f (x : Int) = some (fin64 ((PP 8 x : Nat) : Int)) := by
  obtain ⟨b1, h1⟩ := S1_lt x hx
  obtain ⟨b2, h2⟩ := S2_lt (S1 8 x) b1
  have h3 := S3_eq (S2 8 (S1 8 x)) b2
  unfold bits_OnesCount64.f
  simp only [h1, h2, h3]
  rfl
def packL : List Nat → Nat
  | [] => 0
  | p :: l => p + 256 * packL l
def sumL : List Nat → Nat
  | [] => 0
  | p :: l => p + sumL l
theorem pp_list (n : Nat) : ∀ x : Nat, x < 256 ^ n → ∃ l : List Nat, l.length = n ∧ (∀ p ∈ l, p ≤ 8) ∧ PP n x = packL l ∧ pcF (8 * n) x = sumL l := by
  induction n with
  | zero => intro x _; exact ⟨[], rfl, by simp, by simp [PP, S3, maskN, packL], rfl⟩
  | succ n ih =>
    intro x h
    have hx : x / 256 < 256 ^ n := by rw [Nat.pow_succ] at h; omega
    obtain ⟨l, h1, h2, h3, h4⟩ := ih (x / 256) hx
    refine ⟨pc8 (x % 256) :: l, by simp [h1], ?_, ?_, ?_⟩
    · intro p hp
      rcases List.mem_cons.1 hp with rfl | hp
      · exact pc8_le _
      · exact h2 p hp
    · rw [PP_step n x h, h3, packL]
    · rw [Nat.mul_succ, pcF_8, h4, sumL]
theorem fs_4 (y A T : Nat) (hA : y / 256 = A) (h : y + A = T) (hT : T < 9223372036854775808) : (IntKind.u64.wrap ((y : Int) + ((y : Int) / 256))) = (T : Int) := by
  have e : (y : Int) / 256 = (A : Int) := by omega
  have e2 : (y : Int) + (A : Int) = (T : Int) := by omega
  rw [e, e2, u64_in (by omega) (by omega)]
theorem fs_5 (y A T : Nat) (hA : y / 65536 = A) (h : y + A = T) (hT : T < 9223372036854775808) : (IntKind.u64.wrap ((y : Int) + ((y : Int) / 65536))) = (T : Int) := by
  have e : (y : Int) / 65536 = (A : Int) := by omega
  have e2 : (y : Int) + (A : Int) = (T : Int) := by omega
  rw [e, e2, u64_in (by omega) (by omega)]
theorem fs_6 (y A T : Nat) (hA : y / 4294967296 = A) (h : y + A = T) (hT : T < 9223372036854775808) : wrap64 (IntKind.u64.wrap ((y : Int) + ((y : Int) / 4294967296))) = (T : Int) := by
  have e : (y : Int) / 4294967296 = (A : Int) := by omega
  have e2 : (y : Int) + (A : Int) = (T : Int) := by omega
  rw [e, e2, u64_in (by omega) (by omega), wrap64_in (by omega) (by omega)]
theorem fs_127 (y s K : Nat) (h : y = s + 256 * K) (hs : s ≤ 64) (hy : y < 9223372036854775808) : Go.bits .and .i64 (y : Int) 127 = (s : Int) := by
  rw [show (127 : Int) = ((127 : Nat) : Int) from rfl, and_i64 y 127 (by omega) (by omega), show (127 : Nat) = 2 ^ 7 - 1 from rfl, Nat.and_two_pow_sub_one_eq_mod]
  omega
theorem fs_d1 (p0 A y : Nat) (h : y = p0 + 256 * A) (hp : p0 ≤ 8) : y / 256 = A := by omega
theorem fs_d4 (L R y : Nat) (h : y = L + 65536 * R) (hp : L < 65536) : y / 65536 = R := by omega
theorem fs_d5 (L R y : Nat) (h : y = L + 4294967296 * R) (hp : L < 4294967296) : y / 4294967296 = R := by omega
theorem fin_sum (y p0 p1 p2 p3 p4 p5 p6 p7 : Nat) (hp : p0 ≤ 8 ∧ p1 ≤ 8 ∧ p2 ≤ 8 ∧ p3 ≤ 8 ∧ p4 ≤ 8 ∧ p5 ≤ 8 ∧ p6 ≤ 8 ∧ p7 ≤ 8) (h : y = p0 + 256 * (p1 + 256 * (p2 + 256 * (p3 + 256 * (p4 + 256 * (p5 + 256 * (p6 + 256 * p7))))))) :
    fin64 (y : Int) = ((p0 + (p1 + (p2 + (p3 + (p4 + (p5 + (p6 + p7)))))) : Nat) : Int) := by
  have d1 := fs_d1 _ _ _ h hp.1
  have e4 := fs_4 y _ ((p0 + p1 + 256 * (p1 + p2)) + 65536 * ((p2 + p3 + 256 * (p3 + p4)) + 65536 * ((p4 + p5 + 256 * (p5 + p6)) + 65536 * (p6 + p7 + 256 * p7)))) d1 (by clear d1; omega) (by clear d1 h; omega)
  clear d1 h
  have d4 := fs_d4 (p0 + p1 + 256 * (p1 + p2)) ((p2 + p3 + 256 * (p3 + p4)) + 65536 * ((p4 + p5 + 256 * (p5 + p6)) + 65536 * (p6 + p7 + 256 * p7))) _ rfl (by omega)
  have e5 := fs_5 _ _ (((p0 + p1 + 256 * (p1 + p2)) + (p2 + p3 + 256 * (p3 + p4)) + 65536 * ((p2 + p3 + 256 * (p3 + p4)) + (p4 + p5 + 256 * (p5 + p6)))) + 4294967296 * ((p4 + p5 + 256 * (p5 + p6)) + (p6 + p7 + 256 * p7) + 65536 * (p6 + p7 + 256 * p7))) d4 (by clear d4 e4; omega) (by clear d4 e4; omega)
  clear d4
  have d5 := fs_d5 ((p0 + p1 + 256 * (p1 + p2)) + (p2 + p3 + 256 * (p3 + p4)) + 65536 * ((p2 + p3 + 256 * (p3 + p4)) + (p4 + p5 + 256 * (p5 + p6)))) ((p4 + p5 + 256 * (p5 + p6)) + (p6 + p7 + 256 * p7) + 65536 * (p6 + p7 + 256 * p7)) _ rfl (by clear e4 e5; omega)
  have e6 := fs_6 _ _ ((p0 + (p1 + (p2 + (p3 + (p4 + (p5 + (p6 + p7))))))) + 256 * ((p1 + p2 + p3 + p4 + p5 + p6 + p7) + 256 * ((p2 + p3 + 256 * (p3 + p4)) + (p4 + p5 + 256 * (p5 + p6)) + (p6 + p7 + 256 * p7)) + 16777216 * ((p4 + p5 + 256 * (p5 + p6)) + (p6 + p7 + 256 * p7) + 65536 * (p6 + p7 + 256 * p7)))) d5 (by clear d5 e4 e5; omega) (by clear d5 e4 e5; omega)
  clear d5
  have e7 := fs_127 _ (p0 + (p1 + (p2 + (p3 + (p4 + (p5 + (p6 + p7))))))) _ (rfl : _ = _ + 256 * ((p1 + p2 + p3 + p4 + p5 + p6 + p7) + 256 * ((p2 + p3 + 256 * (p3 + p4)) + (p4 + p5 + 256 * (p5 + p6)) + (p6 + p7 + 256 * p7)) + 16777216 * ((p4 + p5 + 256 * (p5 + p6)) + (p6 + p7 + 256 * p7) + 65536 * (p6 + p7 + 256 * p7)))) (by clear e4 e5 e6; omega) (by clear e4 e5 e6; omega)
  unfold fin64
  rw [e4, e5, e6, e7]
theorem fin_eq (x f : Nat) (hf : f = 8 * 8) (hx : x < 2 ^ 64) : fin64 ((PP 8 x : Nat) : Int) = ((pcF f x : Nat) : Int) := by
  obtain ⟨l, h1, h2, h3, h4⟩ := pp_list 8 x (by omega)
  rw [hf, h4, h3]
  match l, h1, h2 with
  | [p0, p1, p2, p3, p4, p5, p6, p7], _, h2 =>
    have b : ∀ p ∈ [p0, p1, p2, p3, p4, p5, p6, p7], p ≤ 8 := h2
    have r := fin_sum (packL [p0, p1, p2, p3, p4, p5, p6, p7]) p0 p1 p2 p3 p4 p5 p6 p7 ⟨b _ (by simp), b _ (by simp), b _ (by simp), b _ (by simp), b _ (by simp), b _ (by simp), b _ (by simp), b _ (by simp)⟩ (by simp [packL])
    rw [r]
    simp [sumL]
theorem pcF_zero (f : Nat) : pcF f 0 = 0 := by
  induction f with
  | zero => rfl
  | succ f ih => rw [pcF, ih]
theorem parity_ev (f : Nat) (hf : f = 8 * 8) (n : Nat) : ∀ (x : Nat) (p : Int), (p = 0 ∨ p = 1) → x < 9223372036854775808 → pcF f x = n → Ev (fun k => spec_l01Parity.l0 k p (x : Int)) ((p + n) % 2) := by
  have flip : ∀ x : Nat, 0 < x → x < 9223372036854775808 → pcF f (x &&& (x - 1)) + 1 = pcF f x := fun x h1 h2 => pcF_flip f x h1 (by rw [hf]; omega)
  clear hf
  induction n with
  | zero =>
    intro x p hp hx hn
    have h0 : ¬ (x : Int) > 0 := by
      intro h
      have := flip x (by omega) hx
      omega
    exact ev_one (fun k => by rw [spec_l01Parity.l0, if_neg h0]; congr 1; omega)
  | succ n ih =>
    intro x p hp hx hn
    have h0 : 0 < x := by
      rcases Nat.eq_zero_or_pos x with h | h
      · rw [h, pcF_zero] at hn; omega
      · exact h
    have hf := flip x h0 hx
    have hl : x &&& (x - 1) ≤ x := Nat.and_le_left
    have e1 : wrap64 ((x : Int) - 1) = ((x - 1 : Nat) : Int) := by rw [wrap64_in (by omega) (by omega)]; omega
    have e2 : wrap64 (1 - p) = 1 - p := wrap64_in (by omega) (by omega)
    have h := ih (x &&& (x - 1)) (1 - p) (by omega) (by omega) (by omega)
    have er : (1 - p + (n : Int)) % 2 = (p + ((n + 1 : Nat) : Int)) % 2 := by omega
    rw [er] at h
    exact Ev.step (fun k => by rw [spec_l01Parity.l0, if_pos (by omega), e1, e2, and_i64 _ _ (by omega) (by omega)]) h
theorem FnExactParityOf : laws_FnExactParityOf.Pure := by
  intro a b ha hb
  have ha := wf_i64 ha
  have hb := wf_i64 hb
  apply Ev.rounds
  suffices h : ∃ r, Ev (fun k => spec_ParityOf.f k a b) r ∧ impl_ParityOf.f a b = some r by
    obtain ⟨r, h1, h2⟩ := h
    unfold laws_FnExactParityOf.f
    refine Ev.bind h1 (ev_to h2 (ev_pos rfl (ev_neg (by simp) (Ev.now _))))
  unfold spec_ParityOf.f impl_ParityOf.f
  by_cases ca : a < 0
  · exact ⟨(0, false), ev_pos ca (Ev.now _), if_pos ca⟩
  by_cases cb : b < 0
  · exact ⟨(0, false), ev_neg ca (ev_pos cb (Ev.now _)), by rw [if_neg ca, if_pos cb]⟩
  obtain ⟨x, rfl⟩ := Int.eq_ofNat_of_zero_le (show 0 ≤ a by omega)
  obtain ⟨y, rfl⟩ := Int.eq_ofNat_of_zero_le (show 0 ≤ b by omega)
  have hand := and_i64 x y (by omega) (by omega)
  have hl : x &&& y ≤ x := Nat.and_le_left
  obtain ⟨z, hz⟩ : ∃ z, z = x &&& y := ⟨_, rfl⟩
  rw [← hz] at hand hl
  obtain ⟨f, hf⟩ : ∃ f, f = 8 * 8 := ⟨_, rfl⟩
  have hev := parity_ev f hf (pcF f z) z 0 (.inl rfl) (by omega) rfl
  refine ⟨((0 + ((pcF f z : Nat) : Int)) % 2, true), ?_, ?_⟩
  · refine ev_neg ca (ev_neg cb (Ev.bind (f := fun k t => some (t, true)) ?_ (Ev.now _)))
    unfold spec_l01Parity.f
    rw [hand]
    exact hev
  · rw [if_neg ca, if_neg cb, hand, u64_in (by omega) (by omega), ones_f z (by omega), fin_eq z f hf (by omega), Option.bind_some, Int.tmod_eq_emod_of_nonneg (by omega), Int.zero_add]

end Go.Proofs.Ytmnckflgmjgkaaa.Pure
