/-
The law FnRankedBits answers true for every two lists of bytes; there are no conditions beside the row's own bounds.
-/
import Derived.Test.YtanndepgepgfoabDoorQFnRankedBitsx7
namespace Go.Proofs.YtanndepgepgfoabDoor.Pure
open Go.RowKit Go.Proofs.YtanndepgepgfoabDoor.QFnRankedBits Go.Proofs.YtanndepgepgfoabDoorW.PrintWords Go.Proofs.YtanndepgepgfoabDoorW.PrintLast Go.Proofs.YtanndepgepgfoabDoorW.PrintMore
set_option linter.unusedVariables false

theorem ev_one {α : Type} {g : Nat → Option α} {r : α} (h : ∀ k, g (k + 1) = some r) : Ev g r :=
  ⟨1, fun k hk => by obtain ⟨m, rfl⟩ : ∃ m, k = m + 1 := ⟨k - 1, by omega⟩; exact h m⟩
theorem wrap64_in {x : Int} (h0 : -9223372036854775808 ≤ x) (h1 : x ≤ 9223372036854775807) : wrap64 x = x := by
  unfold wrap64; omega
theorem u64_in {x : Int} (h0 : 0 ≤ x) (h1 : x ≤ 18446744073709551615) : IntKind.u64.wrap x = x := by
  simp [IntKind.wrap, IntKind.bits, IntKind.signed]; omega
theorem i64_in {x : Int} (h0 : -9223372036854775808 ≤ x) (h1 : x ≤ 9223372036854775807) : IntKind.i64.wrap x = x := by
  rw [IntKind.wrap_i64]; omega
theorem and_one (x : Int) : Go.bits .and .i64 x 1 = x % 2 := by
  have h : (BitVec.ofInt 64 x &&& BitVec.ofInt 64 1).toNat = (x % 2).toNat := by
    have e1 : BitVec.ofInt 64 1 = 1#64 := by decide
    rw [e1, BitVec.toNat_and, BitVec.toNat_ofInt]
    have e2 : (1#64).toNat = 1 := by decide
    rw [e2, Nat.and_one_is_mod]
    omega
  show IntKind.i64.wrap (((BitVec.ofInt 64 x &&& BitVec.ofInt 64 1).toNat : Nat) : Int) = x % 2
  rw [h, i64_in (by omega) (by omega)]
  omega
theorem wf_i64 {x : Int} (h : (Lit.int .i64 x).wf = true) : -9223372036854775808 ≤ x ∧ x ≤ 9223372036854775807 := by
  simp [Lit.wf, IntKind.min, IntKind.max, IntKind.signed, IntKind.bits] at h
  omega
theorem pow_pos_int (d : Nat) : (0 : Int) < 2 ^ d := Int.pow_pos (by decide)
theorem pow_le_int {a b : Nat} (h : a ≤ b) : (2 : Int) ^ a ≤ 2 ^ b := by
  have := Nat.pow_le_pow_right (n := 2) (by decide) h
  exact_mod_cast this

theorem ev_pos {α : Type} {c : Prop} [Decidable c] {g h : Nat → Option α} {r : α} (hc : c) (hg : Ev g r) : Ev (fun k => if c then g k else h k) r := by
  obtain ⟨K, hK⟩ := hg
  exact ⟨K, fun k hk => (if_pos hc).trans (hK k hk)⟩
theorem ev_neg {α : Type} {c : Prop} [Decidable c] {g h : Nat → Option α} {r : α} (hc : ¬ c) (hg : Ev h r) : Ev (fun k => if c then g k else h k) r := by
  obtain ⟨K, hK⟩ := hg
  exact ⟨K, fun k hk => (if_neg hc).trans (hK k hk)⟩
theorem ev_some {α β : Type} {f : Nat → α → Option β} {a : α} {r : β} (h : Ev (fun k => f k a) r) : Ev (fun k => (some a).bind (f k)) r := h
theorem ev_to {α β : Type} {x : Option α} {f : Nat → α → Option β} {a : α} {r : β} (e : x = some a) (h : Ev (fun k => f k a) r) : Ev (fun k => x.bind (f k)) r := by subst e; exact h
theorem ev_det {α : Type} {g : Nat → Option α} {r r' : α} (h : Ev g r) (h' : Ev g r') : r = r' := by
  obtain ⟨K, hK⟩ := h
  obtain ⟨K', hK'⟩ := h'
  have h1 := hK (max K K') (Nat.le_max_left _ _)
  have h2 := hK' (max K K') (Nat.le_max_right _ _)
  rw [h1] at h2
  exact Option.some.inj h2
theorem wrap_succ {j n : Nat} (h : j < n) (hn : n ≤ 9223372036854775807) : wrap64 ((j : Int) + 1) = ((j + 1 : Nat) : Int) := by
  rw [wrap64_in (by omega) (by omega)]; omega
theorem nat0 (j : Nat) : (0 : Int) ≤ (j : Int) := Int.natCast_nonneg j
theorem rd_nat (l : List Int) (j : Nat) : rd l (j : Int) = l.getD j 0 := by unfold rd; rw [Int.toNat_natCast]
theorem rd_get (l : List Int) (j : Nat) (h : j < l.length) : rd l (j : Int) = l[j] := by rw [rd_nat, List.getD_eq_getElem?_getD, List.getElem?_eq_getElem h]; rfl
theorem drop_cons {α : Type} (l : List α) (j : Nat) (h : j < l.length) : l.drop j = l[j] :: l.drop (j + 1) := List.drop_eq_getElem_cons h
theorem take_snoc' {α : Type} (l : List α) (j : Nat) (h : j < l.length) : l.take (j + 1) = l.take j ++ [l[j]] := List.take_succ_eq_append_getElem h
theorem set_take {α : Type} (acc : List α) (j : Nat) (x : α) (h : j < acc.length) : (acc.set j x).take (j + 1) = acc.take j ++ [x] := by
  rw [List.take_set, List.take_succ_eq_append_getElem h, List.set_append_right _ _ (by simp; omega)]
  have : (acc.take j).length = j := by rw [List.length_take]; omega
  rw [this, Nat.sub_self]
  rfl
theorem take_all {α : Type} {a b : List α} {n : Nat} (ha : a.length = n) (hb : b.length = n) (h : a.take n = b.take n) : a = b := by
  rw [List.take_of_length_le (by omega), List.take_of_length_le (by omega)] at h; exact h
theorem w01 : wrap64 (0 + 1) = 1 := by unfold wrap64; decide
theorem w11 : wrap64 (1 + 1) = 2 := by unfold wrap64; decide

theorem spec_in (a b c : Int) : spec_l00In.f a b c = some (decide (b ≤ a ∧ a ≤ c)) := by
  unfold spec_l00In.f
  by_cases h : a ≥ b
  · rw [if_pos h]; congr 1; have : b ≤ a := h; simp [this]
  · rw [if_neg h]; congr 1; have : ¬ b ≤ a := h; simp [this]
theorem impl_in (a b c : Int) : impl_within.f a b c = some (decide (b ≤ a ∧ a ≤ c)) := by
  unfold impl_within.f
  by_cases h : a ≥ b
  · rw [if_pos h]; congr 1; have : b ≤ a := h; simp [this]
  · rw [if_neg h]; congr 1; have : ¬ b ≤ a := h; simp [this]

theorem rdL_get (l : List (List Int)) (j : Nat) (h : j < l.length) : rd_L1 l (j : Int) = l[j] := by
  unfold rd_L1; rw [Int.toNat_natCast, List.getD_eq_getElem?_getD, List.getElem?_eq_getElem h]; rfl

/-- A row of a valid graph with n states. -/
def okRow (n : Int) (r : List Int) : Bool := decide (r.length = 2) && (decide (-1 ≤ rd r 0 ∧ rd r 0 ≤ n - 1) && (decide (-1 ≤ rd r 1 ∧ rd r 1 ≤ n - 1) && !(decide (rd r 0 < 0) && decide (rd r 1 < 0))))
def VG (g : List (List Int)) : Bool := decide (1 ≤ (g.length : Int) ∧ (g.length : Int) ≤ 12) && g.all (okRow g.length)
theorem row_two {r : List Int} (h : r.length = 2) : ∃ a b, r = [a, b] := by
  match r, h with
  | [a, b], _ => exact ⟨a, b, rfl⟩
theorem okRow_not {n : Int} {r : List Int} (h : ¬ r.length = 2) : okRow n r = false := by simp [okRow, h]
theorem okRow_two (n a b : Int) : okRow n [a, b] = (decide (-1 ≤ a ∧ a ≤ n - 1) && (decide (-1 ≤ b ∧ b ≤ n - 1) && !(decide (a < 0) && decide (b < 0)))) := rfl
theorem rd0 (a b : Int) : rd [a, b] 0 = a := rfl
theorem rd1 (a b : Int) : rd [a, b] 1 = b := rfl
theorem len2 (a b : Int) : (([a, b] : List Int).length : Int) = 2 := rfl
theorem VG_iff {g : List (List Int)} (h : VG g = true) : (1 ≤ g.length ∧ g.length ≤ 12) ∧ ∀ r ∈ g, ∃ a b, r = [a, b] ∧ (-1 ≤ a ∧ a ≤ (g.length : Int) - 1) ∧ (-1 ≤ b ∧ b ≤ (g.length : Int) - 1) ∧ ¬ (a < 0 ∧ b < 0) := by
  simp only [VG, Bool.and_eq_true, decide_eq_true_eq, List.all_eq_true] at h
  refine ⟨by omega, fun r hr => ?_⟩
  have h2 := h.2 r hr
  by_cases hl : r.length = 2
  · obtain ⟨a, b, rfl⟩ := row_two hl
    rw [okRow_two] at h2
    simp only [Bool.and_eq_true, decide_eq_true_eq, Bool.not_eq_true', Bool.and_eq_false_imp, decide_eq_false_iff_not] at h2
    exact ⟨a, b, rfl, h2.1, h2.2.1, fun h => h2.2.2 h.1 h.2⟩
  · rw [okRow_not hl] at h2; cases h2

theorem areIn_loop (l : List Int) (lo hi : Int) (hn : l.length ≤ 9223372036854775807) (d : Nat) : ∀ j : Nat, j + d = l.length →
    Ev (fun k => impl_areIn.l0 k lo hi l (l.length : Int) (j : Int)) ((l.drop j).all fun x => decide (lo ≤ x ∧ x ≤ hi)) := by
  induction d with
  | zero =>
    intro j h
    rw [List.drop_eq_nil_of_le (by omega)]
    exact ev_one (fun k => by rw [impl_areIn.l0, if_neg (by omega)]; rfl)
  | succ d ih =>
    intro j h
    have hj : j < l.length := by omega
    rw [drop_cons _ _ hj, List.all_cons]
    by_cases c : lo ≤ l[j] ∧ l[j] ≤ hi
    · rw [decide_eq_true c, Bool.true_and]
      refine Ev.step (fun k => ?_) (ih (j + 1) (by omega))
      rw [impl_areIn.l0, if_pos (by omega), if_pos (by omega), if_pos (by omega), rd_get _ _ hj, impl_in, decide_eq_true c, Option.bind_some, if_pos rfl, wrap_succ hj hn]
    · rw [decide_eq_false c, Bool.false_and]
      refine ev_one (fun k => ?_)
      rw [impl_areIn.l0, if_pos (by omega), if_pos (by omega), if_pos (by omega), rd_get _ _ hj, impl_in, decide_eq_false c, Option.bind_some, if_neg (by decide)]
theorem areIn_ev (l : List Int) (lo hi : Int) (hn : l.length ≤ 9223372036854775807) : Ev (fun k => impl_areIn.f k l lo hi) (l.all fun x => decide (lo ≤ x ∧ x ≤ hi)) :=
  areIn_loop l lo hi hn l.length 0 (by omega)

theorem implVG_loop (g : List (List Int)) (h12 : g.length ≤ 12) (hr : ∀ r ∈ g, r.length ≤ 9223372036854775807) (d : Nat) : ∀ j : Nat, j + d = g.length →
    Ev (fun k => impl_ValidGraph.l0 k (g.length : Int) g (g.length : Int) (j : Int)) ((g.drop j).all (okRow g.length)) := by
  have hw : wrap64 ((g.length : Int) - 1) = (g.length : Int) - 1 := wrap64_in (by omega) (by omega)
  induction d with
  | zero =>
    intro j h
    rw [List.drop_eq_nil_of_le (by omega)]
    exact ev_one (fun k => by rw [impl_ValidGraph.l0, if_neg (by omega)]; rfl)
  | succ d ih =>
    intro j h
    have hj : j < g.length := by omega
    have hs := wrap_succ hj (by omega)
    rw [drop_cons _ _ hj, List.all_cons]
    by_cases hl : (g[j]).length = 2
    · obtain ⟨a, b, e⟩ := row_two hl
      have hi := ih (j + 1) (by omega)
      rw [e, okRow_two]
      have ha := areIn_ev [a, b] (-1) ((g.length : Int) - 1) (show 2 ≤ 9223372036854775807 by decide)
      refine Ev.step (fun k => by rw [impl_ValidGraph.l0, if_pos (by omega), if_pos (by omega), if_pos (by omega), rdL_get _ _ hj, e, if_pos (len2 a b), hw, if_pos (show (0 : Int) < (([a, b] : List Int).length : Int) by rw [len2]; decide), if_pos (show (1 : Int) < (([a, b] : List Int).length : Int) by rw [len2]; decide), rd0, rd1, hs]) (Ev.bind ha ?_)
      by_cases ca : -1 ≤ a ∧ a ≤ (g.length : Int) - 1
      · by_cases cb : -1 ≤ b ∧ b ≤ (g.length : Int) - 1
        · rw [decide_eq_true ca, decide_eq_true cb, Bool.true_and, Bool.true_and]
          refine ev_pos (by simp [ca, cb]) ?_
          by_cases a0 : a < 0
          · refine ev_pos a0 ?_
            by_cases b0 : b < 0
            · refine ev_pos b0 ?_
              simpa [a0, b0] using Ev.now false
            · refine ev_neg b0 ?_
              simpa [a0, b0] using hi
          · refine ev_neg a0 ?_
            simpa [a0] using hi
        · rw [decide_eq_false cb, Bool.false_and, Bool.and_false, Bool.false_and]
          exact ev_neg (by simp [cb]) (Ev.now _)
      · rw [decide_eq_false ca, Bool.false_and, Bool.false_and]
        exact ev_neg (by simp [ca]) (Ev.now _)
    · rw [okRow_not hl, Bool.false_and]
      refine ev_one (fun k => ?_)
      rw [impl_ValidGraph.l0, if_pos (by omega), if_pos (by omega), if_pos (by omega), rdL_get _ _ hj, if_neg (by omega)]
theorem implVG_ev (g : List (List Int)) (hr : ∀ r ∈ g, r.length ≤ 9223372036854775807) : Ev (fun k => impl_ValidGraph.f k g) (VG g) := by
  by_cases c : 1 ≤ (g.length : Int) ∧ (g.length : Int) ≤ 12
  · have h := implVG_loop g (by omega) hr g.length 0 (by omega)
    unfold VG
    rw [decide_eq_true c, Bool.true_and]
    refine Ev.congr (fun k => ?_) h
    unfold impl_ValidGraph.f
    rw [impl_in, decide_eq_true c]
    rfl
  · refine Ev.congr (fun k => ?_) (Ev.now _)
    unfold impl_ValidGraph.f VG
    rw [impl_in, decide_eq_false c]
    rfl

/-- A valid graph's rows, as places in lists. -/
def Rows2 (g : List (List Int)) : Prop := ∀ j : Nat, j < g.length → ∃ a b, rd_L1 g (j : Int) = [a, b] ∧ a < (g.length : Int) ∧ b < (g.length : Int) ∧ -1 ≤ a ∧ -1 ≤ b
theorem rows2_of {g : List (List Int)} (h : VG g = true) : Rows2 g := by
  intro j hj
  obtain ⟨_, h2⟩ := VG_iff h
  obtain ⟨a, b, e, ha, hb, _⟩ := h2 g[j] (List.getElem_mem hj)
  exact ⟨a, b, by rw [rdL_get _ _ hj, e], by omega, by omega, ha.1, hb.1⟩

theorem implState_ev (g : List (List Int)) (hr : ∀ r ∈ g, r.length ≤ 9223372036854775807) (x : Int) : Ev (fun k => impl_isState.f k g x) (VG g && decide (0 ≤ x ∧ x ≤ wrap64 ((g.length : Int) - 1))) := by
  have hs := implVG_ev g hr
  unfold impl_isState.f
  cases e : VG g with
  | false => rw [e] at hs; exact Ev.bind hs (ev_neg Bool.false_ne_true (Ev.now _))
  | true => rw [e] at hs; exact Ev.bind hs (ev_pos rfl (ev_to (impl_in _ _ _) (Ev.now _)))
theorem state_in {g : List (List Int)} {x : Int} (h : (VG g && decide (0 ≤ x ∧ x ≤ wrap64 ((g.length : Int) - 1))) = true) : VG g = true ∧ g.length ≤ 12 ∧ ∃ j : Nat, x = (j : Int) ∧ j < g.length := by
  rw [Bool.and_eq_true, decide_eq_true_iff] at h
  obtain ⟨h1, h2, h3⟩ := h
  have h4 := (VG_iff h1).1
  rw [wrap64_in (by omega) (by omega)] at h3
  exact ⟨h1, h4.2, x.toNat, by omega, by omega⟩

def isBit (b : UInt8) : Bool := b.toNat == 48 || b.toNat == 49
def areB (l : List UInt8) : Bool := l.all isBit
theorem size_l (s : ByteArray) : s.size = s.data.toList.length := by rw [Array.length_toList]; rfl
theorem bt_l (s : ByteArray) (j : Nat) (h : j < s.data.toList.length) : bt s (j : Int) = ((s.data.toList[j].toNat : Nat) : Int) := by
  have h2 : ((j : Int)).toNat < s.size := by rw [Int.toNat_natCast, size_l]; exact h
  have h3 : j < s.data.size := by rw [Array.length_toList] at h; exact h
  have e : s[((j : Int)).toNat]'h2 = s.data[j] := rfl
  rw [← bt_at s j h2, e, Array.getElem_toList]
theorem cs_bit (b : UInt8) : ([48, 49] : List UInt8).contains b = isBit b := by
  have h1 : (b == 48) = (b.toNat == 48) := by rw [Bool.eq_iff_iff]; simp [← UInt8.toNat_inj]
  have h2 : (b == 49) = (b.toNat == 49) := by rw [Bool.eq_iff_iff]; simp [← UInt8.toNat_inj]
  unfold isBit
  rw [← h1, ← h2]
  show (match b == 48 with | true => true | false => (match b == 49 with | true => true | false => false)) = (b == 48 || b == 49)
  cases (b == 48) <;> cases (b == 49) <;> rfl
theorem drop_nil {p : UInt8 → Bool} (l : List UInt8) : l.dropWhile p = [] ↔ ∀ x ∈ l, p x = true := by
  induction l with
  | nil => simp
  | cons a t ih =>
    rw [List.dropWhile_cons]
    cases e : p a with
    | true => rw [if_pos rfl, ih]; simp [e]
    | false => rw [if_neg (by decide)]; simp [e]
theorem drop_all {p : UInt8 → Bool} (l : List UInt8) (h : (l.dropWhile p).all p = true) : l.all p = true := by
  induction l with
  | nil => rfl
  | cons a t ih =>
    rw [List.dropWhile_cons] at h
    cases e : p a with
    | true => rw [e, if_pos rfl] at h; rw [List.all_cons, e, ih h]; rfl
    | false => rw [e, if_neg (by decide)] at h; exact h
theorem trim_nil (l : List UInt8) : (Lib.trimS l [48, 49] == []) = areB l := by
  have e : (fun b => ([48, 49] : List UInt8).contains b) = isBit := funext cs_bit
  unfold Lib.trimS Lib.trimLeftS Lib.trimRightS areB
  rw [e]
  rw [Bool.eq_iff_iff, beq_iff_eq, drop_nil]
  constructor
  · intro h
    have h1 : (l.reverse.dropWhile isBit).all isBit = true := List.all_eq_true.2 (fun x hx => h x (List.mem_reverse.2 hx))
    have h2 := drop_all _ h1
    rw [List.all_reverse] at h2
    exact h2
  · intro h x hx
    have h3 := List.mem_reverse.1 hx
    have h4 : x ∈ l.reverse := (List.dropWhile_sublist _).subset h3
    exact List.all_eq_true.1 h x (List.mem_reverse.1 h4)

def IB (s : ByteArray) : Bool := areB s.data.toList && decide ((s.size : Int) ≤ 400)
theorem areBits_f (s : ByteArray) (hn : s.size ≤ 9223372036854775807) : impl_areBits.f s = some (areB s.data.toList) := by
  unfold impl_areBits.f strings_Trim.f
  rw [if_pos ⟨rfl, hn⟩, Option.bind_some]
  have e : (⟨(Lib.trimS s.data.toList [48, 49]).toArray⟩ : ByteArray).toList = Lib.trimS s.data.toList [48, 49] := by
    rw [Lib.toList_data]
  rw [e, ← trim_nil]

theorem isBits_f (s : ByteArray) (hn : s.size ≤ 9223372036854775807) : impl_IsBits.f s = some (IB s) := by
  unfold impl_IsBits.f IB
  by_cases c : (s.size : Int) ≤ 400
  · rw [if_pos c, areBits_f s hn, decide_eq_true c, Bool.and_true]; rfl
  · rw [if_neg c, decide_eq_false c, Bool.and_false]

theorem IB_of {s : ByteArray} (e : IB s = true) : s.size ≤ 400 ∧ areB s.data.toList = true := by
  unfold IB at e
  rw [Bool.and_eq_true, decide_eq_true_iff] at e
  exact ⟨by omega, e.1⟩
theorem implBehind_ev (g : List (List Int)) (hr : ∀ r ∈ g, r.length ≤ 9223372036854775807) (x : Int) (s : ByteArray) (hn : s.size ≤ 9223372036854775807) :
    (((VG g && decide (0 ≤ x ∧ x ≤ wrap64 ((g.length : Int) - 1))) && IB s) = false → Ev (fun k => impl_StateBehind.f k g x s) (0, false)) ∧
    (((VG g && decide (0 ≤ x ∧ x ≤ wrap64 ((g.length : Int) - 1))) && IB s) = true → ∀ r, Ev (fun k => impl_Graph_behind.f k g x s) r → Ev (fun k => impl_StateBehind.f k g x s) (if r < 0 then (0, false) else (r, true))) := by
  have hi := implState_ev g hr x
  have hb := isBits_f s hn
  have ino : Ev (fun k => impl_StateBehind.j0 k x s true g) (0, false) := ev_one (fun k => by rw [impl_StateBehind.j0, if_pos rfl])
  unfold impl_StateBehind.f
  cases e : (VG g && decide (0 ≤ x ∧ x ≤ wrap64 ((g.length : Int) - 1))) with
  | false =>
    rw [e] at hi
    rw [Bool.false_and]
    exact ⟨fun _ => Ev.bind hi (ev_neg Bool.false_ne_true ino), fun h => by cases h⟩
  | true =>
    rw [e] at hi
    rw [Bool.true_and]
    cases e2 : IB s with
    | false => rw [e2] at hb; exact ⟨fun _ => Ev.bind hi (ev_pos rfl (ev_to hb ino)), fun h => by cases h⟩
    | true =>
      rw [e2] at hb
      refine ⟨(fun h => by cases h), fun _ r hr => Ev.bind hi (ev_pos rfl (ev_to hb (Ev.step (fun k => by rw [impl_StateBehind.j0, if_neg (by decide)]) (Ev.bind hr ?_))))⟩
      by_cases c : r < 0
      · rw [show (if r < 0 then ((0 : Int), false) else (r, true)) = (0, false) from if_pos c]; exact ev_pos c (Ev.now _)
      · rw [show (if r < 0 then ((0 : Int), false) else (r, true)) = (r, true) from if_neg c]; exact ev_neg c (Ev.now _)

def rgRow (least : Int) (m x : Nat) : List Int := [if x < m then (x : Int) + 1 else -1, if (x : Int) ≥ least then 0 else -1]
def rgTo (least : Int) (m n : Nat) : List (List Int) := (List.range n).map (rgRow least m)
theorem rgTo_length (least : Int) (m n : Nat) : (rgTo least m n).length = n := by simp [rgTo]
theorem rgTo_succ (least : Int) (m n : Nat) : rgTo least m (n + 1) = rgTo least m n ++ [rgRow least m n] := by simp [rgTo, List.range_succ]
theorem rgTo_get (least : Int) (m n j : Nat) (h : j < n) : rd_L1 (rgTo least m n) (j : Int) = rgRow least m j := by
  rw [rdL_get _ _ (by rw [rgTo_length]; exact h)]; simp [rgTo]
theorem runGraph_VG (least : Int) (m : Nat) (h0 : 0 ≤ least) (h1 : least ≤ m) (hm : m ≤ 10) : VG (rgTo least m (m + 1)) = true := by
  have hl := rgTo_length least m (m + 1)
  unfold VG
  rw [decide_eq_true (by omega), Bool.true_and, List.all_eq_true]
  intro r hr
  obtain ⟨x, hx, rfl⟩ := List.mem_map.1 hr
  rw [List.mem_range] at hx
  unfold rgRow
  rw [okRow_two, hl]
  by_cases c1 : x < m <;> by_cases c2 : (x : Int) ≥ least <;> simp [c1, c2] <;> omega
def sgRow (t x : Nat) : List Int := [(x : Int) - 1, if x = t then -1 else (x : Int) + 1]
def sgTo (t n : Nat) : List (List Int) := (List.range n).map (sgRow t)
theorem sgTo_length (t n : Nat) : (sgTo t n).length = n := by simp [sgTo]
theorem sgTo_succ (t n : Nat) : sgTo t (n + 1) = sgTo t n ++ [sgRow t n] := by simp [sgTo, List.range_succ]
theorem sgTo_get (t n j : Nat) (h : j < n) : rd_L1 (sgTo t n) (j : Int) = sgRow t j := by
  rw [rdL_get _ _ (by rw [sgTo_length]; exact h)]; simp [sgTo]
theorem sumGraph_VG (t : Nat) (h0 : 1 ≤ t) (ht : t ≤ 11) : VG (sgTo t (t + 1)) = true := by
  have hl := sgTo_length t (t + 1)
  unfold VG
  rw [decide_eq_true (by omega), Bool.true_and, List.all_eq_true]
  intro r hr
  obtain ⟨x, hx, rfl⟩ := List.mem_map.1 hr
  rw [List.mem_range] at hx
  unfold sgRow
  rw [okRow_two, hl]
  by_cases c1 : x = t <;> simp [c1] <;> omega
theorem wf_u8 {x : Int} (h : (Lit.int .u8 x).wf = true) : 0 ≤ x ∧ x ≤ 255 := by
  simp [Lit.wf, IntKind.min, IntKind.max, IntKind.signed, IntKind.bits] at h
  omega
theorem tmod_in {x n : Int} (h0 : 0 ≤ x) (hn : 0 < n) : 0 ≤ Int.tmod x n ∧ Int.tmod x n < n := by
  rw [Int.tmod_eq_emod_of_nonneg h0]
  exact ⟨Int.emod_nonneg _ (by omega), Int.emod_lt_of_pos _ hn⟩
theorem and_255 (x : Int) : 0 ≤ Go.bits .and .u64 x 255 ∧ Go.bits .and .u64 x 255 ≤ 255 := by
  show 0 ≤ IntKind.u64.wrap (((BitVec.ofInt 64 x &&& BitVec.ofInt 64 255).toNat : Nat) : Int) ∧ IntKind.u64.wrap (((BitVec.ofInt 64 x &&& BitVec.ofInt 64 255).toNat : Nat) : Int) ≤ 255
  have e1 : (BitVec.ofInt 64 255).toNat = 255 := by decide
  have h : (BitVec.ofInt 64 x &&& BitVec.ofInt 64 255).toNat ≤ 255 := by
    rw [BitVec.toNat_and, e1]
    exact Nat.and_le_right
  rw [u64_in (by omega) (by omega)]
  omega
theorem byte_of (l : List Int) (hb : ∀ x ∈ l, (Lit.int .u8 x).wf = true) (i : Int) (h0 : 0 ≤ i) (h1 : i < l.length) : 0 ≤ rd l i ∧ rd l i ≤ 255 := by
  obtain ⟨j, rfl⟩ := Int.eq_ofNat_of_zero_le h0
  rw [rd_get _ _ (by omega)]
  exact wf_u8 (hb _ (List.getElem_mem _))

theorem next_f (l : List Int) (hl : l.length ≤ 9223372036854775807) (hb : ∀ x ∈ l, (Lit.int .u8 x).wf = true) (at_ seed : Int) (h0 : 0 ≤ at_) (h1 : at_ ≤ 4611686018427387904) :
    ∃ v seed', spec_l00Src_next.f l at_ seed = some (v, at_ + 1, seed') ∧ 0 ≤ v ∧ v ≤ 255 := by
  unfold spec_l00Src_next.f
  rw [wrap64_in (x := at_ + 1) (by omega) (by omega)]
  by_cases c : at_ < (l.length : Int)
  · have hr := byte_of l hb at_ h0 c
    rw [if_pos c, if_pos h0, wrap64_in (x := rd l at_) (by omega) (by omega)]
    rw [if_pos (by omega)]
    exact ⟨_, _, rfl, hr⟩
  · rw [if_neg c]
    rw [if_neg (by omega)]
    refine ⟨_, _, rfl, ?_⟩
    have h := and_255 ((IntKind.u64.wrap ((IntKind.u64.wrap ((IntKind.u64.wrap (seed * 6364136223846793005)))) + 1442695040888963407)) / 1099511627776)
    rw [wrap64_in (by omega) (by omega)]
    exact h
theorem pick_f (l : List Int) (hl : l.length ≤ 9223372036854775807) (hb : ∀ x ∈ l, (Lit.int .u8 x).wf = true) (at_ seed n : Int) (h0 : 0 ≤ at_) (h1 : at_ ≤ 4611686018427387904) (hn : n ≤ 200) :
    ∃ v at' seed', spec_l00Src_pick.f l at_ seed n = some (v, at', seed') ∧ 0 ≤ v ∧ (v < n ∨ v = 0) ∧ at_ ≤ at' ∧ at' ≤ at_ + 1 := by
  unfold spec_l00Src_pick.f
  by_cases c : n ≤ 1
  · rw [if_pos c]; exact ⟨0, at_, seed, rfl, by omega, by omega, by omega, by omega⟩
  · rw [if_neg c]
    obtain ⟨v, seed', e, h2, h3⟩ := next_f l hl hb at_ seed h0 h1
    rw [e, Option.bind_some, if_neg (by omega), if_neg (by omega)]
    have := tmod_in h2 (show 0 < n by omega)
    exact ⟨_, _, _, rfl, this.1, .inl this.2, by show at_ ≤ at_ + 1; omega, by show at_ + 1 ≤ at_ + 1; omega⟩
theorem one_f (l : List Int) (hl : l.length ≤ 9223372036854775807) (hb : ∀ x ∈ l, (Lit.int .u8 x).wf = true) (at_ seed n : Int) (h0 : 0 ≤ at_) (h1 : at_ ≤ 4611686018427387904) (hn : n ≤ 200) :
    ∃ v at' seed', spec_l00Src_one.f l at_ seed n = some (v, at', seed') ∧ at_ ≤ at' ∧ at' ≤ at_ + 1 := by
  unfold spec_l00Src_one.f
  obtain ⟨v, at', seed', e, _, _, h3, h4⟩ := pick_f l hl hb at_ seed n h0 h1 hn
  rw [e, Option.bind_some]
  exact ⟨_, _, _, rfl, h3, h4⟩

theorem r8At_f (l : List Int) (hl : l.length ≤ 9223372036854775807) (hb : ∀ x ∈ l, (Lit.int .u8 x).wf = true) (i n : Int) (hi : 0 ≤ i) : ∃ v, laws_r8At.f l i n = some v ∧ 0 ≤ v ∧ (v < n ∨ v = 0) := by
  unfold laws_r8At.f
  by_cases c : n ≤ 1
  · rw [if_pos c]; exact ⟨0, rfl, by omega, by omega⟩
  · rw [if_neg c]
    by_cases c2 : i ≥ (l.length : Int)
    · rw [if_pos c2]; exact ⟨0, rfl, by omega, by omega⟩
    · rw [if_neg c2, if_pos hi, if_pos (by omega), if_neg (by omega)]
      have h := byte_of l hb i hi (by omega)
      rw [wrap64_in (x := rd l i) (by omega) (by omega)]
      have := tmod_in h.1 (show 0 < n by omega)
      exact ⟨_, rfl, this.1, .inl this.2⟩

/-- A list of 48 and 49 is a text of bits. -/
def bitsL (l : List Int) : Prop := ∀ x ∈ l, x = 48 ∨ x = 49
theorem areB_strOf (l : List Int) (h : bitsL l) : areB (strOfNums l).data.toList = true := by
  rw [strOfNums_data]
  unfold areB
  rw [List.all_eq_true]
  intro b hb
  obtain ⟨x, hx, rfl⟩ := List.mem_map.1 hb
  rcases h x hx with rfl | rfl <;> decide
theorem size_strOf (l : List Int) : (strOfNums l).size = l.length := by rw [size_l, strOfNums_data, List.length_map]
theorem r8Bits_loop (l : List Int) (hl : l.length ≤ 9223372036854775807) (hb : ∀ x ∈ l, (Lit.int .u8 x).wf = true) (d : Nat) : ∀ (acc : List Int) (at_ seed : Int), bitsL acc → acc.length + d ≤ 1000 → 0 ≤ at_ → at_ + 2 * d ≤ 4611686018427387904 →
    ∃ r, Ev (fun k => spec_R8Bits.l0 k acc (d : Int) l at_ seed) (strOfNums r) ∧ bitsL r ∧ r.length = acc.length + d := by
  induction d with
  | zero => intro acc at_ seed ha h1 h2 h3; exact ⟨acc, ev_one (fun k => by rw [spec_R8Bits.l0, if_neg (by omega)]), ha, rfl⟩
  | succ d ih =>
    intro acc at_ seed ha h1 h2 h3
    obtain ⟨v, at1, seed1, e1, v0, v1, a1, a2⟩ := pick_f l hl hb at_ seed 2 h2 (by omega) (by decide)
    have hw : wrap64 (((d + 1 : Nat) : Int) - 1) = (d : Int) := by rw [wrap64_in (by omega) (by omega)]; omega
    have hv : wrap64 (48 + v) = 48 + v := wrap64_in (by omega) (by omega)
    have hv2 : (48 + v) % 256 = 48 + v := by omega
    have snoc : ∀ y, (y = 48 ∨ y = 49) → bitsL (acc ++ [y]) := by
      intro y hy x hx
      rcases List.mem_append.1 hx with hx | hx
      · exact ha x hx
      · rw [List.mem_singleton.1 hx]; exact hy
    have len1 : ∀ y : Int, (acc ++ [y]).length = acc.length + 1 := by intro y; simp
    by_cases c : (acc.length : Int) > 0
    · obtain ⟨o, at2, seed2, e2, b1, b2⟩ := one_f l hl hb at1 seed1 2 (by omega) (by omega) (by decide)
      cases o with
      | true =>
        have hx : wrap64 ((acc.length : Int) - 1) = ((acc.length - 1 : Nat) : Int) := by rw [wrap64_in (by omega) (by omega)]; omega
        have hlast : rd acc ((acc.length - 1 : Nat) : Int) = 48 ∨ rd acc ((acc.length - 1 : Nat) : Int) = 49 := by
          rw [rd_get _ _ (by omega)]; exact ha _ (List.getElem_mem _)
        obtain ⟨r, hr, h4, h5⟩ := ih (acc ++ [rd acc ((acc.length - 1 : Nat) : Int)]) at2 seed2 (snoc _ hlast) (by rw [len1]; omega) (by omega) (by omega)
        exact ⟨r, Ev.step (fun k => by rw [spec_R8Bits.l0, if_pos (by omega), e1, Option.bind_some, if_pos c, e2, Option.bind_some, if_pos rfl, hx, if_pos (by omega), if_pos (by omega), if_pos (by omega), hw]) hr, h4, by rw [h5, len1]; omega⟩
      | false =>
        obtain ⟨r, hr, h4, h5⟩ := ih (acc ++ [48 + v]) at2 seed2 (snoc _ (by omega)) (by rw [len1]; omega) (by omega) (by omega)
        exact ⟨r, Ev.step (fun k => by rw [spec_R8Bits.l0, if_pos (by omega), e1, Option.bind_some, if_pos c, e2, Option.bind_some, if_neg Bool.false_ne_true, if_pos (by omega), hv, hv2, hw]) hr, h4, by rw [h5, len1]; omega⟩
    · obtain ⟨r, hr, h4, h5⟩ := ih (acc ++ [48 + v]) at1 seed1 (snoc _ (by omega)) (by rw [len1]; omega) (by omega) (by omega)
      exact ⟨r, Ev.step (fun k => by rw [spec_R8Bits.l0, if_pos (by omega), e1, Option.bind_some, if_neg c, if_pos (by omega), hv, hv2, hw]) hr, h4, by rw [h5, len1]; omega⟩
theorem r8Bits_ev (l : List Int) (hl : l.length ≤ 9223372036854775807) (hb : ∀ x ∈ l, (Lit.int .u8 x).wf = true) (most : Int) (hm : 0 ≤ most ∧ most ≤ 199) :
    ∃ s, Ev (fun k => spec_R8Bits.f k l most) s ∧ areB s.data.toList = true ∧ (s.size : Int) ≤ most := by
  obtain ⟨v, at1, seed1, e1, v0, v1, a1, a2⟩ := pick_f l hl hb 0 0 (most + 1) (by decide) (by decide) (by omega)
  obtain ⟨n, rfl⟩ := Int.eq_ofNat_of_zero_le v0
  obtain ⟨r, hr, h1, h2⟩ := r8Bits_loop l hl hb n [] at1 seed1 (by intro x hx; cases hx) (by simp; omega) (by omega) (by omega)
  refine ⟨_, ?_, areB_strOf r h1, by rw [size_strOf, h2]; simp; omega⟩
  unfold spec_R8Bits.f spec_l00From.f
  refine ev_some (ev_to (a := ((n : Int), at1, seed1)) ?_ hr)
  rw [wrap64_in (by omega) (by omega)]
  exact e1

theorem srg_loop (least : Int) (m : Nat) (h0 : 0 ≤ least) (hm : m ≤ 10) (d : Nat) : ∀ j : Nat, j + d = m + 1 → Ev (fun k => spec_RunGraph.l0 k least (m : Int) (j : Int) (rgTo least m j)) (rgTo least m (m + 1), true) := by
  induction d with
  | zero =>
    intro j h
    obtain rfl : j = m + 1 := by omega
    exact ev_one (fun k => by rw [spec_RunGraph.l0, if_neg (by omega)])
  | succ d ih =>
    intro j h
    have hw := wrap_succ (j := j) (n := m + 1) (by omega) (by omega)
    have hi := ih (j + 1) (by omega)
    rw [rgTo_succ] at hi
    have hl := rgTo_length least m j
    by_cases c1 : j < m
    · by_cases c2 : (j : Int) ≥ least
      · have e : rgRow least m j = [((j + 1 : Nat) : Int), 0] := by unfold rgRow; rw [if_pos c1, if_pos c2]; rfl
        rw [e] at hi
        exact Ev.step (fun k => by rw [spec_RunGraph.l0, if_pos (by omega), if_pos (by omega), if_pos c2, if_pos (by omega), hw]) hi
      · have e : rgRow least m j = [((j + 1 : Nat) : Int), -1] := by unfold rgRow; rw [if_pos c1, if_neg c2]; rfl
        rw [e] at hi
        exact Ev.step (fun k => by rw [spec_RunGraph.l0, if_pos (by omega), if_pos (by omega), if_neg c2, if_pos (by omega), hw]) hi
    · by_cases c2 : (j : Int) ≥ least
      · have e : rgRow least m j = [-1, 0] := by unfold rgRow; rw [if_neg c1, if_pos c2]
        rw [e] at hi
        exact Ev.step (fun k => by rw [spec_RunGraph.l0, if_pos (by omega), if_neg (by omega), if_pos c2, if_pos (by omega), hw]) hi
      · have e : rgRow least m j = [-1, -1] := by unfold rgRow; rw [if_neg c1, if_neg c2]
        rw [e] at hi
        exact Ev.step (fun k => by rw [spec_RunGraph.l0, if_pos (by omega), if_neg (by omega), if_neg c2, if_pos (by omega), hw]) hi
theorem specRunGraph_ev (least : Int) (m : Nat) (h0 : 0 ≤ least) (h1 : least ≤ m) (hm : m ≤ 10) : Ev (fun k => spec_RunGraph.f k least (m : Int)) (rgTo least m (m + 1), true) := by
  unfold spec_RunGraph.f
  refine ev_to (spec_in _ _ _) ?_
  rw [decide_eq_true (show (0 : Int) ≤ (m : Int) ∧ (m : Int) ≤ 10 by omega)]
  refine ev_pos rfl (ev_to (spec_in _ _ _) ?_)
  rw [decide_eq_true (show 0 ≤ least ∧ least ≤ (m : Int) by omega)]
  exact Ev.step (f := fun k => spec_RunGraph.l0 k least (m : Int) 0 []) (fun k => by rw [spec_RunGraph.j0, if_neg (by decide)]) (srg_loop least m h0 hm (m + 1) 0 (by omega))
theorem ssg_loop (t : Nat) (ht : t ≤ 11) (d : Nat) : ∀ j : Nat, j + d = t + 1 → Ev (fun k => spec_SumGraph.l0 k (t : Int) (j : Int) (sgTo t j)) (sgTo t (t + 1), true) := by
  induction d with
  | zero =>
    intro j h
    obtain rfl : j = t + 1 := by omega
    exact ev_one (fun k => by rw [spec_SumGraph.l0, if_neg (by omega)])
  | succ d ih =>
    intro j h
    have hw := wrap_succ (j := j) (n := t + 1) (by omega) (by omega)
    have hw2 : wrap64 ((j : Int) - 1) = (j : Int) - 1 := wrap64_in (by omega) (by omega)
    have hi := ih (j + 1) (by omega)
    rw [sgTo_succ] at hi
    have hl := sgTo_length t j
    by_cases c : j = t
    · have e : sgRow t j = [(j : Int) - 1, -1] := by unfold sgRow; rw [if_pos c]
      rw [e] at hi
      exact Ev.step (fun k => by rw [spec_SumGraph.l0, if_pos (by omega), if_pos (by omega), if_pos (by omega), hw, hw2]) hi
    · have e : sgRow t j = [(j : Int) - 1, ((j + 1 : Nat) : Int)] := by unfold sgRow; rw [if_neg c]; rfl
      rw [e] at hi
      exact Ev.step (fun k => by rw [spec_SumGraph.l0, if_pos (by omega), if_neg (by omega), if_pos (by omega), hw, hw2]) hi
theorem specSumGraph_ev (t : Nat) (h0 : 1 ≤ t) (ht : t ≤ 11) : Ev (fun k => spec_SumGraph.f k (t : Int)) (sgTo t (t + 1), true) := by
  unfold spec_SumGraph.f
  refine ev_to (spec_in _ _ _) ?_
  rw [decide_eq_true (show 1 ≤ (t : Int) ∧ (t : Int) ≤ 11 by omega)]
  exact ev_pos rfl (ssg_loop t ht (t + 1) 0 (by omega))
theorem okRow_mk {n a b : Int} (h : -1 ≤ a ∧ a ≤ n - 1) (h2 : -1 ≤ b ∧ b ≤ n - 1) (h3 : ¬ (a < 0 ∧ b < 0)) : okRow n [a, b] = true := by
  rw [okRow_two, decide_eq_true h, decide_eq_true h2]
  by_cases c : a < 0
  · rw [decide_eq_true c, decide_eq_false (fun h => h3 ⟨c, h⟩)]; rfl
  · rw [decide_eq_false c]; rfl
section
variable (l : List Int) (hl : l.length ≤ 9223372036854775807) (hb : ∀ x ∈ l, (Lit.int .u8 x).wf = true)
include hl hb
theorem draw_loop (n : Nat) (hn : n ≤ 12) (d : Nat) : ∀ (j : Nat) (acc : List (List Int)) (at_ seed : Int), j + d = n → acc.length = j → acc.all (okRow n) = true → 0 ≤ at_ → at_ + 2 * d ≤ 1000 →
    ∃ g a s, Ev (fun k => spec_l02DrawOk.l0 k (n : Int) (j : Int) l at_ seed acc) (g, a, s) ∧ g.length = n ∧ g.all (okRow n) = true := by
  induction d with
  | zero => intro j acc at_ seed h1 h2 h3 h4 h5; exact ⟨acc, at_, seed, ev_one (fun k => by rw [spec_l02DrawOk.l0, if_neg (by omega)]), by omega, h3⟩
  | succ d ih =>
    intro j acc at_ seed h1 h2 h3 h4 h5
    have hw1 := Aside0.mk (show wrap64 ((n : Int) + 1) = (n : Int) + 1 from wrap64_in (by omega) (by omega))
    obtain ⟨v1, at1, seed1, e1, v0, v1', a1, a2⟩ := pick_f l hl hb at_ seed ((n : Int) + 1) h4 (by omega) (by omega)
    obtain ⟨v2, at2, seed2, e2, u0, u1', b1, b2⟩ := pick_f l hl hb at1 seed1 ((n : Int) + 1) (by omega) (by omega) (by omega)
    have hv1 := Aside0.mk (show wrap64 (v1 - 1) = v1 - 1 from wrap64_in (by omega) (by omega))
    have hv2 := Aside0.mk (show wrap64 (v2 - 1) = v2 - 1 from wrap64_in (by omega) (by omega))
    have hj := Aside0.mk (wrap_succ (j := j) (n := n) (by omega) (by omega))
    have next : ∀ r : List Int, okRow n r = true → ∃ g a s, Ev (fun k => spec_l02DrawOk.l0 k (n : Int) ((j + 1 : Nat) : Int) l at2 seed2 (acc ++ [r])) (g, a, s) ∧ g.length = n ∧ g.all (okRow n) = true := by
      intro r hr
      have q1 : (acc ++ [r]).length = j + 1 := by rw [List.length_append, h2]; rfl
      have q2 : (acc ++ [r]).all (okRow n) = true := by
        rw [List.all_append, h3, Bool.true_and, List.all_cons, hr, Bool.true_and, List.all_nil]
      have q3 : 0 ≤ at2 := by omega
      have q4 : at2 + 2 * (d : Int) ≤ 1000 := by omega
      exact ih (j + 1) (acc ++ [r]) at2 seed2 (by omega) q1 q2 q3 q4
    by_cases c1 : v1 - 1 < 0
    · by_cases c2 : v2 - 1 < 0
      · obtain ⟨g, a, s, h6, h7⟩ := next [v1 - 1, (j : Int)] (okRow_mk (by omega) (by omega) (by omega))
        exact ⟨g, a, s, Ev.step (fun k => by rw [spec_l02DrawOk.l0, if_pos (by omega), hw1.out, e1, Option.bind_some, e2, Option.bind_some, hv1.out, hv2.out, if_pos c1, if_pos c2, if_pos (by omega), hj.out]) h6, h7⟩
      · obtain ⟨g, a, s, h6, h7⟩ := next [v1 - 1, v2 - 1] (okRow_mk (by omega) (by omega) (by omega))
        exact ⟨g, a, s, Ev.step (fun k => by rw [spec_l02DrawOk.l0, if_pos (by omega), hw1.out, e1, Option.bind_some, e2, Option.bind_some, hv1.out, hv2.out, if_pos c1, if_neg c2, if_pos (by omega), hj.out]) h6, h7⟩
    · obtain ⟨g, a, s, h6, h7⟩ := next [v1 - 1, v2 - 1] (okRow_mk (by omega) (by omega) (by omega))
      exact ⟨g, a, s, Ev.step (fun k => by rw [spec_l02DrawOk.l0, if_pos (by omega), hw1.out, e1, Option.bind_some, e2, Option.bind_some, hv1.out, hv2.out, if_neg c1, if_pos (by omega), hj.out]) h6, h7⟩
omit hl hb in
theorem VG_all {g : List (List Int)} {n : Nat} (h : g.length = n) (h1 : 1 ≤ n) (h2 : n ≤ 12) (ha : g.all (okRow n) = true) : VG g = true := by
  unfold VG
  rw [h, decide_eq_true (by omega), ha]; rfl
theorem draw_j2 (n : Nat) (h1 : 1 ≤ n) (hn : n ≤ 12) (at_ seed : Int) (h4 : 0 ≤ at_) (h5 : at_ ≤ 900) : ∃ g a s, Ev (fun k => spec_l02DrawOk.j2 k (n : Int) l at_ seed) (g, a, s) ∧ VG g = true := by
  obtain ⟨g, a, s, h6, h7, h8⟩ := draw_loop l hl hb n hn n 0 [] at_ seed (by omega) rfl rfl h4 (by omega)
  exact ⟨g, a, s, Ev.step (f := fun k => spec_l02DrawOk.l0 k (n : Int) 0 l at_ seed []) (fun k => by rw [spec_l02DrawOk.j2]) h6, VG_all h7 h1 hn h8⟩
theorem draw_j1 (at_ seed : Int) (h4 : 0 ≤ at_) (h5 : at_ ≤ 800) : ∃ g a s, Ev (fun k => spec_l02DrawOk.j1 k l at_ seed) (g, a, s) ∧ VG g = true := by
  obtain ⟨v, at1, seed1, e1, v0, v1, a1, a2⟩ := pick_f l hl hb at_ seed 6 h4 (by omega) (by decide)
  obtain ⟨o, at2, seed2, e2, b1, b2⟩ := one_f l hl hb at1 seed1 20 (by omega) (by omega) (by decide)
  cases o with
  | true =>
    obtain ⟨g, a, s, h6, h7⟩ := draw_j2 l hl hb 12 (by decide) (by decide) at2 seed2 (by omega) (by omega)
    exact ⟨g, a, s, Ev.step (f := fun k => spec_l02DrawOk.j2 k 12 l at2 seed2) (fun k => by rw [spec_l02DrawOk.j1, e1, Option.bind_some, e2, Option.bind_some, if_pos rfl]) h6, h7⟩
  | false =>
    obtain ⟨n, hn⟩ : ∃ n, n = (1 + v).toNat := ⟨_, rfl⟩
    have hw : wrap64 (1 + v) = (n : Int) := by rw [wrap64_in (by omega) (by omega)]; omega
    obtain ⟨g, a, s, h6, h7⟩ := draw_j2 l hl hb n (by omega) (by omega) at2 seed2 (by omega) (by omega)
    exact ⟨g, a, s, Ev.step (fun k => by rw [spec_l02DrawOk.j1, e1, Option.bind_some, e2, Option.bind_some, if_neg Bool.false_ne_true, hw]) h6, h7⟩
theorem draw_j0 (at_ seed : Int) (h4 : 0 ≤ at_) (h5 : at_ ≤ 700) : ∃ g a s, Ev (fun k => spec_l02DrawOk.j0 k l at_ seed) (g, a, s) ∧ VG g = true := by
  obtain ⟨o, at2, seed2, e2, b1, b2⟩ := one_f l hl hb at_ seed 5 h4 (by omega) (by decide)
  cases o with
  | true =>
    obtain ⟨v, at1, seed1, e1, v0, v1, a1, a2⟩ := pick_f l hl hb at2 seed2 5 (by omega) (by omega) (by decide)
    obtain ⟨n, hn⟩ : ∃ n, n = (1 + v).toNat := ⟨_, rfl⟩
    have hw : wrap64 (1 + v) = (n : Int) := by rw [wrap64_in (by omega) (by omega)]; omega
    refine ⟨_, _, _, Ev.step (fun k => by rw [spec_l02DrawOk.j0, e2, Option.bind_some, if_pos rfl, e1, Option.bind_some, hw]) (Ev.bind (specSumGraph_ev n (by omega) (by omega)) (ev_pos rfl (Ev.now _))), sumGraph_VG n (by omega) (by omega)⟩
  | false =>
    obtain ⟨g, a, s, h6, h7⟩ := draw_j1 l hl hb at2 seed2 (by omega) (by omega)
    exact ⟨g, a, s, Ev.step (fun k => by rw [spec_l02DrawOk.j0, e2, Option.bind_some, if_neg Bool.false_ne_true]) h6, h7⟩
theorem r8Graph_ev : ∃ g, Ev (fun k => spec_R8Graph.f k l) g ∧ VG g = true := by
  suffices h : ∃ g a s, Ev (fun k => spec_l02DrawOk.f k l 0 0) (g, a, s) ∧ VG g = true by
    obtain ⟨g, a, s, h1, h2⟩ := h
    refine ⟨g, ?_, h2⟩
    unfold spec_R8Graph.f spec_l00From.f
    exact ev_some (Ev.bind h1 (Ev.now _))
  unfold spec_l02DrawOk.f
  obtain ⟨o, at0, seed0, e0, b1, b2⟩ := one_f l hl hb 0 0 3 (by decide) (by decide) (by decide)
  cases o with
  | true =>
    obtain ⟨v, at1, seed1, e1, v0, v1, a1, a2⟩ := pick_f l hl hb at0 seed0 3 (by omega) (by omega) (by decide)
    obtain ⟨u, at2, seed2, e2, u0, u1, c1, c2⟩ := pick_f l hl hb at1 seed1 5 (by omega) (by omega) (by decide)
    obtain ⟨m, hm⟩ : ∃ m, m = (v + u).toNat := ⟨_, rfl⟩
    have hw : wrap64 (v + u) = (m : Int) := by rw [wrap64_in (by omega) (by omega)]; omega
    refine ⟨rgTo v m (m + 1), at2, seed2, ev_to e0 (ev_pos rfl (ev_to e1 (ev_to e2 ?_))), runGraph_VG v m v0 (by omega) (by omega)⟩
    show Ev (fun k => (spec_RunGraph.f k v (wrap64 (v + u))).bind _) _
    rw [hw]
    exact Ev.bind (specRunGraph_ev v m v0 (by omega) (by omega)) (ev_pos rfl (Ev.now _))
  | false =>
    obtain ⟨g, a, s, h6, h7⟩ := draw_j0 l hl hb at0 seed0 (by omega) (by omega)
    exact ⟨g, a, s, ev_to e0 (ev_neg Bool.false_ne_true h6), h7⟩
end

theorem bit_at {s : ByteArray} (hb : areB s.data.toList = true) (j : Nat) (hj : j < s.size) : bt s (j : Int) = 48 ∨ bt s (j : Int) = 49 := by
  have hs := size_l s
  have hj' : j < s.data.toList.length := by omega
  have hbt := bt_l s j hj'
  have := List.all_eq_true.1 hb _ (List.getElem_mem hj')
  unfold isBit at this
  rw [Bool.or_eq_true, beq_iff_eq, beq_iff_eq] at this
  omega
theorem allowed_of (g : List (List Int)) (hv : VG g = true) (x : Int) (hx : 0 ≤ x ∧ x < g.length) (s : ByteArray) (hn : s.size ≤ 400) (hb : areB s.data.toList = true) (r : Int) (h : Ev (fun k => impl_Graph_behind.f k g x s) r) :
    Ev (fun k => impl_IsAllowed.f k g x s) (decide (r ≥ 0)) := by
  have h12 := (VG_iff hv).1
  have hIB : IB s = true := by unfold IB; rw [hb, decide_eq_true (by omega)]; rfl
  have e : (VG g && decide (0 ≤ x ∧ x ≤ wrap64 ((g.length : Int) - 1))) = true := by
    rw [hv, wrap64_in (by omega) (by omega), decide_eq_true (by omega)]; rfl
  obtain ⟨_, i1⟩ := implBehind_ev g (fun r hr => by obtain ⟨a, b, rfl, _⟩ := (VG_iff hv).2 r hr; exact (by decide : 2 ≤ 9223372036854775807)) x s (by omega)
  unfold impl_IsAllowed.f
  refine Ev.bind (i1 (by rw [e, hIB]; rfl) r h) ?_
  by_cases c : r < 0
  · rw [if_pos c, decide_eq_false (by omega)]; exact Ev.now _
  · rw [if_neg c, decide_eq_true (by omega)]; exact Ev.now _
def addC (z : Int) (prev : List Int) (acc : Int) : Int := if z ≥ 0 then wrap64 (acc + rd prev z) else acc
def cntRow (g : List (List Int)) (prev : List Int) (y : Int) : Int := addC (rd (rd_L1 g y) 1) prev (addC (rd (rd_L1 g y) 0) prev 0)
def cntTo (g : List (List Int)) (prev : List Int) (n : Nat) : List Int := (List.range n).map fun (y : Nat) => cntRow g prev (y : Int)
def cntIter (g : List (List Int)) : Nat → List Int
  | 0 => List.replicate g.length 1
  | i + 1 => cntTo g (cntIter g i) g.length
def cntsTo (g : List (List Int)) (m : Nat) : List (List Int) := (List.range (m + 1)).map (cntIter g)
theorem cntTo_length (g : List (List Int)) (prev : List Int) (n : Nat) : (cntTo g prev n).length = n := by simp [cntTo]
theorem cntTo_succ (g : List (List Int)) (prev : List Int) (n : Nat) : cntTo g prev (n + 1) = cntTo g prev n ++ [cntRow g prev (n : Int)] := by simp [cntTo, List.range_succ]
theorem cntIter_length (g : List (List Int)) (i : Nat) : (cntIter g i).length = g.length := by
  cases i with
  | zero => simp [cntIter]
  | succ i => exact cntTo_length _ _ _
theorem cntsTo_length (g : List (List Int)) (m : Nat) : (cntsTo g m).length = m + 1 := by simp [cntsTo]
theorem cntsTo_succ (g : List (List Int)) (m : Nat) : cntsTo g (m + 1) = cntsTo g m ++ [cntIter g (m + 1)] := by
  unfold cntsTo
  rw [List.range_succ, List.map_append]
  rfl
theorem cntsTo_get (g : List (List Int)) (m j : Nat) (h : j ≤ m) : rd_L1 (cntsTo g m) (j : Int) = cntIter g j := by
  rw [rdL_get _ _ (by rw [cntsTo_length]; omega)]; simp [cntsTo]
theorem cntRow_of {g : List (List Int)} {y : Int} {a b : Int} (e : rd_L1 g y = [a, b]) (prev : List Int) : cntRow g prev y = addC b prev (addC a prev 0) := by
  unfold cntRow; rw [e]; rfl

theorem ic_l2 (g : List (List Int)) (hg : Rows2 g) (h12 : g.length ≤ 12) (tab : List (List Int)) (m : Nat) (row : List Int) (Q I : Int) (y : Nat) (hy : y < g.length) (hrow : row.length = y) {res : List (List Int)}
    (h : Ev (fun k => impl_Graph_counts.l1 k tab (cntIter g m) (row ++ [cntRow g (cntIter g m) (y : Int)]) Q I g (g.length : Int) ((y + 1 : Nat) : Int) g) res) : Ev (fun k => impl_Graph_counts.l2 k tab (cntIter g m) row 0 Q I g (g.length : Int) (y : Int) (rd_L1 g (y : Int)) ((rd_L1 g (y : Int)).length : Int) 0 g) res := by
  obtain ⟨a, b, e, ha, hb, _, _⟩ := hg y hy
  have el := len2 a b
  have hi := cntIter_length g m
  rw [e]
  have two : ∀ acc : Int, acc = addC a (cntIter g m) 0 → Ev (fun k => impl_Graph_counts.l2 k tab (cntIter g m) row acc Q I g (g.length : Int) (y : Int) [a, b] (([a, b] : List Int).length : Int) 1 g) res := by
    intro acc he
    rw [cntRow_of e, ← he] at h
    by_cases cb : b ≥ 0
    · rw [addC, if_pos cb] at h
      refine Ev.step (fun k => by rw [impl_Graph_counts.l2, if_pos (by rw [el]; decide), if_pos (by decide), if_pos (by rw [el]; decide), rd1, if_pos cb, if_pos cb, if_pos (by omega), w11]) ?_
      exact Ev.step (fun k => by rw [impl_Graph_counts.l2, if_neg (by rw [el]; decide), if_pos (by omega), wrap_succ hy (by omega)]) h
    · rw [addC, if_neg cb] at h
      refine Ev.step (fun k => by rw [impl_Graph_counts.l2, if_pos (by rw [el]; decide), if_pos (by decide), if_pos (by rw [el]; decide), rd1, if_neg cb, w11]) ?_
      exact Ev.step (fun k => by rw [impl_Graph_counts.l2, if_neg (by rw [el]; decide), if_pos (by omega), wrap_succ hy (by omega)]) h
  by_cases ca : a ≥ 0
  · refine Ev.step (fun k => by rw [impl_Graph_counts.l2, if_pos (by rw [el]; decide), if_pos (by decide), if_pos (by rw [el]; decide), rd0, if_pos ca, if_pos ca, if_pos (by omega), w01]) ?_
    exact two _ (by rw [addC, if_pos ca])
  · refine Ev.step (fun k => by rw [impl_Graph_counts.l2, if_pos (by rw [el]; decide), if_pos (by decide), if_pos (by rw [el]; decide), rd0, if_neg ca, w01]) ?_
    exact two _ (by rw [addC, if_neg ca])
theorem ic_l1 (g : List (List Int)) (hg : Rows2 g) (h12 : g.length ≤ 12) (Q : Int) (m : Nat) (hm : m ≤ 100) {res : List (List Int)} (h : Ev (fun k => impl_Graph_counts.l0 k (cntsTo g (m + 1)) Q ((m + 1 : Nat) : Int) g) res) (d : Nat) : ∀ y : Nat, y + d = g.length →
    Ev (fun k => impl_Graph_counts.l1 k (cntsTo g m) (cntIter g m) (cntTo g (cntIter g m) y) Q (m : Int) g (g.length : Int) (y : Int) g) res := by
  induction d with
  | zero =>
    intro y hy
    obtain rfl : y = g.length := by omega
    rw [cntsTo_succ] at h
    exact Ev.step (fun k => by rw [impl_Graph_counts.l1, if_neg (by omega), if_pos (by rw [cntsTo_length]; omega), wrap_succ (j := m) (n := 1000) (by omega) (by omega)]; rfl) h
  | succ d ih =>
    intro y hy
    refine Ev.step (fun k => by rw [impl_Graph_counts.l1, if_pos (by omega), if_pos (by omega), if_pos (by omega)]) ?_
    refine ic_l2 g hg h12 _ m _ Q m y (by omega) (cntTo_length _ _ _) ?_
    rw [← cntTo_succ]
    exact ih (y + 1) (by omega)
theorem ic_l0 (g : List (List Int)) (hg : Rows2 g) (h12 : g.length ≤ 12) (q : Nat) (hq : q ≤ 100) (d : Nat) : ∀ m : Nat, m + d = q → Ev (fun k => impl_Graph_counts.l0 k (cntsTo g m) (q : Int) (m : Int) g) (cntsTo g q) := by
  induction d with
  | zero =>
    intro m h
    obtain rfl : m = q := by omega
    exact ev_one (fun k => by rw [impl_Graph_counts.l0, if_neg (by omega)])
  | succ d ih =>
    intro m h
    have hm := cntsTo_length g m
    have hw : wrap64 (((cntsTo g m).length : Int) - 1) = (m : Int) := by rw [hm, wrap64_in (by omega) (by omega)]; omega
    exact Ev.step (fun k => by rw [impl_Graph_counts.l0, if_pos (by omega), hw, if_pos (by omega), if_pos (by omega), cntsTo_get g m m (Nat.le_refl m)]; rfl) (ic_l1 g hg h12 q m (by omega) (ih (m + 1) (by omega)) g.length 0 (by omega))
theorem implCounts_ev (g : List (List Int)) (hg : Rows2 g) (h12 : g.length ≤ 12) (q : Nat) (hq : q ≤ 100) : Ev (fun k => impl_Graph_counts.f k g (q : Int)) (cntsTo g q) := by
  unfold impl_Graph_counts.f
  refine ev_to (a := List.replicate g.length 1) ?_ (ic_l0 g hg h12 q hq q 0 (by omega))
  unfold slices_Repeat_int64_int64.f
  rw [if_pos ⟨rfl, by omega, by omega⟩, Int.toNat_natCast]
  rfl

theorem counted_f (n : Int) : impl_isCounted.f n = some (decide (0 ≤ n ∧ n ≤ 60)) := by
  unfold impl_isCounted.f
  rw [impl_in]
  rfl

def selC (z : Int) (prev : List Int) : Int := if z ≥ 0 then rd prev z else 0
theorem cntTo_get (g : List (List Int)) (prev : List Int) (n y : Nat) (h : y < n) : rd (cntTo g prev n) (y : Int) = cntRow g prev (y : Int) := by
  rw [rd_get _ _ (by rw [cntTo_length]; exact h)]; simp [cntTo]
theorem addC_eq (z : Int) (prev : List Int) (acc : Int) (h : 0 ≤ selC z prev ∧ selC z prev ≤ 1152921504606846976) (ha : 0 ≤ acc ∧ acc ≤ 1152921504606846976) : addC z prev acc = acc + selC z prev := by
  unfold addC selC at *
  by_cases c : z ≥ 0
  · rw [if_pos c] at *
    rw [if_pos c]
    exact wrap64_in (by omega) (by omega)
  · rw [if_neg c, if_neg c, Int.add_zero]
theorem row_sum (a b : Int) (prev : List Int) (h : 0 ≤ selC a prev ∧ selC a prev ≤ 1152921504606846976) (h2 : 0 ≤ selC b prev ∧ selC b prev ≤ 1152921504606846976) : addC b prev (addC a prev 0) = selC a prev + selC b prev := by
  rw [addC_eq a prev 0 h (by omega), Int.zero_add, addC_eq b prev _ h2 h]
/-- The counts are small, and add up without a wrap. -/
theorem cnt_bound (g : List (List Int)) (hg : Rows2 g) (i : Nat) : i ≤ 61 → ∀ y : Nat, y < g.length → 0 ≤ rd (cntIter g i) (y : Int) ∧ rd (cntIter g i) (y : Int) ≤ 2 ^ i := by
  induction i with
  | zero => intro _ y hy; rw [show cntIter g 0 = List.replicate g.length 1 from rfl, rd_get _ _ (by simpa using hy)]; simp
  | succ i ih =>
    intro hi y hy
    obtain ⟨a, b, e, ha, hb, _, _⟩ := hg y hy
    have ih' := ih (by omega)
    have sel : ∀ z : Int, z < g.length → 0 ≤ selC z (cntIter g i) ∧ selC z (cntIter g i) ≤ 2 ^ i := by
      intro z hz
      unfold selC
      split
      · obtain ⟨j, rfl⟩ := Int.eq_ofNat_of_zero_le (show 0 ≤ z by omega)
        exact ih' j (by omega)
      · exact ⟨by omega, by have := pow_pos_int i; omega⟩
    have h1 := sel a ha
    have h2 := sel b hb
    have hp := pow_le_int (a := i) (b := 60) (by omega)
    have e60 : (2 : Int) ^ 60 = 1152921504606846976 := by decide
    have es : (2 : Int) ^ (i + 1) = 2 ^ i * 2 := Int.pow_succ 2 i
    rw [show cntIter g (i + 1) = cntTo g (cntIter g i) g.length from rfl, cntTo_get _ _ _ _ hy, cntRow_of e]
    rw [row_sum a b _ (by omega) (by omega)]
    omega
theorem cnt_split (g : List (List Int)) (hg : Rows2 g) (i : Nat) (hi : i ≤ 60) (y : Nat) (hy : y < g.length) {a b : Int} (e : rd_L1 g (y : Int) = [a, b]) (ha : a < g.length) (hb : b < g.length) : rd (cntIter g (i + 1)) (y : Int) = selC a (cntIter g i) + selC b (cntIter g i) := by
  have ih' := cnt_bound g hg i (by omega)
  have sel : ∀ z : Int, z < g.length → 0 ≤ selC z (cntIter g i) ∧ selC z (cntIter g i) ≤ 2 ^ i := by
    intro z hz
    unfold selC
    split
    · obtain ⟨j, rfl⟩ := Int.eq_ofNat_of_zero_le (show 0 ≤ z by omega)
      exact ih' j (by omega)
    · exact ⟨by omega, by have := pow_pos_int i; omega⟩
  have h1 := sel a ha
  have h2 := sel b hb
  have hp := pow_le_int (a := i) (b := 60) (by omega)
  have e60 : (2 : Int) ^ 60 = 1152921504606846976 := by decide
  rw [show cntIter g (i + 1) = cntTo g (cntIter g i) g.length from rfl, cntTo_get _ _ _ _ hy, cntRow_of e]
  exact row_sum a b _ (by omega) (by omega)

theorem implCount_yes (g : List (List Int)) (hv : VG g = true) (h12 : g.length ≤ 12) (q : Nat) (hr : ∀ r ∈ g, r.length ≤ 9223372036854775807) (j : Nat) (hj : j < g.length) (hq60 : q ≤ 60) (e : (VG g && decide (0 ≤ (j : Int) ∧ (j : Int) ≤ wrap64 ((g.length : Int) - 1))) = true) :
    Ev (fun k => impl_CountAllowed.f k g (j : Int) (q : Int)) (rd (cntIter g q) (j : Int), true) := by
  have hi := implState_ev g hr (j : Int)
  rw [e] at hi
  have ei : impl_isCounted.f (q : Int) = some true := by rw [counted_f, decide_eq_true (by omega)]
  have h2 := implCounts_ev g (rows2_of hv) h12 q (by omega)
  have hl := cntsTo_length g q
  have hq := cntsTo_get g q q (Nat.le_refl q)
  have hc := cntIter_length g q
  rw [← hq]
  unfold impl_CountAllowed.f
  exact Ev.bind hi (ev_pos rfl (ev_to ei (ev_pos rfl (Ev.bind h2 (ev_pos (by omega) (ev_pos (by omega) (ev_pos (by omega) (ev_pos (by rw [hq]; omega) (Ev.now _)))))))))

/-- The bits of a rank, as numbers. -/
def bitsF (g : List (List Int)) : Nat → Int → Int → List Int
  | 0, _, _ => []
  | i + 1, x, r => if r < selC (rd (rd_L1 g x) 0) (cntIter g i) then 48 :: bitsF g i (rd (rd_L1 g x) 0) r else 49 :: bitsF g i (rd (rd_L1 g x) 1) (r - selC (rd (rd_L1 g x) 0) (cntIter g i))
/-- The state behind bits. -/
def runF (g : List (List Int)) : List Int → Int → Int
  | [], x => x
  | c :: cs, x => if x ≥ 0 then runF g cs (rd (rd_L1 g x) (c - 48)) else x
def rankF (g : List (List Int)) : List Int → Int → Int
  | [], _ => 0
  | c :: cs, x => (if c = 49 then selC (rd (rd_L1 g x) 0) (cntIter g cs.length) else 0) + rankF g cs (rd (rd_L1 g x) (c - 48))
theorem runF_neg (g : List (List Int)) (cs : List Int) (x : Int) (h : x < 0) : runF g cs x = x := by
  cases cs with
  | nil => rfl
  | cons c cs => show (if x ≥ 0 then _ else x) = x; rw [if_neg (by omega)]
theorem bitsF_length (g : List (List Int)) (i : Nat) : ∀ x r, (bitsF g i x r).length = i := by
  induction i with
  | zero => intro x r; rfl
  | succ i ih => intro x r; unfold bitsF; split <;> simp [ih]
theorem bitsF_bits (g : List (List Int)) (i : Nat) : ∀ x r, bitsL (bitsF g i x r) := by
  induction i with
  | zero => intro x r y hy; cases hy
  | succ i ih =>
    intro x r y hy
    unfold bitsF at hy
    split at hy
    · rcases List.mem_cons.1 hy with rfl | hy
      · exact .inl rfl
      · exact ih _ _ y hy
    · rcases List.mem_cons.1 hy with rfl | hy
      · exact .inr rfl
      · exact ih _ _ y hy
theorem selC_in (g : List (List Int)) (hg : Rows2 g) (i : Nat) (hi : i ≤ 60) (z : Int) (hz : z < g.length) : 0 ≤ selC z (cntIter g i) ∧ selC z (cntIter g i) ≤ 1152921504606846976 := by
  unfold selC
  split
  · obtain ⟨j, rfl⟩ := Int.eq_ofNat_of_zero_le (show 0 ≤ z by omega)
    have h := cnt_bound g hg i (by omega) j (by omega)
    have hp := pow_le_int (a := i) (b := 60) hi
    have e60 : (2 : Int) ^ 60 = 1152921504606846976 := by decide
    omega
  · omega
theorem selC_pos {z : Int} {p : List Int} {r : Int} (h0 : 0 ≤ r) (h : r < selC z p) : z ≥ 0 ∧ selC z p = rd p z := by
  unfold selC at *
  by_cases c : z ≥ 0
  · exact ⟨c, if_pos c⟩
  · rw [if_neg c] at h; omega
theorem bitsF_rank (g : List (List Int)) (hg : Rows2 g) (i : Nat) : ∀ (y : Nat) (r : Int), i ≤ 60 → y < g.length → 0 ≤ r → r < rd (cntIter g i) (y : Int) → rankF g (bitsF g i y r) y = r ∧ runF g (bitsF g i y r) y ≥ 0 := by
  induction i with
  | zero =>
    intro y r _ hy h0 h1
    rw [show cntIter g 0 = List.replicate g.length 1 from rfl, rd_get _ _ (by simpa using hy)] at h1
    simp at h1
    exact ⟨by show (0 : Int) = r; omega, by show (y : Int) ≥ 0; omega⟩
  | succ i ih =>
    intro y r hi hy h0 h1
    obtain ⟨a, b, e, ha, hb, _, _⟩ := hg y hy
    have hs := cnt_split g hg i (by omega) y hy e ha hb
    rw [hs] at h1
    have hb0 := (selC_in g hg i (by omega) a ha).1
    unfold bitsF
    rw [e, rd0, rd1]
    by_cases c : r < selC a (cntIter g i)
    · rw [if_pos c]
      obtain ⟨ca, es⟩ := selC_pos h0 c
      obtain ⟨z, rfl⟩ := Int.eq_ofNat_of_zero_le ca
      obtain ⟨i1, i2⟩ := ih z r (by omega) (by omega) h0 (by omega)
      constructor
      · show (if (48 : Int) = 49 then _ else 0) + rankF g _ (rd (rd_L1 g y) (48 - 48)) = r
        rw [if_neg (by decide), e, show (48 : Int) - 48 = 0 from rfl, rd0, i1]; omega
      · show (if (y : Int) ≥ 0 then runF g _ (rd (rd_L1 g y) (48 - 48)) else y) ≥ 0
        rw [if_pos (by omega), e, show (48 : Int) - 48 = 0 from rfl, rd0]; exact i2
    · rw [if_neg c]
      obtain ⟨cb, es⟩ := selC_pos (r := r - selC a (cntIter g i)) (z := b) (p := cntIter g i) (by omega) (by omega)
      obtain ⟨z, rfl⟩ := Int.eq_ofNat_of_zero_le cb
      obtain ⟨i1, i2⟩ := ih z (r - selC a (cntIter g i)) (by omega) (by omega) (by omega) (by omega)
      constructor
      · show (if (49 : Int) = 49 then selC (rd (rd_L1 g y) 0) (cntIter g (bitsF g i z (r - selC a (cntIter g i))).length) else 0) + rankF g _ (rd (rd_L1 g y) (49 - 48)) = r
        rw [if_pos rfl, e, show (49 : Int) - 48 = 1 from rfl, rd0, rd1, i1, bitsF_length]; omega
      · show (if (y : Int) ≥ 0 then runF g _ (rd (rd_L1 g y) (49 - 48)) else y) ≥ 0
        rw [if_pos (by omega), e, show (49 : Int) - 48 = 1 from rfl, rd1]; exact i2
def u8s (l : List Int) : List UInt8 := l.map fun n => UInt8.ofNat n.toNat
theorem bitsF_less (g : List (List Int)) (hg : Rows2 g) (i : Nat) : ∀ (y : Nat) (r r' : Int), i ≤ 60 → y < g.length → 0 ≤ r → r < r' → r' < rd (cntIter g i) (y : Int) → Op.bytesLess (u8s (bitsF g i y r)) (u8s (bitsF g i y r')) = true := by
  induction i with
  | zero =>
    intro y r r' _ hy h0 h1 h2
    rw [show cntIter g 0 = List.replicate g.length 1 from rfl, rd_get _ _ (by simpa using hy)] at h2
    simp at h2
    omega
  | succ i ih =>
    intro y r r' hi hy h0 h1 h2
    obtain ⟨a, b, e, ha, hb, _, _⟩ := hg y hy
    have hs := cnt_split g hg i (by omega) y hy e ha hb
    rw [hs] at h2
    have hb0 := (selC_in g hg i (by omega) a ha).1
    unfold bitsF
    rw [e, rd0, rd1]
    have same : ∀ (x : UInt8) p q, Op.bytesLess p q = true → Op.bytesLess (x :: p) (x :: q) = true := by
      intro x p q h
      simp [Op.bytesLess, h]
    by_cases c : r' < selC a (cntIter g i)
    · rw [if_pos c, if_pos (by omega)]
      obtain ⟨ca, es⟩ := selC_pos (by omega) c
      obtain ⟨z, rfl⟩ := Int.eq_ofNat_of_zero_le ca
      exact same _ _ _ (ih z r r' (by omega) (by omega) h0 h1 (by omega))
    · rw [if_neg c]
      by_cases c2 : r < selC a (cntIter g i)
      · rw [if_pos c2]
        show (decide ((UInt8.ofNat (48 : Int).toNat) < UInt8.ofNat (49 : Int).toNat) || _) = true
        rw [show decide ((UInt8.ofNat (48 : Int).toNat) < UInt8.ofNat (49 : Int).toNat) = true from by decide]; rfl
      · rw [if_neg c2]
        obtain ⟨cb, es⟩ := selC_pos (r := r' - selC a (cntIter g i)) (z := b) (p := cntIter g i) (by omega) (by omega)
        obtain ⟨z, rfl⟩ := Int.eq_ofNat_of_zero_le cb
        exact same _ _ _ (ih z (r - selC a (cntIter g i)) (r' - selC a (cntIter g i)) (by omega) (by omega) (by omega) (by omega) (by omega))
theorem bt_strOf (l : List Int) (hl : bitsL l) (j : Nat) (h : j < l.length) : bt (strOfNums l) (j : Int) = l[j] := by
  have h2 : j < (strOfNums l).data.toList.length := by rw [strOfNums_data, List.length_map]; exact h
  rw [bt_l _ j h2]
  have e : (strOfNums l).data.toList[j] = UInt8.ofNat (l[j]).toNat := by
    simp [strOfNums_data]
  rw [e]
  rcases hl _ (List.getElem_mem h) with h | h <;> rw [h] <;> decide
theorem at_impl (g : List (List Int)) (hg : Rows2 g) (h12 : g.length ≤ 12) (q : Nat) (hq : q ≤ 60) (i : Nat) : ∀ (y : Nat) (x3 : Int) (acc : List Int), i ≤ q → y < g.length → acc.length + i ≤ 60 → 0 ≤ x3 → x3 < rd (cntIter g i) (y : Int) → x3 ≤ 9223372036854775807 →
    Ev (fun k => impl_BitsAt.l0 k x3 (cntsTo g q) acc (y : Int) ((i : Int) - 1) g) (strOfNums (acc ++ bitsF g i y x3), true) := by
  induction i with
  | zero =>
    intro y x3 acc _ _ _ _ _ _
    exact ev_one (fun k => by rw [impl_BitsAt.l0, if_neg (by omega)]; show _ = some (strOfNums (acc ++ []), true); rw [List.append_nil])
  | succ i ih =>
    intro y x3 acc h1 h2 h3 h4 h5 h6
    obtain ⟨a, b, e, ha, hb, _, _⟩ := hg y h2
    have el := len2 a b
    have hs := cnt_split g hg i (by omega) y h2 e ha hb
    rw [hs] at h5
    have ex : ((i + 1 : Nat) : Int) - 1 = (i : Int) := by omega
    have ew := Aside0.mk (show wrap64 ((i : Int) - 1) = (i : Int) - 1 from wrap64_in (by omega) (by omega))
    have hl := cntsTo_length g q
    have hgi := cntsTo_get g q i (by omega)
    have hc := cntIter_length g i
    have hsel := (selC_in g hg i (by omega) a ha).1
    rw [ex]
    unfold bitsF
    rw [e, rd0, rd1]
    have hb0 : ∀ x : Int, 0 ≤ x → x ≤ x3 → x < selC b (cntIter g i) → Ev (fun k => impl_BitsAt.l0 k x (cntsTo g q) (acc ++ [49]) b ((i : Int) - 1) g) (strOfNums (acc ++ 49 :: bitsF g i b x), true) := by
      intro x hx0 hx1 hx
      obtain ⟨cb, es⟩ := selC_pos hx0 hx
      obtain ⟨j, rfl⟩ := Int.eq_ofNat_of_zero_le cb
      have := ih j x (acc ++ [49]) (by omega) (by omega) (by simp; omega) hx0 (by omega) (by omega)
      rwa [List.append_assoc] at this
    by_cases ca : a ≥ 0
    · have ea : selC a (cntIter g i) = rd (cntIter g i) a := if_pos ca
      rw [ea]
      by_cases cc : x3 < rd (cntIter g i) a
      · rw [if_pos cc]
        have hr2 : Ev (fun k => impl_BitsAt.l0 k x3 (cntsTo g q) (acc ++ [48]) a ((i : Int) - 1) g) (strOfNums (acc ++ 48 :: bitsF g i a x3), true) := by
          obtain ⟨j, rfl⟩ := Int.eq_ofNat_of_zero_le ca
          have := ih j x3 (acc ++ [48]) (by omega) (by omega) (by simp; omega) h4 cc h6
          rwa [List.append_assoc] at this
        exact Ev.step (fun k => by rw [impl_BitsAt.l0, if_pos (by omega), if_pos (by omega), if_pos (by omega), e, if_pos (by rw [el]; decide), rd0, if_neg (by omega), if_pos (by omega), if_pos (by omega), if_pos ca, hgi, if_pos (by omega), if_neg (by omega), if_pos (by omega), ew.out]) hr2
      · rw [if_neg cc]
        have es := Aside0.mk (show wrap64 (x3 - rd (cntIter g i) a) = x3 - rd (cntIter g i) a from wrap64_in (by omega) (by omega))
        have hr2 := hb0 (x3 - rd (cntIter g i) a) (by omega) (by omega) (by omega)
        exact Ev.step (fun k => by rw [impl_BitsAt.l0, if_pos (by omega), if_pos (by omega), if_pos (by omega), e, if_pos (by rw [el]; decide), rd0, if_neg (by omega), if_pos (by omega), if_pos (by omega), if_pos ca, hgi, if_pos (by omega), if_pos (by omega), if_pos (by omega), if_pos (by rw [el]; decide), es.out, rd1, ew.out]) hr2
    · have ea : selC a (cntIter g i) = 0 := if_neg ca
      rw [ea, if_neg (by omega), Int.sub_zero]
      have hr2 := hb0 x3 (by omega) (by omega) (by omega)
      exact Ev.step (fun k => by rw [impl_BitsAt.l0, if_pos (by omega), if_pos (by omega), if_pos (by omega), e, if_pos (by rw [el]; decide), rd0, if_pos (by omega), if_pos (by omega), if_pos (by rw [el]; decide), rd1, ew.out]) hr2
section
variable (g : List (List Int)) (hv : VG g = true)
include hv
theorem rows_short : ∀ r ∈ g, r.length ≤ 9223372036854775807 := fun r hr => by
  obtain ⟨a, b, rfl, _⟩ := (VG_iff hv).2 r hr
  exact (by decide : 2 ≤ 9223372036854775807)
theorem state_yes (y : Nat) (hy : y < g.length) : (VG g && decide (0 ≤ (y : Int) ∧ (y : Int) ≤ wrap64 ((g.length : Int) - 1))) = true := by
  have h12 := (VG_iff hv).1
  rw [hv, wrap64_in (by omega) (by omega), decide_eq_true (by omega)]; rfl
theorem count_f (y q : Nat) (hy : y < g.length) (hq : q ≤ 60) : Ev (fun k => impl_CountAllowed.f k g (y : Int) (q : Int)) (rd (cntIter g q) (y : Int), true) :=
  implCount_yes g hv (VG_iff hv).1.2 q (rows_short g hv) y hy hq (state_yes g hv y hy)
theorem bitsAt_f (y q : Nat) (hy : y < g.length) (hq : q ≤ 60) (r : Int) (hr : 0 ≤ r) : Ev (fun k => impl_BitsAt.f k g (y : Int) (q : Int) r) (if r < rd (cntIter g q) (y : Int) then (strOfNums (bitsF g q y r), true) else ((⟨#[]⟩ : ByteArray), false)) := by
  have hg := rows2_of hv
  have hb := cnt_bound g hg q (by omega) y hy
  have hp := pow_le_int (a := q) (b := 60) (by omega)
  have e60 : (2 : Int) ^ 60 = 1152921504606846976 := by decide
  have hw : wrap64 (rd (cntIter g q) (y : Int) - 1) = rd (cntIter g q) (y : Int) - 1 := wrap64_in (by omega) (by omega)
  unfold impl_BitsAt.f
  refine Ev.bind (count_f g hv y q hy hq) (ev_pos rfl (ev_to (impl_in _ _ _) ?_))
  show Ev (fun k => impl_BitsAt.j0 k (y : Int) (q : Int) r (!decide (0 ≤ r ∧ r ≤ wrap64 (rd (cntIter g q) (y : Int) - 1))) g) _
  rw [hw]
  by_cases c : r < rd (cntIter g q) (y : Int)
  · rw [if_pos c, decide_eq_true (by omega)]
    have h2 := implCounts_ev g hg (VG_iff hv).1.2 q (by omega)
    refine Ev.step (fun k => by rw [impl_BitsAt.j0, if_neg (by decide)]) (Ev.bind h2 ?_)
    rw [wrap64_in (by omega) (by omega)]
    exact at_impl g hg (VG_iff hv).1.2 q hq q y r [] (Nat.le_refl q) hy (by simp; omega) hr c (by omega)
  · rw [if_neg c, decide_eq_false (by omega)]
    exact ev_one (fun k => by rw [impl_BitsAt.j0, if_pos (show (!false) = true from rfl)])
/-- The walk by bits. -/
theorem run_impl (l : List Int) (hl : bitsL l) (h4 : l.length ≤ 400) (d : Nat) : ∀ (j : Nat) (x : Int), j + d = l.length → -1 ≤ x → x < g.length → Ev (fun k => impl_Graph_behind.l0 k x (strOfNums l) (j : Int) g) (runF g (l.drop j) x) := by
  have hg := rows2_of hv
  have hs := size_strOf l
  induction d with
  | zero =>
    intro j x h1 h2 h3
    rw [List.drop_eq_nil_of_le (by omega)]
    exact ev_one (fun k => by rw [impl_Graph_behind.l0, if_neg (by omega)]; rfl)
  | succ d ih =>
    intro j x h1 h2 h3
    have hj : j < l.length := by omega
    have hw := Aside0.mk (wrap_succ (j := j) (n := l.length) hj (by omega))
    have hbt := bt_strOf l hl j hj
    have hbit := hl _ (List.getElem_mem hj)
    rw [drop_cons _ _ hj]
    by_cases cx : x ≥ 0
    · obtain ⟨y, rfl⟩ := Int.eq_ofNat_of_zero_le cx
      obtain ⟨a, b, e, ha, hb2, ha1, hb1⟩ := hg y (by omega)
      have el := len2 a b
      show Ev _ (if (y : Int) ≥ 0 then runF g (l.drop (j + 1)) (rd (rd_L1 g y) (l[j] - 48)) else y)
      rw [if_pos cx]
      rcases hbit with h | h
      · have e0 : ((bt (strOfNums l) (j : Int)) - 48) % 256 = 0 := by omega
        rw [h, e, show (48 : Int) - 48 = 0 from rfl, rd0]
        exact Ev.step (fun k => by rw [impl_Graph_behind.l0, if_pos (by omega), if_pos cx, if_pos cx, if_pos (by omega), if_pos (by omega), e0, if_pos (by decide), e, if_pos (by rw [el]; decide), rd0, hw.out]) (ih (j + 1) a (by omega) ha1 ha)
      · have e0 : ((bt (strOfNums l) (j : Int)) - 48) % 256 = 1 := by omega
        rw [h, e, show (49 : Int) - 48 = 1 from rfl, rd1]
        exact Ev.step (fun k => by rw [impl_Graph_behind.l0, if_pos (by omega), if_pos cx, if_pos cx, if_pos (by omega), if_pos (by omega), e0, if_pos (by decide), e, if_pos (by rw [el]; decide), rd1, hw.out]) (ih (j + 1) b (by omega) hb1 hb2)
    · rw [runF_neg g _ x (by omega)]
      exact ev_one (fun k => by rw [impl_Graph_behind.l0, if_pos (by omega), if_neg cx])
omit hv in
theorem areB_IB (l : List Int) (hl : bitsL l) (h4 : l.length ≤ 400) : IB (strOfNums l) = true := by
  unfold IB
  rw [areB_strOf l hl, size_strOf, decide_eq_true (by omega)]; rfl
theorem stateBehind_f (l : List Int) (hl : bitsL l) (h4 : l.length ≤ 400) (y : Nat) (hy : y < g.length) : Ev (fun k => impl_StateBehind.f k g (y : Int) (strOfNums l)) (if runF g l y < 0 then (0, false) else (runF g l y, true)) := by
  have hr := run_impl g hv l hl h4 l.length 0 y (by omega) (by omega) (by omega)
  have hs := size_strOf l
  obtain ⟨_, i1⟩ := implBehind_ev g (rows_short g hv) (y : Int) (strOfNums l) (by omega)
  exact i1 (by rw [state_yes g hv y hy, areB_IB l hl h4]; rfl) _ hr
theorem allowed_f (l : List Int) (hl : bitsL l) (h4 : l.length ≤ 400) (y : Nat) (hy : y < g.length) : Ev (fun k => impl_IsAllowed.f k g (y : Int) (strOfNums l)) (decide (runF g l y ≥ 0)) := by
  have h := stateBehind_f g hv l hl h4 y hy
  unfold impl_IsAllowed.f
  refine Ev.bind h ?_
  by_cases c : runF g l y < 0
  · rw [if_pos c, decide_eq_false (by omega)]; exact Ev.now _
  · rw [if_neg c, decide_eq_true (by omega)]; exact Ev.now _
theorem rankF_nonneg (cs : List Int) : ∀ x : Int, bitsL cs → cs.length ≤ 60 → -1 ≤ x → x < g.length → runF g cs x ≥ 0 → 0 ≤ rankF g cs x := by
  have hg := rows2_of hv
  induction cs with
  | nil => intro x _ _ _ _ _; exact Int.le_refl 0
  | cons c cs ih =>
    intro x hl h60 h2 h3 hrun
    have cx : x ≥ 0 := by
      by_cases c : x ≥ 0
      · exact c
      · rw [runF_neg g _ x (by omega)] at hrun; omega
    obtain ⟨y, rfl⟩ := Int.eq_ofNat_of_zero_le cx
    obtain ⟨a, b, e, ha, hb2, ha1, hb1⟩ := hg y (by omega)
    have hc : cs.length + 1 ≤ 60 := h60
    have hsel := selC_in g hg cs.length (by omega) a ha
    have hl2 : bitsL cs := fun z hz => hl z (List.mem_cons_of_mem _ hz)
    have hrun' : runF g cs (rd (rd_L1 g y) (c - 48)) ≥ 0 := by
      have : (if (y : Int) ≥ 0 then runF g cs (rd (rd_L1 g y) (c - 48)) else y) ≥ 0 := hrun
      rwa [if_pos cx] at this
    show 0 ≤ (if c = 49 then selC (rd (rd_L1 g y) 0) (cntIter g cs.length) else 0) + rankF g cs (rd (rd_L1 g y) (c - 48))
    rw [e] at hrun' ⊢
    rcases hl c List.mem_cons_self with rfl | rfl
    · rw [if_neg (by decide), show (48 : Int) - 48 = 0 from rfl, rd0]
      rw [show (48 : Int) - 48 = 0 from rfl, rd0] at hrun'
      have := ih a hl2 (by omega) ha1 ha hrun'
      omega
    · rw [if_pos rfl, show (49 : Int) - 48 = 1 from rfl, rd1, rd0]
      rw [show (49 : Int) - 48 = 1 from rfl, rd1] at hrun'
      have := ih b hl2 (by omega) hb1 hb2 hrun'
      omega
theorem rank_loop (l : List Int) (hl : bitsL l) (h60 : l.length ≤ 60) (d : Nat) : ∀ (j : Nat) (x acc : Int), j + d = l.length → -1 ≤ x → x < g.length → runF g (l.drop j) x ≥ 0 → 0 ≤ acc → acc + rankF g (l.drop j) x ≤ 2305843009213693952 →
    Ev (fun k => impl_RankOfBits.l0 k (strOfNums l) (cntsTo g l.length) acc x (l.length : Int) (j : Int) g) (acc + rankF g (l.drop j) x, true) := by
  have hg := rows2_of hv
  have hs := size_strOf l
  have hlen := cntsTo_length g l.length
  induction d with
  | zero =>
    intro j x acc h1 h2 h3 _ _ _
    rw [List.drop_eq_nil_of_le (by omega)]
    exact ev_one (fun k => by rw [impl_RankOfBits.l0, if_neg (by omega)]; show _ = some (acc + 0, true); rw [Int.add_zero])
  | succ d ih =>
    intro j x acc h1 h2 h3 hrun ha0 hsum
    have hj : j < l.length := by omega
    have hw := Aside0.mk (wrap_succ (j := j) (n := l.length) hj (by omega))
    have hbt := bt_strOf l hl j hj
    have hbit := hl _ (List.getElem_mem hj)
    rw [drop_cons _ _ hj] at hrun hsum ⊢
    have cx : x ≥ 0 := by
      by_cases c : x ≥ 0
      · exact c
      · rw [runF_neg g _ x (by omega)] at hrun; omega
    obtain ⟨y, rfl⟩ := Int.eq_ofNat_of_zero_le cx
    obtain ⟨a, b, e, ha, hb2, ha1, hb1⟩ := hg y (by omega)
    have el := len2 a b
    have hwd := Aside0.mk (show wrap64 ((wrap64 (((strOfNums l).size : Int) - 1)) - (j : Int)) = (d : Int) by rw [hs, wrap64_in (x := (l.length : Int) - 1) (by omega) (by omega), wrap64_in (by omega) (by omega)]; omega)
    have hgd := cntsTo_get g l.length d (by omega)
    have hc := cntIter_length g d
    have hdl : (l.drop (j + 1)).length = d := by rw [List.length_drop]; omega
    have hsel := selC_in g hg d (by omega) a ha
    have hrun' : runF g (l.drop (j + 1)) (rd (rd_L1 g y) (l[j] - 48)) ≥ 0 := by
      have : (if (y : Int) ≥ 0 then runF g (l.drop (j + 1)) (rd (rd_L1 g y) (l[j] - 48)) else y) ≥ 0 := hrun
      rwa [if_pos cx] at this
    have er : rankF g (l[j] :: l.drop (j + 1)) y = (if l[j] = 49 then selC (rd (rd_L1 g y) 0) (cntIter g (l.drop (j + 1)).length) else 0) + rankF g (l.drop (j + 1)) (rd (rd_L1 g y) (l[j] - 48)) := rfl
    rw [er, hdl, e, rd0] at hsum ⊢
    rw [e] at hrun'
    rcases hbit with h | h
    · have e0 : ((bt (strOfNums l) (j : Int)) - 48) % 256 = 0 := by omega
      have n49 : ¬ bt (strOfNums l) (j : Int) = 49 := by omega
      rw [h, if_neg (by decide), Int.zero_add, show (48 : Int) - 48 = 0 from rfl, rd0] at hsum ⊢
      rw [h, show (48 : Int) - 48 = 0 from rfl, rd0] at hrun'
      exact Ev.step (fun k => by rw [impl_RankOfBits.l0, if_pos (by omega), if_pos cx, if_pos (by omega), e, if_pos (by rw [el]; decide), if_pos (by omega), if_pos (by omega), if_neg n49, e0, if_pos (by decide), if_pos (by rw [el]; decide), rd0, hw.out]) (ih (j + 1) a acc (by omega) ha1 ha hrun' ha0 hsum)
    · have e0 : ((bt (strOfNums l) (j : Int)) - 48) % 256 = 1 := by omega
      have n49 : bt (strOfNums l) (j : Int) = 49 := by omega
      rw [h, if_pos rfl, show (49 : Int) - 48 = 1 from rfl, rd1] at hsum ⊢
      rw [h, show (49 : Int) - 48 = 1 from rfl, rd1] at hrun'
      rw [← Int.add_assoc] at hsum ⊢
      by_cases ca : a ≥ 0
      · have ea : selC a (cntIter g d) = rd (cntIter g d) a := if_pos ca
        rw [ea] at hsum hsel ⊢
        have hnn := rankF_nonneg g hv (l.drop (j + 1)) b (fun z hz => hl z (List.mem_of_mem_drop hz)) (by omega) hb1 hb2 hrun'
        have hwa := Aside0.mk (show wrap64 (acc + rd (cntIter g d) a) = acc + rd (cntIter g d) a from wrap64_in (by omega) (by omega))
        exact Ev.step (fun k => by rw [impl_RankOfBits.l0, if_pos (by omega), if_pos cx, if_pos (by omega), e, if_pos (by rw [el]; decide), if_pos (by omega), if_pos (by omega), if_pos n49, rd0, if_pos ca, hwd.out, if_pos (by omega), if_pos (by omega), if_pos ca, hgd, if_pos (by omega), e0, if_pos (by decide), if_pos (by rw [el]; decide), rd1, hw.out, hwa.out]) (ih (j + 1) b _ (by omega) hb1 hb2 hrun' (by omega) hsum)
      · have ea : selC a (cntIter g d) = 0 := if_neg ca
        rw [ea, Int.add_zero] at hsum ⊢
        exact Ev.step (fun k => by rw [impl_RankOfBits.l0, if_pos (by omega), if_pos cx, if_pos (by omega), e, if_pos (by rw [el]; decide), if_pos (by omega), if_pos (by omega), if_pos n49, rd0, if_neg ca, e0, if_pos (by decide), if_pos (by rw [el]; decide), rd1, hw.out]) (ih (j + 1) b acc (by omega) hb1 hb2 hrun' ha0 hsum)
theorem rankOf_f (l : List Int) (hl : bitsL l) (h60 : l.length ≤ 60) (y : Nat) (hy : y < g.length) (hrun : runF g l y ≥ 0) (hsum : rankF g l y ≤ 2305843009213693952) : Ev (fun k => impl_RankOfBits.f k g (y : Int) (strOfNums l)) (rankF g l y, true) := by
  have ha := allowed_f g hv l hl (by omega) y hy
  rw [decide_eq_true hrun] at ha
  have hs := size_strOf l
  have h2 := implCounts_ev g (rows2_of hv) (VG_iff hv).1.2 l.length (by omega)
  unfold impl_RankOfBits.f
  refine Ev.bind ha (ev_pos rfl ?_)
  rw [hs, decide_eq_false (by omega)]
  refine Ev.step (fun k => by rw [impl_RankOfBits.j0, if_neg Bool.false_ne_true, hs]) (Ev.bind h2 ?_)
  have := rank_loop g hv l hl h60 l.length 0 y 0 (by omega) (by omega) (by omega) hrun (by omega) (by rw [Int.zero_add]; exact hsum)
  rwa [Int.zero_add] at this
end
theorem r8Bits_list (l : List Int) (hl : l.length ≤ 9223372036854775807) (hb : ∀ x ∈ l, (Lit.int .u8 x).wf = true) (most : Int) (hm : 0 ≤ most ∧ most ≤ 199) :
    ∃ r, Ev (fun k => spec_R8Bits.f k l most) (strOfNums r) ∧ bitsL r ∧ (r.length : Int) ≤ most := by
  obtain ⟨v, at1, seed1, e1, v0, v1, a1, a2⟩ := pick_f l hl hb 0 0 (most + 1) (by decide) (by decide) (by omega)
  obtain ⟨n, rfl⟩ := Int.eq_ofNat_of_zero_le v0
  obtain ⟨r, hr, h1, h2⟩ := r8Bits_loop l hl hb n [] at1 seed1 (by intro x hx; cases hx) (by simp; omega) (by omega) (by omega)
  refine ⟨r, ?_, h1, by rw [h2]; simp; omega⟩
  unfold spec_R8Bits.f spec_l00From.f
  refine ev_some (ev_to (a := ((n : Int), at1, seed1)) ?_ hr)
  rw [wrap64_in (by omega) (by omega)]
  exact e1
section
variable (g : List (List Int)) (hv : VG g = true)
include hv
/-- The walk through drawn bits, and what the law says behind it. -/
theorem own_loop (l : List Int) (hl : bitsL l) (h4 : l.length ≤ 400) (y : Nat) (hy : y < g.length) (C : Int) (d : Nat) : ∀ (j : Nat) (x : Int), j + d = l.length → -1 ≤ x → x < g.length → runF g (l.drop j) x = runF g l y →
    Ev (fun k => laws_FnRankedBits.l2 k (y : Int) C C false (strOfNums l) x (j : Int) g) true := by
  have hg := rows2_of hv
  have hs := size_strOf l
  have hst := stateBehind_f g hv l hl h4 y hy
  have hal := allowed_f g hv l hl h4 y hy
  have hfin : ∀ x, x = runF g l y → Ev (fun k => (impl_StateBehind.f k g (y : Int) (strOfNums l)).bind fun bt388 => (if false = true then (some false) else (if C = C then (if (bt388.2 == (decide (x ≥ 0))) = true then (if bt388.2 = true then (if bt388.1 = x then ((impl_IsAllowed.f k g (y : Int) (strOfNums l)).bind fun t390 => (some (t390 == bt388.2))) else (some false)) else ((impl_IsAllowed.f k g (y : Int) (strOfNums l)).bind fun t391 => (some (t391 == bt388.2)))) else (some false)) else (some false)))) true := by
    intro x hx
    refine Ev.bind hst (ev_neg Bool.false_ne_true (ev_pos rfl ?_))
    rw [← hx] at hal ⊢
    by_cases c : x < 0
    · rw [if_pos c]
      rw [decide_eq_false (by omega)] at hal ⊢
      exact ev_pos rfl (ev_neg Bool.false_ne_true (Ev.bind hal (Ev.now _)))
    · rw [if_neg c]
      rw [decide_eq_true (by omega)] at hal ⊢
      exact ev_pos rfl (ev_pos rfl (ev_pos rfl (Ev.bind hal (Ev.now _))))
  induction d with
  | zero =>
    intro j x h1 h2 h3 h5
    rw [List.drop_eq_nil_of_le (by omega)] at h5
    exact Ev.step (fun k => by rw [laws_FnRankedBits.l2, if_neg (by omega)]) (hfin x h5)
  | succ d ih =>
    intro j x h1 h2 h3 h5
    have hj : j < l.length := by omega
    have hw := Aside0.mk (wrap_succ (j := j) (n := l.length) hj (by omega))
    have hbt := bt_strOf l hl j hj
    have hbit := hl _ (List.getElem_mem hj)
    by_cases cx : x ≥ 0
    · obtain ⟨z, rfl⟩ := Int.eq_ofNat_of_zero_le cx
      obtain ⟨a, b, e, ha, hb2, ha1, hb1⟩ := hg z (by omega)
      have el := len2 a b
      rw [drop_cons _ _ hj] at h5
      have h6 : runF g (l.drop (j + 1)) (rd (rd_L1 g z) (l[j] - 48)) = runF g l y := by
        have : (if (z : Int) ≥ 0 then runF g (l.drop (j + 1)) (rd (rd_L1 g z) (l[j] - 48)) else z) = runF g l y := h5
        rwa [if_pos cx] at this
      rw [e] at h6
      rcases hbit with h | h
      · have e0 : ((bt (strOfNums l) (j : Int)) - 48) % 256 = 0 := by omega
        rw [h, show (48 : Int) - 48 = 0 from rfl, rd0] at h6
        exact Ev.step (fun k => by rw [laws_FnRankedBits.l2, if_pos (by omega), if_pos cx, if_pos cx, if_pos (by omega), if_pos (by omega), e0, if_pos (by decide), e, if_pos (by rw [el]; decide), rd0, hw.out]) (ih (j + 1) a (by omega) ha1 ha h6)
      · have e0 : ((bt (strOfNums l) (j : Int)) - 48) % 256 = 1 := by omega
        rw [h, show (49 : Int) - 48 = 1 from rfl, rd1] at h6
        exact Ev.step (fun k => by rw [laws_FnRankedBits.l2, if_pos (by omega), if_pos cx, if_pos cx, if_pos (by omega), if_pos (by omega), e0, if_pos (by decide), e, if_pos (by rw [el]; decide), rd1, hw.out]) (ih (j + 1) b (by omega) hb1 hb2 h6)
    · rw [runF_neg g _ x (by omega)] at h5
      exact Ev.step (fun k => by rw [laws_FnRankedBits.l2, if_pos (by omega), if_neg cx]) (hfin x h5)
theorem ranks_loop (M : List Int) (hM : M.length ≤ 9223372036854775807) (hMb : ∀ x ∈ M, (Lit.int .u8 x).wf = true) (y : Nat) (hy : y < g.length) (q : Nat) (hq : q ≤ 9) (C : Int) (hC : C = rd (cntIter g (q + 1)) (y : Int)) (d : Nat) :
    ∀ (j : Nat) (last : ByteArray), j + d = 41 → (j : Int) ≤ C → (0 < j → last = strOfNums (bitsF g (q + 1) y ((j : Int) - 1))) →
      Ev (fun k => laws_FnRankedBits.l1 k M (y : Int) (q : Int) C C last (j : Int) g) true := by
  have hg := rows2_of hv
  have hcb := cnt_bound g hg (q + 1) (by omega) y hy
  have hp := pow_le_int (a := q + 1) (b := 60) (by omega)
  have e60 : (2 : Int) ^ 60 = 1152921504606846976 := by decide
  have hwq := Aside0.mk (show wrap64 ((q : Int) + 1) = ((q + 1 : Nat) : Int) by rw [wrap64_in (by omega) (by omega)]; omega)
  have hend : ∀ last j, Ev (fun k => laws_FnRankedBits.j3 k M (y : Int) (q : Int) C C last j false g) true := by
    intro last j
    have h1 := bitsAt_f g hv y (q + 1) hy (by omega) C (by omega)
    rw [if_neg (by omega)] at h1
    obtain ⟨r, h2, h3, h4⟩ := r8Bits_list M hM hMb 10 (by decide)
    refine Ev.step (fun k => by rw [laws_FnRankedBits.j3, if_neg Bool.false_ne_true, hwq.out]) (Ev.bind h1 (Ev.bind h2 ?_))
    exact own_loop g hv r h3 (by omega) y hy C r.length 0 y (by omega) (by omega) (by omega) rfl
  induction d with
  | zero =>
    intro j last h1 h2 h3
    have hf : decide ((j : Int) < 40) = false := decide_eq_false (by omega)
    by_cases c : (j : Int) < C
    · exact Ev.step (fun k => by rw [laws_FnRankedBits.l1, if_pos c, hf]) (hend last j)
    · exact Ev.step (fun k => by rw [laws_FnRankedBits.l1, if_neg c]) (hend last j)
  | succ d ih =>
    intro j last h1 h2 h3
    by_cases c : (j : Int) < C
    · by_cases c40 : (j : Int) < 40
      · have hbits := bitsAt_f g hv y (q + 1) hy (by omega) (j : Int) (by omega)
        rw [if_pos (by omega)] at hbits
        obtain ⟨r1, r2⟩ := bitsF_rank g hg (q + 1) y (j : Int) (by omega) hy (by omega) (by omega)
        have hlen := bitsF_length g (q + 1) y (j : Int)
        have hbl := bitsF_bits g (q + 1) y (j : Int)
        have hrank := rankOf_f g hv _ hbl (by omega) y hy r2 (by omega)
        rw [r1] at hrank
        have hal := allowed_f g hv _ hbl (by omega) y hy
        rw [decide_eq_true r2] at hal
        have hsz := size_strOf (bitsF g (q + 1) y (j : Int))
        have hw := Aside0.mk (wrap_succ (j := j) (n := 41) (by omega) (by omega))
        have next := ih (j + 1) (strOfNums (bitsF g (q + 1) y (j : Int))) (by omega) (by omega) (fun _ => by rw [show ((j + 1 : Nat) : Int) - 1 = (j : Int) by omega])
        refine Ev.step (fun k => by rw [laws_FnRankedBits.l1, if_pos c, decide_eq_true c40]) ?_
        refine Ev.step (fun k => by rw [laws_FnRankedBits.j3, if_pos rfl, hwq.out, hw.out]) ?_
        refine Ev.bind hbits (Ev.bind hrank ?_)
        refine ev_pos rfl (ev_pos rfl (ev_pos rfl (ev_pos (by show (((strOfNums (bitsF g (q + 1) y (j : Int))).size : Nat) : Int) = ((q + 1 : Nat) : Int); omega) ?_)))
        by_cases c0 : (j : Int) > 0
        · have hl := bitsF_less g hg (q + 1) y ((j : Int) - 1) (j : Int) (by omega) hy (by omega) (by omega) (by omega)
          have e1 : last.toList = u8s (bitsF g (q + 1) y ((j : Int) - 1)) := by rw [h3 (by omega), Go.ByteArray.toList_eq]; exact strOfNums_data _
          have e2 : (strOfNums (bitsF g (q + 1) y (j : Int))).toList = u8s (bitsF g (q + 1) y (j : Int)) := by rw [Go.ByteArray.toList_eq]; exact strOfNums_data _
          exact ev_pos c0 (ev_pos (by rw [e1]; show Op.bytesLess _ (strOfNums (bitsF g (q + 1) y (j : Int))).toList = true; rw [e2]; exact hl) (Ev.bind hal (ev_pos rfl next)))
        · exact ev_neg c0 (Ev.bind hal (ev_pos rfl next))
      · have hf : decide ((j : Int) < 40) = false := decide_eq_false c40
        exact Ev.step (fun k => by rw [laws_FnRankedBits.l1, if_pos c, hf]) (hend last j)
    · exact Ev.step (fun k => by rw [laws_FnRankedBits.l1, if_neg c]) (hend last j)
end
theorem FnRankedBits : laws_FnRankedBits.Pure := by
  intro L M hL hLb hM hMb
  apply Ev.rounds
  unfold laws_FnRankedBits.f
  have hlong : ∃ b, laws_r8Long.f L M = some b := by unfold laws_r8Long.f; split <;> exact ⟨_, rfl⟩
  obtain ⟨b, hb⟩ := hlong
  refine ev_to hb ?_
  cases b with
  | true => exact ev_pos rfl (Ev.now _)
  | false =>
  refine ev_neg Bool.false_ne_true ?_
  obtain ⟨g, h1, hv⟩ := r8Graph_ev L hL hLb
  have hg := rows2_of hv
  have h12 := (VG_iff hv).1
  obtain ⟨y', e1, y0, y1⟩ := r8At_f M hM hMb 0 (g.length : Int) (by decide)
  obtain ⟨y, rfl⟩ := Int.eq_ofNat_of_zero_le y0
  obtain ⟨q', e2, q0, q1⟩ := r8At_f M hM hMb 1 10 (by decide)
  obtain ⟨q, rfl⟩ := Int.eq_ofNat_of_zero_le q0
  have hy : y < g.length := by omega
  have hwq := Aside0.mk (show wrap64 ((q : Int) + 1) = ((q + 1 : Nat) : Int) by rw [wrap64_in (by omega) (by omega)]; omega)
  have hc := count_f g hv y (q + 1) hy (by omega)
  have hvg := implVG_ev g (rows_short g hv)
  rw [hv] at hvg
  obtain ⟨a, b, e, ha, hb2, _, _⟩ := hg y hy
  have hs := cnt_split g hg q (by omega) y hy e ha hb2
  have sa := selC_in g hg q (by omega) a ha
  have sb := selC_in g hg q (by omega) b hb2
  have el := len2 a b
  have hmain := ranks_loop g hv M hM hMb y hy q (by omega) (rd (cntIter g (q + 1)) (y : Int)) rfl 41 0 ⟨#[]⟩ (by omega) (by have := (cnt_bound g hg (q + 1) (by omega) y hy).1; omega) (fun h => absurd h (by omega))
  have s2 : ∀ s, s = rd (cntIter g (q + 1)) (y : Int) → Ev (fun k => laws_FnRankedBits.l0 k M (y : Int) (q : Int) (rd (cntIter g (q + 1)) (y : Int)) s 2 g) true := fun s hse => by
    rw [hse]
    exact Ev.step (fun k => by rw [laws_FnRankedBits.l0, if_neg (by decide)]; rfl) hmain
  have s1 : ∀ s, s = selC a (cntIter g q) → Ev (fun k => laws_FnRankedBits.l0 k M (y : Int) (q : Int) (rd (cntIter g (q + 1)) (y : Int)) s 1 g) true := fun s hse => by
    by_cases cb : b ≥ 0
    · have hbb : selC b (cntIter g q) = rd (cntIter g q) b := if_pos cb
      obtain ⟨z, rfl⟩ := Int.eq_ofNat_of_zero_le cb
      have hcb := count_f g hv z q (by omega) (by omega)
      have hw := Aside0.mk (show wrap64 (s + rd (cntIter g q) (z : Int)) = rd (cntIter g (q + 1)) (y : Int) by rw [wrap64_in (by omega) (by omega)]; omega)
      exact Ev.step (fun k => by rw [laws_FnRankedBits.l0, if_pos (by decide), if_pos (by omega), if_pos (by omega), if_pos (by decide), e, if_pos (by rw [el]; decide), rd1, if_pos cb]) (Ev.bind hcb (ev_pos rfl (by show Ev (fun k => laws_FnRankedBits.l0 k M (y : Int) (q : Int) (rd (cntIter g (q + 1)) (y : Int)) (wrap64 (s + rd (cntIter g q) (z : Int))) (wrap64 (1 + 1)) g) true; rw [hw.out, w11]; exact s2 _ rfl)))
    · have hbb : selC b (cntIter g q) = 0 := if_neg cb
      exact Ev.step (fun k => by rw [laws_FnRankedBits.l0, if_pos (by decide), if_pos (by omega), if_pos (by omega), if_pos (by decide), e, if_pos (by rw [el]; decide), rd1, if_neg cb, w11]) (s2 s (by omega))
  have s0 : Ev (fun k => laws_FnRankedBits.l0 k M (y : Int) (q : Int) (rd (cntIter g (q + 1)) (y : Int)) 0 0 g) true := by
    by_cases ca : a ≥ 0
    · have haa : selC a (cntIter g q) = rd (cntIter g q) a := if_pos ca
      obtain ⟨z, rfl⟩ := Int.eq_ofNat_of_zero_le ca
      have hca := count_f g hv z q (by omega) (by omega)
      have hw := Aside0.mk (show wrap64 (0 + rd (cntIter g q) (z : Int)) = rd (cntIter g q) (z : Int) by rw [Int.zero_add]; exact wrap64_in (by omega) (by omega))
      exact Ev.step (fun k => by rw [laws_FnRankedBits.l0, if_pos (by decide), if_pos (by omega), if_pos (by omega), if_pos (by decide), e, if_pos (by rw [el]; decide), rd0, if_pos ca]) (Ev.bind hca (ev_pos rfl (by show Ev (fun k => laws_FnRankedBits.l0 k M (y : Int) (q : Int) (rd (cntIter g (q + 1)) (y : Int)) (wrap64 (0 + rd (cntIter g q) (z : Int))) (wrap64 (0 + 1)) g) true; rw [hw.out, w01]; exact s1 _ haa.symm)))
    · have haa : selC a (cntIter g q) = 0 := if_neg ca
      exact Ev.step (fun k => by rw [laws_FnRankedBits.l0, if_pos (by decide), if_pos (by omega), if_pos (by omega), if_pos (by decide), e, if_pos (by rw [el]; decide), rd0, if_neg ca, w01]) (s1 0 haa.symm)
  refine Ev.bind h1 (ev_to e1 (ev_to e2 ?_))
  rw [hwq.out]
  refine Ev.bind hc (ev_pos rfl (Ev.bind hvg (Ev.step (fun k => by rw [laws_FnRankedBits.j0, if_neg (by decide)]) s0)))

end Go.Proofs.YtanndepgepgfoabDoor.Pure
