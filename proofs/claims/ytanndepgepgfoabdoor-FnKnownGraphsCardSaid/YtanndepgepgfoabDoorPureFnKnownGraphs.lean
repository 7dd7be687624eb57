/-
The law FnKnownGraphs answers true for every two lists of bytes; there are no conditions beside the row's own bounds.
-/
import Derived.Test.YtanndepgepgfoabDoorQFnKnownGraphsx3
namespace Go.Proofs.YtanndepgepgfoabDoor.Pure
open Go.RowKit Go.Proofs.YtanndepgepgfoabDoor.QFnKnownGraphs Go.Proofs.YtanndepgepgfoabDoorW.PrintWords Go.Proofs.YtanndepgepgfoabDoorW.PrintLast Go.Proofs.YtanndepgepgfoabDoorW.PrintMore
set_option linter.unusedVariables false

theorem ev_one {α : Type} {g : Nat → Option α} {r : α} (h : ∀ k, g (k + 1) = some r) : Ev g r :=
  ⟨1, fun k hk => by obtain ⟨m, rfl⟩ : ∃ m, k = m + 1 := ⟨k - 1, by omega⟩; exact h m⟩
theorem wrap64_in {x : Int} (h0 : -9223372036854775808 ≤ x) (h1 : x ≤ 9223372036854775807) : wrap64 x = x := by
  unfold wrap64; omega
theorem u64_in {x : Int} (h0 : 0 ≤ x) (h1 : x ≤ 18446744073709551615) : IntKind.u64.wrap x = x := by
  simp [IntKind.wrap, IntKind.bits, IntKind.signed]; omega
theorem i64_in {x : Int} (h0 : -9223372036854775808 ≤ x) (h1 : x ≤ 9223372036854775807) : IntKind.i64.wrap x = x := by
  rw [IntKind.wrap_i64]; omega
theorem and_one (x : Int) : Go.bits .and .i64 x 1 = x % 2 := by
  have h : (BitVec.ofInt 64 x &&& BitVec.ofInt 64 1).toNat = (x % 2).toNat := by
    have e1 : BitVec.ofInt 64 1 = 1#64 := by decide
    rw [e1, BitVec.toNat_and, BitVec.toNat_ofInt]
    have e2 : (1#64).toNat = 1 := by decide
    rw [e2, Nat.and_one_is_mod]
    omega
  show IntKind.i64.wrap (((BitVec.ofInt 64 x &&& BitVec.ofInt 64 1).toNat : Nat) : Int) = x % 2
  rw [h, i64_in (by omega) (by omega)]
  omega
theorem wf_i64 {x : Int} (h : (Lit.int .i64 x).wf = true) : -9223372036854775808 ≤ x ∧ x ≤ 9223372036854775807 := by
  simp [Lit.wf, IntKind.min, IntKind.max, IntKind.signed, IntKind.bits] at h
  omega
theorem pow_pos_int (d : Nat) : (0 : Int) < 2 ^ d := Int.pow_pos (by decide)
theorem pow_le_int {a b : Nat} (h : a ≤ b) : (2 : Int) ^ a ≤ 2 ^ b := by
  have := Nat.pow_le_pow_right (n := 2) (by decide) h
  exact_mod_cast this

theorem ev_pos {α : Type} {c : Prop} [Decidable c] {g h : Nat → Option α} {r : α} (hc : c) (hg : Ev g r) : Ev (fun k => if c then g k else h k) r := by
  obtain ⟨K, hK⟩ := hg
  exact ⟨K, fun k hk => (if_pos hc).trans (hK k hk)⟩
theorem ev_neg {α : Type} {c : Prop} [Decidable c] {g h : Nat → Option α} {r : α} (hc : ¬ c) (hg : Ev h r) : Ev (fun k => if c then g k else h k) r := by
  obtain ⟨K, hK⟩ := hg
  exact ⟨K, fun k hk => (if_neg hc).trans (hK k hk)⟩
theorem ev_some {α β : Type} {f : Nat → α → Option β} {a : α} {r : β} (h : Ev (fun k => f k a) r) : Ev (fun k => (some a).bind (f k)) r := h
theorem ev_to {α β : Type} {x : Option α} {f : Nat → α → Option β} {a : α} {r : β} (e : x = some a) (h : Ev (fun k => f k a) r) : Ev (fun k => x.bind (f k)) r := by subst e; exact h
theorem ev_det {α : Type} {g : Nat → Option α} {r r' : α} (h : Ev g r) (h' : Ev g r') : r = r' := by
  obtain ⟨K, hK⟩ := h
  obtain ⟨K', hK'⟩ := h'
  have h1 := hK (max K K') (Nat.le_max_left _ _)
  have h2 := hK' (max K K') (Nat.le_max_right _ _)
  rw [h1] at h2
  exact Option.some.inj h2
theorem wrap_succ {j n : Nat} (h : j < n) (hn : n ≤ 9223372036854775807) : wrap64 ((j : Int) + 1) = ((j + 1 : Nat) : Int) := by
  rw [wrap64_in (by omega) (by omega)]; omega
theorem nat0 (j : Nat) : (0 : Int) ≤ (j : Int) := Int.natCast_nonneg j
theorem rd_nat (l : List Int) (j : Nat) : rd l (j : Int) = l.getD j 0 := by unfold rd; rw [Int.toNat_natCast]
theorem rd_get (l : List Int) (j : Nat) (h : j < l.length) : rd l (j : Int) = l[j] := by rw [rd_nat, List.getD_eq_getElem?_getD, List.getElem?_eq_getElem h]; rfl
theorem drop_cons {α : Type} (l : List α) (j : Nat) (h : j < l.length) : l.drop j = l[j] :: l.drop (j + 1) := List.drop_eq_getElem_cons h
theorem take_snoc' {α : Type} (l : List α) (j : Nat) (h : j < l.length) : l.take (j + 1) = l.take j ++ [l[j]] := List.take_succ_eq_append_getElem h
theorem set_take {α : Type} (acc : List α) (j : Nat) (x : α) (h : j < acc.length) : (acc.set j x).take (j + 1) = acc.take j ++ [x] := by
  rw [List.take_set, List.take_succ_eq_append_getElem h, List.set_append_right _ _ (by simp; omega)]
  have : (acc.take j).length = j := by rw [List.length_take]; omega
  rw [this, Nat.sub_self]
  rfl
theorem take_all {α : Type} {a b : List α} {n : Nat} (ha : a.length = n) (hb : b.length = n) (h : a.take n = b.take n) : a = b := by
  rw [List.take_of_length_le (by omega), List.take_of_length_le (by omega)] at h; exact h
theorem w01 : wrap64 (0 + 1) = 1 := by unfold wrap64; decide
theorem w11 : wrap64 (1 + 1) = 2 := by unfold wrap64; decide

theorem impl_in (a b c : Int) : impl_within.f a b c = some (decide (b ≤ a ∧ a ≤ c)) := by
  unfold impl_within.f
  by_cases h : a ≥ b
  · rw [if_pos h]; congr 1; have : b ≤ a := h; simp [this]
  · rw [if_neg h]; congr 1; have : ¬ b ≤ a := h; simp [this]

theorem rdL_get (l : List (List Int)) (j : Nat) (h : j < l.length) : rd_L1 l (j : Int) = l[j] := by
  unfold rd_L1; rw [Int.toNat_natCast, List.getD_eq_getElem?_getD, List.getElem?_eq_getElem h]; rfl

/-- A row of a valid graph with n states. -/
def okRow (n : Int) (r : List Int) : Bool := decide (r.length = 2) && (decide (-1 ≤ rd r 0 ∧ rd r 0 ≤ n - 1) && (decide (-1 ≤ rd r 1 ∧ rd r 1 ≤ n - 1) && !(decide (rd r 0 < 0) && decide (rd r 1 < 0))))
def VG (g : List (List Int)) : Bool := decide (1 ≤ (g.length : Int) ∧ (g.length : Int) ≤ 12) && g.all (okRow g.length)
theorem row_two {r : List Int} (h : r.length = 2) : ∃ a b, r = [a, b] := by
  match r, h with
  | [a, b], _ => exact ⟨a, b, rfl⟩
theorem okRow_not {n : Int} {r : List Int} (h : ¬ r.length = 2) : okRow n r = false := by simp [okRow, h]
theorem okRow_two (n a b : Int) : okRow n [a, b] = (decide (-1 ≤ a ∧ a ≤ n - 1) && (decide (-1 ≤ b ∧ b ≤ n - 1) && !(decide (a < 0) && decide (b < 0)))) := rfl
theorem rd0 (a b : Int) : rd [a, b] 0 = a := rfl
theorem rd1 (a b : Int) : rd [a, b] 1 = b := rfl
theorem len2 (a b : Int) : (([a, b] : List Int).length : Int) = 2 := rfl
theorem VG_iff {g : List (List Int)} (h : VG g = true) : (1 ≤ g.length ∧ g.length ≤ 12) ∧ ∀ r ∈ g, ∃ a b, r = [a, b] ∧ (-1 ≤ a ∧ a ≤ (g.length : Int) - 1) ∧ (-1 ≤ b ∧ b ≤ (g.length : Int) - 1) ∧ ¬ (a < 0 ∧ b < 0) := by
  simp only [VG, Bool.and_eq_true, decide_eq_true_eq, List.all_eq_true] at h
  refine ⟨by omega, fun r hr => ?_⟩
  have h2 := h.2 r hr
  by_cases hl : r.length = 2
  · obtain ⟨a, b, rfl⟩ := row_two hl
    rw [okRow_two] at h2
    simp only [Bool.and_eq_true, decide_eq_true_eq, Bool.not_eq_true', Bool.and_eq_false_imp, decide_eq_false_iff_not] at h2
    exact ⟨a, b, rfl, h2.1, h2.2.1, fun h => h2.2.2 h.1 h.2⟩
  · rw [okRow_not hl] at h2; cases h2

theorem areIn_loop (l : List Int) (lo hi : Int) (hn : l.length ≤ 9223372036854775807) (d : Nat) : ∀ j : Nat, j + d = l.length →
    Ev (fun k => impl_areIn.l0 k lo hi l (l.length : Int) (j : Int)) ((l.drop j).all fun x => decide (lo ≤ x ∧ x ≤ hi)) := by
  induction d with
  | zero =>
    intro j h
    rw [List.drop_eq_nil_of_le (by omega)]
    exact ev_one (fun k => by rw [impl_areIn.l0, if_neg (by omega)]; rfl)
  | succ d ih =>
    intro j h
    have hj : j < l.length := by omega
    rw [drop_cons _ _ hj, List.all_cons]
    by_cases c : lo ≤ l[j] ∧ l[j] ≤ hi
    · rw [decide_eq_true c, Bool.true_and]
      refine Ev.step (fun k => ?_) (ih (j + 1) (by omega))
      rw [impl_areIn.l0, if_pos (by omega), if_pos (by omega), if_pos (by omega), rd_get _ _ hj, impl_in, decide_eq_true c, Option.bind_some, if_pos rfl, wrap_succ hj hn]
    · rw [decide_eq_false c, Bool.false_and]
      refine ev_one (fun k => ?_)
      rw [impl_areIn.l0, if_pos (by omega), if_pos (by omega), if_pos (by omega), rd_get _ _ hj, impl_in, decide_eq_false c, Option.bind_some, if_neg (by decide)]
theorem areIn_ev (l : List Int) (lo hi : Int) (hn : l.length ≤ 9223372036854775807) : Ev (fun k => impl_areIn.f k l lo hi) (l.all fun x => decide (lo ≤ x ∧ x ≤ hi)) :=
  areIn_loop l lo hi hn l.length 0 (by omega)

theorem implVG_loop (g : List (List Int)) (h12 : g.length ≤ 12) (hr : ∀ r ∈ g, r.length ≤ 9223372036854775807) (d : Nat) : ∀ j : Nat, j + d = g.length →
    Ev (fun k => impl_ValidGraph.l0 k (g.length : Int) g (g.length : Int) (j : Int)) ((g.drop j).all (okRow g.length)) := by
  have hw : wrap64 ((g.length : Int) - 1) = (g.length : Int) - 1 := wrap64_in (by omega) (by omega)
  induction d with
  | zero =>
    intro j h
    rw [List.drop_eq_nil_of_le (by omega)]
    exact ev_one (fun k => by rw [impl_ValidGraph.l0, if_neg (by omega)]; rfl)
  | succ d ih =>
    intro j h
    have hj : j < g.length := by omega
    have hs := wrap_succ hj (by omega)
    rw [drop_cons _ _ hj, List.all_cons]
    by_cases hl : (g[j]).length = 2
    · obtain ⟨a, b, e⟩ := row_two hl
      have hi := ih (j + 1) (by omega)
      rw [e, okRow_two]
      have ha := areIn_ev [a, b] (-1) ((g.length : Int) - 1) (show 2 ≤ 9223372036854775807 by decide)
      refine Ev.step (fun k => by rw [impl_ValidGraph.l0, if_pos (by omega), if_pos (by omega), if_pos (by omega), rdL_get _ _ hj, e, if_pos (len2 a b), hw, if_pos (show (0 : Int) < (([a, b] : List Int).length : Int) by rw [len2]; decide), if_pos (show (1 : Int) < (([a, b] : List Int).length : Int) by rw [len2]; decide), rd0, rd1, hs]) (Ev.bind ha ?_)
      by_cases ca : -1 ≤ a ∧ a ≤ (g.length : Int) - 1
      · by_cases cb : -1 ≤ b ∧ b ≤ (g.length : Int) - 1
        · rw [decide_eq_true ca, decide_eq_true cb, Bool.true_and, Bool.true_and]
          refine ev_pos (by simp [ca, cb]) ?_
          by_cases a0 : a < 0
          · refine ev_pos a0 ?_
            by_cases b0 : b < 0
            · refine ev_pos b0 ?_
              simpa [a0, b0] using Ev.now false
            · refine ev_neg b0 ?_
              simpa [a0, b0] using hi
          · refine ev_neg a0 ?_
            simpa [a0] using hi
        · rw [decide_eq_false cb, Bool.false_and, Bool.and_false, Bool.false_and]
          exact ev_neg (by simp [cb]) (Ev.now _)
      · rw [decide_eq_false ca, Bool.false_and, Bool.false_and]
        exact ev_neg (by simp [ca]) (Ev.now _)
    · rw [okRow_not hl, Bool.false_and]
      refine ev_one (fun k => ?_)
      rw [impl_ValidGraph.l0, if_pos (by omega), if_pos (by omega), if_pos (by omega), rdL_get _ _ hj, if_neg (by omega)]
theorem implVG_ev (g : List (List Int)) (hr : ∀ r ∈ g, r.length ≤ 9223372036854775807) : Ev (fun k => impl_ValidGraph.f k g) (VG g) := by
  by_cases c : 1 ≤ (g.length : Int) ∧ (g.length : Int) ≤ 12
  · have h := implVG_loop g (by omega) hr g.length 0 (by omega)
    unfold VG
    rw [decide_eq_true c, Bool.true_and]
    refine Ev.congr (fun k => ?_) h
    unfold impl_ValidGraph.f
    rw [impl_in, decide_eq_true c]
    rfl
  · refine Ev.congr (fun k => ?_) (Ev.now _)
    unfold impl_ValidGraph.f VG
    rw [impl_in, decide_eq_false c]
    rfl

/-- A valid graph's rows, as places in lists. -/
def Rows2 (g : List (List Int)) : Prop := ∀ j : Nat, j < g.length → ∃ a b, rd_L1 g (j : Int) = [a, b] ∧ a < (g.length : Int) ∧ b < (g.length : Int) ∧ -1 ≤ a ∧ -1 ≤ b
theorem rows2_of {g : List (List Int)} (h : VG g = true) : Rows2 g := by
  intro j hj
  obtain ⟨_, h2⟩ := VG_iff h
  obtain ⟨a, b, e, ha, hb, _⟩ := h2 g[j] (List.getElem_mem hj)
  exact ⟨a, b, by rw [rdL_get _ _ hj, e], by omega, by omega, ha.1, hb.1⟩

theorem implState_ev (g : List (List Int)) (hr : ∀ r ∈ g, r.length ≤ 9223372036854775807) (x : Int) : Ev (fun k => impl_isState.f k g x) (VG g && decide (0 ≤ x ∧ x ≤ wrap64 ((g.length : Int) - 1))) := by
  have hs := implVG_ev g hr
  unfold impl_isState.f
  cases e : VG g with
  | false => rw [e] at hs; exact Ev.bind hs (ev_neg Bool.false_ne_true (Ev.now _))
  | true => rw [e] at hs; exact Ev.bind hs (ev_pos rfl (ev_to (impl_in _ _ _) (Ev.now _)))
theorem state_in {g : List (List Int)} {x : Int} (h : (VG g && decide (0 ≤ x ∧ x ≤ wrap64 ((g.length : Int) - 1))) = true) : VG g = true ∧ g.length ≤ 12 ∧ ∃ j : Nat, x = (j : Int) ∧ j < g.length := by
  rw [Bool.and_eq_true, decide_eq_true_iff] at h
  obtain ⟨h1, h2, h3⟩ := h
  have h4 := (VG_iff h1).1
  rw [wrap64_in (by omega) (by omega)] at h3
  exact ⟨h1, h4.2, x.toNat, by omega, by omega⟩

def isBit (b : UInt8) : Bool := b.toNat == 48 || b.toNat == 49
def areB (l : List UInt8) : Bool := l.all isBit
theorem size_l (s : ByteArray) : s.size = s.data.toList.length := by rw [Array.length_toList]; rfl
theorem bt_l (s : ByteArray) (j : Nat) (h : j < s.data.toList.length) : bt s (j : Int) = ((s.data.toList[j].toNat : Nat) : Int) := by
  have h2 : ((j : Int)).toNat < s.size := by rw [Int.toNat_natCast, size_l]; exact h
  have h3 : j < s.data.size := by rw [Array.length_toList] at h; exact h
  have e : s[((j : Int)).toNat]'h2 = s.data[j] := rfl
  rw [← bt_at s j h2, e, Array.getElem_toList]
theorem cs_bit (b : UInt8) : ([48, 49] : List UInt8).contains b = isBit b := by
  have h1 : (b == 48) = (b.toNat == 48) := by rw [Bool.eq_iff_iff]; simp [← UInt8.toNat_inj]
  have h2 : (b == 49) = (b.toNat == 49) := by rw [Bool.eq_iff_iff]; simp [← UInt8.toNat_inj]
  unfold isBit
  rw [← h1, ← h2]
  show (match b == 48 with | true => true | false => (match b == 49 with | true => true | false => false)) = (b == 48 || b == 49)
  cases (b == 48) <;> cases (b == 49) <;> rfl
theorem drop_nil {p : UInt8 → Bool} (l : List UInt8) : l.dropWhile p = [] ↔ ∀ x ∈ l, p x = true := by
  induction l with
  | nil => simp
  | cons a t ih =>
    rw [List.dropWhile_cons]
    cases e : p a with
    | true => rw [if_pos rfl, ih]; simp [e]
    | false => rw [if_neg (by decide)]; simp [e]
theorem drop_all {p : UInt8 → Bool} (l : List UInt8) (h : (l.dropWhile p).all p = true) : l.all p = true := by
  induction l with
  | nil => rfl
  | cons a t ih =>
    rw [List.dropWhile_cons] at h
    cases e : p a with
    | true => rw [e, if_pos rfl] at h; rw [List.all_cons, e, ih h]; rfl
    | false => rw [e, if_neg (by decide)] at h; exact h
theorem trim_nil (l : List UInt8) : (Lib.trimS l [48, 49] == []) = areB l := by
  have e : (fun b => ([48, 49] : List UInt8).contains b) = isBit := funext cs_bit
  unfold Lib.trimS Lib.trimLeftS Lib.trimRightS areB
  rw [e]
  rw [Bool.eq_iff_iff, beq_iff_eq, drop_nil]
  constructor
  · intro h
    have h1 : (l.reverse.dropWhile isBit).all isBit = true := List.all_eq_true.2 (fun x hx => h x (List.mem_reverse.2 hx))
    have h2 := drop_all _ h1
    rw [List.all_reverse] at h2
    exact h2
  · intro h x hx
    have h3 := List.mem_reverse.1 hx
    have h4 : x ∈ l.reverse := (List.dropWhile_sublist _).subset h3
    exact List.all_eq_true.1 h x (List.mem_reverse.1 h4)

def IB (s : ByteArray) : Bool := areB s.data.toList && decide ((s.size : Int) ≤ 400)
theorem areBits_f (s : ByteArray) (hn : s.size ≤ 9223372036854775807) : impl_areBits.f s = some (areB s.data.toList) := by
  unfold impl_areBits.f strings_Trim.f
  rw [if_pos ⟨rfl, hn⟩, Option.bind_some]
  have e : (⟨(Lib.trimS s.data.toList [48, 49]).toArray⟩ : ByteArray).toList = Lib.trimS s.data.toList [48, 49] := by
    rw [Lib.toList_data]
  rw [e, ← trim_nil]

theorem isBits_f (s : ByteArray) (hn : s.size ≤ 9223372036854775807) : impl_IsBits.f s = some (IB s) := by
  unfold impl_IsBits.f IB
  by_cases c : (s.size : Int) ≤ 400
  · rw [if_pos c, areBits_f s hn, decide_eq_true c, Bool.and_true]; rfl
  · rw [if_neg c, decide_eq_false c, Bool.and_false]

theorem IB_of {s : ByteArray} (e : IB s = true) : s.size ≤ 400 ∧ areB s.data.toList = true := by
  unfold IB at e
  rw [Bool.and_eq_true, decide_eq_true_iff] at e
  exact ⟨by omega, e.1⟩
theorem implBehind_ev (g : List (List Int)) (hr : ∀ r ∈ g, r.length ≤ 9223372036854775807) (x : Int) (s : ByteArray) (hn : s.size ≤ 9223372036854775807) :
    (((VG g && decide (0 ≤ x ∧ x ≤ wrap64 ((g.length : Int) - 1))) && IB s) = false → Ev (fun k => impl_StateBehind.f k g x s) (0, false)) ∧
    (((VG g && decide (0 ≤ x ∧ x ≤ wrap64 ((g.length : Int) - 1))) && IB s) = true → ∀ r, Ev (fun k => impl_Graph_behind.f k g x s) r → Ev (fun k => impl_StateBehind.f k g x s) (if r < 0 then (0, false) else (r, true))) := by
  have hi := implState_ev g hr x
  have hb := isBits_f s hn
  have ino : Ev (fun k => impl_StateBehind.j0 k x s true g) (0, false) := ev_one (fun k => by rw [impl_StateBehind.j0, if_pos rfl])
  unfold impl_StateBehind.f
  cases e : (VG g && decide (0 ≤ x ∧ x ≤ wrap64 ((g.length : Int) - 1))) with
  | false =>
    rw [e] at hi
    rw [Bool.false_and]
    exact ⟨fun _ => Ev.bind hi (ev_neg Bool.false_ne_true ino), fun h => by cases h⟩
  | true =>
    rw [e] at hi
    rw [Bool.true_and]
    cases e2 : IB s with
    | false => rw [e2] at hb; exact ⟨fun _ => Ev.bind hi (ev_pos rfl (ev_to hb ino)), fun h => by cases h⟩
    | true =>
      rw [e2] at hb
      refine ⟨(fun h => by cases h), fun _ r hr => Ev.bind hi (ev_pos rfl (ev_to hb (Ev.step (fun k => by rw [impl_StateBehind.j0, if_neg (by decide)]) (Ev.bind hr ?_))))⟩
      by_cases c : r < 0
      · rw [show (if r < 0 then ((0 : Int), false) else (r, true)) = (0, false) from if_pos c]; exact ev_pos c (Ev.now _)
      · rw [show (if r < 0 then ((0 : Int), false) else (r, true)) = (r, true) from if_neg c]; exact ev_neg c (Ev.now _)

theorem wf_u8 {x : Int} (h : (Lit.int .u8 x).wf = true) : 0 ≤ x ∧ x ≤ 255 := by
  simp [Lit.wf, IntKind.min, IntKind.max, IntKind.signed, IntKind.bits] at h
  omega
theorem tmod_in {x n : Int} (h0 : 0 ≤ x) (hn : 0 < n) : 0 ≤ Int.tmod x n ∧ Int.tmod x n < n := by
  rw [Int.tmod_eq_emod_of_nonneg h0]
  exact ⟨Int.emod_nonneg _ (by omega), Int.emod_lt_of_pos _ hn⟩
theorem and_255 (x : Int) : 0 ≤ Go.bits .and .u64 x 255 ∧ Go.bits .and .u64 x 255 ≤ 255 := by
  show 0 ≤ IntKind.u64.wrap (((BitVec.ofInt 64 x &&& BitVec.ofInt 64 255).toNat : Nat) : Int) ∧ IntKind.u64.wrap (((BitVec.ofInt 64 x &&& BitVec.ofInt 64 255).toNat : Nat) : Int) ≤ 255
  have e1 : (BitVec.ofInt 64 255).toNat = 255 := by decide
  have h : (BitVec.ofInt 64 x &&& BitVec.ofInt 64 255).toNat ≤ 255 := by
    rw [BitVec.toNat_and, e1]
    exact Nat.and_le_right
  rw [u64_in (by omega) (by omega)]
  omega
theorem byte_of (l : List Int) (hb : ∀ x ∈ l, (Lit.int .u8 x).wf = true) (i : Int) (h0 : 0 ≤ i) (h1 : i < l.length) : 0 ≤ rd l i ∧ rd l i ≤ 255 := by
  obtain ⟨j, rfl⟩ := Int.eq_ofNat_of_zero_le h0
  rw [rd_get _ _ (by omega)]
  exact wf_u8 (hb _ (List.getElem_mem _))

theorem next_f (l : List Int) (hl : l.length ≤ 9223372036854775807) (hb : ∀ x ∈ l, (Lit.int .u8 x).wf = true) (at_ seed : Int) (h0 : 0 ≤ at_) (h1 : at_ ≤ 4611686018427387904) :
    ∃ v seed', spec_l00Src_next.f l at_ seed = some (v, at_ + 1, seed') ∧ 0 ≤ v ∧ v ≤ 255 := by
  unfold spec_l00Src_next.f
  rw [wrap64_in (x := at_ + 1) (by omega) (by omega)]
  by_cases c : at_ < (l.length : Int)
  · have hr := byte_of l hb at_ h0 c
    rw [if_pos c, if_pos h0, wrap64_in (x := rd l at_) (by omega) (by omega)]
    rw [if_pos (by omega)]
    exact ⟨_, _, rfl, hr⟩
  · rw [if_neg c]
    rw [if_neg (by omega)]
    refine ⟨_, _, rfl, ?_⟩
    have h := and_255 ((IntKind.u64.wrap ((IntKind.u64.wrap ((IntKind.u64.wrap (seed * 6364136223846793005)))) + 1442695040888963407)) / 1099511627776)
    rw [wrap64_in (by omega) (by omega)]
    exact h
theorem pick_f (l : List Int) (hl : l.length ≤ 9223372036854775807) (hb : ∀ x ∈ l, (Lit.int .u8 x).wf = true) (at_ seed n : Int) (h0 : 0 ≤ at_) (h1 : at_ ≤ 4611686018427387904) (hn : n ≤ 200) :
    ∃ v at' seed', spec_l00Src_pick.f l at_ seed n = some (v, at', seed') ∧ 0 ≤ v ∧ (v < n ∨ v = 0) ∧ at_ ≤ at' ∧ at' ≤ at_ + 1 := by
  unfold spec_l00Src_pick.f
  by_cases c : n ≤ 1
  · rw [if_pos c]; exact ⟨0, at_, seed, rfl, by omega, by omega, by omega, by omega⟩
  · rw [if_neg c]
    obtain ⟨v, seed', e, h2, h3⟩ := next_f l hl hb at_ seed h0 h1
    rw [e, Option.bind_some, if_neg (by omega), if_neg (by omega)]
    have := tmod_in h2 (show 0 < n by omega)
    exact ⟨_, _, _, rfl, this.1, .inl this.2, by show at_ ≤ at_ + 1; omega, by show at_ + 1 ≤ at_ + 1; omega⟩
theorem one_f (l : List Int) (hl : l.length ≤ 9223372036854775807) (hb : ∀ x ∈ l, (Lit.int .u8 x).wf = true) (at_ seed n : Int) (h0 : 0 ≤ at_) (h1 : at_ ≤ 4611686018427387904) (hn : n ≤ 200) :
    ∃ v at' seed', spec_l00Src_one.f l at_ seed n = some (v, at', seed') ∧ at_ ≤ at' ∧ at' ≤ at_ + 1 := by
  unfold spec_l00Src_one.f
  obtain ⟨v, at', seed', e, _, _, h3, h4⟩ := pick_f l hl hb at_ seed n h0 h1 hn
  rw [e, Option.bind_some]
  exact ⟨_, _, _, rfl, h3, h4⟩

theorem r8At_f (l : List Int) (hl : l.length ≤ 9223372036854775807) (hb : ∀ x ∈ l, (Lit.int .u8 x).wf = true) (i n : Int) (hi : 0 ≤ i) : ∃ v, laws_r8At.f l i n = some v ∧ 0 ≤ v ∧ (v < n ∨ v = 0) := by
  unfold laws_r8At.f
  by_cases c : n ≤ 1
  · rw [if_pos c]; exact ⟨0, rfl, by omega, by omega⟩
  · rw [if_neg c]
    by_cases c2 : i ≥ (l.length : Int)
    · rw [if_pos c2]; exact ⟨0, rfl, by omega, by omega⟩
    · rw [if_neg c2, if_pos hi, if_pos (by omega), if_neg (by omega)]
      have h := byte_of l hb i hi (by omega)
      rw [wrap64_in (x := rd l i) (by omega) (by omega)]
      have := tmod_in h.1 (show 0 < n by omega)
      exact ⟨_, rfl, this.1, .inl this.2⟩

/-- A list of 48 and 49 is a text of bits. -/
def bitsL (l : List Int) : Prop := ∀ x ∈ l, x = 48 ∨ x = 49
theorem areB_strOf (l : List Int) (h : bitsL l) : areB (strOfNums l).data.toList = true := by
  rw [strOfNums_data]
  unfold areB
  rw [List.all_eq_true]
  intro b hb
  obtain ⟨x, hx, rfl⟩ := List.mem_map.1 hb
  rcases h x hx with rfl | rfl <;> decide
theorem size_strOf (l : List Int) : (strOfNums l).size = l.length := by rw [size_l, strOfNums_data, List.length_map]
theorem r8Bits_loop (l : List Int) (hl : l.length ≤ 9223372036854775807) (hb : ∀ x ∈ l, (Lit.int .u8 x).wf = true) (d : Nat) : ∀ (acc : List Int) (at_ seed : Int), bitsL acc → acc.length + d ≤ 1000 → 0 ≤ at_ → at_ + 2 * d ≤ 4611686018427387904 →
    ∃ r, Ev (fun k => spec_R8Bits.l0 k acc (d : Int) l at_ seed) (strOfNums r) ∧ bitsL r ∧ r.length = acc.length + d := by
  induction d with
  | zero => intro acc at_ seed ha h1 h2 h3; exact ⟨acc, ev_one (fun k => by rw [spec_R8Bits.l0, if_neg (by omega)]), ha, rfl⟩
  | succ d ih =>
    intro acc at_ seed ha h1 h2 h3
    obtain ⟨v, at1, seed1, e1, v0, v1, a1, a2⟩ := pick_f l hl hb at_ seed 2 h2 (by omega) (by decide)
    have hw : wrap64 (((d + 1 : Nat) : Int) - 1) = (d : Int) := by rw [wrap64_in (by omega) (by omega)]; omega
    have hv : wrap64 (48 + v) = 48 + v := wrap64_in (by omega) (by omega)
    have hv2 : (48 + v) % 256 = 48 + v := by omega
    have snoc : ∀ y, (y = 48 ∨ y = 49) → bitsL (acc ++ [y]) := by
      intro y hy x hx
      rcases List.mem_append.1 hx with hx | hx
      · exact ha x hx
      · rw [List.mem_singleton.1 hx]; exact hy
    have len1 : ∀ y : Int, (acc ++ [y]).length = acc.length + 1 := by intro y; simp
    by_cases c : (acc.length : Int) > 0
    · obtain ⟨o, at2, seed2, e2, b1, b2⟩ := one_f l hl hb at1 seed1 2 (by omega) (by omega) (by decide)
      cases o with
      | true =>
        have hx : wrap64 ((acc.length : Int) - 1) = ((acc.length - 1 : Nat) : Int) := by rw [wrap64_in (by omega) (by omega)]; omega
        have hlast : rd acc ((acc.length - 1 : Nat) : Int) = 48 ∨ rd acc ((acc.length - 1 : Nat) : Int) = 49 := by
          rw [rd_get _ _ (by omega)]; exact ha _ (List.getElem_mem _)
        obtain ⟨r, hr, h4, h5⟩ := ih (acc ++ [rd acc ((acc.length - 1 : Nat) : Int)]) at2 seed2 (snoc _ hlast) (by rw [len1]; omega) (by omega) (by omega)
        exact ⟨r, Ev.step (fun k => by rw [spec_R8Bits.l0, if_pos (by omega), e1, Option.bind_some, if_pos c, e2, Option.bind_some, if_pos rfl, hx, if_pos (by omega), if_pos (by omega), if_pos (by omega), hw]) hr, h4, by rw [h5, len1]; omega⟩
      | false =>
        obtain ⟨r, hr, h4, h5⟩ := ih (acc ++ [48 + v]) at2 seed2 (snoc _ (by omega)) (by rw [len1]; omega) (by omega) (by omega)
        exact ⟨r, Ev.step (fun k => by rw [spec_R8Bits.l0, if_pos (by omega), e1, Option.bind_some, if_pos c, e2, Option.bind_some, if_neg Bool.false_ne_true, if_pos (by omega), hv, hv2, hw]) hr, h4, by rw [h5, len1]; omega⟩
    · obtain ⟨r, hr, h4, h5⟩ := ih (acc ++ [48 + v]) at1 seed1 (snoc _ (by omega)) (by rw [len1]; omega) (by omega) (by omega)
      exact ⟨r, Ev.step (fun k => by rw [spec_R8Bits.l0, if_pos (by omega), e1, Option.bind_some, if_neg c, if_pos (by omega), hv, hv2, hw]) hr, h4, by rw [h5, len1]; omega⟩
theorem r8Bits_ev (l : List Int) (hl : l.length ≤ 9223372036854775807) (hb : ∀ x ∈ l, (Lit.int .u8 x).wf = true) (most : Int) (hm : 0 ≤ most ∧ most ≤ 199) :
    ∃ s, Ev (fun k => spec_R8Bits.f k l most) s ∧ areB s.data.toList = true ∧ (s.size : Int) ≤ most := by
  obtain ⟨v, at1, seed1, e1, v0, v1, a1, a2⟩ := pick_f l hl hb 0 0 (most + 1) (by decide) (by decide) (by omega)
  obtain ⟨n, rfl⟩ := Int.eq_ofNat_of_zero_le v0
  obtain ⟨r, hr, h1, h2⟩ := r8Bits_loop l hl hb n [] at1 seed1 (by intro x hx; cases hx) (by simp; omega) (by omega) (by omega)
  refine ⟨_, ?_, areB_strOf r h1, by rw [size_strOf, h2]; simp; omega⟩
  unfold spec_R8Bits.f spec_l00From.f
  refine ev_some (ev_to (a := ((n : Int), at1, seed1)) ?_ hr)
  rw [wrap64_in (by omega) (by omega)]
  exact e1

def rgRow (least : Int) (m x : Nat) : List Int := [if x < m then (x : Int) + 1 else -1, if (x : Int) ≥ least then 0 else -1]
def rgTo (least : Int) (m n : Nat) : List (List Int) := (List.range n).map (rgRow least m)
theorem rgTo_length (least : Int) (m n : Nat) : (rgTo least m n).length = n := by simp [rgTo]
theorem rgTo_succ (least : Int) (m n : Nat) : rgTo least m (n + 1) = rgTo least m n ++ [rgRow least m n] := by simp [rgTo, List.range_succ]
theorem rgTo_get (least : Int) (m n j : Nat) (h : j < n) : rd_L1 (rgTo least m n) (j : Int) = rgRow least m j := by
  rw [rdL_get _ _ (by rw [rgTo_length]; exact h)]; simp [rgTo]
theorem rg_loop (least : Int) (m : Nat) (h0 : 0 ≤ least) (hm : m ≤ 10) (d : Nat) : ∀ j : Nat, j + d = m + 1 → Ev (fun k => impl_RunGraph.l0 k least (m : Int) ((m : Int) + 1) (j : Int) (rgTo least m j)) (rgTo least m (m + 1), true) := by
  induction d with
  | zero =>
    intro j h
    obtain rfl : j = m + 1 := by omega
    exact ev_one (fun k => by rw [impl_RunGraph.l0, if_neg (by omega)])
  | succ d ih =>
    intro j h
    have hw := wrap_succ (j := j) (n := m + 1) (by omega) (by omega)
    have hi := ih (j + 1) (by omega)
    rw [rgTo_succ] at hi
    have hl := rgTo_length least m j
    by_cases c1 : j < m
    · by_cases c2 : (j : Int) ≥ least
      · have e : rgRow least m j = [((j + 1 : Nat) : Int), 0] := by unfold rgRow; rw [if_pos c1, if_pos c2]; rfl
        rw [e] at hi
        exact Ev.step (fun k => by rw [impl_RunGraph.l0, if_pos (by omega), Option.bind_some, if_pos (by omega), if_pos (by decide), Option.bind_some, if_pos c2, if_pos (by decide), if_pos (by omega), hw]; rfl) hi
      · have e : rgRow least m j = [((j + 1 : Nat) : Int), -1] := by unfold rgRow; rw [if_pos c1, if_neg c2]; rfl
        rw [e] at hi
        exact Ev.step (fun k => by rw [impl_RunGraph.l0, if_pos (by omega), Option.bind_some, if_pos (by omega), if_pos (by decide), Option.bind_some, if_neg c2, if_pos (by omega), hw]; rfl) hi
    · by_cases c2 : (j : Int) ≥ least
      · have e : rgRow least m j = [-1, 0] := by unfold rgRow; rw [if_neg c1, if_pos c2]
        rw [e] at hi
        exact Ev.step (fun k => by rw [impl_RunGraph.l0, if_pos (by omega), Option.bind_some, if_neg (by omega), if_pos c2, if_pos (by decide), if_pos (by omega), hw]; rfl) hi
      · have e : rgRow least m j = [-1, -1] := by unfold rgRow; rw [if_neg c1, if_neg c2]
        rw [e] at hi
        exact Ev.step (fun k => by rw [impl_RunGraph.l0, if_pos (by omega), Option.bind_some, if_neg (by omega), if_neg c2, if_pos (by omega), hw]) hi
theorem runGraph_ev (least : Int) (m : Nat) (h0 : 0 ≤ least) (h1 : least ≤ m) (hm : m ≤ 10) : Ev (fun k => impl_RunGraph.f k least (m : Int)) (rgTo least m (m + 1), true) := by
  unfold impl_RunGraph.f
  refine ev_to (impl_in _ _ _) ?_
  rw [decide_eq_true (show 0 ≤ least ∧ least ≤ 10 by omega)]
  refine ev_pos rfl (ev_to (impl_in _ _ _) ?_)
  rw [decide_eq_true (show least ≤ (m : Int) ∧ (m : Int) ≤ 10 by omega)]
  refine Ev.step (fun k => by rw [impl_RunGraph.j0, if_neg (by decide)]) ?_
  rw [wrap64_in (by omega) (by omega)]
  exact rg_loop least m h0 hm (m + 1) 0 (by omega)
theorem runGraph_VG (least : Int) (m : Nat) (h0 : 0 ≤ least) (h1 : least ≤ m) (hm : m ≤ 10) : VG (rgTo least m (m + 1)) = true := by
  have hl := rgTo_length least m (m + 1)
  unfold VG
  rw [decide_eq_true (by omega), Bool.true_and, List.all_eq_true]
  intro r hr
  obtain ⟨x, hx, rfl⟩ := List.mem_map.1 hr
  rw [List.mem_range] at hx
  unfold rgRow
  rw [okRow_two, hl]
  by_cases c1 : x < m <;> by_cases c2 : (x : Int) ≥ least <;> simp [c1, c2] <;> omega
def sgRow (t x : Nat) : List Int := [(x : Int) - 1, if x = t then -1 else (x : Int) + 1]
def sgTo (t n : Nat) : List (List Int) := (List.range n).map (sgRow t)
theorem sgTo_length (t n : Nat) : (sgTo t n).length = n := by simp [sgTo]
theorem sgTo_succ (t n : Nat) : sgTo t (n + 1) = sgTo t n ++ [sgRow t n] := by simp [sgTo, List.range_succ]
theorem sgTo_get (t n j : Nat) (h : j < n) : rd_L1 (sgTo t n) (j : Int) = sgRow t j := by
  rw [rdL_get _ _ (by rw [sgTo_length]; exact h)]; simp [sgTo]
theorem sg_loop (t : Nat) (ht : t ≤ 11) (d : Nat) : ∀ j : Nat, j + d = t + 1 → Ev (fun k => impl_SumGraph.l0 k (t : Int) ((t : Int) + 1) (j : Int) (sgTo t j)) (sgTo t (t + 1), true) := by
  induction d with
  | zero =>
    intro j h
    obtain rfl : j = t + 1 := by omega
    exact ev_one (fun k => by rw [impl_SumGraph.l0, if_neg (by omega)])
  | succ d ih =>
    intro j h
    have hw := wrap_succ (j := j) (n := t + 1) (by omega) (by omega)
    have hw2 : wrap64 ((j : Int) - 1) = (j : Int) - 1 := wrap64_in (by omega) (by omega)
    have hi := ih (j + 1) (by omega)
    rw [sgTo_succ] at hi
    have hl := sgTo_length t j
    by_cases c : j = t
    · have e : sgRow t j = [(j : Int) - 1, -1] := by unfold sgRow; rw [if_pos c]
      rw [e] at hi
      exact Ev.step (fun k => by rw [impl_SumGraph.l0, if_pos (by omega), Option.bind_some, if_pos (by omega), if_pos (show (1 : Int) < (([wrap64 ((j : Int) - 1), wrap64 ((j : Int) + 1)] : List Int).length : Int) by rw [len2]; decide), if_pos (by omega), hw, hw2]; rfl) hi
    · have e : sgRow t j = [(j : Int) - 1, ((j + 1 : Nat) : Int)] := by unfold sgRow; rw [if_neg c]; rfl
      rw [e] at hi
      exact Ev.step (fun k => by rw [impl_SumGraph.l0, if_pos (by omega), Option.bind_some, if_neg (by omega), if_pos (by omega), hw, hw2]) hi
theorem sumGraph_ev (t : Nat) (h0 : 1 ≤ t) (ht : t ≤ 11) : Ev (fun k => impl_SumGraph.f k (t : Int)) (sgTo t (t + 1), true) := by
  unfold impl_SumGraph.f
  refine ev_to (impl_in _ _ _) ?_
  rw [decide_eq_true (show 1 ≤ (t : Int) ∧ (t : Int) ≤ 11 by omega)]
  refine ev_pos rfl ?_
  rw [wrap64_in (by omega) (by omega)]
  exact sg_loop t ht (t + 1) 0 (by omega)
theorem sumGraph_VG (t : Nat) (h0 : 1 ≤ t) (ht : t ≤ 11) : VG (sgTo t (t + 1)) = true := by
  have hl := sgTo_length t (t + 1)
  unfold VG
  rw [decide_eq_true (by omega), Bool.true_and, List.all_eq_true]
  intro r hr
  obtain ⟨x, hx, rfl⟩ := List.mem_map.1 hr
  rw [List.mem_range] at hx
  unfold sgRow
  rw [okRow_two, hl]
  by_cases c1 : x = t <;> simp [c1] <;> omega
theorem bit_at {s : ByteArray} (hb : areB s.data.toList = true) (j : Nat) (hj : j < s.size) : bt s (j : Int) = 48 ∨ bt s (j : Int) = 49 := by
  have hs := size_l s
  have hj' : j < s.data.toList.length := by omega
  have hbt := bt_l s j hj'
  have := List.all_eq_true.1 hb _ (List.getElem_mem hj')
  unfold isBit at this
  rw [Bool.or_eq_true, beq_iff_eq, beq_iff_eq] at this
  omega
/-- The first loop goes with the walk through the graph of runs. -/
theorem fine_loop (L : List Int) (least : Int) (m : Nat) (h0 : 0 ≤ least) (h1 : least ≤ m) (hm : m ≤ 10) (one : Bool) (s : ByteArray) (hs : s.size ≤ 1000) (hb : areB s.data.toList = true) (R : Nat → Bool → Option Bool)
    (hR : ∀ k f run, laws_FnKnownGraphs.l0 (k + 1) L least (m : Int) one s f run (s.size : Int) (rgTo least m (m + 1)) = R k f) (d : Nat) :
    ∀ (j : Nat) (f : Bool) (run x : Int), j + d = s.size → 0 ≤ run → run ≤ j → (f = true → x = run ∧ run ≤ m) → (f = false → x = -1) →
      ∃ f' r, Ev (fun k => impl_Graph_behind.l0 k x s (j : Int) (rgTo least m (m + 1))) r ∧ (f' = decide (r ≥ 0)) ∧ (∀ v, Ev (fun k => R k f') v → Ev (fun k => laws_FnKnownGraphs.l0 k L least (m : Int) one s f run (j : Int) (rgTo least m (m + 1))) v) := by
  have hg := rows2_of (runGraph_VG least m h0 h1 hm)
  have hlen := rgTo_length least m (m + 1)
  induction d with
  | zero =>
    intro j f run x hj hr0 hr1 hf hn
    obtain rfl : j = s.size := by omega
    refine ⟨f, x, ev_one (fun k => by rw [impl_Graph_behind.l0, if_neg (by omega)]), ?_, fun v hv => Ev.step (fun k => hR k f run) hv⟩
    cases f with
    | true => have := hf rfl; rw [decide_eq_true (by omega)]
    | false => have := hn rfl; rw [decide_eq_false (by omega)]
  | succ d ih =>
    intro j f run x hj hr0 hr1 hf hn
    have hw := wrap_succ (j := j) (n := s.size) (by omega) (by omega)
    have hw2 : wrap64 (run + 1) = run + 1 := wrap64_in (by omega) (by omega)
    have hbit := bit_at hb j (by omega)
    cases f with
    | false =>
      obtain rfl := hn rfl
      rcases hbit with e | e
      · obtain ⟨f', r, h2, h3, h4⟩ := ih (j + 1) false (run + 1) (-1) (by omega) (by omega) (by omega) (fun h => by cases h) (fun _ => rfl)
        refine ⟨f', -1, ev_one (fun k => by rw [impl_Graph_behind.l0, if_pos (by omega), if_neg (by omega)]), ?_, fun v hv => Ev.step (fun k => by rw [laws_FnKnownGraphs.l0, if_pos (by omega), if_pos (by omega), if_pos e, if_neg (by decide), hw, hw2]) (h4 v hv)⟩
        have : r = -1 := by
          have h5 : ∀ d' j', j' + d' = s.size → Ev (fun k => impl_Graph_behind.l0 k (-1) s (j' : Int) (rgTo least m (m + 1))) (-1) := by
            intro d' j' hjj
            by_cases c : j' < s.size
            · exact ev_one (fun k => by rw [impl_Graph_behind.l0, if_pos (by omega), if_neg (by omega)])
            · exact ev_one (fun k => by rw [impl_Graph_behind.l0, if_neg (by omega)])
          exact ev_det h2 (h5 d (j + 1) (by omega))
        rw [h3, this]
      · obtain ⟨f', r, h2, h3, h4⟩ := ih (j + 1) false 0 (-1) (by omega) (by omega) (by omega) (fun h => by cases h) (fun _ => rfl)
        refine ⟨f', -1, ev_one (fun k => by rw [impl_Graph_behind.l0, if_pos (by omega), if_neg (by omega)]), ?_, fun v hv => Ev.step (fun k => by rw [laws_FnKnownGraphs.l0, if_pos (by omega), if_pos (by omega), if_neg (by omega), if_neg (by decide), hw]) (h4 v hv)⟩
        have : r = -1 := by
          have h5 : ∀ d' j', j' + d' = s.size → Ev (fun k => impl_Graph_behind.l0 k (-1) s (j' : Int) (rgTo least m (m + 1))) (-1) := by
            intro d' j' hjj
            by_cases c : j' < s.size
            · exact ev_one (fun k => by rw [impl_Graph_behind.l0, if_pos (by omega), if_neg (by omega)])
            · exact ev_one (fun k => by rw [impl_Graph_behind.l0, if_neg (by omega)])
          exact ev_det h2 (h5 d (j + 1) (by omega))
        rw [h3, this]
    | true =>
      obtain ⟨rfl, hrm⟩ := hf rfl
      obtain ⟨y, rfl⟩ := Int.eq_ofNat_of_zero_le hr0
      have hrow := rgTo_get least m (m + 1) y (by omega)
      unfold rgRow at hrow
      rcases hbit with e | e
      · have e0 : ((bt s (j : Int)) - 48) % 256 = 0 := by omega
        obtain ⟨f', r, h2, h3, h4⟩ := ih (j + 1) (decide ((y : Int) + 1 ≤ m)) ((y : Int) + 1) (if y < m then (y : Int) + 1 else -1) (by omega) (by omega) (by omega)
          (fun h => by rw [decide_eq_true_iff] at h; rw [if_pos (by omega)]; omega) (fun h => by rw [decide_eq_false_iff_not] at h; rw [if_neg (by omega)])
        refine ⟨f', r, Ev.step (fun k => by rw [impl_Graph_behind.l0, if_pos (by omega), if_pos (by omega), if_pos (by omega), if_pos (by omega), if_pos (by omega), e0, if_pos (by decide), hrow, if_pos (by rw [len2]; decide), rd0, hw]) h2, h3, fun v hv => Ev.step (fun k => by rw [laws_FnKnownGraphs.l0, if_pos (by omega), if_pos (by omega), if_pos e, if_pos rfl, hw, hw2]) (h4 v hv)⟩
      · have e0 : ((bt s (j : Int)) - 48) % 256 = 1 := by omega
        obtain ⟨f', r, h2, h3, h4⟩ := ih (j + 1) (decide ((y : Int) ≥ least)) 0 (if (y : Int) ≥ least then 0 else -1) (by omega) (by omega) (by omega)
          (fun h => by rw [decide_eq_true_iff] at h; rw [if_pos h]; omega) (fun h => by rw [decide_eq_false_iff_not] at h; rw [if_neg h])
        refine ⟨f', r, Ev.step (fun k => by rw [impl_Graph_behind.l0, if_pos (by omega), if_pos (by omega), if_pos (by omega), if_pos (by omega), if_pos (by omega), e0, if_pos (by decide), hrow, if_pos (by rw [len2]; decide), rd1, hw]) h2, h3, fun v hv => Ev.step (fun k => by rw [laws_FnKnownGraphs.l0, if_pos (by omega), if_pos (by omega), if_neg (by omega), if_pos rfl, hw]) (h4 v hv)⟩
/-- The second loop goes with the walk through the graph of sums. -/
theorem sum_loop (x8 : Bool) (s : ByteArray) (hs : s.size ≤ 1000) (hb : areB s.data.toList = true) (x10 : Bool) (t : Nat) (h0 : 1 ≤ t) (ht : t ≤ 11) (x15 : Bool) (x16 : Int) (G : List (List Int)) (R : Nat → Bool → Option Bool)
    (hR : ∀ k f sum, laws_FnKnownGraphs.l1 (k + 1) x8 s x10 (t : Int) x15 x16 sum f (s.size : Int) G (sgTo t (t + 1)) = R k f) (d : Nat) :
    ∀ (j : Nat) (f : Bool) (sum x : Int), j + d = s.size → -1 - (j : Int) ≤ sum → sum ≤ 11 + j → (f = true → x = sum ∧ 0 ≤ sum ∧ sum ≤ t) → (f = false → x = -1) →
      ∃ f' r, Ev (fun k => impl_Graph_behind.l0 k x s (j : Int) (sgTo t (t + 1))) r ∧ (f' = decide (r ≥ 0)) ∧ (∀ v, Ev (fun k => R k f') v → Ev (fun k => laws_FnKnownGraphs.l1 k x8 s x10 (t : Int) x15 x16 sum f (j : Int) G (sgTo t (t + 1))) v) := by
  have hg := rows2_of (sumGraph_VG t h0 ht)
  have hlen := sgTo_length t (t + 1)
  have dead : ∀ j' : Nat, Ev (fun k => impl_Graph_behind.l0 k (-1) s (j' : Int) (sgTo t (t + 1))) (-1) := by
    intro j'
    by_cases c : j' < s.size
    · exact ev_one (fun k => by rw [impl_Graph_behind.l0, if_pos (by omega), if_neg (by omega)])
    · exact ev_one (fun k => by rw [impl_Graph_behind.l0, if_neg (by omega)])
  induction d with
  | zero =>
    intro j f sum x hj hr0 hr1 hf hn
    obtain rfl : j = s.size := by omega
    refine ⟨f, x, ev_one (fun k => by rw [impl_Graph_behind.l0, if_neg (by omega)]), ?_, fun v hv => Ev.step (fun k => hR k f sum) hv⟩
    cases f with
    | true => have := hf rfl; rw [decide_eq_true (by omega)]
    | false => have := hn rfl; rw [decide_eq_false (by omega)]
  | succ d ih =>
    intro j f sum x hj hr0 hr1 hf hn
    have hw := wrap_succ (j := j) (n := s.size) (by omega) (by omega)
    have hw2 : wrap64 (sum + 1) = sum + 1 := wrap64_in (by omega) (by omega)
    have hw3 : wrap64 (sum - 1) = sum - 1 := wrap64_in (by omega) (by omega)
    have hbit := bit_at hb j (by omega)
    cases f with
    | false =>
      obtain rfl := hn rfl
      rcases hbit with e | e
      · obtain ⟨f', r, h2, h3, h4⟩ := ih (j + 1) false (sum - 1) (-1) (by omega) (by omega) (by omega) (fun h => by cases h) (fun _ => rfl)
        exact ⟨f', -1, dead j, by rw [h3, ev_det h2 (dead (j + 1))], fun v hv => Ev.step (fun k => by rw [laws_FnKnownGraphs.l1, if_pos (by omega), if_pos (by omega), if_neg (by omega), if_neg (by decide), hw, hw3]) (h4 v hv)⟩
      · obtain ⟨f', r, h2, h3, h4⟩ := ih (j + 1) false (sum + 1) (-1) (by omega) (by omega) (by omega) (fun h => by cases h) (fun _ => rfl)
        exact ⟨f', -1, dead j, by rw [h3, ev_det h2 (dead (j + 1))], fun v hv => Ev.step (fun k => by rw [laws_FnKnownGraphs.l1, if_pos (by omega), if_pos (by omega), if_pos e, if_neg (by decide), hw, hw2]) (h4 v hv)⟩
    | true =>
      obtain ⟨rfl, hr2, hrm⟩ := hf rfl
      obtain ⟨y, rfl⟩ := Int.eq_ofNat_of_zero_le hr2
      have hrow := sgTo_get t (t + 1) y (by omega)
      unfold sgRow at hrow
      rcases hbit with e | e
      · have e0 : ((bt s (j : Int)) - 48) % 256 = 0 := by omega
        have hb2 : ∀ k, Ev (fun k => impl_Graph_behind.l0 k ((y : Int) - 1) s ((j + 1 : Nat) : Int) (sgTo t (t + 1))) k → Ev (fun k => impl_Graph_behind.l0 k (y : Int) s (j : Int) (sgTo t (t + 1))) k := fun r h2 =>
          Ev.step (fun k => by rw [impl_Graph_behind.l0, if_pos (by omega), if_pos (by omega), if_pos (by omega), if_pos (by omega), if_pos (by omega), e0, if_pos (by decide), hrow, if_pos (by rw [len2]; decide), rd0, hw]) h2
        by_cases c : (y : Int) - 1 ≥ 0
        · obtain ⟨f', r, h2, h3, h4⟩ := ih (j + 1) (decide ((y : Int) - 1 ≤ t)) ((y : Int) - 1) ((y : Int) - 1) (by omega) (by omega) (by omega) (fun h => by omega) (fun h => by rw [decide_eq_false_iff_not] at h; omega)
          exact ⟨f', r, hb2 r h2, h3, fun v hv => Ev.step (fun k => by rw [laws_FnKnownGraphs.l1, if_pos (by omega), if_pos (by omega), if_neg (by omega), if_pos rfl, hw3, if_pos c, hw]) (h4 v hv)⟩
        · obtain ⟨f', r, h2, h3, h4⟩ := ih (j + 1) false ((y : Int) - 1) ((y : Int) - 1) (by omega) (by omega) (by omega) (fun h => by cases h) (fun _ => by omega)
          exact ⟨f', r, hb2 r h2, h3, fun v hv => Ev.step (fun k => by rw [laws_FnKnownGraphs.l1, if_pos (by omega), if_pos (by omega), if_neg (by omega), if_pos rfl, hw3, if_neg c, hw]) (h4 v hv)⟩
      · have e0 : ((bt s (j : Int)) - 48) % 256 = 1 := by omega
        obtain ⟨f', r, h2, h3, h4⟩ := ih (j + 1) (decide ((y : Int) + 1 ≤ t)) ((y : Int) + 1) (if y = t then -1 else (y : Int) + 1) (by omega) (by omega) (by omega)
          (fun h => by rw [decide_eq_true_iff] at h; rw [if_neg (by omega)]; omega) (fun h => by rw [decide_eq_false_iff_not] at h; rw [if_pos (by omega)])
        exact ⟨f', r, Ev.step (fun k => by rw [impl_Graph_behind.l0, if_pos (by omega), if_pos (by omega), if_pos (by omega), if_pos (by omega), if_pos (by omega), e0, if_pos (by decide), hrow, if_pos (by rw [len2]; decide), rd1, hw]) h2, h3, fun v hv => Ev.step (fun k => by rw [laws_FnKnownGraphs.l1, if_pos (by omega), if_pos (by omega), if_pos e, if_pos rfl, hw2, if_pos (by omega), hw]) (h4 v hv)⟩
theorem allowed_of (g : List (List Int)) (hv : VG g = true) (x : Int) (hx : 0 ≤ x ∧ x < g.length) (s : ByteArray) (hn : s.size ≤ 400) (hb : areB s.data.toList = true) (r : Int) (h : Ev (fun k => impl_Graph_behind.f k g x s) r) :
    Ev (fun k => impl_IsAllowed.f k g x s) (decide (r ≥ 0)) := by
  have h12 := (VG_iff hv).1
  have hIB : IB s = true := by unfold IB; rw [hb, decide_eq_true (by omega)]; rfl
  have e : (VG g && decide (0 ≤ x ∧ x ≤ wrap64 ((g.length : Int) - 1))) = true := by
    rw [hv, wrap64_in (by omega) (by omega), decide_eq_true (by omega)]; rfl
  obtain ⟨_, i1⟩ := implBehind_ev g (fun r hr => by obtain ⟨a, b, rfl, _⟩ := (VG_iff hv).2 r hr; exact (by decide : 2 ≤ 9223372036854775807)) x s (by omega)
  unfold impl_IsAllowed.f
  refine Ev.bind (i1 (by rw [e, hIB]; rfl) r h) ?_
  by_cases c : r < 0
  · rw [if_pos c, decide_eq_false (by omega)]; exact Ev.now _
  · rw [if_neg c, decide_eq_true (by omega)]; exact Ev.now _
theorem FnKnownGraphs : laws_FnKnownGraphs.Pure := by
  intro L M hL hLb hM hMb
  apply Ev.rounds
  unfold laws_FnKnownGraphs.f
  have hlong : ∃ b, laws_r8Long.f L M = some b := by unfold laws_r8Long.f; split <;> exact ⟨_, rfl⟩
  obtain ⟨b, hb⟩ := hlong
  refine ev_to hb ?_
  cases b with
  | true => exact ev_pos rfl (Ev.now _)
  | false =>
  refine ev_neg Bool.false_ne_true ?_
  obtain ⟨least, e1, l0, l1⟩ := r8At_f L hL hLb 0 4 (by decide)
  obtain ⟨more, e2, m0, m1⟩ := r8At_f L hL hLb 1 5 (by decide)
  have hm : wrap64 (least + more) = ((least + more).toNat : Int) := by rw [wrap64_in (by omega) (by omega)]; omega
  obtain ⟨m, hmm⟩ : ∃ m, m = (least + more).toNat := ⟨_, rfl⟩
  rw [← hmm] at hm
  refine ev_to e1 (ev_to e2 ?_)
  rw [hm]
  obtain ⟨s, hs, sb, s12⟩ := r8Bits_ev M hM hMb 12 (by decide)
  refine Ev.bind (runGraph_ev least m l0 (by omega) (by omega)) (Ev.bind hs ?_)
  have hg1 := runGraph_VG least m l0 (by omega) (by omega)
  obtain ⟨f1, r1, b1, d1, c1⟩ := fine_loop L least m l0 (by omega) (by omega) true s (by omega) sb _ (fun k f run => by rw [laws_FnKnownGraphs.l0, if_neg (by omega)]) s.size 0 true 0 0 (by omega) (by omega) (by omega) (fun _ => by omega) (fun h => by cases h)
  refine c1 true ?_
  obtain ⟨t8, e3, t0, t1⟩ := r8At_f L hL hLb 2 8 (by decide)
  have ht : wrap64 (1 + t8) = ((1 + t8).toNat : Int) := by rw [wrap64_in (by omega) (by omega)]; omega
  obtain ⟨t, htt⟩ : ∃ t, t = (1 + t8).toNat := ⟨_, rfl⟩
  rw [← htt] at ht
  refine ev_to e3 ?_
  rw [ht]
  refine Ev.bind (sumGraph_ev t (by omega) (by omega)) ?_
  have hg2 := sumGraph_VG t (by omega) (by omega)
  obtain ⟨from_, e4, f0, f2⟩ := r8At_f L hL hLb 3 (wrap64 ((t : Int) + 1)) (by decide)
  rw [wrap64_in (x := (t : Int) + 1) (by omega) (by omega)] at f2
  refine ev_to e4 ?_
  obtain ⟨f3, r3, b3, d3, c3⟩ := sum_loop true s (by omega) sb f1 t (by omega) (by omega) true from_ (rgTo least m (m + 1)) _ (fun k f sum => by rw [laws_FnKnownGraphs.l1, if_neg (by omega)]) s.size 0 true from_ from_ (by omega) (by omega) (by omega) (fun _ => by omega) (fun h => by cases h)
  refine c3 true ?_
  have hl1 := rgTo_length least m (m + 1)
  have hl2 := sgTo_length t (t + 1)
  have a1 := allowed_of _ hg1 0 (by omega) s (by omega) sb r1 b1
  have a2 := allowed_of _ hg2 from_ (by omega) s (by omega) sb r3 b3
  rw [← d1] at a1
  rw [← d3] at a2
  have v1 := implVG_ev _ (fun r hr => by obtain ⟨a, b, rfl, _⟩ := (VG_iff hg1).2 r hr; exact (by decide : 2 ≤ 9223372036854775807))
  have v2 := implVG_ev _ (fun r hr => by obtain ⟨a, b, rfl, _⟩ := (VG_iff hg2).2 r hr; exact (by decide : 2 ≤ 9223372036854775807))
  rw [hg1] at v1
  rw [hg2] at v2
  exact ev_pos rfl (ev_pos rfl (Ev.bind a1 (ev_pos (by simp) (Ev.bind a2 (ev_pos (by simp) (Ev.bind v1 (ev_pos rfl (Ev.bind v2 (Ev.now _)))))))))

end Go.Proofs.YtanndepgepgfoabDoor.Pure
