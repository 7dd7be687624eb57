
/-
The plain law of FnBlocks: the data come back from their bits, the state is the sum behind each word, no sum and no run is outside of the told bounds; conditions: those of the statement.
-/
import Derived.Test.YtegeaoiclepkkabDoorQFnBlocksx15
namespace Go.Proofs.YtegeaoiclepkkabDoor.Pure
open Go.RowKit Go.Proofs.YtegeaoiclepkkabDoor.QFnBlocks Go.Proofs.YtegeaoiclepkkabDoorW.PrintWords Go.Proofs.YtegeaoiclepkkabDoorW.PrintLast Go.Proofs.YtegeaoiclepkkabDoorW.PrintMore
set_option linter.unusedVariables false
theorem ev_one {α : Type} {g : Nat → Option α} {r : α} (h : ∀ k,g (k + 1) = some r) : Ev g r :=
  ⟨1,fun k hk => by obtain ⟨m,rfl⟩ : ∃ m,k = m + 1 := ⟨k - 1,by omega⟩; exact h m⟩
theorem wrap64_in {x : Int} (h0 : -9223372036854775808 ≤ x) (h1 : x ≤ 9223372036854775807) : wrap64 x = x := by
  unfold wrap64; omega
theorem u64_in {x : Int} (h0 : 0 ≤ x) (h1 : x ≤ 18446744073709551615) : IntKind.u64.wrap x = x := by
  simp [IntKind.wrap,IntKind.bits,IntKind.signed]; omega
theorem i64_in {x : Int} (h0 : -9223372036854775808 ≤ x) (h1 : x ≤ 9223372036854775807) : IntKind.i64.wrap x = x := by
  rw [IntKind.wrap_i64]; omega
theorem and_one (x : Int) : Go.bits .and .i64 x 1 = x % 2 := by
  have h : (BitVec.ofInt 64 x &&& BitVec.ofInt 64 1).toNat = (x % 2).toNat := by
    have e1 : BitVec.ofInt 64 1 = 1#64 := by decide
    rw [e1,BitVec.toNat_and,BitVec.toNat_ofInt]
    have e2 : (1#64).toNat = 1 := by decide
    rw [e2,Nat.and_one_is_mod]
    omega
  show IntKind.i64.wrap (((BitVec.ofInt 64 x &&& BitVec.ofInt 64 1).toNat : Nat) : Int) = x % 2
  rw [h,i64_in (by omega) (by omega)]
  omega
theorem ev_pos {α : Type} {c : Prop} [Decidable c] {g h : Nat → Option α} {r : α} (hc : c) (hg : Ev g r) : Ev (fun k => if c then g k else h k) r := by
  obtain ⟨K,hK⟩ := hg
  exact ⟨K,fun k hk => (if_pos hc).trans (hK k hk)⟩
theorem ev_neg {α : Type} {c : Prop} [Decidable c] {g h : Nat → Option α} {r : α} (hc : ¬ c) (hg : Ev h r) : Ev (fun k => if c then g k else h k) r := by
  obtain ⟨K,hK⟩ := hg
  exact ⟨K,fun k hk => (if_neg hc).trans (hK k hk)⟩
theorem ev_some {α β : Type} {f : Nat → α → Option β} {a : α} {r : β} (h : Ev (fun k => f k a) r) : Ev (fun k => (some a).bind (f k)) r := h
theorem ev_to {α β : Type} {x : Option α} {f : Nat → α → Option β} {a : α} {r : β} (e : x = some a) (h : Ev (fun k => f k a) r) : Ev (fun k => x.bind (f k)) r := by subst e; exact h
theorem ev_det {α : Type} {g : Nat → Option α} {r r' : α} (h : Ev g r) (h' : Ev g r') : r = r' := by
  obtain ⟨K,hK⟩ := h
  obtain ⟨K',hK'⟩ := h'
  have h1 := hK (max K K') (Nat.le_max_left _ _)
  have h2 := hK' (max K K') (Nat.le_max_right _ _)
  rw [h1] at h2
  exact Option.some.inj h2
theorem wrap_succ {j n : Nat} (h : j < n) (hn : n ≤ 9223372036854775807) : wrap64 ((j : Int) + 1) = ((j + 1 : Nat) : Int) := by
  rw [wrap64_in (by omega) (by omega)]; omega
theorem nat0 (j : Nat) : (0 : Int) ≤ (j : Int) := Int.natCast_nonneg j
theorem rd_nat (l : List Int) (j : Nat) : rd l (j : Int) = l.getD j 0 := by unfold rd; rw [Int.toNat_natCast]
theorem rd_get (l : List Int) (j : Nat) (h : j < l.length) : rd l (j : Int) = l[j] := by rw [rd_nat,List.getD_eq_getElem?_getD,List.getElem?_eq_getElem h]; rfl
theorem drop_cons {α : Type} (l : List α) (j : Nat) (h : j < l.length) : l.drop j = l[j] :: l.drop (j + 1) := List.drop_eq_getElem_cons h
theorem take_snoc' {α : Type} (l : List α) (j : Nat) (h : j < l.length) : l.take (j + 1) = l.take j ++ [l[j]] := List.take_succ_eq_append_getElem h
theorem w01 : wrap64 (0 + 1) = 1 := by unfold wrap64; decide
theorem w11 : wrap64 (1 + 1) = 2 := by unfold wrap64; decide
theorem spec_in (a b c : Int) : spec_l00In.f a b c = some (decide (b ≤ a ∧ a ≤ c)) := by
  unfold spec_l00In.f
  by_cases h : a ≥ b
  · rw [if_pos h]; congr 1; have : b ≤ a := h; simp [this]
  · rw [if_neg h]; congr 1; have : ¬ b ≤ a := h; simp [this]
theorem impl_in (a b c : Int) : impl_within.f a b c = some (decide (b ≤ a ∧ a ≤ c)) := by
  unfold impl_within.f
  by_cases h : a ≥ b
  · rw [if_pos h]; congr 1; have : b ≤ a := h; simp [this]
  · rw [if_neg h]; congr 1; have : ¬ b ≤ a := h; simp [this]
def isBit (b : UInt8) : Bool := b.toNat == 48 || b.toNat == 49
def areB (l : List UInt8) : Bool := l.all isBit
theorem size_l (s : ByteArray) : s.size = s.data.toList.length := by rw [Array.length_toList]; rfl
theorem bt_l (s : ByteArray) (j : Nat) (h : j < s.data.toList.length) : bt s (j : Int) = ((s.data.toList[j].toNat : Nat) : Int) := by
  have h2 : ((j : Int)).toNat < s.size := by rw [Int.toNat_natCast,size_l]; exact h
  have h3 : j < s.data.size := by rw [Array.length_toList] at h; exact h
  have e : s[((j : Int)).toNat]'h2 = s.data[j] := rfl
  rw [← bt_at s j h2,e,Array.getElem_toList]
theorem cs_bit (b : UInt8) : ([48,49] : List UInt8).contains b = isBit b := by
  have h1 : (b == 48) = (b.toNat == 48) := by rw [Bool.eq_iff_iff]; simp [← UInt8.toNat_inj]
  have h2 : (b == 49) = (b.toNat == 49) := by rw [Bool.eq_iff_iff]; simp [← UInt8.toNat_inj]
  unfold isBit
  rw [← h1,← h2]
  show (match b == 48 with | true => true | false => (match b == 49 with | true => true | false => false)) = (b == 48 || b == 49)
  cases (b == 48) <;> cases (b == 49) <;> rfl
theorem drop_nil {p : UInt8 → Bool} (l : List UInt8) : l.dropWhile p = [] ↔ ∀ x ∈ l,p x = true := by
  induction l with
  | nil => simp
  | cons a t ih =>
    rw [List.dropWhile_cons]
    cases e : p a with
    | true => rw [if_pos rfl,ih]; simp [e]
    | false => rw [if_neg (by decide)]; simp [e]
theorem drop_all {p : UInt8 → Bool} (l : List UInt8) (h : (l.dropWhile p).all p = true) : l.all p = true := by
  induction l with
  | nil => rfl
  | cons a t ih =>
    rw [List.dropWhile_cons] at h
    cases e : p a with
    | true => rw [e,if_pos rfl] at h; rw [List.all_cons,e,ih h]; rfl
    | false => rw [e,if_neg (by decide)] at h; exact h
theorem trim_nil (l : List UInt8) : (Lib.trimS l [48,49] == []) = areB l := by
  have e : (fun b => ([48,49] : List UInt8).contains b) = isBit := funext cs_bit
  unfold Lib.trimS Lib.trimLeftS Lib.trimRightS areB
  rw [e]
  rw [Bool.eq_iff_iff,beq_iff_eq,drop_nil]
  constructor
  · intro h
    have h1 : (l.reverse.dropWhile isBit).all isBit = true := List.all_eq_true.2 (fun x hx => h x (List.mem_reverse.2 hx))
    have h2 := drop_all _ h1
    rw [List.all_reverse] at h2
    exact h2
  · intro h x hx
    have h3 := List.mem_reverse.1 hx
    have h4 : x ∈ l.reverse := (List.dropWhile_sublist _).subset h3
    exact List.all_eq_true.1 h x (List.mem_reverse.1 h4)
theorem specBits_loop (s : ByteArray) (hn : s.size ≤ 9223372036854775807) (d : Nat) : ∀ j : Nat,j + d = s.data.toList.length → Ev (fun k => spec_l01Bits.l0 k s (j : Int)) (areB (s.data.toList.drop j) && decide ((s.size : Int) ≤ 400)) := by
  have hs := size_l s
  induction d with
  | zero =>
    intro j h
    rw [List.drop_eq_nil_of_le (by omega)]
    exact ev_one (fun k => by rw [spec_l01Bits.l0,if_neg (by omega)]; rfl)
  | succ d ih =>
    intro j h
    have hj : j < s.data.toList.length := by omega
    have hb := bt_l s j hj
    have hw := wrap_succ hj (by omega)
    rw [drop_cons _ _ hj]
    unfold areB
    rw [List.all_cons]
    by_cases c1 : bt s (j : Int) = 48
    · have e : isBit s.data.toList[j] = true := by unfold isBit; have : s.data.toList[j].toNat = 48 := by omega
                                                   rw [this]; rfl
      rw [e,Bool.true_and]
      exact Ev.step (fun k => by rw [spec_l01Bits.l0,if_pos (by omega),if_pos (by omega),if_pos c1,hw]) (ih (j + 1) (by omega))
    · by_cases c2 : bt s (j : Int) = 49
      · have e : isBit s.data.toList[j] = true := by unfold isBit; have : s.data.toList[j].toNat = 49 := by omega
                                                     rw [this]; rfl
        rw [e,Bool.true_and]
        exact Ev.step (fun k => by rw [spec_l01Bits.l0,if_pos (by omega),if_pos (by omega),if_neg c1,if_pos c2,hw]) (ih (j + 1) (by omega))
      · have e : isBit s.data.toList[j] = false := by
          unfold isBit
          obtain ⟨n,hn⟩ : ∃ n,n = s.data.toList[j].toNat := ⟨_,rfl⟩
          rw [← hn] at hb ⊢
          have h1 : (n == 48) = false := beq_eq_false_iff_ne.2 (by omega)
          have h2 : (n == 49) = false := beq_eq_false_iff_ne.2 (by omega)
          rw [h1,h2]; rfl
        rw [e,Bool.false_and,Bool.false_and]
        exact ev_one (fun k => by rw [spec_l01Bits.l0,if_pos (by omega),if_pos (by omega),if_neg c1,if_neg c2])
def IB (s : ByteArray) : Bool := areB s.data.toList && decide ((s.size : Int) ≤ 400)
theorem specBits_ev (s : ByteArray) (hn : s.size ≤ 9223372036854775807) : Ev (fun k => spec_l01Bits.f k s) (IB s) := specBits_loop s hn s.data.toList.length 0 (by omega)
theorem areBits_f (s : ByteArray) (hn : s.size ≤ 9223372036854775807) : impl_areBits.f s = some (areB s.data.toList) := by
  unfold impl_areBits.f strings_Trim.f
  rw [if_pos ⟨rfl,hn⟩,Option.bind_some]
  have e : (⟨(Lib.trimS s.data.toList [48,49]).toArray⟩ : ByteArray).toList = Lib.trimS s.data.toList [48,49] := by
    rw [Lib.toList_data]
  rw [e,← trim_nil]
theorem isBits_f (s : ByteArray) (hn : s.size ≤ 9223372036854775807) : impl_IsBits.f s = some (IB s) := by
  unfold impl_IsBits.f IB
  by_cases c : (s.size : Int) ≤ 400
  · rw [if_pos c,areBits_f s hn,decide_eq_true c,Bool.and_true]; rfl
  · rw [if_neg c,decide_eq_false c,Bool.and_false]
theorem ones_loop (s : ByteArray) (hn : s.size ≤ 1000) (hb : areB s.data.toList = true) (d : Nat) : ∀ (j : Nat) (acc : Int),j + d = s.size → 0 ≤ acc → acc ≤ j →
    Ev (fun k => spec_l01Ones.l0 k s acc (j : Int)) (acc + Lib.countByte (s.data.toList.drop j) 49) := by
  have hs := size_l s
  induction d with
  | zero =>
    intro j acc h _ _
    rw [List.drop_eq_nil_of_le (by omega)]
    exact ev_one (fun k => by rw [spec_l01Ones.l0,if_neg (by omega)]; simp [Lib.countByte])
  | succ d ih =>
    intro j acc h h0 h1
    have hj : j < s.data.toList.length := by omega
    have hw := wrap_succ (j := j) (n := s.size) (by omega) (by omega)
    have hbt := bt_l s j hj
    have hbit : s.data.toList[j].toNat = 48 ∨ s.data.toList[j].toNat = 49 := by
      have := List.all_eq_true.1 hb _ (List.getElem_mem hj)
      unfold isBit at this
      rw [Bool.or_eq_true,beq_iff_eq,beq_iff_eq] at this
      exact this
    rw [drop_cons _ _ hj]
    rcases hbit with hbit | hbit
    · have e0 : ((bt s (j : Int)) - 48) % 256 = 0 := by omega
      have ew : wrap64 (acc + 0) = acc := by rw [Int.add_zero,wrap64_in (by omega) (by omega)]
      have ne : (s.data.toList[j] == 49) = false := by
        rw [beq_eq_false_iff_ne]
        intro hh
        rw [hh] at hbit
        exact absurd hbit (by decide)
      have ec : Lib.countByte (s.data.toList[j] :: s.data.toList.drop (j + 1)) 49 = Lib.countByte (s.data.toList.drop (j + 1)) 49 := by unfold Lib.countByte; rw [List.count_cons,ne]; rfl
      rw [ec]
      exact Ev.step (fun k => by rw [spec_l01Ones.l0,if_pos (by omega),if_pos (by omega),e0,ew,hw]) (ih (j + 1) acc (by omega) h0 (by omega))
    · have e0 : ((bt s (j : Int)) - 48) % 256 = 1 := by omega
      have ew : wrap64 (acc + 1) = acc + 1 := wrap64_in (by omega) (by omega)
      have ne : s.data.toList[j] = 49 := by rw [← UInt8.toNat_inj]; exact hbit
      have ec : ((Lib.countByte (s.data.toList[j] :: s.data.toList.drop (j + 1)) 49 : Nat) : Int) = 1 + ((Lib.countByte (s.data.toList.drop (j + 1)) 49 : Nat) : Int) := by unfold Lib.countByte; rw [List.count_cons,ne]; simp; omega
      have := ih (j + 1) (acc + 1) (by omega) (by omega) (by omega)
      rw [ec,← Int.add_assoc]
      exact Ev.step (fun k => by rw [spec_l01Ones.l0,if_pos (by omega),if_pos (by omega),e0,ew,hw]) this
theorem rdS_get (l : List ByteArray) (j : Nat) (h : j < l.length) : rdOf ByteArray.empty l (j : Int) = l[j] := by
  unfold rdOf; rw [Int.toNat_natCast,List.getD_eq_getElem?_getD,List.getElem?_eq_getElem h]; rfl
theorem idx_both (L : List ByteArray) (s : ByteArray) (hn : L.length ≤ 1048576) (d : Nat) : ∀ j : Nat,j + d = L.length → ∃ r,Ev (fun k => spec_l03Index.l0 k L s (j : Int)) r ∧ Ev (fun k => slices_Index_string_string.l0 k L s (L.length : Int) (j : Int)) r ∧ (r ≥ 0 ↔ s.toList ∈ (L.drop j).map ByteArray.toList) ∧ (r < 0 → r = -1) ∧ (0 ≤ r → ∃ i : Nat,r = i ∧ j ≤ i ∧ ∃ h : i < L.length,L[i].toList = s.toList) := by
  induction d with
  | zero =>
    intro j h
    refine ⟨-1,ev_one (fun k => by rw [spec_l03Index.l0,if_neg (by omega)]),ev_one (fun k => by rw [slices_Index_string_string.l0,if_neg (by omega)]),?_,fun _ => rfl,fun h => by omega⟩
    rw [List.drop_eq_nil_of_le (by omega)]; simp
  | succ d ih =>
    intro j h
    have hj : j < L.length := by omega
    have hw := wrap_succ hj (by omega)
    rw [drop_cons _ _ hj,List.map_cons,List.mem_cons]
    by_cases c : L[j].toList = s.toList
    · exact ⟨(j : Int),ev_one (fun k => by rw [spec_l03Index.l0,if_pos (by omega),if_pos (by omega),rdS_get _ _ hj,if_pos c]),ev_one (fun k => by rw [slices_Index_string_string.l0,if_pos (by omega),if_pos (by omega),if_pos (by omega),rdS_get _ _ hj,if_pos c.symm]),⟨fun _ => .inl c.symm,fun _ => by omega⟩,fun h => by omega,fun _ => ⟨j,rfl,Nat.le_refl _,hj,c⟩⟩
    · obtain ⟨r,r1,r2,r3,r4,r5⟩ := ih (j + 1) (by omega)
      exact ⟨r,Ev.step (fun k => by rw [spec_l03Index.l0,if_pos (by omega),if_pos (by omega),rdS_get _ _ hj,if_neg c,hw]) r1,Ev.step (fun k => by rw [slices_Index_string_string.l0,if_pos (by omega),if_pos (by omega),if_pos (by omega),rdS_get _ _ hj,if_neg (fun e => c e.symm),hw]) r2,r3.trans ⟨.inr,fun h => h.resolve_left (fun e => c e.symm)⟩,r4,fun h0 => by
        obtain ⟨i,e1,e2,e3⟩ := r5 h0
        exact ⟨i,e1,by omega,e3⟩⟩
def dsp (s : ByteArray) : Int := wrap64 ((wrap64 (2 * ((Lib.countByte s.data.toList 49 : Nat) : Int))) - (s.size : Int))
theorem disp_f (s : ByteArray) : impl_disparity.f s = some (dsp s) := by
  unfold impl_disparity.f strings_Count.f
  rw [if_pos rfl]
  rfl
theorem ones_any (s : ByteArray) (hn : s.size ≤ 1048576) (d : Nat) : ∀ (j : Nat) (acc : Int),j + d = s.size → ∃ v,Ev (fun k => spec_l01Ones.l0 k s acc (j : Int)) v := by
  induction d with
  | zero => intro j acc h; exact ⟨acc,ev_one (fun k => by rw [spec_l01Ones.l0,if_neg (by omega)])⟩
  | succ d ih =>
    intro j acc h
    have hw := wrap_succ (j := j) (n := s.size) (by omega) (by omega)
    obtain ⟨v,hv⟩ := ih (j + 1) (wrap64 (acc + (((bt s (j : Int)) - 48) % 256))) (by omega)
    exact ⟨v,Ev.step (fun k => by rw [spec_l01Ones.l0,if_pos (by omega),if_pos (by omega),hw]) hv⟩
theorem IB_parts {s : ByteArray} (h : IB s = true) : areB s.data.toList = true ∧ s.size ≤ 400 := by
  unfold IB at h
  rw [Bool.and_eq_true,decide_eq_true_iff] at h
  exact ⟨h.1,by omega⟩
theorem specDisp_any (s : ByteArray) (hn : s.size ≤ 1048576) : ∃ v,Ev (fun k => spec_l03Disparity.f k s) v ∧ (IB s = true → v = dsp s) := by
  cases e : IB s with
  | false =>
    obtain ⟨v,hv⟩ := ones_any s hn s.size 0 0 (by omega)
    refine ⟨wrap64 ((wrap64 (2 * v)) - (s.size : Int)),?_,fun h => by cases h⟩
    unfold spec_l03Disparity.f
    exact Ev.bind (f := fun k t => some (wrap64 ((wrap64 (2 * t)) - (s.size : Int)))) (show Ev (fun k => spec_l01Ones.f k s) v from hv) (Ev.now _)
  | true =>
    obtain ⟨e1,e2⟩ := IB_parts e
    have h := ones_loop s (by omega) e1 s.size 0 0 (by omega) (by omega) (by omega)
    rw [Int.zero_add,List.drop_zero] at h
    refine ⟨dsp s,?_,fun _ => rfl⟩
    unfold spec_l03Disparity.f
    exact Ev.bind (f := fun k t => some (wrap64 ((wrap64 (2 * t)) - (s.size : Int)))) h (Ev.now _)
def WOK (L : List ByteArray) (c1 o : Int) (i : Nat) (h : i < L.length) : Prop := areB L[i].data.toList = true ∧ (L[i].size : Int) = c1 ∧ (dsp L[i] = 0 ∨ dsp L[i] = o) ∧ ∀ (i' : Nat) (h' : i' < i),L[i'].toList ≠ L[i].toList
theorem words_both (L : List ByteArray) (c1 o : Int) (hc : c1 ≤ 400) (hn : L.length ≤ 1000) (hs : ∀ s ∈ L,s.size ≤ 1048576) (d : Nat) : ∀ (j : Nat) (seen : List (List UInt8)),j + d = L.length → seen.length ≤ j → (∀ y,y ∈ seen ↔ y ∈ (L.take j).map ByteArray.toList) →
    ∃ r,Ev (fun k => spec_l03Words.l0 k L c1 o (j : Int)) r ∧ Ev (fun k => impl_BlockCode_areWords.l0 k c1 L o seen (j : Int)) r ∧ (r = true → ∀ i : Nat,j ≤ i → ∀ h : i < L.length,WOK L c1 o i h) := by
  induction d with
  | zero => intro j seen h h1 h2; exact ⟨true,ev_one (fun k => by rw [spec_l03Words.l0,if_neg (by omega)]),ev_one (fun k => by rw [impl_BlockCode_areWords.l0,if_neg (by omega)]),fun _ i h1 h2 => by omega⟩
  | succ d ih =>
    intro j seen h h1 h2
    have hj : j < L.length := by omega
    have hw := wrap_succ hj (by omega)
    have hz := hs _ (List.getElem_mem hj)
    have hrd := rdS_get L j hj
    have htk := take_snoc' L j hj
    obtain ⟨s,hsj⟩ : ∃ s,s = L[j] := ⟨_,rfl⟩
    rw [← hsj] at hz hrd htk
    obtain ⟨v,hv,hv2⟩ := specDisp_any s hz
    have hb := specBits_ev s (by omega)
    have ia := areBits_f s (by omega)
    have st : ∀ R,Ev (fun k => if IB s = true then (if (s.size : Int) = c1 then (if v = 0 then ((spec_l03Index.f k (L.take j) s).bind fun t => (if t ≥ 0 then (some false) else (spec_l03Words.l0 k L c1 o ((j + 1 : Nat) : Int)))) else (if v = o then ((spec_l03Index.f k (L.take j) s).bind fun t => (if t ≥ 0 then (some false) else (spec_l03Words.l0 k L c1 o ((j + 1 : Nat) : Int)))) else some false)) else some false) else some false) R → Ev (fun k => spec_l03Words.l0 k L c1 o (j : Int)) R := by
      intro R hR
      refine Ev.step (fun k => by rw [spec_l03Words.l0,if_pos (by omega),if_pos (by omega),hrd,Int.toNat_natCast,hw,if_pos (show (j : Int) ≤ (L.length : Int) by omega)]) (Ev.bind hv (Ev.bind hb hR))
    have im : ∀ R,Ev (fun k => if (s.size : Int) = c1 then (if areB s.data.toList = true then (if dsp s = 0 ∨ dsp s = o then (if s.data.toList ∈ seen then some false else impl_BlockCode_areWords.l0 k c1 L o (s.data.toList :: seen) ((j + 1 : Nat) : Int)) else some false) else some false) else some false) R → Ev (fun k => impl_BlockCode_areWords.l0 k c1 L o seen (j : Int)) R := by
      intro R hR
      refine Ev.step (fun k => by rw [impl_BlockCode_areWords.l0,if_pos (by omega),if_pos (by omega),hrd,if_pos hz,disp_f,Option.bind_some,ia,Option.bind_some,if_pos (show seen.length < 1000000 by omega),hw]) hR
    cases e : IB s with
    | false =>
      refine ⟨false,st _ (ev_neg (by rw [e]; decide) (Ev.now _)),im _ ?_,(fun q => absurd q Bool.false_ne_true)⟩
      by_cases c : (s.size : Int) = c1
      · have hB : areB s.data.toList = false := by
          unfold IB at e
          rw [decide_eq_true (show (s.size : Int) ≤ 400 by omega),Bool.and_true] at e
          exact e
        exact ev_pos c (ev_neg (by rw [hB]; decide) (Ev.now _))
      · exact ev_neg c (Ev.now _)
    | true =>
      obtain ⟨p1,p2⟩ := IB_parts e
      obtain rfl := hv2 e
      by_cases c : (s.size : Int) = c1
      · obtain ⟨i,i1,_,i3,_,_⟩ := idx_both (L.take j) s (by rw [List.length_take]; omega) (L.take j).length 0 (by omega)
        rw [List.drop_zero,← h2,Lib.toList_data] at i3
        have i1' : Ev (fun k => spec_l03Index.f k (L.take j) s) i := i1
        by_cases c9 : s.data.toList ∈ seen
        · have go : Ev (fun k => (spec_l03Index.f k (L.take j) s).bind fun t => (if t ≥ 0 then (some false) else (spec_l03Words.l0 k L c1 o ((j + 1 : Nat) : Int)))) false := Ev.bind i1' (ev_pos (i3.2 c9) (Ev.now _))
          refine ⟨false,st _ (ev_pos e (ev_pos c ?_)),im _ (ev_pos c (ev_pos p1 ?_)),(fun q => absurd q Bool.false_ne_true)⟩
          · by_cases c8 : dsp s = 0
            · exact ev_pos c8 go
            · by_cases c7 : dsp s = o
              · exact ev_neg c8 (ev_pos c7 go)
              · exact ev_neg c8 (ev_neg c7 (Ev.now _))
          · by_cases c8 : dsp s = 0 ∨ dsp s = o
            · exact ev_pos c8 (ev_pos c9 (Ev.now _))
            · exact ev_neg c8 (Ev.now _)
        · by_cases c8 : dsp s = 0 ∨ dsp s = o
          · obtain ⟨r,r1,r2,r3⟩ := ih (j + 1) (s.data.toList :: seen) (by omega) (by simp; omega) (by
              intro y
              rw [htk,List.map_append,List.mem_append,List.mem_cons,h2,Or.comm]
              simp [Lib.toList_data])
            have go : Ev (fun k => (spec_l03Index.f k (L.take j) s).bind fun t => (if t ≥ 0 then (some false) else (spec_l03Words.l0 k L c1 o ((j + 1 : Nat) : Int)))) r := Ev.bind i1' (ev_neg (fun hh => c9 (i3.1 hh)) r1)
            refine ⟨r,st _ (ev_pos e (ev_pos c ?_)),im _ (ev_pos c (ev_pos p1 (ev_pos c8 (ev_neg c9 r2)))),fun q i h1 h2' => ?_⟩
            rotate_left
            · by_cases ci : i = j
              · subst ci
                refine ⟨by rw [← hsj]; exact p1,by rw [← hsj]; exact c,by rw [← hsj]; exact c8,fun i' hi' he => ?_⟩
                apply c9
                rw [h2,← Lib.toList_data,hsj,← he]
                exact List.mem_map.2 ⟨L[i'],List.mem_take_iff_getElem.2 ⟨i',by omega,rfl⟩,rfl⟩
              · exact r3 q i (by omega) h2'
            by_cases c7 : dsp s = 0
            · exact ev_pos c7 go
            · exact ev_neg c7 (ev_pos (c8.resolve_left c7) go)
          · exact ⟨false,st _ (ev_pos e (ev_pos c (ev_neg (fun hh => c8 (.inl hh)) (ev_neg (fun hh => c8 (.inr hh)) (Ev.now _))))),im _ (ev_pos c (ev_pos p1 (ev_neg c8 (Ev.now _)))),(fun q => absurd q Bool.false_ne_true)⟩
      · exact ⟨false,st _ (ev_pos e (ev_neg c (Ev.now _))),im _ (ev_neg c (Ev.now _)),(fun q => absurd q Bool.false_ne_true)⟩
theorem last_both (L2 L3 : List ByteArray) (hn2 : L2.length ≤ 1048576) (hn3 : L3.length ≤ 1048576) (a0 a1 : Int) (d : Nat) : ∀ j : Nat,j + d = L2.length →
    ∃ r,Ev (fun k => spec_l03Is.l0 k (L2.length : Int) (j : Int) a0 a1 L2 L3) r ∧ Ev (fun k => impl_ValidBlockCode.l0 k L2 (L2.length : Int) (j : Int) a0 a1 L2 L3) r ∧ (r = true → ∀ i : Nat,j ≤ i → ∀ (h : i < L2.length) (i' : Nat) (h' : i' < L3.length),L2[i].toList = L3[i'].toList → (∀ (p q : Nat) (hp : p < L3.length) (hq : q < L3.length),p < q → L3[p].toList ≠ L3[q].toList) → i = i') := by
  induction d with
  | zero => intro j h; exact ⟨true,ev_one (fun k => by rw [spec_l03Is.l0,if_neg (by omega)]),ev_one (fun k => by rw [impl_ValidBlockCode.l0,if_neg (by omega)]),fun _ i h1 h2 => by omega⟩
  | succ d ih =>
    intro j h
    have hj : j < L2.length := by omega
    have hw := wrap_succ hj (by omega)
    have hrd := rdS_get L2 j hj
    obtain ⟨i,i1,i2,i3,_,i5⟩ := idx_both L3 L2[j] hn3 L3.length 0 (by omega)
    rw [List.drop_zero] at i3
    have i1' : Ev (fun k => spec_l03Index.f k L3 L2[j]) i := i1
    have i2' : Ev (fun k => slices_Index_string_string.f k L3 L2[j]) i := i2
    obtain ⟨r,r1,r2,r3⟩ := ih (j + 1) (by omega)
    have sp : ∀ R,Ev (fun k => if i ≥ 0 then (if i = (j : Int) then spec_l03Is.l0 k (L2.length : Int) ((j + 1 : Nat) : Int) a0 a1 L2 L3 else some false) else spec_l03Is.l0 k (L2.length : Int) ((j + 1 : Nat) : Int) a0 a1 L2 L3) R → Ev (fun k => spec_l03Is.l0 k (L2.length : Int) (j : Int) a0 a1 L2 L3) R :=
      fun R hR => Ev.step (fun k => by rw [spec_l03Is.l0,if_pos (by omega),if_pos (by omega),if_pos (by omega),hrd,hw]) (Ev.bind i1' hR)
    have im : ∀ R,Ev (fun k => if i ≥ 0 then (if i = (j : Int) then impl_ValidBlockCode.l0 k L2 (L2.length : Int) ((j + 1 : Nat) : Int) a0 a1 L2 L3 else some false) else impl_ValidBlockCode.l0 k L2 (L2.length : Int) ((j + 1 : Nat) : Int) a0 a1 L2 L3) R → Ev (fun k => impl_ValidBlockCode.l0 k L2 (L2.length : Int) (j : Int) a0 a1 L2 L3) R :=
      fun R hR => Ev.step (fun k => by rw [impl_ValidBlockCode.l0,if_pos (by omega),if_pos (by omega),if_pos (by omega),hrd,hw]) (Ev.bind i2' hR)
    by_cases c : i ≥ 0
    · by_cases c2 : i = (j : Int)
      · refine ⟨r,sp _ (ev_pos c (ev_pos c2 r1)),im _ (ev_pos c (ev_pos c2 r2)),fun q z h1 h2 i' h' he hd => ?_⟩
        by_cases cz : z = j
        · subst cz
          obtain ⟨y,e1,_,e2,e3⟩ := i5 c
          have ey : y = z := by omega
          subst ey
          rcases Nat.lt_trichotomy y i' with g | g | g
          · exact absurd (e3.trans he) (hd y i' e2 h' g)
          · exact g
          · exact absurd (e3.trans he).symm (hd i' y h' e2 g)
        · exact r3 q z (by omega) h2 i' h' he hd
      · exact ⟨false,sp _ (ev_pos c (ev_neg c2 (Ev.now _))),im _ (ev_pos c (ev_neg c2 (Ev.now _))),(fun q => absurd q Bool.false_ne_true)⟩
    · refine ⟨r,sp _ (ev_neg c r1),im _ (ev_neg c r2),fun q z h1 h2 i' h' he hd => ?_⟩
      by_cases cz : z = j
      · subst cz
        exact absurd (i3.2 (by rw [he]; exact List.mem_map.2 ⟨L3[i'],List.getElem_mem h',rfl⟩)) c
      · exact r3 q z (by omega) h2 i' h' he hd
theorem shl_data (a : Int) (h : 1 ≤ a ∧ a ≤ 6) : shl .i64 1 a = wrap64 (2 ^ min a.toNat 64) ∧ shl .i64 1 a ≤ 64 := by
  have : a = 1 ∨ a = 2 ∨ a = 3 ∨ a = 4 ∨ a = 5 ∨ a = 6 := by omega
  rcases this with rfl | rfl | rfl | rfl | rfl | rfl <;> decide +kernel
theorem isData_f (a : Int) : impl_isData.f a = some (decide (1 ≤ a ∧ a ≤ 6)) := by
  unfold impl_isData.f
  rw [impl_in]; rfl
theorem isWidth_f (a : Int) : impl_isWidth.f a = some (decide (2 ≤ a ∧ a ≤ 12) && ((Int.tmod a 2) == 0)) := by
  unfold impl_isWidth.f
  rw [impl_in,Option.bind_some]
  by_cases c : 2 ≤ a ∧ a ≤ 12
  · rw [decide_eq_true c,if_pos rfl,Bool.true_and]
  · rw [decide_eq_false c,if_neg Bool.false_ne_true,Bool.false_and]
structure VC (a0 a1 : Int) (L2 L3 : List ByteArray) : Prop where
  data : 1 ≤ a0 ∧ a0 ≤ 6
  width : 2 ≤ a1 ∧ a1 ≤ 12
  even : Int.tmod a1 2 = 0
  n2 : (L2.length : Int) = shl .i64 1 a0
  n3 : (L3.length : Int) = shl .i64 1 a0
  w2 : ∀ (i : Nat) (h : i < L2.length),WOK L2 a1 2 i h
  w3 : ∀ (i : Nat) (h : i < L3.length),WOK L3 a1 (-2) i h
  cross : ∀ (i : Nat) (h : i < L2.length) (i' : Nat) (h' : i' < L3.length),L2[i].toList = L3[i'].toList → i = i'
theorem code_both (a0 a1 : Int) (L2 L3 : List ByteArray) (h2 : L2.length ≤ 1048576) (h3 : L3.length ≤ 1048576) (s2 : ∀ s ∈ L2,s.size ≤ 1048576) (s3 : ∀ s ∈ L3,s.size ≤ 1048576) :
    ∃ r,Ev (fun k => spec_l03Is.f k a0 a1 L2 L3) r ∧ Ev (fun k => impl_ValidBlockCode.f k a0 a1 L2 L3) r ∧ (r = true → VC a0 a1 L2 L3) := by
  have sno : Ev (fun k => spec_l03Is.j0 k true a0 a1 L2 L3) false := ev_one (fun k => by rw [spec_l03Is.j0,if_pos rfl])
  have sn1 : ∀ n,Ev (fun k => spec_l03Is.j1 k n true a0 a1 L2 L3) false := fun n => ev_one (fun k => by rw [spec_l03Is.j1,if_pos rfl])
  have ino : Ev (fun k => impl_ValidBlockCode.j0 k true a0 a1 L2 L3) false := ev_one (fun k => by rw [impl_ValidBlockCode.j0,if_pos rfl])
  unfold spec_l03Is.f impl_ValidBlockCode.f
  by_cases c0 : 1 ≤ a0 ∧ a0 ≤ 6
  · by_cases c1 : 2 ≤ a1 ∧ a1 ≤ 12
    · by_cases ct : (Int.tmod a1 2) = 0
      · have hd := isData_f a0
        have hwd := isWidth_f a1
        rw [decide_eq_true c0] at hd
        rw [decide_eq_true c1,ct] at hwd
        have hs0 := spec_in a0 1 6
        have hs1 := spec_in a1 2 12
        rw [decide_eq_true c0] at hs0
        rw [decide_eq_true c1] at hs1
        have hu : IntKind.u64.wrap a0 = a0 := u64_in (by omega) (by omega)
        obtain ⟨hsh,hle⟩ := shl_data a0 c0
        suffices h : ∃ r,(r = true → VC a0 a1 L2 L3) ∧ Ev (fun k => if (L2.length : Int) = shl .i64 1 a0 then (if (L3.length : Int) = shl .i64 1 a0 then ((spec_l03Words.f k L2 a1 2).bind fun t => (if t = true then ((spec_l03Words.f k L3 a1 (-2)).bind fun t2 => (spec_l03Is.j1 k (shl .i64 1 a0) (!t2) a0 a1 L2 L3)) else (spec_l03Is.j1 k (shl .i64 1 a0) true a0 a1 L2 L3))) else (spec_l03Is.j1 k (shl .i64 1 a0) true a0 a1 L2 L3)) else (spec_l03Is.j1 k (shl .i64 1 a0) true a0 a1 L2 L3)) r ∧
            Ev (fun k => (impl_BlockCode_areWords.f k a0 a1 L2 L3 L2 2).bind fun t => (if t = true then ((impl_BlockCode_areWords.f k a0 a1 L2 L3 L3 (-2)).bind fun t2 => (impl_ValidBlockCode.j0 k (!t2) a0 a1 L2 L3)) else (impl_ValidBlockCode.j0 k true a0 a1 L2 L3))) r by
          obtain ⟨r,r0,r1,r2⟩ := h
          refine ⟨r,ev_to hs0 (ev_pos rfl (ev_to hs1 (ev_pos rfl ?_))),ev_to hd (ev_pos rfl (ev_to hwd (ev_pos rfl r2))),r0⟩
          exact Ev.step (fun k => by rw [ct,spec_l03Is.j0,if_neg (by decide),hu,if_pos (by omega)]) r1
        have aw : ∀ (L : List ByteArray) (o : Int) (R : Bool),(L.length : Int) = shl .i64 1 a0 → Ev (fun k => impl_BlockCode_areWords.l0 k a1 L o [] 0) R → Ev (fun k => impl_BlockCode_areWords.f k a0 a1 L2 L3 L o) R := by
          intro L o R hL hR
          unfold impl_BlockCode_areWords.f
          exact ev_pos (by omega) (ev_pos (by rw [hL,hsh]) hR)
        have an : ∀ (L : List ByteArray) (o : Int),(L.length : Int) ≠ shl .i64 1 a0 → Ev (fun k => impl_BlockCode_areWords.f k a0 a1 L2 L3 L o) false := by
          intro L o hL
          unfold impl_BlockCode_areWords.f
          exact ev_pos (by omega) (ev_neg (by rw [← hsh]; exact hL) (Ev.now _))
        by_cases e2 : (L2.length : Int) = shl .i64 1 a0
        · obtain ⟨w2,w2s,w2i,w2k⟩ := words_both L2 a1 2 (by omega) (by omega) s2 L2.length 0 [] (by omega) (by simp) (by simp)
          have w2s' : Ev (fun k => spec_l03Words.f k L2 a1 2) w2 := w2s
          have w2i' := aw L2 2 w2 e2 w2i
          by_cases e3 : (L3.length : Int) = shl .i64 1 a0
          · obtain ⟨w3,w3s,w3i,w3k⟩ := words_both L3 a1 (-2) (by omega) (by omega) s3 L3.length 0 [] (by omega) (by simp) (by simp)
            have w3s' : Ev (fun k => spec_l03Words.f k L3 a1 (-2)) w3 := w3s
            have w3i' := aw L3 (-2) w3 e3 w3i
            cases w2 with
            | false => exact ⟨false,(fun q => absurd q Bool.false_ne_true),ev_pos e2 (ev_pos e3 (Ev.bind w2s' (ev_neg Bool.false_ne_true (sn1 _)))),Ev.bind w2i' (ev_neg Bool.false_ne_true ino)⟩
            | true =>
              cases w3 with
              | false => exact ⟨false,(fun q => absurd q Bool.false_ne_true),ev_pos e2 (ev_pos e3 (Ev.bind w2s' (ev_pos rfl (Ev.bind w3s' (sn1 _))))),Ev.bind w2i' (ev_pos rfl (Ev.bind w3i' ino))⟩
              | true =>
                obtain ⟨r,r1,r2,r3⟩ := last_both L2 L3 h2 h3 a0 a1 L2.length 0 (by omega)
                refine ⟨r,fun q => ⟨c0,c1,ct,e2,e3,fun i h => w2k rfl i (Nat.zero_le _) h,fun i h => w3k rfl i (Nat.zero_le _) h,fun i h i' h' he => r3 q i (Nat.zero_le _) h i' h' he (fun p q' hp hq hpq => (w3k rfl q' (Nat.zero_le _) hq).2.2.2 p hpq)⟩,ev_pos e2 (ev_pos e3 (Ev.bind w2s' (ev_pos rfl (Ev.bind w3s' ?_)))),Ev.bind w2i' (ev_pos rfl (Ev.bind w3i' ?_))⟩
                · exact Ev.step (f := fun k => spec_l03Is.l0 k (L2.length : Int) 0 a0 a1 L2 L3) (fun k => by rw [spec_l03Is.j1,if_neg (by decide),e2]) r1
                · exact Ev.step (f := fun k => impl_ValidBlockCode.l0 k L2 (L2.length : Int) 0 a0 a1 L2 L3) (fun k => by rw [impl_ValidBlockCode.j0,if_neg (by decide)]) r2
          · refine ⟨false,(fun q => absurd q Bool.false_ne_true),ev_pos e2 (ev_neg e3 (sn1 _)),Ev.bind w2i' ?_⟩
            cases w2 with
            | false => exact ev_neg Bool.false_ne_true ino
            | true => exact ev_pos rfl (Ev.bind (an L3 (-2) e3) ino)
        · exact ⟨false,(fun q => absurd q Bool.false_ne_true),ev_neg e2 (sn1 _),Ev.bind (an L2 2 e2) (ev_neg Bool.false_ne_true ino)⟩
      · have hd := isData_f a0
        have hwd := isWidth_f a1
        rw [decide_eq_true c0] at hd
        rw [decide_eq_true c1,Bool.true_and,show ((Int.tmod a1 2) == 0) = false from by simpa using ct] at hwd
        have hs0 := spec_in a0 1 6
        have hs1 := spec_in a1 2 12
        rw [decide_eq_true c0] at hs0
        rw [decide_eq_true c1] at hs1
        refine ⟨false,ev_to hs0 (ev_pos rfl (ev_to hs1 (ev_pos rfl ?_))),ev_to hd (ev_pos rfl (ev_to hwd (ev_neg Bool.false_ne_true ino))),(fun q => absurd q Bool.false_ne_true)⟩
        rw [show ((Int.tmod a1 2) != 0) = true from by simpa using ct]
        exact sno
    · have hd := isData_f a0
      have hwd := isWidth_f a1
      rw [decide_eq_true c0] at hd
      rw [decide_eq_false c1,Bool.false_and] at hwd
      have hs0 := spec_in a0 1 6
      have hs1 := spec_in a1 2 12
      rw [decide_eq_true c0] at hs0
      rw [decide_eq_false c1] at hs1
      exact ⟨false,ev_to hs0 (ev_pos rfl (ev_to hs1 (ev_neg Bool.false_ne_true sno))),ev_to hd (ev_pos rfl (ev_to hwd (ev_neg Bool.false_ne_true ino))),(fun q => absurd q Bool.false_ne_true)⟩
  · have hd := isData_f a0
    have hs0 := spec_in a0 1 6
    rw [decide_eq_false c0] at hd hs0
    exact ⟨false,ev_to hs0 (ev_neg Bool.false_ne_true sno),ev_to hd (ev_neg Bool.false_ne_true ino),(fun q => absurd q Bool.false_ne_true)⟩
theorem areIn_loop (l : List Int) (lo hi : Int) (hn : l.length ≤ 9223372036854775807) (d : Nat) : ∀ j : Nat,j + d = l.length →
    Ev (fun k => impl_areIn.l0 k lo hi l (l.length : Int) (j : Int)) ((l.drop j).all fun x => decide (lo ≤ x ∧ x ≤ hi)) := by
  induction d with
  | zero =>
    intro j h
    rw [List.drop_eq_nil_of_le (by omega)]
    exact ev_one (fun k => by rw [impl_areIn.l0,if_neg (by omega)]; rfl)
  | succ d ih =>
    intro j h
    have hj : j < l.length := by omega
    rw [drop_cons _ _ hj,List.all_cons]
    by_cases c : lo ≤ l[j] ∧ l[j] ≤ hi
    · rw [decide_eq_true c,Bool.true_and]
      refine Ev.step (fun k => ?_) (ih (j + 1) (by omega))
      rw [impl_areIn.l0,if_pos (by omega),if_pos (by omega),if_pos (by omega),rd_get _ _ hj,impl_in,decide_eq_true c,Option.bind_some,if_pos rfl,wrap_succ hj hn]
    · rw [decide_eq_false c,Bool.false_and]
      refine ev_one (fun k => ?_)
      rw [impl_areIn.l0,if_pos (by omega),if_pos (by omega),if_pos (by omega),rd_get _ _ hj,impl_in,decide_eq_false c,Option.bind_some,if_neg (by decide)]
theorem areIn_ev (l : List Int) (lo hi : Int) (hn : l.length ≤ 9223372036854775807) : Ev (fun k => impl_areIn.f k l lo hi) (l.all fun x => decide (lo ≤ x ∧ x ≤ hi)) :=
  areIn_loop l lo hi hn l.length 0 (by omega)
theorem VC.le64 {a0 a1 : Int} {L2 L3 : List ByteArray} (h : VC a0 a1 L2 L3) : L2.length ≤ 64 ∧ L3.length ≤ 64 := by
  have h1 := (shl_data a0 h.data).2
  have h2 := h.n2
  have h3 := h.n3
  omega
theorem VC.mem {a0 a1 : Int} {L2 L3 : List ByteArray} (h : VC a0 a1 L2 L3) {w : ByteArray} (hw : w ∈ L2 ∨ w ∈ L3) : IB w = true ∧ (w.size : Int) = a1 ∧ w.size ≤ 12 := by
  have hd := h.width
  rcases hw with hw | hw
  · obtain ⟨i,hi,rfl⟩ := List.mem_iff_getElem.1 hw
    obtain ⟨p1,p2,_⟩ := h.w2 i hi
    exact ⟨by unfold IB; rw [p1,decide_eq_true (by omega)]; rfl,p2,by omega⟩
  · obtain ⟨i,hi,rfl⟩ := List.mem_iff_getElem.1 hw
    obtain ⟨p1,p2,_⟩ := h.w3 i hi
    exact ⟨by unfold IB; rw [p1,decide_eq_true (by omega)]; rfl,p2,by omega⟩
def nxt (st : Int) (w : ByteArray) : Int := if dsp w > 0 then 1 else if dsp w < 0 then -1 else st
theorem implBehindS_f (st : Int) (w : ByteArray) : impl_stateBehind.f st w = some (nxt st w) := by
  unfold impl_stateBehind.f nxt
  rw [disp_f,Option.bind_some]
  by_cases c : dsp w > 0
  · rw [if_pos c,if_pos c]
  · rw [if_neg c,if_neg c]
    by_cases c2 : dsp w < 0
    · rw [if_pos c2,if_pos c2]
    · rw [if_neg c2,if_neg c2]
def lst (L2 L3 : List ByteArray) (st : Int) : List ByteArray := if st < 0 then L2 else L3
theorem lst_mem {L2 L3 : List ByteArray} {st : Int} {w : ByteArray} (h : w ∈ lst L2 L3 st) : w ∈ L2 ∨ w ∈ L3 := by
  unfold lst at h
  split at h
  · exact .inl h
  · exact .inr h
theorem nxt_pm {st : Int} (h : st = 1 ∨ st = -1) (w : ByteArray) : nxt st w = 1 ∨ nxt st w = -1 := by
  unfold nxt
  split
  · exact .inl rfl
  · split
    · exact .inr rfl
    · exact h
theorem ilneg (a0 a1 : Int) (L2 L3 : List ByteArray) : impl_BlockCode_words_neg.f a0 a1 L2 L3 (-1) = some () := if_pos (by decide)
theorem ilpos (a0 a1 : Int) (L2 L3 : List ByteArray) : impl_BlockCode_words_pos.f a0 a1 L2 L3 1 = some () := if_pos (by decide)
theorem app_l (s u : ByteArray) : (s ++ u).data.toList = s.data.toList ++ u.data.toList := by simp [ByteArray.data_append]
theorem VC.sizes {a0 a1 : Int} {L2 L3 : List ByteArray} (hv : VC a0 a1 L2 L3) : ∃ W : Nat,a1 = (W : Int) ∧ 2 ≤ W ∧ W ≤ 12 ∧ (∀ v ∈ L2,v.size = W) ∧ (∀ v ∈ L3,v.size = W) := by
  have hd := hv.width
  refine ⟨a1.toNat,by omega,by omega,by omega,fun v h => ?_,fun v h => ?_⟩
  · have := (hv.mem (.inl h)).2.1; omega
  · have := (hv.mem (.inr h)).2.1; omega
theorem VC.pos {a0 a1 : Int} {L2 L3 : List ByteArray} (hv : VC a0 a1 L2 L3) : 0 < L2.length ∧ 0 < L3.length := by
  have h1 : 0 < shl .i64 1 a0 := by
    have hd := hv.data
    have : a0 = 1 ∨ a0 = 2 ∨ a0 = 3 ∨ a0 = 4 ∨ a0 = 5 ∨ a0 = 6 := by omega
    rcases this with rfl | rfl | rfl | rfl | rfl | rfl <;> decide
  have h2 := hv.n2
  have h3 := hv.n3
  omega
def bitsL (l : List Int) : Prop := ∀ x ∈ l,x = 48 ∨ x = 49
theorem areB_strOf (l : List Int) (h : bitsL l) : areB (strOfNums l).data.toList = true := by
  rw [strOfNums_data]
  unfold areB
  rw [List.all_eq_true]
  intro b hb
  obtain ⟨x,hx,rfl⟩ := List.mem_map.1 hb
  rcases h x hx with rfl | rfl <;> decide
theorem size_strOf (l : List Int) : (strOfNums l).size = l.length := by rw [size_l,strOfNums_data,List.length_map]
def digs (n : Int) : Nat → List Int
  | 0 => []
  | d + 1 => (48 + (n / 2 ^ d) % 2) :: digs n d
theorem digs_length (n : Int) (d : Nat) : (digs n d).length = d := by
  induction d with
  | zero => rfl
  | succ d ih => simp [digs,ih]
theorem shr_nat (n : Int) (d : Nat) (h : d ≤ 64) : shr .i64 n (d : Int) = n / 2 ^ d := by
  unfold shr; rw [Int.toNat_natCast]; congr 2; exact Nat.min_eq_left h
theorem spec_digits_ev (n : Int) (d : Nat) : ∀ l : List Int,d ≤ 64 → l.length + d ≤ 1000 → Ev (fun k => spec_l01Digits.l0 k n l ((d : Int) - 1)) (strOfNums (l ++ digs n d)) := by
  induction d with
  | zero =>
    intro l _ _
    exact ev_one (fun k => by rw [spec_l01Digits.l0,if_neg (by omega)]; simp [digs])
  | succ d ih =>
    intro l hd hl
    have e : ((d + 1 : Nat) : Int) - 1 = (d : Int) := by omega
    have hs := shr_nat n d (by omega)
    have hu : IntKind.u64.wrap (d : Int) = d := u64_in (by omega) (by omega)
    have hw : wrap64 ((d : Int) - 1) = (d : Int) - 1 := wrap64_in (by omega) (by omega)
    have h := ih (l ++ [48 + (n / 2 ^ d) % 2]) (by omega) (by simp; omega)
    have e2 : l ++ digs n (d + 1) = l ++ [48 + (n / 2 ^ d) % 2] ++ digs n d := by simp [digs]
    rw [e2]
    refine Ev.step (fun k => ?_) h
    rw [e,spec_l01Digits.l0,hu,if_pos (by omega),if_pos (by omega),if_pos (by omega),hs,and_one,hw,wrap64_in (by omega) (by omega)]
    congr 3
    omega
theorem spec_digits_f (n : Int) (w : Int) (h0 : 0 ≤ w) (h1 : w ≤ 64) : Ev (fun k => spec_l01Digits.f k n w) (strOfNums (digs n w.toNat)) := by
  obtain ⟨d,rfl⟩ := Int.eq_ofNat_of_zero_le h0
  have h := spec_digits_ev n d [] (by omega) (by simp; omega)
  refine Ev.congr (fun k => ?_) h
  unfold spec_l01Digits.f
  rw [wrap64_in (by omega) (by omega)]
theorem digs_bits (n : Int) (d : Nat) : bitsL (digs n d) := by
  induction d with
  | zero => intro x hx; cases hx
  | succ d ih =>
    intro x hx
    rw [digs,List.mem_cons] at hx
    rcases hx with rfl | hx
    · omega
    · exact ih x hx
theorem digs_inj (x y : Nat) (d : Nat) : digs (x : Int) d = digs (y : Int) d → x % 2 ^ d = y % 2 ^ d := by
  induction d with
  | zero => intro _; simp [Nat.mod_one]
  | succ d ih =>
    intro h
    rw [digs,digs,List.cons.injEq] at h
    have h2 := ih h.2
    have h1 := h.1
    have e : ∀ z : Nat,((z : Int) / 2 ^ d) % 2 = ((z / 2 ^ d % 2 : Nat) : Int) := fun z => by push_cast; rfl
    rw [e,e] at h1
    rw [Nat.mod_pow_succ,Nat.mod_pow_succ,h2,show x / 2 ^ d % 2 = y / 2 ^ d % 2 by omega]
def numsOf (l : List UInt8) : List Int := l.map fun u => ((u.toNat : Nat) : Int)
theorem str_numsOf (r : List Int) (h : bitsL r) : numsOf (strOfNums r).data.toList = r := by
  rw [strOfNums_data,numsOf,List.map_map]
  conv => rhs; rw [← List.map_id r]
  apply List.map_congr_left
  intro x hx
  show (((UInt8.ofNat x.toNat).toNat : Nat) : Int) = x
  rcases h x hx with rfl | rfl <;> decide
def dg (w x : Nat) : ByteArray := strOfNums (digs (x : Int) w)
theorem dg_size (w x : Nat) : (dg w x).size = w := by unfold dg; rw [size_strOf,digs_length]
theorem dg_bits (w x : Nat) : areB (dg w x).data.toList = true := areB_strOf _ (digs_bits _ _)
def popW : Nat → Nat → Nat
  | _,0 => 0
  | x,d + 1 => (x / 2 ^ d) % 2 + popW x d
theorem dg_count (w x : Nat) : (dg w x).data.toList.count 49 = popW x w := by
  unfold dg
  rw [strOfNums_data]
  induction w with
  | zero => rfl
  | succ w ih =>
    rw [digs,List.map_cons,List.count_cons,ih,popW]
    have e : ((x : Int) / 2 ^ w) % 2 = ((x / 2 ^ w % 2 : Nat) : Int) := by push_cast; rfl
    rw [e]
    rcases Nat.mod_two_eq_zero_or_one (x / 2 ^ w) with q | q <;> rw [q]
    · show popW x w + (if (UInt8.ofNat ((48 : Int) + ((0 : Nat) : Int)).toNat == 49) = true then 1 else 0) = _
      rw [if_neg (by decide)]; omega
    · show popW x w + (if (UInt8.ofNat ((48 : Int) + ((1 : Nat) : Int)).toNat == 49) = true then 1 else 0) = _
      rw [if_pos (by decide)]; omega
theorem dsp_in (s : ByteArray) (c : Nat) (hs : s.size ≤ 1000) (hc : s.data.toList.count 49 = c) : dsp s = 2 * (c : Int) - (s.size : Int) := by
  have hle : c ≤ s.size := by rw [← hc,size_l]; exact List.count_le_length
  unfold dsp Lib.countByte
  rw [hc,wrap64_in (x := 2 * _) (by omega) (by omega),wrap64_in (by omega) (by omega)]
theorem dg_dsp (w x : Nat) (hw : w ≤ 1000) : dsp (dg w x) = 2 * (popW x w : Int) - (w : Int) := by
  rw [dsp_in _ _ (by rw [dg_size]; exact hw) (dg_count w x),dg_size]
theorem dg_inj (w x y : Nat) (hx : x < 2 ^ w) (hy : y < 2 ^ w) (h : (dg w x).data.toList = (dg w y).data.toList) : x = y := by
  have e : digs (x : Int) w = digs (y : Int) w := by
    rw [← str_numsOf _ (digs_bits (x : Int) w),← str_numsOf _ (digs_bits (y : Int) w)]
    unfold dg at h
    rw [h]
  have := digs_inj x y w e
  rw [Nat.mod_eq_of_lt hx,Nat.mod_eq_of_lt hy] at this
  exact this
def flipB (b : UInt8) : UInt8 := if b = 49 then 48 else 49
def oth (s : ByteArray) : ByteArray := ⟨(s.data.toList.map flipB).toArray⟩
theorem oth_l (s : ByteArray) : (oth s).data.toList = s.data.toList.map flipB := rfl
theorem oth_size (s : ByteArray) : (oth s).size = s.size := by rw [size_l,oth_l,List.length_map,← size_l]
theorem bit_or {b : UInt8} (h : isBit b = true) : b = 48 ∨ b = 49 := by
  unfold isBit at h
  simp at h
  rcases h with h | h
  · exact .inl (UInt8.toNat_inj.1 h)
  · exact .inr (UInt8.toNat_inj.1 h)
theorem oth_bits (s : ByteArray) : areB (oth s).data.toList = true := by
  rw [oth_l]
  unfold areB
  rw [List.all_eq_true]
  intro b hb
  obtain ⟨x,_,rfl⟩ := List.mem_map.1 hb
  unfold flipB
  split <;> decide
theorem flip_count (l : List UInt8) (h : areB l = true) : (l.map flipB).count 49 + l.count 49 = l.length := by
  induction l with
  | nil => rfl
  | cons b l ih =>
    unfold areB at h ih
    rw [List.all_cons,Bool.and_eq_true] at h
    have := ih h.2
    rw [List.map_cons,List.count_cons,List.count_cons,List.length_cons]
    rcases bit_or h.1 with rfl | rfl
    · rw [show (flipB 48 == 49) = true by decide,show ((48 : UInt8) == 49) = false by decide,if_pos rfl,if_neg Bool.false_ne_true]; omega
    · rw [show (flipB 49 == 49) = false by decide,show ((49 : UInt8) == 49) = true by decide,if_pos rfl,if_neg Bool.false_ne_true]; omega
theorem oth_dsp (s : ByteArray) (h : areB s.data.toList = true) (hs : s.size ≤ 1000) : dsp (oth s) = - dsp s := by
  have hf := flip_count _ h
  rw [← size_l] at hf
  rw [dsp_in (oth s) _ (by rw [oth_size]; exact hs) rfl,dsp_in s _ hs rfl,oth_size,oth_l]
  omega
theorem flip_inj {l m : List UInt8} (hl : areB l = true) (hm : areB m = true) (h : l.map flipB = m.map flipB) : l = m := by
  induction l generalizing m with
  | nil =>
    cases m with
    | nil => rfl
    | cons b m => cases h
  | cons a l ih =>
    cases m with
    | nil => cases h
    | cons b m =>
      unfold areB at hl hm ih
      rw [List.all_cons,Bool.and_eq_true] at hl hm
      rw [List.map_cons,List.map_cons,List.cons.injEq] at h
      rw [ih hl.2 hm.2 h.2]
      congr 1
      have h1 := h.1
      rcases bit_or hl.1 with rfl | rfl <;> rcases bit_or hm.1 with rfl | rfl
      · rfl
      · exact absurd h1 (by decide)
      · exact absurd h1 (by decide)
      · rfl
theorem other_loop (s : ByteArray) (hB : areB s.data.toList = true) (hs : s.size ≤ 1000) (d : Nat) : ∀ (j : Nat) (o : List Int),j + d = s.size → o.length = j → o.map (fun n => UInt8.ofNat n.toNat) = (s.data.toList.map flipB).take j →
    Ev (fun k => spec_l03Other.l0 k s o (j : Int)) (oth s) := by
  have hsl := size_l s
  induction d with
  | zero =>
    intro j o h ho ht
    refine ev_one (fun k => ?_)
    rw [spec_l03Other.l0,if_neg (by omega)]
    congr 1
    apply ByteArray.ext
    apply Array.ext'
    rw [strOfNums_data,ht,oth_l,List.take_of_length_le (by rw [List.length_map]; omega)]
  | succ d ih =>
    intro j o h ho ht
    have hj : j < s.data.toList.length := by omega
    have hw := wrap_succ (j := j) (n := s.size) (by omega) (by omega)
    have hb := bt_l s j hj
    have hbit : isBit s.data.toList[j] = true := by
      unfold areB at hB
      exact List.all_eq_true.1 hB _ (List.getElem_mem hj)
    refine Ev.step (fun k => by rw [spec_l03Other.l0,if_pos (by omega),if_pos (by omega),if_pos (by omega),hw]) (ih (j + 1) (o ++ [(97 - bt s (j : Int)) % 256]) (by omega) (by rw [List.length_append,ho]; rfl) ?_)
    rw [List.map_append,ht,take_snoc' _ _ (by rw [List.length_map]; exact hj),List.getElem_map,hb]
    congr 1
    rcases bit_or hbit with q | q <;> rw [q] <;> decide
theorem other_ev (s : ByteArray) (hB : areB s.data.toList = true) (hs : s.size ≤ 1000) : Ev (fun k => spec_l03Other.f k s) (oth s) := other_loop s hB hs s.size 0 [] (by omega) rfl (by simp)
def mL (w : Nat) (Y : List Nat) : List ByteArray := Y.map (dg w)
def pL (w : Nat) (Y : List Nat) : List ByteArray := Y.map fun y => if dsp (dg w y) = 0 then dg w y else oth (dg w y)
structure Made (w n : Nat) (ph : Int) (x : Nat) (Y : List Nat) : Prop where
  nodup : Y.Nodup
  len : Y.length ≤ n
  mem : ∀ y ∈ Y,y < 2 ^ w ∧ ((dsp (dg w y) = 0 ∧ (ph = 0 → y < x)) ∨ (dsp (dg w y) = 2 ∧ ph = 2 ∧ y < x))
  all : Y.length < n → ∀ y,y < 2 ^ w → (ph = 0 → y < x) → dsp (dg w y) = 0 → y ∈ Y
theorem made_loop (w n : Nat) (hw : w ≤ 12) (hn : n ≤ 64) (a0 a1 : Int) (hw1 : a1 = (w : Int)) (hsh : shl .i64 1 (IntKind.u64.wrap a1) = ((2 ^ w : Nat) : Int)) (S : List Int) (x19 x20 : Int) (ph : Int) (hph : ph = 0 ∨ ph = 2) (d : Nat) : ∀ (x : Nat) (Y : List Nat),x + d = 2 ^ w → Made w n ph x Y →
    ∃ Y',Made w n ph (2 ^ w) Y' ∧ ∀ R,Ev (fun k => spec_l03Make.l0 k a1 (n : Int) S x19 (wrap64 (x20 + 1)) a0 a1 (mL w Y') (pL w Y')) R → Ev (fun k => spec_l03Make.l1 k a1 (n : Int) ph (x : Int) S x19 x20 a0 a1 (mL w Y) (pL w Y)) R := by
  have h12 : 2 ^ w ≤ 2 ^ 12 := Nat.pow_le_pow_right (by decide) hw
  have h12' : (2 : Nat) ^ 12 = 4096 := by decide
  have hu : 0 ≤ IntKind.u64.wrap a1 := by rw [hw1,u64_in (by omega) (by omega)]; omega
  have stop : ∀ (x : Nat) (Y : List Nat),Made w n ph x Y → (x = 2 ^ w ∨ Y.length = n) → x ≤ 2 ^ w → ∀ R,Ev (fun k => spec_l03Make.l0 k a1 (n : Int) S x19 (wrap64 (x20 + 1)) a0 a1 (mL w Y) (pL w Y)) R → Ev (fun k => spec_l03Make.l1 k a1 (n : Int) ph (x : Int) S x19 x20 a0 a1 (mL w Y) (pL w Y)) R := by
    intro x Y hm hc hx R hR
    have h2 : Ev (fun k => spec_l03Make.j2 k a1 (n : Int) ph (x : Int) S x19 x20 false a0 a1 (mL w Y) (pL w Y)) R := Ev.step (fun k => by rw [spec_l03Make.j2,if_neg Bool.false_ne_true]) hR
    have hml : (mL w Y).length = Y.length := by unfold mL; rw [List.length_map]
    refine Ev.step (fun k => ?_) h2
    rw [spec_l03Make.l1,if_pos hu,hsh]
    by_cases c : (x : Int) < ((2 ^ w : Nat) : Int)
    · rw [if_pos c,decide_eq_false (by omega)]
    · rw [if_neg c]
  induction d with
  | zero =>
    intro x Y h hm
    obtain rfl : x = 2 ^ w := by omega
    exact ⟨Y,hm,stop _ Y hm (.inl rfl) (Nat.le_refl _)⟩
  | succ d ih =>
    intro x Y h hm
    by_cases cn : Y.length = n
    · refine ⟨Y,⟨hm.nodup,hm.len,fun y hy => ?_,fun hh => by omega⟩,stop x Y hm (.inr cn) (by omega)⟩
      obtain ⟨m1,m2⟩ := hm.mem y hy
      refine ⟨m1,m2.elim (fun q => .inl ⟨q.1,fun _ => m1⟩) (fun q => .inr ⟨q.1,q.2.1,m1⟩)⟩
    · have hlt : Y.length < n := by have := hm.len; omega
      have hx : x < 2 ^ w := by omega
      have hml : (mL w Y).length = Y.length := by unfold mL; rw [List.length_map]
      have hpl : (pL w Y).length = Y.length := by unfold pL; rw [List.length_map]
      have hwx : wrap64 ((x : Int) + 1) = ((x + 1 : Nat) : Int) := by rw [wrap64_in (by omega) (by omega)]; omega
      obtain ⟨K1,d1_⟩ := spec_digits_f (x : Int) a1 (by omega) (by omega)
      have d1 : ∀ k,K1 ≤ k → spec_l01Digits.f k (x : Int) a1 = some (dg w x) := fun k hk => by have := d1_ k hk; rw [hw1,Int.toNat_natCast] at this; rw [hw1]; exact this
      obtain ⟨v,⟨K2,hv⟩,hv2⟩ := specDisp_any (dg w x) (by rw [dg_size]; omega)
      have hIB : IB (dg w x) = true := by unfold IB; rw [dg_bits,dg_size,decide_eq_true (by omega)]; rfl
      obtain rfl := hv2 hIB
      have d2 : ∀ k,K2 ≤ k → spec_l03Disparity.f k (dg w x) = some (dsp (dg w x)) := hv
      by_cases c : dsp (dg w x) = ph
      · have hnot : x ∉ Y := fun hy => by
          obtain ⟨_,m⟩ := hm.mem x hy
          rcases hph with rfl | rfl
          · rcases m with m | m
            · exact absurd (m.2 rfl) (Nat.lt_irrefl x)
            · exact absurd m.2.1 (by decide)
          · rcases m with m | m
            · rw [c] at m; exact absurd m.1 (by decide)
            · exact absurd m.2.2 (Nat.lt_irrefl x)
        have hm' : Made w n ph (x + 1) (Y ++ [x]) := by
          refine ⟨?_,by rw [List.length_append]; exact hlt,fun y hy => ?_,fun hh y hy hp hd => ?_⟩
          · rw [List.nodup_append]
            exact ⟨hm.nodup,by simp,fun a ha b hb => by rw [List.mem_singleton] at hb; subst hb; exact fun e => hnot (e ▸ ha)⟩
          · rcases List.mem_append.1 hy with hy | hy
            · obtain ⟨m1,m2⟩ := hm.mem y hy
              exact ⟨m1,m2.elim (fun q => .inl ⟨q.1,fun e => Nat.lt_succ_of_lt (q.2 e)⟩) (fun q => .inr ⟨q.1,q.2.1,Nat.lt_succ_of_lt q.2.2⟩)⟩
            · rw [List.mem_singleton] at hy
              subst hy
              rcases hph with rfl | rfl
              · exact ⟨hx,.inl ⟨c,fun _ => Nat.lt_succ_self y⟩⟩
              · exact ⟨hx,.inr ⟨c,rfl,Nat.lt_succ_self y⟩⟩
          · rw [List.mem_append,List.mem_singleton]
            by_cases e : y = x
            · exact .inr e
            · exact .inl (hm.all hlt y hy (fun q => Nat.lt_of_le_of_ne (Nat.le_of_lt_succ (hp q)) e) hd)
        have eM : mL w Y ++ [dg w x] = mL w (Y ++ [x]) := by unfold mL; rw [List.map_append]; rfl
        obtain ⟨Y',y1,y2⟩ := ih (x + 1) (Y ++ [x]) (by omega) hm'
        refine ⟨Y',y1,fun R hR => ?_⟩
        obtain ⟨K3,g⟩ := y2 R hR
        by_cases cp : ph = 0
        · have eP : pL w Y ++ [dg w x] = pL w (Y ++ [x]) := by unfold pL; rw [List.map_append,List.map_cons,List.map_nil,if_pos (c.trans cp)]
          refine ⟨K1 + K2 + K3 + 2,fun k hk => ?_⟩
          obtain ⟨k,rfl⟩ : ∃ q,k = q + 2 := ⟨k - 2,by omega⟩
          show spec_l03Make.l1 (k + 1 + 1) a1 (n : Int) ph (x : Int) S x19 x20 a0 a1 (mL w Y) (pL w Y) = _
          rw [spec_l03Make.l1,if_pos hu,hsh,if_pos (by omega),decide_eq_true (by omega),spec_l03Make.j2,if_pos rfl,d1 k (by omega),Option.bind_some,d2 k (by omega),Option.bind_some,if_pos c,if_pos (by omega),Option.bind_some,if_pos cp,if_pos (by omega),hwx,eM,eP]
          exact g k (by omega)
        · obtain ⟨K4,o4⟩ := other_ev (dg w x) (dg_bits w x) (by rw [dg_size]; omega)
          have d4 : ∀ k,K4 ≤ k → spec_l03Other.f k (dg w x) = some (oth (dg w x)) := o4
          have eP : pL w Y ++ [oth (dg w x)] = pL w (Y ++ [x]) := by unfold pL; rw [List.map_append,List.map_cons,List.map_nil,if_neg (by rw [c]; exact cp)]
          refine ⟨K1 + K2 + K3 + K4 + 2,fun k hk => ?_⟩
          obtain ⟨k,rfl⟩ : ∃ q,k = q + 2 := ⟨k - 2,by omega⟩
          show spec_l03Make.l1 (k + 1 + 1) a1 (n : Int) ph (x : Int) S x19 x20 a0 a1 (mL w Y) (pL w Y) = _
          rw [spec_l03Make.l1,if_pos hu,hsh,if_pos (by omega),decide_eq_true (by omega),spec_l03Make.j2,if_pos rfl,d1 k (by omega),Option.bind_some,d2 k (by omega),Option.bind_some,if_pos c,if_pos (by omega),Option.bind_some,if_neg cp,d4 k (by omega),Option.bind_some,if_pos (by omega),hwx,eM,eP]
          exact g k (by omega)
      · have hm' : Made w n ph (x + 1) Y := by
          refine ⟨hm.nodup,hm.len,fun y hy => ?_,fun hh y hy hp hd => ?_⟩
          · obtain ⟨m1,m2⟩ := hm.mem y hy
            exact ⟨m1,m2.elim (fun q => .inl ⟨q.1,fun e => Nat.lt_succ_of_lt (q.2 e)⟩) (fun q => .inr ⟨q.1,q.2.1,Nat.lt_succ_of_lt q.2.2⟩)⟩
          · refine hm.all hh y hy (fun q => ?_) hd
            have := hp q
            by_cases e : y = x
            · subst e; exact absurd (hd.trans q.symm) c
            · exact Nat.lt_of_le_of_ne (Nat.le_of_lt_succ this) e
        obtain ⟨Y',y1,y2⟩ := ih (x + 1) Y (by omega) hm'
        refine ⟨Y',y1,fun R hR => ?_⟩
        obtain ⟨K3,g⟩ := y2 R hR
        refine ⟨K1 + K2 + K3 + 2,fun k hk => ?_⟩
        obtain ⟨k,rfl⟩ : ∃ q,k = q + 2 := ⟨k - 2,by omega⟩
        show spec_l03Make.l1 (k + 1 + 1) a1 (n : Int) ph (x : Int) S x19 x20 a0 a1 (mL w Y) (pL w Y) = _
        rw [spec_l03Make.l1,if_pos hu,hsh,if_pos (by omega),decide_eq_true (by omega),spec_l03Make.j2,if_pos rfl,d1 k (by omega),Option.bind_some,d2 k (by omega),Option.bind_some,if_neg c,hwx]
        exact g k (by omega)
theorem make_ev (w m : Nat) (hw : w ≤ 12) (hm0 : 1 ≤ m) (hm : m ≤ 6) (hw0 : 2 ≤ w) : ∃ Y : List Nat,Made w (2 ^ m) 2 (2 ^ w) Y ∧ Ev (fun k => spec_l03Make.f k (m : Int) (w : Int)) ((m : Int),(w : Int),mL w Y,pL w Y,decide (Y.length = 2 ^ m)) := by
  have h6 : 2 ^ m ≤ 2 ^ 6 := Nat.pow_le_pow_right (by decide) hm
  have h6' : (2 : Nat) ^ 6 = 64 := by decide
  have h12 : 2 ^ w ≤ 2 ^ 12 := Nat.pow_le_pow_right (by decide) hw
  have h12' : (2 : Nat) ^ 12 = 4096 := by decide
  have sh : ∀ q : Nat,q ≤ 12 → shl .i64 1 (IntKind.u64.wrap (q : Int)) = ((2 ^ q : Nat) : Int) := by
    intro q hq
    rw [u64_in (by omega) (by omega)]
    have : q = 0 ∨ q = 1 ∨ q = 2 ∨ q = 3 ∨ q = 4 ∨ q = 5 ∨ q = 6 ∨ q = 7 ∨ q = 8 ∨ q = 9 ∨ q = 10 ∨ q = 11 ∨ q = 12 := by omega
    rcases this with rfl | rfl | rfl | rfl | rfl | rfl | rfl | rfl | rfl | rfl | rfl | rfl | rfl <;> decide
  have hpos : 0 < 2 ^ m := Nat.pow_pos (by decide)
  obtain ⟨Y1,a1,a2⟩ := made_loop w (2 ^ m) hw (by omega) (m : Int) (w : Int) rfl (sh w hw) [0,2] 2 0 0 (.inl rfl) (2 ^ w) 0 [] (by omega) ⟨List.nodup_nil,Nat.zero_le _,(fun y hy => by cases hy),(fun _ y _ hp _ => absurd (hp rfl) (Nat.not_lt_zero _))⟩
  have hm2 : Made w (2 ^ m) 2 0 Y1 := ⟨a1.nodup,a1.len,fun y hy => (by
    obtain ⟨m1,m2⟩ := a1.mem y hy
    refine ⟨m1,m2.elim (fun q => .inl ⟨q.1,fun e => absurd e (by decide)⟩) (fun q => absurd q.2.1 (by decide))⟩),fun hh y hy _ hd => a1.all hh y hy (fun _ => hy) hd⟩
  obtain ⟨Y2,b1,b2⟩ := made_loop w (2 ^ m) hw (by omega) (m : Int) (w : Int) rfl (sh w hw) [0,2] 2 1 2 (.inr rfl) (2 ^ w) 0 Y1 (by omega) hm2
  have hml : (mL w Y2).length = Y2.length := by unfold mL; rw [List.length_map]
  have zero : ((0 : Nat) : Int) = 0 := rfl
  rw [w01,zero] at a2
  rw [w11,zero] at b2
  refine ⟨Y2,b1,?_⟩
  have e3 : Ev (fun k => spec_l03Make.l0 k (w : Int) ((2 ^ m : Nat) : Int) [0,2] 2 2 (m : Int) (w : Int) (mL w Y2) (pL w Y2)) ((m : Int),(w : Int),mL w Y2,pL w Y2,decide (Y2.length = 2 ^ m)) := by
    refine ev_one (fun k => ?_)
    rw [spec_l03Make.l0,if_neg (by decide),hml]
    have : (((Y2.length : Nat) : Int) == ((2 ^ m : Nat) : Int)) = decide (Y2.length = 2 ^ m) := by
      rw [Bool.eq_iff_iff,beq_iff_eq,decide_eq_true_iff]; omega
    rw [this]
  have e2 : Ev (fun k => spec_l03Make.l0 k (w : Int) ((2 ^ m : Nat) : Int) [0,2] 2 1 (m : Int) (w : Int) (mL w Y1) (pL w Y1)) ((m : Int),(w : Int),mL w Y2,pL w Y2,decide (Y2.length = 2 ^ m)) := Ev.step (fun k => by rw [spec_l03Make.l0,if_pos (by decide),if_pos (by decide),if_pos (by decide)]; rfl) (b2 _ e3)
  have e1 : Ev (fun k => spec_l03Make.l0 k (w : Int) ((2 ^ m : Nat) : Int) [0,2] 2 0 (m : Int) (w : Int) [] []) ((m : Int),(w : Int),mL w Y2,pL w Y2,decide (Y2.length = 2 ^ m)) := Ev.step (fun k => by rw [spec_l03Make.l0,if_pos (by decide),if_pos (by decide),if_pos (by decide)]; rfl) (a2 _ e2)
  unfold spec_l03Make.f
  rw [sh m (by omega),u64_in (by omega) (by omega)]
  exact ev_pos (by omega) e1
theorem mL_get (w : Nat) (Y : List Nat) (i : Nat) (h : i < (mL w Y).length) (h' : i < Y.length) : (mL w Y)[i] = dg w Y[i] := by unfold mL; exact List.getElem_map _
theorem pL_get (w : Nat) (Y : List Nat) (i : Nat) (h : i < (pL w Y).length) (h' : i < Y.length) : (pL w Y)[i] = if dsp (dg w Y[i]) = 0 then dg w Y[i] else oth (dg w Y[i]) := by unfold pL; exact List.getElem_map _
theorem mL_length (w : Nat) (Y : List Nat) : (mL w Y).length = Y.length := by unfold mL; exact List.length_map _
theorem pL_length (w : Nat) (Y : List Nat) : (pL w Y).length = Y.length := by unfold pL; exact List.length_map _
theorem nodup_at {Y : List Nat} (h : Y.Nodup) {i j : Nat} (hi : i < Y.length) (hj : j < Y.length) (e : Y[i] = Y[j]) : i = j := by
  rcases Nat.lt_trichotomy i j with c | c | c
  · exact absurd e (List.pairwise_iff_getElem.1 h i j hi hj c)
  · exact c
  · exact absurd e.symm (List.pairwise_iff_getElem.1 h j i hj hi c)
theorem bytes_ext {a b : ByteArray} (h : a.toList = b.toList) : a.data.toList = b.data.toList := by rw [← Lib.toList_data,← Lib.toList_data,h]
theorem made_VC (w m : Nat) (hw0 : 2 ≤ w) (hw : w ≤ 12) (hev : w % 2 = 0) (hm0 : 1 ≤ m) (hm : m ≤ 6) (Y : List Nat) (h : Made w (2 ^ m) 2 (2 ^ w) Y) (hY : Y.length = 2 ^ m) : VC (m : Int) (w : Int) (mL w Y) (pL w Y) := by
  have hsh : shl .i64 1 (m : Int) = ((2 ^ m : Nat) : Int) := by
    have : m = 1 ∨ m = 2 ∨ m = 3 ∨ m = 4 ∨ m = 5 ∨ m = 6 := by omega
    rcases this with rfl | rfl | rfl | rfl | rfl | rfl <;> decide
  have hmem : ∀ (i : Nat) (hi : i < Y.length),Y[i] < 2 ^ w ∧ (dsp (dg w Y[i]) = 0 ∨ dsp (dg w Y[i]) = 2) := fun i hi => by
    obtain ⟨m1,m2⟩ := h.mem _ (List.getElem_mem hi)
    exact ⟨m1,m2.elim (fun q => .inl q.1) (fun q => .inr q.1)⟩
  have hdo : ∀ y,dsp (oth (dg w y)) = - dsp (dg w y) := fun y => oth_dsp _ (dg_bits w y) (by rw [dg_size]; omega)
  have key2 : ∀ (i j : Nat) (hi : i < Y.length) (hj : j < Y.length),(dg w Y[i]).toList = (dg w Y[j]).toList → i = j := fun i j hi hj e =>
    nodup_at h.nodup hi hj (dg_inj w _ _ (hmem i hi).1 (hmem j hj).1 (bytes_ext e))
  have key3 : ∀ (i j : Nat) (hi : i < Y.length) (hj : j < Y.length),(oth (dg w Y[i])).toList = (oth (dg w Y[j])).toList → i = j := fun i j hi hj e =>
    nodup_at h.nodup hi hj (dg_inj w _ _ (hmem i hi).1 (hmem j hj).1 (flip_inj (dg_bits _ _) (dg_bits _ _) (bytes_ext e)))
  have hdeq : ∀ a b : ByteArray,a.toList = b.toList → dsp a = dsp b := fun a b e => by
    have : a = b := by apply ByteArray.ext; apply Array.ext'; exact bytes_ext e
    rw [this]
  refine ⟨⟨by omega,by omega⟩,⟨by omega,by omega⟩,?_,by rw [mL_length,hY,hsh],by rw [pL_length,hY,hsh],fun i hi => ?_,fun i hi => ?_,fun i hi j hj e => ?_⟩
  · rw [Int.tmod_eq_emod_of_nonneg (by omega)]; omega
  · have hi' : i < Y.length := by rw [mL_length] at hi; exact hi
    unfold WOK
    rw [mL_get w Y i hi hi']
    refine ⟨dg_bits _ _,by rw [dg_size],(hmem i hi').2,fun i' h' e => ?_⟩
    rw [mL_get w Y i' (by omega) (by omega)] at e
    have := key2 i' i (by omega) hi' e
    omega
  · have hi' : i < Y.length := by rw [pL_length] at hi; exact hi
    unfold WOK
    rw [pL_get w Y i hi hi']
    by_cases c : dsp (dg w Y[i]) = 0
    · rw [if_pos c]
      refine ⟨dg_bits _ _,by rw [dg_size],.inl c,fun i' h' e => ?_⟩
      rw [pL_get w Y i' (Nat.lt_trans h' hi) (Nat.lt_trans h' hi')] at e
      by_cases c' : dsp (dg w (Y[i']'(Nat.lt_trans h' hi'))) = 0
      · rw [if_pos c'] at e
        exact absurd (key2 i' i (Nat.lt_trans h' hi') hi' e) (Nat.ne_of_lt h')
      · rw [if_neg c'] at e
        have := hdeq _ _ e
        rw [hdo,c] at this
        exact c' (Int.neg_eq_zero.1 this)
    · rw [if_neg c]
      have c2 := (hmem i hi').2.resolve_left c
      refine ⟨oth_bits _,by rw [oth_size,dg_size],.inr (by rw [hdo,c2]),fun i' h' e => ?_⟩
      rw [pL_get w Y i' (Nat.lt_trans h' hi) (Nat.lt_trans h' hi')] at e
      by_cases c' : dsp (dg w (Y[i']'(Nat.lt_trans h' hi'))) = 0
      · rw [if_pos c'] at e
        have := hdeq _ _ e
        rw [hdo,c'] at this
        exact c (Int.neg_eq_zero.1 this.symm)
      · rw [if_neg c'] at e
        exact absurd (key3 i' i (Nat.lt_trans h' hi') hi' e) (Nat.ne_of_lt h')
  · have hi' : i < Y.length := by rw [mL_length] at hi; exact hi
    have hj' : j < Y.length := by rw [pL_length] at hj; exact hj
    rw [mL_get w Y i hi hi',pL_get w Y j hj hj'] at e
    by_cases c' : dsp (dg w Y[j]) = 0
    · rw [if_pos c'] at e
      exact key2 i j hi' hj' e
    · rw [if_neg c'] at e
      have c2 := (hmem j hj').2.resolve_left c'
      have := hdeq _ _ e
      rw [hdo,c2] at this
      rcases (hmem i hi').2 with q | q
      · rw [q] at this; exact absurd this (by decide)
      · rw [q] at this; exact absurd this (by decide)
def balN (w : Nat) : Nat := ((List.range (2 ^ w)).filter fun x => decide (2 * popW x w = w)).length
theorem bal6 : 20 ≤ balN 6 := by decide +kernel
theorem bal8 : 64 ≤ balN 8 := by decide +kernel
theorem bal10 : 64 ≤ balN 10 := by decide +kernel
theorem made_enough (w n : Nat) (hw : w ≤ 12) (hb : n ≤ balN w) (Y : List Nat) (h : Made w n 2 (2 ^ w) Y) : Y.length = n := by
  by_cases c : Y.length < n
  · exfalso
    have hsub : ((List.range (2 ^ w)).filter fun x => decide (2 * popW x w = w)) ⊆ Y := by
      intro y hy
      rw [List.mem_filter,List.mem_range,decide_eq_true_iff] at hy
      refine h.all c y hy.1 (fun q => absurd q (by decide)) ?_
      rw [dg_dsp w y (by omega)]
      omega
    have hnd : ((List.range (2 ^ w)).filter fun x => decide (2 * popW x w = w)).Nodup := List.nodup_range.filter _
    have := hnd.length_le_of_subset hsub
    unfold balN at hb
    omega
  · have := h.len
    omega
theorem words_yes (L : List ByteArray) (c1 o : Int) (hc : c1 ≤ 400) (hn : L.length ≤ 1000) (hok : ∀ (i : Nat) (h : i < L.length),WOK L c1 o i h) (d : Nat) : ∀ j : Nat,j + d = L.length → Ev (fun k => spec_l03Words.l0 k L c1 o (j : Int)) true := by
  induction d with
  | zero => intro j h; exact ev_one (fun k => by rw [spec_l03Words.l0,if_neg (by omega)])
  | succ d ih =>
    intro j h
    have hj : j < L.length := by omega
    have hw := wrap_succ hj (by omega)
    have hrd := rdS_get L j hj
    obtain ⟨w1,w2,w3,w4⟩ := hok j hj
    have W3 := Aside0.mk w3
    clear w3
    obtain ⟨i,i1,_,i3,_,_⟩ := idx_both (L.take j) L[j] (by rw [List.length_take]; omega) (L.take j).length 0 (by omega)
    rw [List.drop_zero] at i3
    have i1' : Ev (fun k => spec_l03Index.f k (L.take j) L[j]) i := i1
    have hneg : ¬ i ≥ 0 := fun hh => by
      obtain ⟨x,hx,e⟩ := List.mem_map.1 (i3.1 hh)
      obtain ⟨y,hy,rfl⟩ := List.mem_iff_getElem.1 hx
      rw [List.length_take] at hy
      rw [List.getElem_take] at e
      exact w4 y (by omega) e
    generalize L[j] = s at hrd w1 w2 W3 i1'
    have hIB : IB s = true := by unfold IB; rw [w1,decide_eq_true (by omega)]; rfl
    have hb := specBits_ev s (by omega)
    rw [hIB] at hb
    obtain ⟨v,hv,hv2⟩ := specDisp_any s (by omega)
    obtain rfl := hv2 hIB
    have go : Ev (fun k => (spec_l03Index.f k (L.take j) s).bind fun t => (if t ≥ 0 then (some false) else (spec_l03Words.l0 k L c1 o ((j + 1 : Nat) : Int)))) true := Ev.bind i1' (ev_neg hneg (ih (j + 1) (by omega)))
    refine Ev.step (fun k => by rw [spec_l03Words.l0,if_pos (by omega),if_pos (by omega),hrd,Int.toNat_natCast,hw,if_pos (show (j : Int) ≤ (L.length : Int) by omega)]) (Ev.bind hv (Ev.bind hb (ev_pos rfl (ev_pos w2 ?_))))
    by_cases c : dsp s = 0
    · exact ev_pos c go
    · exact ev_neg c (ev_pos (W3.out.resolve_left c) go)
theorem last_yes (L2 L3 : List ByteArray) (hn2 : L2.length ≤ 1048576) (hn3 : L3.length ≤ 1048576) (a0 a1 : Int) (hx : ∀ (i : Nat) (h : i < L2.length) (i' : Nat) (h' : i' < L3.length),L2[i].toList = L3[i'].toList → i = i') (d : Nat) : ∀ j : Nat,j + d = L2.length → Ev (fun k => spec_l03Is.l0 k (L2.length : Int) (j : Int) a0 a1 L2 L3) true := by
  induction d with
  | zero => intro j h; exact ev_one (fun k => by rw [spec_l03Is.l0,if_neg (by omega)])
  | succ d ih =>
    intro j h
    have hj : j < L2.length := by omega
    have hw := wrap_succ hj (by omega)
    have hrd := rdS_get L2 j hj
    obtain ⟨i,i1,_,_,_,i5⟩ := idx_both L3 L2[j] hn3 L3.length 0 (by omega)
    have i1' : Ev (fun k => spec_l03Index.f k L3 L2[j]) i := i1
    have sp : ∀ R,Ev (fun k => if i ≥ 0 then (if i = (j : Int) then spec_l03Is.l0 k (L2.length : Int) ((j + 1 : Nat) : Int) a0 a1 L2 L3 else some false) else spec_l03Is.l0 k (L2.length : Int) ((j + 1 : Nat) : Int) a0 a1 L2 L3) R → Ev (fun k => spec_l03Is.l0 k (L2.length : Int) (j : Int) a0 a1 L2 L3) R :=
      fun R hR => Ev.step (fun k => by rw [spec_l03Is.l0,if_pos (by omega),if_pos (by omega),if_pos (by omega),hrd,hw]) (Ev.bind i1' hR)
    have hi := ih (j + 1) (by omega)
    by_cases c : i ≥ 0
    · obtain ⟨y,e1,_,e2,e3⟩ := i5 c
      have := hx j hj y e2 e3.symm
      exact sp _ (ev_pos c (ev_pos (by omega) hi))
    · exact sp _ (ev_neg c hi)
theorem code_yes (a0 a1 : Int) (L2 L3 : List ByteArray) (hv : VC a0 a1 L2 L3) : Ev (fun k => spec_l03Is.f k a0 a1 L2 L3) true := by
  have hda := hv.data
  have hwi := hv.width
  obtain ⟨hl2,hl3⟩ := hv.le64
  have hs0 := spec_in a0 1 6
  have hs1 := spec_in a1 2 12
  rw [decide_eq_true hda] at hs0
  rw [decide_eq_true hwi] at hs1
  have hu : IntKind.u64.wrap a0 = a0 := u64_in (by omega) (by omega)
  have w2 : Ev (fun k => spec_l03Words.f k L2 a1 2) true := words_yes L2 a1 2 (by omega) (by omega) hv.w2 L2.length 0 (by omega)
  have w3 : Ev (fun k => spec_l03Words.f k L3 a1 (-2)) true := words_yes L3 a1 (-2) (by omega) (by omega) hv.w3 L3.length 0 (by omega)
  have la := last_yes L2 L3 (by omega) (by omega) a0 a1 hv.cross L2.length 0 (by omega)
  unfold spec_l03Is.f
  refine ev_to hs0 (ev_pos rfl (ev_to hs1 (ev_pos rfl ?_)))
  have e1 : Ev (fun k => spec_l03Is.j1 k (shl .i64 1 a0) (!true) a0 a1 L2 L3) true := Ev.step (fun k => by rw [Bool.not_true,spec_l03Is.j1,if_neg Bool.false_ne_true,← hv.n2]; rfl) la
  refine Ev.step (fun k => by rw [hv.even,spec_l03Is.j0,if_neg (by decide),hu,if_pos (by omega),if_pos hv.n2,if_pos hv.n3]) (Ev.bind w2 (ev_pos rfl (Ev.bind w3 e1)))
theorem code_no {a0 a1 : Int} {L2 L3 : List ByteArray} {r : Bool} (hv : VC a0 a1 L2 L3) (h : Ev (fun k => spec_l03Is.f k a0 a1 L2 L3) r) : r = true := ev_det h (code_yes a0 a1 L2 L3 hv)
theorem wf_u8 {x : Int} (h : (Lit.int .u8 x).wf = true) : 0 ≤ x ∧ x ≤ 255 := by
  simp [Lit.wf,IntKind.min,IntKind.max,IntKind.signed,IntKind.bits] at h
  omega
theorem tmod_in {x n : Int} (h0 : 0 ≤ x) (hn : 0 < n) : 0 ≤ Int.tmod x n ∧ Int.tmod x n < n := by
  rw [Int.tmod_eq_emod_of_nonneg h0]
  exact ⟨Int.emod_nonneg _ (by omega),Int.emod_lt_of_pos _ hn⟩
theorem and_255 (x : Int) : 0 ≤ Go.bits .and .u64 x 255 ∧ Go.bits .and .u64 x 255 ≤ 255 := by
  show 0 ≤ IntKind.u64.wrap (((BitVec.ofInt 64 x &&& BitVec.ofInt 64 255).toNat : Nat) : Int) ∧ IntKind.u64.wrap (((BitVec.ofInt 64 x &&& BitVec.ofInt 64 255).toNat : Nat) : Int) ≤ 255
  have e1 : (BitVec.ofInt 64 255).toNat = 255 := by decide
  have h : (BitVec.ofInt 64 x &&& BitVec.ofInt 64 255).toNat ≤ 255 := by
    rw [BitVec.toNat_and,e1]
    exact Nat.and_le_right
  rw [u64_in (by omega) (by omega)]
  omega
theorem byte_of (l : List Int) (hb : ∀ x ∈ l,(Lit.int .u8 x).wf = true) (i : Int) (h0 : 0 ≤ i) (h1 : i < l.length) : 0 ≤ rd l i ∧ rd l i ≤ 255 := by
  obtain ⟨j,rfl⟩ := Int.eq_ofNat_of_zero_le h0
  rw [rd_get _ _ (by omega)]
  exact wf_u8 (hb _ (List.getElem_mem _))
theorem next_f (l : List Int) (hl : l.length ≤ 9223372036854775807) (hb : ∀ x ∈ l,(Lit.int .u8 x).wf = true) (at_ seed : Int) (h0 : 0 ≤ at_) (h1 : at_ ≤ 4611686018427387904) :
    ∃ v seed',spec_l00Src_next.f l at_ seed = some (v,at_ + 1,seed') ∧ 0 ≤ v ∧ v ≤ 255 := by
  unfold spec_l00Src_next.f
  rw [wrap64_in (x := at_ + 1) (by omega) (by omega)]
  by_cases c : at_ < (l.length : Int)
  · have hr := byte_of l hb at_ h0 c
    rw [if_pos c,if_pos h0,wrap64_in (x := rd l at_) (by omega) (by omega)]
    rw [if_pos (by omega)]
    exact ⟨_,_,rfl,hr⟩
  · rw [if_neg c]
    rw [if_neg (by omega)]
    refine ⟨_,_,rfl,?_⟩
    have h := and_255 ((IntKind.u64.wrap ((IntKind.u64.wrap ((IntKind.u64.wrap (seed * 6364136223846793005)))) + 1442695040888963407)) / 1099511627776)
    rw [wrap64_in (by omega) (by omega)]
    exact h
theorem pick_f (l : List Int) (hl : l.length ≤ 9223372036854775807) (hb : ∀ x ∈ l,(Lit.int .u8 x).wf = true) (at_ seed n : Int) (h0 : 0 ≤ at_) (h1 : at_ ≤ 4611686018427387904) (hn : n ≤ 200) :
    ∃ v at' seed',spec_l00Src_pick.f l at_ seed n = some (v,at',seed') ∧ 0 ≤ v ∧ (v < n ∨ v = 0) ∧ at_ ≤ at' ∧ at' ≤ at_ + 1 := by
  unfold spec_l00Src_pick.f
  by_cases c : n ≤ 1
  · rw [if_pos c]; exact ⟨0,at_,seed,rfl,by omega,by omega,by omega,by omega⟩
  · rw [if_neg c]
    obtain ⟨v,seed',e,h2,h3⟩ := next_f l hl hb at_ seed h0 h1
    rw [e,Option.bind_some,if_neg (by omega),if_neg (by omega)]
    have := tmod_in h2 (show 0 < n by omega)
    exact ⟨_,_,_,rfl,this.1,.inl this.2,by show at_ ≤ at_ + 1; omega,by show at_ + 1 ≤ at_ + 1; omega⟩
theorem one_f (l : List Int) (hl : l.length ≤ 9223372036854775807) (hb : ∀ x ∈ l,(Lit.int .u8 x).wf = true) (at_ seed n : Int) (h0 : 0 ≤ at_) (h1 : at_ ≤ 4611686018427387904) (hn : n ≤ 200) :
    ∃ v at' seed',spec_l00Src_one.f l at_ seed n = some (v,at',seed') ∧ at_ ≤ at' ∧ at' ≤ at_ + 1 := by
  unfold spec_l00Src_one.f
  obtain ⟨v,at',seed',e,_,_,h3,h4⟩ := pick_f l hl hb at_ seed n h0 h1 hn
  rw [e,Option.bind_some]
  exact ⟨_,_,_,rfl,h3,h4⟩
def tr (i j p : Nat) : Nat := if p = j then i else if p = i then j else p
theorem tr_lt {i j p n : Nat} (hi : i < n) (hj : j < n) (hp : p < n) : tr i j p < n := by unfold tr; split; exact hi; split; exact hj; exact hp
theorem tr_tr (i j p : Nat) : tr i j (tr i j p) = p := by
  unfold tr
  by_cases c : p = j
  · subst c
    rw [if_pos rfl]
    by_cases c2 : i = p
    · rw [if_pos c2,c2]
    · rw [if_neg c2,if_pos rfl]
  · rw [if_neg c]
    by_cases c2 : p = i
    · subst c2
      rw [if_pos rfl,if_pos rfl]
    · rw [if_neg c2,if_neg c,if_neg c2]
theorem tr_inj {i j p q : Nat} (h : tr i j p = tr i j q) : p = q := by rw [← tr_tr i j p,h,tr_tr]
def sw (L : List ByteArray) (i j : Nat) : List ByteArray := (L.set i (rdOf ByteArray.empty L (j : Int))).set j (rdOf ByteArray.empty L (i : Int))
theorem sw_length (L : List ByteArray) (i j : Nat) : (sw L i j).length = L.length := by unfold sw; rw [List.length_set,List.length_set]
theorem sw_get (L : List ByteArray) (i j : Nat) (hi : i < L.length) (hj : j < L.length) (p : Nat) (h : p < (sw L i j).length) (hp : p < L.length) : (sw L i j)[p] = L[tr i j p]'(tr_lt hi hj hp) := by
  have r1 := rdS_get L i hi
  have r2 := rdS_get L j hj
  have e : (sw L i j)[p]? = some (L[tr i j p]'(tr_lt hi hj hp)) := by
    unfold sw
    rw [r1,r2,List.getElem?_set,List.getElem?_set,List.length_set]
    by_cases c : j = p
    · subst c
      rw [if_pos rfl,if_pos hj]
      congr 1
      have : tr i j j = i := by unfold tr; rw [if_pos rfl]
      simp only [this]
    · rw [if_neg c]
      by_cases c2 : i = p
      · subst c2
        rw [if_pos rfl,if_pos hi]
        congr 1
        have : tr i j i = j := by unfold tr; rw [if_neg (fun e => c e.symm),if_pos rfl]
        simp only [this]
      · rw [if_neg c2,List.getElem?_eq_getElem hp]
        congr 1
        have : tr i j p = p := by unfold tr; rw [if_neg (fun e => c e.symm),if_neg (fun e => c2 e.symm)]
        simp only [this]
  rw [List.getElem?_eq_getElem h] at e
  exact Option.some.inj e
theorem sw_sw (L : List ByteArray) (i j : Nat) (hi : i < L.length) (hj : j < L.length) : sw (sw L i j) i j = L := by
  apply List.ext_getElem (by rw [sw_length,sw_length])
  intro p h1 h2
  have hl := sw_length L i j
  rw [sw_get (sw L i j) i j (hl ▸ hi) (hl ▸ hj) p h1 (hl ▸ h2),sw_get L i j hi hj _ _ (tr_lt hi hj h2)]
  simp only [tr_tr]
theorem sw_mem {L : List ByteArray} {i j : Nat} (hi : i < L.length) (hj : j < L.length) {s : ByteArray} (h : s ∈ sw L i j) : s ∈ L := by
  obtain ⟨p,hp,rfl⟩ := List.mem_iff_getElem.1 h
  rw [sw_get L i j hi hj p hp (by rw [sw_length] at hp; exact hp)]
  exact List.getElem_mem _
theorem WOK.ne {L : List ByteArray} {c o : Int} (h : ∀ (i : Nat) (hi : i < L.length),WOK L c o i hi) {p q : Nat} (hp : p < L.length) (hq : q < L.length) (e : L[p].toList = L[q].toList) : p = q := by
  rcases Nat.lt_trichotomy p q with g | g | g
  · exact absurd e ((h q hq).2.2.2 p g)
  · exact g
  · exact absurd e.symm ((h p hp).2.2.2 q g)
theorem WOK.sw {L : List ByteArray} {c o : Int} (h : ∀ (i : Nat) (hi : i < L.length),WOK L c o i hi) {i j : Nat} (hi : i < L.length) (hj : j < L.length) : ∀ (p : Nat) (hp : p < (sw L i j).length),WOK (sw L i j) c o p hp := by
  intro p hp
  have hp' : p < L.length := by rw [sw_length] at hp; exact hp
  obtain ⟨w1,w2,w3,_⟩ := h (tr i j p) (tr_lt hi hj hp')
  unfold WOK
  rw [sw_get L i j hi hj p hp hp']
  refine ⟨w1,w2,w3,fun q hq e => ?_⟩
  rw [sw_get L i j hi hj q (Nat.lt_trans hq hp) (Nat.lt_trans hq hp')] at e
  exact absurd (tr_inj (WOK.ne h _ _ e)) (Nat.ne_of_lt hq)
theorem VC.sw {a0 a1 : Int} {L2 L3 : List ByteArray} (h : VC a0 a1 L2 L3) {i j : Nat} (hi : i < L2.length) (hj : j < L2.length) : VC a0 a1 (sw L2 i j) (sw L3 i j) := by
  have hl : L3.length = L2.length := by have := h.n2; have := h.n3; omega
  have hi3 : i < L3.length := by rw [hl]; exact hi
  have hj3 : j < L3.length := by rw [hl]; exact hj
  refine ⟨h.data,h.width,h.even,by rw [sw_length]; exact h.n2,by rw [sw_length]; exact h.n3,WOK.sw h.w2 hi hj,WOK.sw h.w3 hi3 hj3,fun p hp q hq e => ?_⟩
  rw [sw_get L2 i j hi hj p hp (by rw [sw_length] at hp; exact hp),sw_get L3 i j hi3 hj3 q hq (by rw [sw_length] at hq; exact hq)] at e
  exact tr_inj (h.cross _ _ _ _ e)
theorem among_f (l : List Int) (hl : l.length ≤ 9223372036854775807) (hb : ∀ x ∈ l,(Lit.int .u8 x).wf = true) (at_ seed : Int) (h0 : 0 ≤ at_) (h1 : at_ ≤ 4611686018427387904) (x y : Int) :
    ∃ v at' seed',spec_l00Src_among.f l at_ seed [x,y] = some (v,at',seed') ∧ (v = x ∨ v = y) ∧ at_ ≤ at' ∧ at' ≤ at_ + 1 := by
  obtain ⟨v,at',seed',e,v1,v2,v3,v4⟩ := pick_f l hl hb at_ seed 2 h0 h1 (by decide)
  unfold spec_l00Src_among.f
  rw [show (([x,y] : List Int).length : Int) = 2 from rfl,e,Option.bind_some,if_pos v1,if_pos (by omega)]
  refine ⟨_,_,_,rfl,?_,v3,v4⟩
  have : v = 0 ∨ v = 1 := by omega
  rcases this with rfl | rfl
  · exact .inl rfl
  · exact .inr rfl
theorem draw_loop (l : List Int) (hl : l.length ≤ 9223372036854775807) (hb : ∀ x ∈ l,(Lit.int .u8 x).wf = true) (a0 a1 : Int) (n : Nat) (c : Nat) : ∀ (at_ seed : Int) (L2 L3 : List ByteArray),VC a0 a1 L2 L3 → L2.length = n → 0 ≤ at_ → at_ + 3 * c ≤ 1000 → c ≤ 100 →
    ∃ L2' L3' at' seed',VC a0 a1 L2' L3' ∧ Ev (fun k => spec_l03DrawOk.l0 k (n : Int) (c : Int) l at_ seed a0 a1 L2 L3) (a0,a1,L2',L3',at',seed') := by
  induction c with
  | zero => intro at_ seed L2 L3 hv hn h0 h1 _; exact ⟨L2,L3,at_,seed,hv,ev_one (fun k => by rw [spec_l03DrawOk.l0,if_neg (by decide)])⟩
  | succ c ih =>
    intro at_ seed L2 L3 hv hn h0 h1 hc
    obtain ⟨hl2,hl3⟩ := hv.le64
    obtain ⟨hp2,hp3⟩ := hv.pos
    have h23 : L3.length = L2.length := by have := hv.n2; have := hv.n3; omega
    obtain ⟨i,at1,sd1,e1,i1,i2,i3,i4⟩ := pick_f l hl hb at_ seed (n : Int) h0 (by omega) (by omega)
    obtain ⟨j,at2,sd2,e2,j1,j2,j3,j4⟩ := pick_f l hl hb at1 sd1 (n : Int) (by omega) (by omega) (by omega)
    obtain ⟨b,at3,sd3,e3,b3,b4⟩ := one_f l hl hb at2 sd2 3 (by omega) (by omega) (by decide)
    obtain ⟨p,rfl⟩ := Int.eq_ofNat_of_zero_le i1
    obtain ⟨q,rfl⟩ := Int.eq_ofNat_of_zero_le j1
    have hp : p < L2.length := by omega
    have hq : q < L2.length := by omega
    have hwc : wrap64 (((c + 1 : Nat) : Int) - 1) = (c : Int) := by rw [wrap64_in (by omega) (by omega)]; omega
    have s2 : ∀ s ∈ sw L2 p q,s.size ≤ 1048576 := fun s h => by have := (hv.mem (.inl (sw_mem hp hq h))).2.2; omega
    have s3 : ∀ s ∈ L3,s.size ≤ 1048576 := fun s h => by have := (hv.mem (.inr h)).2.2; omega
    have hsl := sw_length L2 p q
    have fin : ∀ (M2 M3 : List ByteArray),VC a0 a1 M2 M3 → M2.length = n → ∃ L2' L3' at' seed',VC a0 a1 L2' L3' ∧ Ev (fun k => spec_l03DrawOk.l0 k (n : Int) (c : Int) l at3 sd3 a0 a1 M2 M3) (a0,a1,L2',L3',at',seed') := fun M2 M3 hm hmn => ih at3 sd3 M2 M3 hm hmn (by omega) (by omega) (by omega)
    have toN1 : ((p : Int)).toNat = p := Int.toNat_natCast p
    have toN2 : ((q : Int)).toNat = q := Int.toNat_natCast q
    have hp3' : p < L3.length := by rw [h23]; exact hp
    have hq3' : q < L3.length := by rw [h23]; exact hq
    have c1 : ((p : Nat) : Int) < (L2.length : Int) := by omega
    have c2 : ((q : Nat) : Int) < (L2.length : Int) := by omega
    have c3 : ((p : Nat) : Int) < (L3.length : Int) := by omega
    have c4 : ((q : Nat) : Int) < (L3.length : Int) := by omega
    have cpos : ((c + 1 : Nat) : Int) > 0 := by omega
    cases b with
    | true =>
      obtain ⟨r,r1,_,r3⟩ := code_both a0 a1 (sw L2 p q) L3 (by omega) (by omega) s2 s3
      obtain ⟨K,hr⟩ := r1
      have hr' := fun k hk => (show spec_l03Is.f k a0 a1 (sw L2 p q) L3 = some r from hr k hk)
      cases r with
      | true =>
        obtain ⟨L2',L3',at',sd',v',K2,g⟩ := fin (sw L2 p q) L3 (r3 rfl) (by omega)
        refine ⟨L2',L3',at',sd',v',K + K2 + 1,fun k hk => ?_⟩
        obtain ⟨k,rfl⟩ : ∃ q,k = q + 1 := ⟨k - 1,by omega⟩
        show spec_l03DrawOk.l0 (k + 1) (n : Int) ((c + 1 : Nat) : Int) l at_ seed a0 a1 L2 L3 = _
        rw [spec_l03DrawOk.l0,if_pos cpos,e1,Option.bind_some,e2,Option.bind_some,if_pos i1,if_pos c1,if_pos j1,if_pos c2,toN1,toN2,Option.bind_some,e3,Option.bind_some,if_pos rfl]
        show ((spec_l03Is.f k a0 a1 (sw L2 p q) L3).bind _) = _
        rw [hr' k (by omega),Option.bind_some,if_pos rfl,hwc]
        exact g k (by omega)
      | false =>
        obtain ⟨L2',L3',at',sd',v',K2,g⟩ := fin L2 L3 hv hn
        refine ⟨L2',L3',at',sd',v',K + K2 + 1,fun k hk => ?_⟩
        obtain ⟨k,rfl⟩ : ∃ q,k = q + 1 := ⟨k - 1,by omega⟩
        show spec_l03DrawOk.l0 (k + 1) (n : Int) ((c + 1 : Nat) : Int) l at_ seed a0 a1 L2 L3 = _
        rw [spec_l03DrawOk.l0,if_pos cpos,e1,Option.bind_some,e2,Option.bind_some,if_pos i1,if_pos c1,if_pos j1,if_pos c2,toN1,toN2,Option.bind_some,e3,Option.bind_some,if_pos rfl]
        show ((spec_l03Is.f k a0 a1 (sw L2 p q) L3).bind _) = _
        rw [hr' k (by omega),Option.bind_some,if_neg Bool.false_ne_true,hwc]
        have e := sw_sw L2 p q hp hq
        show spec_l03DrawOk.l0 k (n : Int) (c : Int) l at3 sd3 a0 a1 (sw (sw L2 p q) p q) L3 = _
        rw [e]
        exact g k (by omega)
    | false =>
      have hv2 := hv.sw hp hq
      obtain ⟨K,hr⟩ := code_yes a0 a1 _ _ hv2
      have hr' := fun k hk => (show spec_l03Is.f k a0 a1 (sw L2 p q) (sw L3 p q) = some true from hr k hk)
      obtain ⟨L2',L3',at',sd',v',K2,g⟩ := fin (sw L2 p q) (sw L3 p q) hv2 (by omega)
      refine ⟨L2',L3',at',sd',v',K + K2 + 1,fun k hk => ?_⟩
      obtain ⟨k,rfl⟩ : ∃ q,k = q + 1 := ⟨k - 1,by omega⟩
      show spec_l03DrawOk.l0 (k + 1) (n : Int) ((c + 1 : Nat) : Int) l at_ seed a0 a1 L2 L3 = _
      rw [spec_l03DrawOk.l0,if_pos cpos,e1,Option.bind_some,e2,Option.bind_some,if_pos i1,if_pos c1,if_pos j1,if_pos c2,toN1,toN2,Option.bind_some,e3,Option.bind_some,if_neg Bool.false_ne_true,if_pos c3,if_pos c4,Option.bind_some]
      show ((spec_l03Is.f k a0 a1 (sw L2 p q) (sw L3 p q)).bind _) = _
      rw [hr' k (by omega),Option.bind_some,if_pos rfl,hwc]
      exact g k (by omega)
theorem draw_j1 (l : List Int) (hl : l.length ≤ 9223372036854775807) (hb : ∀ x ∈ l,(Lit.int .u8 x).wf = true) (a0 a1 at_ seed : Int) (L2 L3 : List ByteArray) (hv : VC a0 a1 L2 L3) (h0 : 0 ≤ at_) (h1 : at_ ≤ 500) :
    ∃ L2' L3' at' seed',VC a0 a1 L2' L3' ∧ Ev (fun k => spec_l03DrawOk.j1 k l at_ seed a0 a1 L2 L3) (a0,a1,L2',L3',at',seed') := by
  obtain ⟨c,at1,sd1,e1,c1,c2,c3,c4⟩ := pick_f l hl hb at_ seed 4 h0 (by omega) (by decide)
  obtain ⟨p,rfl⟩ := Int.eq_ofNat_of_zero_le c1
  obtain ⟨L2',L3',at',sd',v',g⟩ := draw_loop l hl hb a0 a1 L2.length p at1 sd1 L2 L3 hv rfl (by omega) (by omega) (by omega)
  exact ⟨L2',L3',at',sd',v',Ev.step (fun k => by rw [spec_l03DrawOk.j1,e1,Option.bind_some]) g⟩
theorem draw_j0 (l : List Int) (hl : l.length ≤ 9223372036854775807) (hb : ∀ x ∈ l,(Lit.int .u8 x).wf = true) (at_ seed : Int) (h0 : 0 ≤ at_) (h1 : at_ ≤ 500) (m w : Nat) (h : 1 ≤ m ∧ m ≤ 3 ∧ (w = 2 ∨ w = 4 ∨ w = 6) ∨ (m = 5 ∨ m = 6) ∧ (w = 8 ∨ w = 10)) :
    ∃ a1 L2' L3' at' seed',VC (m : Int) a1 L2' L3' ∧ Ev (fun k => spec_l03DrawOk.j0 k (m : Int) (w : Int) l at_ seed) ((m : Int),a1,L2',L3',at',seed') := by
  obtain ⟨Y,y1,K,y2⟩ := make_ev w m (by omega) (by omega) (by omega) (by omega)
  have y2' := fun k hk => (show spec_l03Make.f k (m : Int) (w : Int) = some ((m : Int),(w : Int),mL w Y,pL w Y,decide (Y.length = 2 ^ m)) from y2 k hk)
  by_cases c : Y.length = 2 ^ m
  · have hv := made_VC w m (by omega) (by omega) (by omega) (by omega) (by omega) Y y1 c
    obtain ⟨L2',L3',at',sd',v',K2,g⟩ := draw_j1 l hl hb _ _ at_ seed _ _ hv h0 h1
    refine ⟨_,L2',L3',at',sd',v',K + K2 + 1,fun k hk => ?_⟩
    obtain ⟨k,rfl⟩ : ∃ q,k = q + 1 := ⟨k - 1,by omega⟩
    show spec_l03DrawOk.j0 (k + 1) (m : Int) (w : Int) l at_ seed = _
    rw [spec_l03DrawOk.j0,y2' k (by omega),Option.bind_some,if_pos (decide_eq_true c)]
    exact g k (by omega)
  · have hm3 : m ≤ 3 := by
      rcases h with h | ⟨h,h'⟩
      · omega
      · exfalso
        have p5 : (2 : Nat) ^ 5 = 32 := by decide
        have p6 : (2 : Nat) ^ 6 = 64 := by decide
        have b8 := bal8
        have b10 := bal10
        refine c (made_enough w (2 ^ m) (by omega) ?_ Y y1)
        rcases h with rfl | rfl <;> rcases h' with rfl | rfl <;> omega
    have p3 : 2 ^ m ≤ 2 ^ 3 := Nat.pow_le_pow_right (by decide) hm3
    have p3' : (2 : Nat) ^ 3 = 8 := by decide
    have b6 := bal6
    obtain ⟨Z,z1,K3,z2⟩ := make_ev 6 m (by decide) (by omega) (by omega) (by decide)
    have z2' := fun k hk => (show spec_l03Make.f k (m : Int) 6 = some ((m : Int),6,mL 6 Z,pL 6 Z,decide (Z.length = 2 ^ m)) from z2 k hk)
    have cz := made_enough 6 (2 ^ m) (by decide) (by omega) Z z1
    have hv := made_VC 6 m (by decide) (by decide) (by decide) (by omega) (by omega) Z z1 cz
    obtain ⟨L2',L3',at',sd',v',K2,g⟩ := draw_j1 l hl hb _ _ at_ seed _ _ hv h0 h1
    refine ⟨_,L2',L3',at',sd',v',K + K2 + K3 + 1,fun k hk => ?_⟩
    obtain ⟨k,rfl⟩ : ∃ q,k = q + 1 := ⟨k - 1,by omega⟩
    show spec_l03DrawOk.j0 (k + 1) (m : Int) (w : Int) l at_ seed = _
    rw [spec_l03DrawOk.j0,y2' k (by omega),Option.bind_some,if_neg (by rw [decide_eq_true_iff]; exact c),z2' k (by omega),Option.bind_some]
    exact g k (by omega)
theorem block_ev (l : List Int) (hl : l.length ≤ 9223372036854775807) (hb : ∀ x ∈ l,(Lit.int .u8 x).wf = true) : ∃ a0 a1 L2 L3,VC a0 a1 L2 L3 ∧ Ev (fun k => spec_B10Block.f k l) (a0,a1,L2,L3) := by
  obtain ⟨d,at1,sd1,e1,d1,d2,d3,d4⟩ := pick_f l hl hb 0 0 3 (by decide) (by decide) (by decide)
  obtain ⟨v,at2,sd2,e2,v1,v2,v3,v4⟩ := pick_f l hl hb at1 sd1 3 (by omega) (by omega) (by decide)
  obtain ⟨b,at3,sd3,e3,b3,b4⟩ := one_f l hl hb at2 sd2 12 (by omega) (by omega) (by decide)
  have main : ∃ a0 a1 L2 L3 at' sd',VC a0 a1 L2 L3 ∧ Ev (fun k => spec_l03DrawOk.f k l 0 0) (a0,a1,L2,L3,at',sd') := by
    unfold spec_l03DrawOk.f
    cases b with
    | true =>
      obtain ⟨x,at4,sd4,e4,x1,x3,x4⟩ := among_f l hl hb at3 sd3 (by omega) (by omega) 5 6
      obtain ⟨y,at5,sd5,e5,y1,y3,y4⟩ := among_f l hl hb at4 sd4 (by omega) (by omega) 8 10
      obtain ⟨m,rfl⟩ := Int.eq_ofNat_of_zero_le (show 0 ≤ x by omega)
      obtain ⟨w,rfl⟩ := Int.eq_ofNat_of_zero_le (show 0 ≤ y by omega)
      obtain ⟨a1,L2,L3,at',sd',hv,g⟩ := draw_j0 l hl hb at5 sd5 (by omega) (by omega) m w (.inr ⟨by omega,by omega⟩)
      exact ⟨_,a1,L2,L3,at',sd',hv,ev_to e1 (ev_to e2 (ev_to e3 (ev_pos rfl (ev_to e4 (ev_to e5 g)))))⟩
    | false =>
      obtain ⟨dn,rfl⟩ := Int.eq_ofNat_of_zero_le d1
      obtain ⟨vn,rfl⟩ := Int.eq_ofNat_of_zero_le v1
      have w1 : wrap64 (1 + (dn : Int)) = ((dn + 1 : Nat) : Int) := by rw [wrap64_in (by omega) (by omega)]; omega
      have w2 : wrap64 (2 * wrap64 (1 + (vn : Int))) = ((2 * (vn + 1) : Nat) : Int) := by
        rw [wrap64_in (x := 1 + (vn : Int)) (by omega) (by omega),wrap64_in (by omega) (by omega)]; omega
      obtain ⟨a1,L2,L3,at',sd',hv,g⟩ := draw_j0 l hl hb at3 sd3 (by omega) (by omega) (dn + 1) (2 * (vn + 1)) (.inl ⟨by omega,by omega,by omega⟩)
      refine ⟨_,a1,L2,L3,at',sd',hv,ev_to e1 (ev_to e2 (ev_to e3 (ev_neg Bool.false_ne_true ?_)))⟩
      show Ev (fun k => spec_l03DrawOk.j0 k (wrap64 (1 + (dn : Int))) (wrap64 (2 * wrap64 (1 + (vn : Int)))) l at3 sd3) _
      rw [w1,w2]
      exact g
  obtain ⟨a0,a1,L2,L3,at',sd',hv,g⟩ := main
  refine ⟨a0,a1,L2,L3,hv,?_⟩
  unfold spec_B10Block.f spec_l00From.f
  exact ev_some (Ev.bind (f := fun k (t : Int × Int × List ByteArray × List ByteArray × Int × Int) => some (t.1,t.2.1,t.2.2.1,t.2.2.2.1)) g (Ev.now _))
theorem data_loop (l : List Int) (hl : l.length ≤ 9223372036854775807) (hb : ∀ x ∈ l,(Lit.int .u8 x).wf = true) (a0 a1 : Int) (L2 L3 : List ByteArray) (ha : 1 ≤ a0 ∧ a0 ≤ 6) (hs : shl .i64 1 a0 ≤ 64) (hs0 : 0 < shl .i64 1 a0) (c : Nat) : ∀ (at_ seed : Int) (o : List Int),0 ≤ at_ → at_ + c ≤ 100 → o.length + c ≤ 100 → (∀ x ∈ o,0 ≤ x ∧ x ≤ wrap64 (shl .i64 1 a0 - 1)) →
    ∃ D,D.length = o.length + c ∧ (∀ x ∈ D,0 ≤ x ∧ x ≤ wrap64 (shl .i64 1 a0 - 1)) ∧ Ev (fun k => spec_B10Data.l0 k o (c : Int) a0 a1 L2 L3 l at_ seed) D := by
  have hu : IntKind.u64.wrap a0 = a0 := u64_in (by omega) (by omega)
  have hw : wrap64 (shl .i64 1 a0 - 1) = shl .i64 1 a0 - 1 := wrap64_in (by omega) (by omega)
  induction c with
  | zero => intro at_ seed o h0 h1 h2 h3; exact ⟨o,rfl,h3,ev_one (fun k => by rw [spec_B10Data.l0,if_neg (by decide)])⟩
  | succ c ih =>
    intro at_ seed o h0 h1 h2 h3
    obtain ⟨v,at1,sd1,e1,v1,v2,v3,v4⟩ := pick_f l hl hb at_ seed (shl .i64 1 a0) h0 (by omega) (by omega)
    have hwc : wrap64 (((c + 1 : Nat) : Int) - 1) = (c : Int) := by rw [wrap64_in (by omega) (by omega)]; omega
    obtain ⟨D,d1,d2,d3⟩ := ih at1 sd1 (o ++ [v]) (by omega) (by omega) (by rw [List.length_append]; show o.length + 1 + c ≤ 100; omega) (fun x hx => by
      rcases List.mem_append.1 hx with hx | hx
      · exact h3 x hx
      · rw [List.mem_singleton] at hx
        subst hx
        rw [hw]
        exact ⟨v1,by omega⟩)
    refine ⟨D,by rw [d1,List.length_append]; show o.length + 1 + c = _; omega,d2,Ev.step (fun k => ?_) d3⟩
    rw [spec_B10Data.l0,if_pos (by omega),hu,if_pos (by omega),e1,Option.bind_some,if_pos (by omega),hwc]
theorem data_ev (l : List Int) (hl : l.length ≤ 9223372036854775807) (hb : ∀ x ∈ l,(Lit.int .u8 x).wf = true) {a0 a1 : Int} {L2 L3 : List ByteArray} (hv : VC a0 a1 L2 L3) : ∃ D : List Int,D.length ≤ 8 ∧ (∀ x ∈ D,0 ≤ x ∧ x ≤ wrap64 (shl .i64 1 a0 - 1)) ∧ Ev (fun k => spec_B10Data.f k l a0 a1 L2 L3) D := by
  obtain ⟨v,at1,sd1,e1,v1,v2,v3,v4⟩ := pick_f l hl hb 0 0 9 (by decide) (by decide) (by decide)
  obtain ⟨p,rfl⟩ := Int.eq_ofNat_of_zero_le v1
  have hpos := hv.pos
  have hn2 := hv.n2
  obtain ⟨D,d1,d2,d3⟩ := data_loop l hl hb a0 a1 L2 L3 hv.data (shl_data a0 hv.data).2 (by omega) p at1 sd1 [] (by omega) (by omega) (by simp; omega) (fun x hx => by cases hx)
  refine ⟨D,by rw [d1]; show 0 + p ≤ 8; omega,d2,?_⟩
  unfold spec_B10Data.f spec_l00From.f
  exact ev_some (ev_to e1 d3)
theorem b10At_f (l : List Int) (hl : l.length ≤ 9223372036854775807) (hb : ∀ x ∈ l,(Lit.int .u8 x).wf = true) (i n : Int) (hi : 0 ≤ i) (hi2 : i ≤ 1000) (hn : 1 < n) : ∃ v,laws_b10At.f l i n = some v ∧ 0 ≤ v ∧ v < n := by
  unfold laws_b10At.f
  rw [if_neg (by omega)]
  by_cases c2 : i < (l.length : Int)
  · rw [if_pos c2,if_pos hi,if_neg (by omega)]
    have h := byte_of l hb i hi c2
    rw [wrap64_in (x := rd l i) (by omega) (by omega)]
    have := tmod_in h.1 (show 0 < n by omega)
    exact ⟨_,rfl,this.1,this.2⟩
  · rw [if_neg c2,if_neg (by omega)]
    rw [wrap64_in (x := i * 37) (by omega) (by omega),wrap64_in (x := i * 37 + 11) (by omega) (by omega)]
    have := tmod_in (show 0 ≤ i * 37 + 11 by omega) (show 0 < n by omega)
    exact ⟨_,rfl,this.1,this.2⟩
theorem valid_impl (a0 a1 : Int) (L2 L3 : List ByteArray) (hv : VC a0 a1 L2 L3) : Ev (fun k => impl_ValidBlockCode.f k a0 a1 L2 L3) true := by
  obtain ⟨hl2,hl3⟩ := hv.le64
  obtain ⟨r,r1,r2,_⟩ := code_both a0 a1 L2 L3 (by omega) (by omega) (fun s h => by have := (hv.mem (.inl h)).2.2; omega) (fun s h => by have := (hv.mem (.inr h)).2.2; omega)
  obtain rfl := code_no hv r1
  exact r2
def bump (y : List Int) : List Int := y.set (wrap64 ((y.length : Int) - 1)).toNat (wrap64 ((rd y (wrap64 ((y.length : Int) - 1))) + 1))
theorem last_in (y : List Int) (h0 : 0 < y.length) (h1 : y.length ≤ 2000000) : 0 ≤ wrap64 ((y.length : Int) - 1) ∧ wrap64 ((y.length : Int) - 1) < (y.length : Int) := by
  rw [wrap64_in (by omega) (by omega)]; omega
def rr : List UInt8 → List Nat
  | [] => []
  | [_] => [1]
  | x :: y :: l => if x = y then (match rr (y :: l) with | [] => [1] | n :: t => (n + 1) :: t) else 1 :: rr (y :: l)
theorem rr_two (x y : UInt8) (l : List UInt8) : rr (x :: y :: l) = if x = y then (match rr (y :: l) with | [] => [1] | n :: t => (n + 1) :: t) else 1 :: rr (y :: l) := rfl
theorem rr_ne (l : List UInt8) : ∀ x,∃ n t,rr (x :: l) = n :: t ∧ 1 ≤ n ∧ n ≤ (x :: l).length ∧ (x :: l).take n = List.replicate n x := by
  induction l with
  | nil => intro x; exact ⟨1,[],rfl,Nat.le_refl _,Nat.le_refl _,rfl⟩
  | cons y l ih =>
    intro x
    obtain ⟨n,t,e,h1,h2,h3⟩ := ih y
    rw [rr_two,e]
    by_cases c : x = y
    · rw [if_pos c]
      refine ⟨n + 1,t,rfl,by omega,by simp only [List.length_cons] at h2 ⊢; omega,?_⟩
      rw [List.take_succ_cons,h3,List.replicate_succ,c]
    · rw [if_neg c]
      exact ⟨1,n :: t,rfl,Nat.le_refl _,by simp,rfl⟩
theorem rr_step {x y : UInt8} {l : List UInt8} {n : Nat} {t : List Nat} (e : rr (y :: l) = n :: t) : rr (x :: y :: l) = if x = y then (n + 1) :: t else 1 :: n :: t := by
  rw [rr_two,e]
theorem rr_replicate (b : UInt8) (m : Nat) : rr (List.replicate (m + 1) b) = [m + 1] := by
  induction m with
  | zero => rfl
  | succ m ih =>
    rw [List.replicate_succ,List.replicate_succ]
    rw [List.replicate_succ] at ih
    rw [rr_step ih,if_pos rfl]
theorem rr_app (b : UInt8) (m : Nat) (l : List UInt8) : ∀ x,rr ((x :: l) ++ List.replicate (m + 1) b) =
    if (x :: l).getLast (by simp) = b then (rr (x :: l)).dropLast ++ [(rr (x :: l)).getLast (by obtain ⟨n,t,e,_⟩ := rr_ne l x; rw [e]; simp) + (m + 1)] else rr (x :: l) ++ [m + 1] := by
  induction l with
  | nil =>
    intro x
    have e : rr (List.replicate (m + 1) b) = [m + 1] := rr_replicate b m
    rw [List.replicate_succ] at e ⊢
    show rr (x :: b :: List.replicate m b) = _
    rw [rr_step e]
    show _ = if x = b then _ else _
    by_cases c : x = b
    · rw [if_pos c,if_pos c]
      show [m + 1 + 1] = [1 + (m + 1)]
      rw [Nat.add_comm 1 (m + 1)]
    · rw [if_neg c,if_neg c]; rfl
  | cons y l ih =>
    intro x
    have h := ih y
    obtain ⟨n,t,e,_⟩ := rr_ne l y
    obtain ⟨n',t',e',_⟩ := rr_ne (l ++ List.replicate (m + 1) b) y
    have e1 := rr_step (x := x) e
    have e2 : rr ((x :: y :: l) ++ List.replicate (m + 1) b) = if x = y then (n' + 1) :: t' else 1 :: n' :: t' := rr_step (x := x) e'
    have e3 : rr ((y :: l) ++ List.replicate (m + 1) b) = n' :: t' := e'
    rw [e3] at h
    have hl : (x :: y :: l).getLast (by simp) = (y :: l).getLast (by simp) := List.getLast_cons (by simp)
    rw [e2,hl]
    by_cases c2 : (y :: l).getLast (by simp) = b
    · rw [if_pos c2] at h ⊢
      simp only [e] at h
      simp only [e1]
      by_cases c : x = y
      · simp only [if_pos c]
        cases t with
        | nil =>
          have h' : n' :: t' = [n + (m + 1)] := h
          show (n' + 1) :: t' = [n + 1 + (m + 1)]
          injection h' with h1 h2
          subst h1 h2
          congr 1
          omega
        | cons a t =>
          simp only [List.dropLast_cons_cons,List.cons_append,List.getLast_cons (List.cons_ne_nil a t)] at h ⊢
          injection h with h1 h2
          subst h1
          rw [h2]
      · simp only [if_neg c]
        rw [h]
        simp only [List.dropLast_cons_cons,List.cons_append,List.getLast_cons (List.cons_ne_nil n t)]
    · rw [if_neg c2] at h ⊢
      rw [e] at h
      rw [e1]
      by_cases c : x = y
      · rw [if_pos c,if_pos c]
        injection h with h1 h2
        subst h1
        rw [h2]
        rfl
      · rw [if_neg c,if_neg c,h]
        rfl
theorem rr_sum (l : List UInt8) : (rr l).sum = l.length := by
  induction l with
  | nil => rfl
  | cons x l ih =>
    cases l with
    | nil => rfl
    | cons y l =>
      obtain ⟨n,t,e,_⟩ := rr_ne l y
      rw [e] at ih
      rw [rr_step e]
      split
      · simp only [List.sum_cons,List.length_cons] at ih ⊢; omega
      · simp only [List.sum_cons,List.length_cons] at ih ⊢; omega
theorem rr_pos (l : List UInt8) : ∀ n ∈ rr l,1 ≤ n := by
  induction l with
  | nil => intro n h; cases h
  | cons x l ih =>
    cases l with
    | nil => intro n h; rw [List.mem_singleton.1 h]; exact Nat.le_refl _
    | cons y l =>
      obtain ⟨n,t,e,_⟩ := rr_ne l y
      rw [e] at ih
      rw [rr_step e]
      split
      · intro a ha
        rcases List.mem_cons.1 ha with h | h
        · omega
        · exact ih a (List.mem_cons_of_mem _ h)
      · intro a ha
        rcases List.mem_cons.1 ha with h | h
        · omega
        · exact ih a h
theorem rr_const (l : List UInt8) : ∀ x n,rr (x :: l) = [n] → x :: l = List.replicate n x := by
  intro x n h
  obtain ⟨n',t,e,h1,h2,h3⟩ := rr_ne l x
  rw [h] at e
  injection e with e1 e2
  subst e1
  have := rr_sum (x :: l)
  rw [h] at this
  simp only [List.sum_cons,List.sum_nil,Nat.add_zero] at this
  rw [← h3,this,List.take_length]
def rv (w : ByteArray) : List UInt8 := w.data.toList.reverse
def ln (v : List UInt8) : Nat := (rr v).headD 0
def fr (v : List UInt8) : Nat := (rr v).getLastD 0
def fby (v : List UInt8) : UInt8 := v.getLastD 0
def lby (v : List UInt8) : UInt8 := v.headD 0
theorem getLastD_of {α : Type} {l : List α} {d : α} (h : l ≠ []) : l.getLastD d = l.getLast h := by
  rw [List.getLastD_eq_getLast?,List.getLast?_eq_some_getLast h]
  rfl
theorem rr_nil {v : List UInt8} (h : v ≠ []) : rr v ≠ [] := by
  cases v with
  | nil => exact absurd rfl h
  | cons x l => obtain ⟨n,t,e,_⟩ := rr_ne l x; rw [e]; simp
theorem rr_ahead {v : List UInt8} (h : v ≠ []) (b : UInt8) (m : Nat) : rr (v ++ List.replicate (m + 1) b) = if fby v = b then (rr v).dropLast ++ [fr v + (m + 1)] else rr v ++ [m + 1] := by
  cases v with
  | nil => exact absurd rfl h
  | cons x l =>
    rw [rr_app]
    unfold fby fr
    rw [getLastD_of h,getLastD_of (rr_nil h)]
theorem rr_split {v : List UInt8} (h : v ≠ []) : rr v = (rr v).dropLast ++ [fr v] := by
  unfold fr
  rw [getLastD_of (rr_nil h),List.dropLast_concat_getLast]
theorem ln_ahead {v : List UInt8} (h : v ≠ []) (b : UInt8) (m : Nat) : ln (v ++ List.replicate (m + 1) b) = if (rr v).length = 1 ∧ fby v = b then ln v + (m + 1) else ln v := by
  unfold ln
  rw [rr_ahead h]
  have hs := rr_split h
  have hn := rr_nil h
  generalize rr v = R at hs hn ⊢
  by_cases c : fby v = b
  · rw [if_pos c]
    cases R with
    | nil => exact absurd rfl hn
    | cons a R =>
      cases R with
      | nil =>
        rw [if_pos ⟨rfl,c⟩]
        have hs' : [a] = [fr v] := hs
        injection hs' with e
        rw [e]
        rfl
      | cons a' R =>
        rw [if_neg (by simp)]
        rfl
  · rw [if_neg c,if_neg (fun q => c q.2)]
    cases R with
    | nil => exact absurd rfl hn
    | cons a R => rfl
theorem lby_app {v : List UInt8} (h : v ≠ []) (e : List UInt8) : lby (v ++ e) = lby v := by
  cases v with
  | nil => exact absurd rfl h
  | cons x l => rfl
theorem ln_le {v : List UInt8} : ln v ≤ v.length := by
  cases v with
  | nil => exact Nat.le_refl _
  | cons x l => obtain ⟨n,t,e,h1,h2,_⟩ := rr_ne l x; unfold ln; rw [e]; exact h2
theorem ln_pos {v : List UInt8} (h : v ≠ []) : 1 ≤ ln v := by
  cases v with
  | nil => exact absurd rfl h
  | cons x l => obtain ⟨n,t,e,h1,h2,_⟩ := rr_ne l x; unfold ln; rw [e]; exact h1
theorem ln_mem {v : List UInt8} (h : v ≠ []) : ln v ∈ rr v := by
  have := rr_nil h
  unfold ln
  cases e : rr v with
  | nil => exact absurd e this
  | cons a R => simp
theorem cst_all {v : List UInt8} (h : (rr v).length = 1) : v = List.replicate v.length (lby v) ∧ fr v = v.length ∧ ln v = v.length ∧ fby v = lby v := by
  obtain ⟨n,hn⟩ : ∃ n,rr v = [n] := by
    cases e : rr v with
    | nil => rw [e] at h; cases h
    | cons a R =>
      rw [e] at h
      cases R with
      | nil => exact ⟨a,rfl⟩
      | cons b R => simp at h
  cases v with
  | nil => cases hn
  | cons x l =>
    have e := rr_const l x n hn
    have hl : (x :: l).length = n := by
      have := congrArg List.length e
      rw [List.length_replicate] at this
      exact this
    refine ⟨by rw [hl]; exact e,by unfold fr; rw [hn,hl]; rfl,by unfold ln; rw [hn,hl]; rfl,?_⟩
    show (x :: l).getLastD 0 = x
    rw [e]
    cases n with
    | zero => cases hl
    | succ n => rw [getLastD_of (by simp),List.getLast_replicate]
inductive Reach (L2 L3 : List ByteArray) : Int → List UInt8 → Prop
  | start (s : Int) : s = 1 ∨ s = -1 → Reach L2 L3 s []
  | step {s : Int} {e : List UInt8} {w : ByteArray} : Reach L2 L3 s e → w ∈ lst L2 L3 s → Reach L2 L3 (nxt s w) (List.replicate (ln (rv w ++ e)) (lby (rv w)))
structure Cd (L2 L3 : List ByteArray) (W : Nat) : Prop where
  pos : 1 ≤ W
  size : ∀ s w,w ∈ lst L2 L3 s → (rv w).length = W
  some_ : ∀ s,∃ w,w ∈ lst L2 L3 s
  alone : ∀ s w,s = 1 ∨ s = -1 → w ∈ lst L2 L3 s → (rr (rv w)).length = 1 → ∀ w',w' ∈ lst L2 L3 (nxt s w) → (rr (rv w')).length = 1 → lby (rv w') ≠ lby (rv w)
def OkB (L2 L3 : List ByteArray) (B : Nat) : Prop := ∀ s e w,Reach L2 L3 s e → w ∈ lst L2 L3 s → ∀ n ∈ rr (rv w ++ e),n ≤ B
section
variable {L2 L3 : List ByteArray} {W : Nat} (C : Cd L2 L3 W)
include C
theorem Cd.ne {s : Int} {w : ByteArray} (h : w ∈ lst L2 L3 s) : rv w ≠ [] := by
  intro e
  have := C.size s w h
  have := C.pos
  rw [e] at *
  simp at *
  omega
theorem Cd.reach {s : Int} {e : List UInt8} (h : Reach L2 L3 s e) : (s = 1 ∨ s = -1) ∧ (e = [] ∨ ∃ b m,e = List.replicate (m + 1) b ∧ (∃ s' w,w ∈ lst L2 L3 s' ∧ b = lby (rv w)) ∧ (m + 1 ≤ W ∨ (m + 1 ≤ W + W ∧ ∀ w,w ∈ lst L2 L3 s → (rr (rv w)).length = 1 → lby (rv w) ≠ b))) := by
  induction h with
  | start s hs => exact ⟨hs,.inl rfl⟩
  | @step s e w hr hw ih =>
    refine ⟨nxt_pm ih.1 w,.inr ?_⟩
    have hv := C.ne hw
    have hz := C.size s w hw
    have h1 := ln_pos hv
    have h2 := ln_le (v := rv w)
    have fin : ∀ q,1 ≤ q → q = ln (rv w ++ e) → (q ≤ W ∨ (q ≤ W + W ∧ ∀ w',w' ∈ lst L2 L3 (nxt s w) → (rr (rv w')).length = 1 → lby (rv w') ≠ lby (rv w))) → ∃ b m,List.replicate (ln (rv w ++ e)) (lby (rv w)) = List.replicate (m + 1) b ∧ (∃ s' w,w ∈ lst L2 L3 s' ∧ b = lby (rv w)) ∧ (m + 1 ≤ W ∨ (m + 1 ≤ W + W ∧ ∀ w',w' ∈ lst L2 L3 (nxt s w) → (rr (rv w')).length = 1 → lby (rv w') ≠ b)) := by
      intro q q1 q2 q3
      refine ⟨lby (rv w),q - 1,by rw [← q2,Nat.sub_add_cancel q1],⟨s,w,hw,rfl⟩,?_⟩
      rw [Nat.sub_add_cancel q1]
      exact q3
    rcases ih.2 with rfl | ⟨b,m,rfl,_,hb⟩
    · exact fin (ln (rv w)) h1 (by rw [List.append_nil]) (.inl (by omega))
    · have hl := ln_ahead hv b m
      by_cases c : (rr (rv w)).length = 1 ∧ fby (rv w) = b
      · rw [if_pos c] at hl
        refine fin _ (by omega) hl.symm (.inr ⟨?_,fun w' hw' h' => C.alone s w ih.1 hw c.1 w' hw' h'⟩)
        rcases hb with hb | ⟨_,hb⟩
        · omega
        · exact absurd ((cst_all c.1).2.2.2.symm.trans c.2) (hb w hw c.1)
      · rw [if_neg c] at hl
        exact fin _ h1 hl.symm (.inl (by omega))
end
def RI (l : List Nat) : List Int := l.map Int.ofNat
def RS (s : ByteArray) : List Int := RI (rr (rv s)).reverse
theorem RI_len (l : List Nat) : (RI l).length = l.length := by unfold RI; rw [List.length_map]
theorem RI_snoc (l : List Nat) (n : Nat) : RI (l ++ [n]) = RI l ++ [(n : Int)] := by unfold RI; rw [List.map_append]; rfl
theorem rr_len (l : List UInt8) : (rr l).length ≤ l.length := by
  have h1 := rr_sum l
  have h2 := rr_pos l
  have : ∀ R : List Nat,(∀ n ∈ R,1 ≤ n) → R.length ≤ R.sum := by
    intro R
    induction R with
    | nil => intro _; exact Nat.le_refl _
    | cons a R ih =>
      intro h
      have := ih (fun n hn => h n (List.mem_cons_of_mem _ hn))
      have := h a List.mem_cons_self
      simp only [List.length_cons,List.sum_cons]
      omega
  have := this _ h2
  omega
theorem bump_RI (n : Nat) (t : List Nat) (hn : n ≤ 2000000) (ht : t.length ≤ 2000000) : bump (RI (n :: t).reverse) = RI ((n + 1) :: t).reverse := by
  rw [List.reverse_cons,List.reverse_cons,RI_snoc,RI_snoc]
  have hl : (RI t.reverse).length = t.length := by rw [RI_len,List.length_reverse]
  generalize RI t.reverse = A at hl ⊢
  have hw : wrap64 (((A ++ [(n : Int)]).length : Int) - 1) = (A.length : Int) := by
    rw [List.length_append,List.length_singleton,wrap64_in (by omega) (by omega)]
    omega
  unfold bump
  rw [hw,Int.toNat_natCast]
  have hr : rd (A ++ [(n : Int)]) (A.length : Int) = (n : Int) := by
    rw [rd_get _ _ (by rw [List.length_append,List.length_singleton]; omega)]
    simp
  rw [hr,wrap64_in (by omega) (by omega)]
  simp
theorem bt_eq (s : ByteArray) (i j : Nat) (hi : i < s.data.toList.length) (hj : j < s.data.toList.length) : bt s (i : Int) = bt s (j : Int) ↔ s.data.toList[i] = s.data.toList[j] := by
  rw [bt_l s i hi,bt_l s j hj,← UInt8.toNat_inj]
  omega
theorem runs_loop (s : ByteArray) (hs : s.size ≤ 1048576) (d : Nat) : ∀ (j : Nat) (o : List Int),j + d = s.size → o = RI (rr (s.data.toList.take j).reverse).reverse →
    Ev (fun k => impl_runLengths.l0 k s o (s.size : Int) (j : Int)) (RS s) := by
  have hz := size_l s
  induction d with
  | zero =>
    intro j o h ho
    rw [List.take_of_length_le (by omega)] at ho
    subst ho
    exact ev_one (fun k => by rw [impl_runLengths.l0,if_neg (by omega)]; rfl)
  | succ d ih =>
    intro j o h ho
    have hj : j < s.data.toList.length := by omega
    have hw := wrap_succ (j := j) (n := s.size) (by omega) (by omega)
    have ht : (s.data.toList.take (j + 1)).reverse = s.data.toList[j] :: (s.data.toList.take j).reverse := by rw [take_snoc' _ _ hj,List.reverse_append]; rfl
    have hlo : (rr (s.data.toList.take j).reverse).length ≤ j := by
      have := rr_len (s.data.toList.take j).reverse
      rw [List.length_reverse,List.length_take] at this
      omega
    have ol : o.length ≤ j := by rw [ho,RI_len,List.length_reverse]; exact hlo
    have al : (o ++ [0]).length = o.length + 1 := by simp
    obtain ⟨p1,p2⟩ := last_in (o ++ [0]) (by omega) (by omega)
    have new : bump (o ++ [0]) = RI (1 :: rr (s.data.toList.take j).reverse).reverse := by
      have := bump_RI 0 (rr (s.data.toList.take j).reverse) (by omega) (by omega)
      rw [List.reverse_cons,RI_snoc,← ho] at this
      exact this
    by_cases c0 : j = 0
    · subst c0
      have e1 : bump (o ++ [0]) = RI (rr (s.data.toList.take (0 + 1)).reverse).reverse := by rw [new,ht]; rfl
      have r2 := ih (0 + 1) _ (by omega) e1
      refine Ev.step (fun k => ?_) r2
      · rw [impl_runLengths.l0,if_pos (by omega),if_pos (by omega),if_pos (by omega),Option.bind_some,if_pos p1,if_pos p2,hw]; rfl
    · have hm : wrap64 ((j : Int) - 1) = ((j - 1 : Nat) : Int) := by rw [wrap64_in (by omega) (by omega)]; omega
      have m0 : 0 ≤ wrap64 ((j : Int) - 1) := by rw [hm]; omega
      have m1 : wrap64 ((j : Int) - 1) < (s.size : Int) := by rw [hm]; omega
      have hj1 : j - 1 < s.data.toList.length := by omega
      have hp : (s.data.toList.take j).reverse = s.data.toList[j - 1] :: (s.data.toList.take (j - 1)).reverse := by
        have := take_snoc' s.data.toList (j - 1) hj1
        rw [show j - 1 + 1 = j by omega] at this
        rw [this,List.reverse_append]
        rfl
      obtain ⟨n,t,e,n1,n2,_⟩ := rr_ne (s.data.toList.take (j - 1)).reverse s.data.toList[j - 1]
      have hb := bt_eq s j (j - 1) hj hj1
      rw [← hm] at hb
      by_cases c : bt s (j : Int) = bt s (wrap64 ((j : Int) - 1))
      · have hx := hb.1 c
        have hn : n ≤ 2000000 := by
          have := List.length_take_le (j - 1) s.data.toList
          rw [List.length_cons,List.length_reverse] at n2
          omega
        rw [hp,e] at hlo ho
        have e1 : bump o = RI (rr (s.data.toList.take (j + 1)).reverse).reverse := by
          rw [ht,hp,rr_step e,if_pos hx,ho,bump_RI n t hn (by simp only [List.length_cons] at hlo; omega)]
        have r2 := ih (j + 1) _ (by omega) e1
        have o0 : 0 < o.length := by rw [ho,RI_len,List.length_reverse]; simp
        obtain ⟨t1,t2⟩ := last_in o o0 (by omega)
        refine Ev.step (fun k => ?_) r2
        · rw [impl_runLengths.l0,if_pos (by omega),if_neg (by omega),if_pos (by omega),if_pos (by omega),if_pos m0,if_pos m1,if_pos c,if_pos t1,if_pos t2,hw]; rfl
      · have hx : ¬ s.data.toList[j] = s.data.toList[j - 1] := fun q => c (hb.2 q)
        have e1 : bump (o ++ [0]) = RI (rr (s.data.toList.take (j + 1)).reverse).reverse := by
          rw [new,ht,hp,e,rr_step e,if_neg hx]
        have r2 := ih (j + 1) _ (by omega) e1
        refine Ev.step (fun k => ?_) r2
        · rw [impl_runLengths.l0,if_pos (by omega),if_neg (by omega),if_pos (by omega),if_pos (by omega),if_pos m0,if_pos m1,if_neg c,if_pos (by omega),Option.bind_some,if_pos p1,if_pos p2,hw]; rfl
theorem implRuns_ev (s : ByteArray) (hs : s.size ≤ 1048576) : Ev (fun k => impl_runLengths.f k s) (RS s) := (runs_loop s hs s.size 0 [] (by omega) (by rw [List.take_zero]; rfl))
theorem mx_nat (a b : Nat) : mx (a : Int) (b : Int) = ((max a b : Nat) : Int) := by
  unfold mx
  by_cases c : (a : Int) < (b : Int)
  · rw [if_pos c]; omega
  · rw [if_neg c]; omega
theorem max_loop (R : List Nat) (hR : R.length ≤ 1048576) (d : Nat) : ∀ (j m : Nat),j + d = R.length → ∃ v : Nat,Ev (fun k => slices_Max_int64_int64.l0 k (RI R) (m : Int) (j : Int)) (v : Int) ∧ ∀ B,v ≤ B ↔ m ≤ B ∧ ∀ n ∈ R.drop j,n ≤ B := by
  have hl := RI_len R
  induction d with
  | zero =>
    intro j m h
    refine ⟨m,ev_one (fun k => by rw [slices_Max_int64_int64.l0,if_neg (by omega)]),fun B => ?_⟩
    rw [List.drop_eq_nil_of_le (by omega)]
    simp
  | succ d ih =>
    intro j m h
    have hj : j < R.length := by omega
    have hw := wrap_succ hj (by omega)
    have hr : rd (RI R) (j : Int) = ((R[j] : Nat) : Int) := by
      rw [rd_get _ _ (by omega)]
      unfold RI
      rw [List.getElem_map]
      rfl
    obtain ⟨v,v1,v2⟩ := ih (j + 1) (max m R[j]) (by omega)
    refine ⟨v,Ev.step (fun k => by rw [slices_Max_int64_int64.l0,if_pos (by omega),if_pos (by omega),hr,mx_nat,hw]) v1,fun B => ?_⟩
    rw [v2,drop_cons _ _ hj]
    simp only [List.mem_cons,forall_eq_or_imp]
    constructor
    · rintro ⟨q1,q2⟩; exact ⟨by omega,by omega,q2⟩
    · rintro ⟨q1,q2,q3⟩; exact ⟨by omega,q3⟩
theorem max_ev (s : ByteArray) (hs : s.size ≤ 1048576) (h0 : rv s ≠ []) : ∃ v : Nat,Ev (fun k => slices_Max_int64_int64.f k (RS s)) (v : Int) ∧ ∀ B,v ≤ B ↔ ∀ n ∈ rr (rv s),n ≤ B := by
  have hn := rr_nil h0
  have hle := rr_len (rv s)
  have hz : (rv s).length = s.size := by unfold rv; rw [List.length_reverse,← size_l]
  obtain ⟨R,hR⟩ : ∃ R,R = (rr (rv s)).reverse := ⟨_,rfl⟩
  have hRl : R.length = (rr (rv s)).length := by rw [hR,List.length_reverse]
  have hpos : 0 < R.length := by
    rcases Nat.eq_zero_or_pos R.length with q | q
    · rw [hRl] at q; exact absurd (List.eq_nil_of_length_eq_zero q) hn
    · exact q
  have hl := RI_len R
  have hr : rd (RI R) 0 = ((R[0] : Nat) : Int) := by
    have := rd_get (RI R) 0 (by omega)
    unfold RI at this ⊢
    rw [List.getElem_map] at this
    exact this
  obtain ⟨v,v1,v2⟩ := max_loop R (by omega) (R.length - 1) 1 R[0] (by omega)
  refine ⟨v,?_,fun B => ?_⟩
  · unfold slices_Max_int64_int64.f RS
    rw [← hR]
    refine ev_neg (by omega) (ev_pos (by omega) ?_)
    rw [hr]
    exact v1
  · rw [v2]
    have e : ∀ n,n ∈ rr (rv s) ↔ n ∈ R := fun n => by rw [hR,List.mem_reverse]
    constructor
    · rintro ⟨q1,q2⟩ n hn
      have := (e n).1 hn
      rw [show R = R.drop 0 from rfl,drop_cons R 0 hpos] at this
      rcases List.mem_cons.1 this with p | p
      · omega
      · exact q2 n p
    · intro q
      exact ⟨q _ ((e _).2 (List.getElem_mem hpos)),fun n hn => q n ((e n).2 (List.mem_of_mem_drop hn))⟩
theorem rv_app (f w : ByteArray) : rv (f ++ w) = rv w ++ rv f := by
  unfold rv
  rw [app_l,List.reverse_append]
theorem rv_len (w : ByteArray) : (rv w).length = w.size := by unfold rv; rw [List.length_reverse,← size_l]
theorem rd_last (s : ByteArray) (hs : s.size ≤ 1048576) (h0 : rv s ≠ []) : 0 ≤ wrap64 (((RS s).length : Int) - 1) ∧ wrap64 (((RS s).length : Int) - 1) < ((RS s).length : Int) ∧ rd (RS s) (wrap64 (((RS s).length : Int) - 1)) = ((ln (rv s) : Nat) : Int) := by
  have hn := rr_nil h0
  have hle := rr_len (rv s)
  rw [rv_len] at hle
  unfold RS ln
  cases e : rr (rv s) with
  | nil => exact absurd e hn
  | cons n t =>
    rw [e] at hle
    simp only [List.length_cons] at hle
    rw [List.reverse_cons,RI_snoc]
    have hl : (RI t.reverse).length = t.length := by rw [RI_len,List.length_reverse]
    generalize RI t.reverse = A at hl ⊢
    have hw : wrap64 (((A ++ [(n : Int)]).length : Int) - 1) = (A.length : Int) := by
      rw [List.length_append,List.length_singleton,wrap64_in (by omega) (by omega)]
      omega
    rw [hw]
    refine ⟨nat0 _,by rw [List.length_append,List.length_singleton]; omega,?_⟩
    rw [rd_get _ _ (by rw [List.length_append,List.length_singleton]; omega)]
    simp
def sc (s : Int) (f w : ByteArray) : S65 := ⟨nxt s w,(f ++ w).extract ((f ++ w).size - ln (rv (f ++ w))) (f ++ w).size⟩
def keyf (x : S65) : Int × List UInt8 := (x.f0,x.f1.data.toList)
theorem tail_run (t : ByteArray) (h : rv t ≠ []) : (t.extract (t.size - ln (rv t)) t.size).data.toList = List.replicate (ln (rv t)) (lby (rv t)) := by
  have hz := rv_len t
  have hd : t.data.toList = (rv t).reverse := by unfold rv; rw [List.reverse_reverse]
  rw [ByteArray.data_extract,Array.toList_extract,hd,← hz]
  generalize rv t = v at h ⊢
  cases v with
  | nil => exact absurd rfl h
  | cons x l =>
    obtain ⟨n,r,e,h1,h2,h3⟩ := rr_ne l x
    have hl : ln (x :: l) = n := by unfold ln; rw [e]; rfl
    have hx : lby (x :: l) = x := rfl
    rw [hl,hx]
    have e1 : (x :: l).reverse.drop ((x :: l).length - n) = ((x :: l).take n).reverse := by
      rw [List.drop_reverse]
      congr 2
      omega
    rw [List.extract_eq_take_drop,e1,h3,List.reverse_replicate,List.take_of_length_le (by rw [List.length_replicate]; omega)]
theorem sc_key (s : Int) (f w : ByteArray) (h : rv w ≠ []) : keyf (sc s f w) = (nxt s w,List.replicate (ln (rv w ++ rv f)) (lby (rv w))) := by
  have hn : rv (f ++ w) ≠ [] := by rw [rv_app]; simp [h]
  have := tail_run (f ++ w) hn
  unfold keyf sc
  rw [this,rv_app,lby_app h]
section
variable (a0 a1 : Int) (L2 L3 : List ByteArray)
theorem inner1 (L : List ByteArray) (s : Int) (f : ByteArray) (sn : List (Int × List UInt8)) (hf : f.size ≤ 100) (hL : ∀ w ∈ L,w.size ≤ 12 ∧ rv w ≠ []) (hn : L.length ≤ 64) (d : Nat) :
    ∀ (j M : Nat) (O : List S65),j + d = L.length → O.length + d ≤ 100000 → ∃ M' : Nat,(∀ B,M' ≤ B ↔ M ≤ B ∧ ∀ w ∈ L.drop j,∀ n ∈ rr (rv w ++ rv f),n ≤ B) ∧
      ∀ R,Ev (fun k => impl_RunBound.l0 k sn (M' : Int) (O ++ (L.drop j).map (sc s f)) a0 a1 L2 L3) R → Ev (fun k => impl_RunBound.l1 k sn (M : Int) O L (L.length : Int) (j : Int) a0 a1 L2 L3 s f) R := by
  induction d with
  | zero =>
    intro j M O h hO
    refine ⟨M,fun B => ?_,fun R hR => ?_⟩
    · rw [List.drop_eq_nil_of_le (by omega)]
      simp
    · rw [List.drop_eq_nil_of_le (by omega),List.map_nil,List.append_nil] at hR
      exact Ev.step (fun k => by rw [impl_RunBound.l1,if_neg (by omega)]) hR
  | succ d ih =>
    intro j M O h hO
    have hj : j < L.length := by omega
    have hw := wrap_succ hj (by omega)
    have hrd := rdS_get L j hj
    obtain ⟨z1,z2⟩ := hL _ (List.getElem_mem hj)
    rw [drop_cons _ _ hj]
    generalize L[j] = w at hrd z1 z2 ⊢
    have ht : rv (f ++ w) ≠ [] := by rw [rv_app]; simp [z2]
    have hz : (f ++ w).size = f.size + w.size := ByteArray.size_append
    have hts : (f ++ w).size ≤ 1048576 := by omega
    obtain ⟨v,v1,v2⟩ := max_ev (f ++ w) hts ht
    obtain ⟨M',m1,m2⟩ := ih (j + 1) (max M v) (O ++ [sc s f w]) (by omega) (by rw [List.length_append,List.length_singleton]; omega)
    have hr := implRuns_ev (f ++ w) hts
    obtain ⟨q1,q2,q3⟩ := rd_last (f ++ w) hts ht
    have hln : ln (rv (f ++ w)) ≤ (f ++ w).size := by rw [← rv_len]; exact ln_le
    have hcut : wrap64 (((f ++ w).size : Int) - ((ln (rv (f ++ w)) : Nat) : Int)) = (((f ++ w).size - ln (rv (f ++ w)) : Nat) : Int) := by
      rw [wrap64_in (by omega) (by omega)]; omega
    have c1 : (j : Int) < (L.length : Int) := by omega
    have c2 : f.size + w.size ≤ 9223372036854775807 := by omega
    have c3 : O.length < 5864062014805 := by omega
    have c4 : (((f ++ w).size - ln (rv (f ++ w)) : Nat) : Int) ≤ ((f ++ w).size : Int) := by omega
    have hnx := implBehindS_f s w
    refine ⟨M',fun B => ?_,fun R hR => ?_⟩
    · rw [m1]
      have := v2 B
      simp only [List.mem_cons,forall_eq_or_imp]
      rw [← rv_app,← this]
      constructor
      · rintro ⟨p1,p2⟩; exact ⟨by omega,by omega,p2⟩
      · rintro ⟨p1,p2,p3⟩; exact ⟨by omega,p3⟩
    · rw [List.map_cons] at hR
      have hE := m2 R (by rw [List.append_assoc]; exact hR)
      obtain ⟨K1,h1⟩ := hr
      obtain ⟨K2,h2⟩ := v1
      obtain ⟨K3,h3⟩ := hE
      refine ⟨K1 + K2 + K3 + 1,fun k hk => ?_⟩
      obtain ⟨k,rfl⟩ : ∃ q,k = q + 1 := ⟨k - 1,by omega⟩
      have g1 : impl_runLengths.f k (f ++ w) = some (RS (f ++ w)) := h1 k (by omega)
      have g2 : slices_Max_int64_int64.f k (RS (f ++ w)) = some (v : Int) := h2 k (by omega)
      have g3 := h3 k (by omega)
      clear h1 h2 h3 hR m1 m2 v2
      show impl_RunBound.l1 (k + 1) sn (M : Int) O L (L.length : Int) (j : Int) a0 a1 L2 L3 s f = some R
      rw [impl_RunBound.l1,if_pos c1,if_pos (nat0 j),if_pos c1,hrd,if_pos c2,g1,Option.bind_some,g2,Option.bind_some,if_pos q1,if_pos q2,hnx,Option.bind_some,q3,hcut,if_pos (nat0 _),if_pos c4,if_pos c3,mx_nat,hw,Int.toNat_natCast]
      exact g3
theorem inner101 (L : List ByteArray) (s : Int) (f : ByteArray) (sn : List (Int × List UInt8)) (hf : f.size ≤ 100) (hL : ∀ w ∈ L,w.size ≤ 12 ∧ rv w ≠ []) (hn : L.length ≤ 64) (d : Nat) :
    ∀ (j M : Nat) (O : List S65),j + d = L.length → O.length + d ≤ 100000 → ∃ M' : Nat,(∀ B,M' ≤ B ↔ M ≤ B ∧ ∀ w ∈ L.drop j,∀ n ∈ rr (rv w ++ rv f),n ≤ B) ∧
      ∀ R,Ev (fun k => impl_RunBound.l0 k sn (M' : Int) (O ++ (L.drop j).map (sc s f)) a0 a1 L2 L3) R → Ev (fun k => impl_RunBound.l101 k sn (M : Int) O L (L.length : Int) (j : Int) a0 a1 L2 L3 s f) R := by
  induction d with
  | zero =>
    intro j M O h hO
    refine ⟨M,fun B => ?_,fun R hR => ?_⟩
    · rw [List.drop_eq_nil_of_le (by omega)]
      simp
    · rw [List.drop_eq_nil_of_le (by omega),List.map_nil,List.append_nil] at hR
      exact Ev.step (fun k => by rw [impl_RunBound.l101,if_neg (by omega)]) hR
  | succ d ih =>
    intro j M O h hO
    have hj : j < L.length := by omega
    have hw := wrap_succ hj (by omega)
    have hrd := rdS_get L j hj
    obtain ⟨z1,z2⟩ := hL _ (List.getElem_mem hj)
    rw [drop_cons _ _ hj]
    generalize L[j] = w at hrd z1 z2 ⊢
    have ht : rv (f ++ w) ≠ [] := by rw [rv_app]; simp [z2]
    have hz : (f ++ w).size = f.size + w.size := ByteArray.size_append
    have hts : (f ++ w).size ≤ 1048576 := by omega
    obtain ⟨v,v1,v2⟩ := max_ev (f ++ w) hts ht
    obtain ⟨M',m1,m2⟩ := ih (j + 1) (max M v) (O ++ [sc s f w]) (by omega) (by rw [List.length_append,List.length_singleton]; omega)
    have hr := implRuns_ev (f ++ w) hts
    obtain ⟨q1,q2,q3⟩ := rd_last (f ++ w) hts ht
    have hln : ln (rv (f ++ w)) ≤ (f ++ w).size := by rw [← rv_len]; exact ln_le
    have hcut : wrap64 (((f ++ w).size : Int) - ((ln (rv (f ++ w)) : Nat) : Int)) = (((f ++ w).size - ln (rv (f ++ w)) : Nat) : Int) := by
      rw [wrap64_in (by omega) (by omega)]; omega
    have c1 : (j : Int) < (L.length : Int) := by omega
    have c2 : f.size + w.size ≤ 9223372036854775807 := by omega
    have c3 : O.length < 5864062014805 := by omega
    have c4 : (((f ++ w).size - ln (rv (f ++ w)) : Nat) : Int) ≤ ((f ++ w).size : Int) := by omega
    have hnx := implBehindS_f s w
    refine ⟨M',fun B => ?_,fun R hR => ?_⟩
    · rw [m1]
      have := v2 B
      simp only [List.mem_cons,forall_eq_or_imp]
      rw [← rv_app,← this]
      constructor
      · rintro ⟨p1,p2⟩; exact ⟨by omega,by omega,p2⟩
      · rintro ⟨p1,p2,p3⟩; exact ⟨by omega,p3⟩
    · rw [List.map_cons] at hR
      have hE := m2 R (by rw [List.append_assoc]; exact hR)
      obtain ⟨K1,h1⟩ := hr
      obtain ⟨K2,h2⟩ := v1
      obtain ⟨K3,h3⟩ := hE
      refine ⟨K1 + K2 + K3 + 1,fun k hk => ?_⟩
      obtain ⟨k,rfl⟩ : ∃ q,k = q + 1 := ⟨k - 1,by omega⟩
      have g1 : impl_runLengths.f k (f ++ w) = some (RS (f ++ w)) := h1 k (by omega)
      have g2 : slices_Max_int64_int64.f k (RS (f ++ w)) = some (v : Int) := h2 k (by omega)
      have g3 := h3 k (by omega)
      clear h1 h2 h3 hR m1 m2 v2
      show impl_RunBound.l101 (k + 1) sn (M : Int) O L (L.length : Int) (j : Int) a0 a1 L2 L3 s f = some R
      rw [impl_RunBound.l101,if_pos c1,if_pos (nat0 j),if_pos c1,hrd,if_pos c2,g1,Option.bind_some,g2,Option.bind_some,if_pos q1,if_pos q2,hnx,Option.bind_some,q3,hcut,if_pos (nat0 _),if_pos c4,if_pos c3,mx_nat,hw,Int.toNat_natCast]
      exact g3
def U : List (Int × List UInt8) := (List.range 25).flatMap fun m => [(1,List.replicate m 48),(1,List.replicate m 49),(-1,List.replicate m 48),(-1,List.replicate m 49)]
theorem U_mem {s : Int} {b : UInt8} {m : Nat} (hs : s = 1 ∨ s = -1) (hb : b = 48 ∨ b = 49) (hm : m ≤ 24) : (s,List.replicate m b) ∈ U := by
  unfold U
  refine List.mem_flatMap.2 ⟨m,List.mem_range.2 (by omega),?_⟩
  rcases hs with rfl | rfl <;> rcases hb with rfl | rfl <;> simp
def cnt (sn : List (Int × List UInt8)) : Nat := (U.filter (fun u => decide (u ∉ sn))).length
theorem cnt_nil : cnt [] = 100 := by
  unfold cnt
  rw [List.filter_eq_self.2 (fun u _ => by simp)]
  decide +kernel
theorem filter_lt {α : Type} (p q : α → Bool) (l : List α) (hpq : ∀ x,q x = true → p x = true) (x : α) (hx : x ∈ l) (h1 : p x = true) (h2 : q x = false) : (l.filter q).length + 1 ≤ (l.filter p).length := by
  have le : ∀ l : List α,(l.filter q).length ≤ (l.filter p).length := by
    intro l
    induction l with
    | nil => exact Nat.le_refl _
    | cons a l ih =>
      cases e : q a with
      | true => rw [List.filter_cons_of_pos e,List.filter_cons_of_pos (hpq a e)]; simp only [List.length_cons]; omega
      | false =>
        rw [List.filter_cons_of_neg (by rw [e]; exact Bool.false_ne_true)]
        cases e2 : p a with
        | true => rw [List.filter_cons_of_pos e2]; simp only [List.length_cons]; omega
        | false => rw [List.filter_cons_of_neg (by rw [e2]; exact Bool.false_ne_true)]; exact ih
  induction l with
  | nil => cases hx
  | cons a l ih =>
    rcases List.mem_cons.1 hx with rfl | hx
    · rw [List.filter_cons_of_pos h1,List.filter_cons_of_neg (by rw [h2]; exact Bool.false_ne_true)]
      have := le l
      simp only [List.length_cons]
      omega
    · have := ih hx
      cases e : q a with
      | true => rw [List.filter_cons_of_pos e,List.filter_cons_of_pos (hpq a e)]; simp only [List.length_cons]; omega
      | false =>
        rw [List.filter_cons_of_neg (by rw [e]; exact Bool.false_ne_true)]
        cases e2 : p a with
        | true => rw [List.filter_cons_of_pos e2]; simp only [List.length_cons]; omega
        | false => rw [List.filter_cons_of_neg (by rw [e2]; exact Bool.false_ne_true)]; exact this
theorem cnt_cons {sn : List (Int × List UInt8)} {u : Int × List UInt8} (h1 : u ∈ U) (h2 : u ∉ sn) : cnt (u :: sn) + 1 ≤ cnt sn := by
  refine filter_lt _ _ U (fun x hx => ?_) u h1 (decide_eq_true h2) (decide_eq_false (fun q => q List.mem_cons_self))
  exact decide_eq_true (fun q => of_decide_eq_true hx (List.mem_cons_of_mem _ q))
structure DInv (sn : List (Int × List UInt8)) (M : Nat) (O : List S65) : Prop where
  opn : ∀ x ∈ O,Reach L2 L3 (keyf x).1 (keyf x).2
  seen : ∀ u ∈ sn,Reach L2 L3 u.1 u.2
  closed : ∀ u ∈ sn,∀ w ∈ lst L2 L3 u.1,(nxt u.1 w,List.replicate (ln (rv w ++ u.2)) (lby (rv w))) ∈ sn ∨ ∃ x ∈ O,keyf x = (nxt u.1 w,List.replicate (ln (rv w ++ u.2)) (lby (rv w)))
  st : ∀ s : Int,s = 1 ∨ s = -1 → (s,[]) ∈ sn ∨ ∃ x ∈ O,keyf x = (s,[])
  best : ∀ B,M ≤ B ↔ ∀ u ∈ sn,∀ w ∈ lst L2 L3 u.1,∀ n ∈ rr (rv w ++ u.2),n ≤ B
  cn : cnt sn + sn.length ≤ 100
theorem DInv.done {sn : List (Int × List UInt8)} {M : Nat} (h : DInv L2 L3 sn M []) (B : Nat) : M ≤ B ↔ OkB L2 L3 B := by
  have all : ∀ s e,Reach L2 L3 s e → (s,e) ∈ sn := by
    intro s e hr
    induction hr with
    | start s hs =>
      rcases h.st s hs with q | ⟨x,hx,_⟩
      · exact q
      · cases hx
    | @step s e w hr hw ih =>
      rcases h.closed (s,e) ih w hw with q | ⟨x,hx,_⟩
      · exact q
      · cases hx
  rw [h.best]
  constructor
  · intro q s e w hr hw n hn
    exact q (s,e) (all s e hr) w hw n hn
  · intro q u hu w hw n hn
    exact q u.1 u.2 w (h.seen u hu) hw n hn
theorem outer {W : Nat} (C : Cd L2 L3 W) (hW : W ≤ 12) (hn2 : L2.length ≤ 64) (hn3 : L3.length ≤ 64) (hb : ∀ s w,w ∈ lst L2 L3 s → lby (rv w) = 48 ∨ lby (rv w) = 49) (N : Nat) :
    ∀ (sn : List (Int × List UInt8)) (M : Nat) (O : List S65),cnt sn * 65 + O.length ≤ N → N ≤ 10000 → DInv L2 L3 sn M O → ∃ M' : Nat,(∀ B,M' ≤ B ↔ OkB L2 L3 B) ∧ Ev (fun k => impl_RunBound.l0 k sn (M : Int) O a0 a1 L2 L3) ((M' : Int),true) := by
  induction N with
  | zero =>
    intro sn M O h _ hI
    have hO : O = [] := List.eq_nil_of_length_eq_zero (by omega)
    subst hO
    exact ⟨M,hI.done,ev_one (fun k => by rw [impl_RunBound.l0,if_neg (by simp)])⟩
  | succ N ih =>
    intro sn M O h hN hI
    rcases List.eq_nil_or_concat O with rfl | ⟨O',x,rfl⟩
    · exact ⟨M,hI.done,ev_one (fun k => by rw [impl_RunBound.l0,if_neg (by simp)])⟩
    rw [List.concat_eq_append] at *
    have hl : (O' ++ [x]).length = O'.length + 1 := by simp
    rw [hl] at h
    have c0 : ((O' ++ [x]).length : Int) > 0 := by omega
    have hw : wrap64 (((O' ++ [x]).length : Int) - 1) = (O'.length : Int) := by rw [hl,wrap64_in (by omega) (by omega)]; omega
    have c2 : (O'.length : Int) < ((O' ++ [x]).length : Int) := by omega
    have c3 : (O'.length : Int) ≤ ((O' ++ [x]).length : Int) := by omega
    have hx : rd_T65 (O' ++ [x]) (O'.length : Int) = x := by unfold rd_T65; rw [Int.toNat_natCast]; simp
    have ht : (O' ++ [x]).take O'.length = O' := by simp
    have hr : Reach L2 L3 x.f0 x.f1.data.toList := hI.opn x (by simp)
    obtain ⟨hs,he⟩ := C.reach hr
    have hsz : x.f1.size ≤ 24 ∧ (x.f0,x.f1.data.toList) ∈ U ∧ rv x.f1 = x.f1.data.toList := by
      rw [size_l]
      unfold rv
      rcases he with e | ⟨b,m,e,⟨s',w',hw',hb'⟩,hm⟩
      · rw [e]
        exact ⟨by simp,U_mem (m := 0) hs (.inl rfl) (by omega),rfl⟩
      · rw [e]
        have hbb := hb s' w' hw'
        rw [← hb'] at hbb
        refine ⟨by rw [List.length_replicate]; omega,U_mem hs hbb (by omega),by rw [List.reverse_replicate]⟩
    obtain ⟨hz,hU,hrv⟩ := hsz
    have hc := hI.cn
    have cg : -2 < x.f0 ∧ x.f0 < 2 ∧ x.f1.size ≤ 1048576 ∧ sn.length < 1000000 := ⟨by omega,by omega,by omega,by omega⟩
    have start : ∀ R,Ev (fun k => (if (x.f0,x.f1.data.toList) ∈ sn then (impl_RunBound.l0 k sn (M : Int) O' a0 a1 L2 L3) else (if x.f0 < 0 then ((impl_BlockCode_words_neg.f a0 a1 L2 L3 x.f0).bind fun _ => (impl_RunBound.l1 k ((x.f0,x.f1.data.toList) :: sn) (M : Int) O' L2 (L2.length : Int) 0 a0 a1 L2 L3 x.f0 x.f1)) else ((impl_BlockCode_words_pos.f a0 a1 L2 L3 x.f0).bind fun _ => (impl_RunBound.l101 k ((x.f0,x.f1.data.toList) :: sn) (M : Int) O' L3 (L3.length : Int) 0 a0 a1 L2 L3 x.f0 x.f1))))) R → Ev (fun k => impl_RunBound.l0 k sn (M : Int) (O' ++ [x]) a0 a1 L2 L3) R := by
      intro R hR
      refine Ev.step (fun k => ?_) hR
      rw [impl_RunBound.l0,if_pos c0,hw,if_pos (nat0 _),if_pos c2,if_pos c3,Option.bind_some,hx,Int.toNat_natCast,ht,if_pos cg]
    by_cases cs : (x.f0,x.f1.data.toList) ∈ sn
    · have hI' : DInv L2 L3 sn M O' := by
        have up : ∀ u,(u ∈ sn ∨ ∃ y ∈ O' ++ [x],keyf y = u) → u ∈ sn ∨ ∃ y ∈ O',keyf y = u := by
          rintro u (q | ⟨y,hy,e⟩)
          · exact .inl q
          · rcases List.mem_append.1 hy with q | q
            · exact .inr ⟨y,q,e⟩
            · rw [List.mem_singleton.1 q] at e
              exact .inl (by rw [← e]; exact cs)
        exact ⟨fun y hy => hI.opn y (List.mem_append.2 (.inl hy)),hI.seen,fun u hu w hw => up _ (hI.closed u hu w hw),fun s hs => up _ (hI.st s hs),hI.best,hI.cn⟩
      obtain ⟨M',m1,m2⟩ := ih sn M O' (by omega) (by omega) hI'
      exact ⟨M',m1,start _ (ev_pos cs m2)⟩
    · have hcc := cnt_cons hU cs
      have words : ∀ L,L = lst L2 L3 x.f0 → ∀ w ∈ L,w.size ≤ 12 ∧ rv w ≠ [] := by
        intro L hL w hw
        rw [hL] at hw
        have := C.size _ w hw
        rw [rv_len] at this
        exact ⟨by omega,C.ne hw⟩
      have next : ∀ (L : List ByteArray) (M1 : Nat),L = lst L2 L3 x.f0 → L.length ≤ 64 → (∀ B,M1 ≤ B ↔ M ≤ B ∧ ∀ w ∈ L.drop 0,∀ n ∈ rr (rv w ++ rv x.f1),n ≤ B) →
          ∃ M' : Nat,(∀ B,M' ≤ B ↔ OkB L2 L3 B) ∧ Ev (fun k => impl_RunBound.l0 k ((x.f0,x.f1.data.toList) :: sn) (M1 : Int) (O' ++ (L.drop 0).map (sc x.f0 x.f1)) a0 a1 L2 L3) ((M' : Int),true) := by
        intro L M1 hL hn hM1
        rw [List.drop_zero] at hM1 ⊢
        rw [hrv] at hM1
        have up : ∀ u,(u ∈ sn ∨ ∃ y ∈ O' ++ [x],keyf y = u) → u ∈ (x.f0,x.f1.data.toList) :: sn ∨ ∃ y ∈ O' ++ L.map (sc x.f0 x.f1),keyf y = u := by
          rintro u (q | ⟨y,hy,e⟩)
          · exact .inl (List.mem_cons_of_mem _ q)
          · rcases List.mem_append.1 hy with q | q
            · exact .inr ⟨y,List.mem_append.2 (.inl q),e⟩
            · rw [List.mem_singleton.1 q] at e
              exact .inl (by rw [← e]; exact List.mem_cons_self)
        have keyw : ∀ w ∈ L,keyf (sc x.f0 x.f1 w) = (nxt x.f0 w,List.replicate (ln (rv w ++ x.f1.data.toList)) (lby (rv w))) := by
          intro w hw
          rw [sc_key _ _ _ (words L hL w hw).2,hrv]
        refine ih _ M1 _ ?_ (by omega) ⟨?_,?_,?_,?_,?_,?_⟩
        · rw [List.length_append,List.length_map]; omega
        · intro y hy
          rcases List.mem_append.1 hy with q | q
          · exact hI.opn y (List.mem_append.2 (.inl q))
          · obtain ⟨w,hw,rfl⟩ := List.mem_map.1 q
            rw [keyw w hw]
            exact Reach.step hr (by rw [← hL]; exact hw)
        · intro u hu
          rcases List.mem_cons.1 hu with rfl | q
          · exact hr
          · exact hI.seen u q
        · intro u hu w hw
          rcases List.mem_cons.1 hu with rfl | q
          · refine .inr ⟨sc x.f0 x.f1 w,List.mem_append.2 (.inr (List.mem_map.2 ⟨w,by rw [hL]; exact hw,rfl⟩)),keyw w (by rw [hL]; exact hw)⟩
          · exact up _ (hI.closed u q w hw)
        · exact fun s hs => up _ (hI.st s hs)
        · intro B
          rw [hM1,hI.best]
          constructor
          · rintro ⟨p1,p2⟩ u hu w hw n hn
            rcases List.mem_cons.1 hu with rfl | q
            · exact p2 w (by rw [hL]; exact hw) n hn
            · exact p1 u q w hw n hn
          · intro p
            exact ⟨fun u hu w hw n hn => p u (List.mem_cons_of_mem _ hu) w hw n hn,fun w hw n hn => p (x.f0,x.f1.data.toList) List.mem_cons_self w (by rw [← hL]; exact hw) n hn⟩
        · rw [List.length_cons]; omega
      by_cases cn : x.f0 < 0
      · have hL : L2 = lst L2 L3 x.f0 := by unfold lst; rw [if_pos cn]
        obtain ⟨M1,p1,p2⟩ := inner1 a0 a1 L2 L3 L2 x.f0 x.f1 ((x.f0,x.f1.data.toList) :: sn) (by omega) (words L2 hL) hn2 L2.length 0 M O' (by omega) (by omega)
        obtain ⟨M',m1,m2⟩ := next L2 M1 hL hn2 p1
        exact ⟨M',m1,start _ (ev_neg cs (ev_pos cn (ev_to (if_pos cn) (p2 _ m2))))⟩
      · have hL : L3 = lst L2 L3 x.f0 := by unfold lst; rw [if_neg cn]
        obtain ⟨M1,p1,p2⟩ := inner101 a0 a1 L2 L3 L3 x.f0 x.f1 ((x.f0,x.f1.data.toList) :: sn) (by omega) (words L3 hL) hn3 L3.length 0 M O' (by omega) (by omega)
        obtain ⟨M',m1,m2⟩ := next L3 M1 hL hn3 p1
        exact ⟨M',m1,start _ (ev_neg cs (ev_neg cn (ev_to (if_pos cn) (p2 _ m2))))⟩
theorem implRun_ev {W : Nat} (C : Cd L2 L3 W) (hW : W ≤ 12) (hn2 : L2.length ≤ 64) (hn3 : L3.length ≤ 64) (hb : ∀ s w,w ∈ lst L2 L3 s → lby (rv w) = 48 ∨ lby (rv w) = 49) :
    ∃ M : Nat,(∀ B,M ≤ B ↔ OkB L2 L3 B) ∧ Ev (fun k => impl_RunBound.l0 k [] 0 ([(⟨(-1),(⟨#[]⟩ : ByteArray)⟩ : S65),(⟨1,(⟨#[]⟩ : ByteArray)⟩ : S65)] : List S65) a0 a1 L2 L3) ((M : Int),true) := by
  refine outer a0 a1 L2 L3 C hW hn2 hn3 hb 6502 [] 0 _ (by rw [cnt_nil]; decide) (by decide) ⟨?_,?_,?_,?_,?_,?_⟩
  · intro x hx
    rcases List.mem_cons.1 hx with rfl | hx
    · exact Reach.start (-1) (.inr rfl)
    · rw [List.mem_singleton.1 hx]
      exact Reach.start 1 (.inl rfl)
  · intro u hu; cases hu
  · intro u hu; cases hu
  · rintro s (rfl | rfl)
    · exact .inr ⟨⟨1,⟨#[]⟩⟩,by simp,rfl⟩
    · exact .inr ⟨⟨-1,⟨#[]⟩⟩,by simp,rfl⟩
  · intro B
    exact ⟨fun _ u hu => (by cases hu),fun _ => Nat.zero_le _⟩
  · rw [cnt_nil]; decide
end
theorem dsp_const (w : ByteArray) (n : Nat) (b : UInt8) (hn : n ≤ 12) (h : w.data.toList = List.replicate n b) : (b = 49 → dsp w = (n : Int)) ∧ (b = 48 → dsp w = -(n : Int)) := by
  have hz : w.size = n := by rw [size_l,h,List.length_replicate]
  unfold dsp Lib.countByte
  rw [h,hz,List.count_replicate]
  constructor
  · rintro rfl
    rw [if_pos (by decide),wrap64_in (x := 2 * ((n : Nat) : Int)) (by omega) (by omega),wrap64_in (by omega) (by omega)]
    omega
  · rintro rfl
    rw [if_neg (by decide),wrap64_in (x := 2 * ((0 : Nat) : Int)) (by omega) (by omega),wrap64_in (by omega) (by omega)]
    omega
theorem lby_bit {w : ByteArray} (h : rv w ≠ []) (hb : areB w.data.toList = true) : lby (rv w) = 48 ∨ lby (rv w) = 49 := by
  have hm : lby (rv w) ∈ w.data.toList := by
    have : lby (rv w) ∈ rv w := by
      cases e : rv w with
      | nil => exact absurd e h
      | cons x l => exact List.mem_cons_self
    unfold rv at this
    exact List.mem_reverse.1 this
  have := List.all_eq_true.1 hb _ hm
  unfold isBit at this
  rw [Bool.or_eq_true,beq_iff_eq,beq_iff_eq] at this
  rcases this with q | q
  · exact .inl (UInt8.toNat_inj.1 q)
  · exact .inr (UInt8.toNat_inj.1 q)
theorem const_data {w : ByteArray} (h : (rr (rv w)).length = 1) : w.data.toList = List.replicate w.size (lby (rv w)) := by
  have e := (cst_all h).1
  rw [rv_len] at e
  have e2 : w.data.toList = (rv w).reverse := by unfold rv; rw [List.reverse_reverse]
  generalize lby (rv w) = x at e ⊢
  rw [e2,e,List.reverse_replicate]
theorem VC.cd {a0 : Int} {W : Nat} {L2 L3 : List ByteArray} (hv : VC a0 (W : Int) L2 L3) (w1 : 2 ≤ W) (w2 : W ≤ 12) (z2 : ∀ v ∈ L2,v.size = W) (z3 : ∀ v ∈ L3,v.size = W) : Cd L2 L3 W := by
  have hsz : ∀ s w,w ∈ lst L2 L3 s → w.size = W := fun s w hw => by
    rcases lst_mem hw with q | q
    · exact z2 w q
    · exact z3 w q
  have hne : ∀ s w,w ∈ lst L2 L3 s → rv w ≠ [] := fun s w hw e => by
    have h1 := rv_len w
    rw [hsz s w hw,e] at h1
    simp at h1
    omega
  have d2 : ∀ w ∈ L2,(rr (rv w)).length = 1 → lby (rv w) = 49 ∧ dsp w > 0 := by
    intro w hw hc
    have hd := const_data hc
    have hz := z2 w hw
    rw [hz] at hd
    obtain ⟨e1,e2⟩ := dsp_const w W _ w2 hd
    obtain ⟨i,hi,rfl⟩ := List.mem_iff_getElem.1 hw
    obtain ⟨p1,p2,p3,p4⟩ := hv.w2 i hi
    rcases lby_bit (hne (-1) _ hw) p1 with q | q
    · have := e2 q
      rcases p3 with p3 | p3 <;> rw [this] at p3 <;> omega
    · exact ⟨q,by rw [e1 q]; omega⟩
  have d3 : ∀ w ∈ L3,(rr (rv w)).length = 1 → lby (rv w) = 48 ∧ dsp w < 0 := by
    intro w hw hc
    have hd := const_data hc
    have hz := z3 w hw
    rw [hz] at hd
    obtain ⟨e1,e2⟩ := dsp_const w W _ w2 hd
    obtain ⟨i,hi,rfl⟩ := List.mem_iff_getElem.1 hw
    obtain ⟨p1,p2,p3,p4⟩ := hv.w3 i hi
    rcases lby_bit (hne 1 _ hw) p1 with q | q
    · exact ⟨q,by rw [e2 q]; omega⟩
    · have := e1 q
      rcases p3 with p3 | p3 <;> rw [this] at p3 <;> omega
  refine ⟨by omega,fun s w hw => by rw [rv_len,hsz s w hw],fun s => ?_,?_⟩
  · obtain ⟨h2,h3⟩ := hv.pos
    unfold lst
    by_cases c : s < 0
    · rw [if_pos c]; exact ⟨_,List.getElem_mem h2⟩
    · rw [if_neg c]; exact ⟨_,List.getElem_mem h3⟩
  · intro s w hs hw hc w' hw' hc'
    rcases hs with rfl | rfl
    · have hw3 : w ∈ L3 := hw
      obtain ⟨q1,q2⟩ := d3 w hw3 hc
      have hn : nxt 1 w = -1 := by unfold nxt; rw [if_neg (by omega),if_pos q2]
      rw [hn] at hw'
      have hw2 : w' ∈ L2 := hw'
      rw [(d2 w' hw2 hc').1,q1]
      decide
    · have hw2 : w ∈ L2 := hw
      obtain ⟨q1,q2⟩ := d2 w hw2 hc
      have hn : nxt (-1) w = 1 := by unfold nxt; rw [if_pos q2]
      rw [hn] at hw'
      have hw3 : w' ∈ L3 := hw'
      rw [(d3 w' hw3 hc').1,q1]
      decide
theorem rr_meet (l : List UInt8) : ∀ x (y : List UInt8),(∀ z,y.head? = some z → (x :: l).getLast (by simp) ≠ z) → rr ((x :: l) ++ y) = rr (x :: l) ++ rr y := by
  induction l with
  | nil =>
    intro x y h
    cases y with
    | nil => simp [rr]
    | cons z y =>
      have hz : x ≠ z := h z rfl
      show rr (x :: z :: y) = [1] ++ rr (z :: y)
      obtain ⟨n,t,e,_⟩ := rr_ne y z
      rw [rr_step e,if_neg hz,e]
      rfl
  | cons a l ih =>
    intro x y h
    have h2 := ih a y (fun z hz => by have := h z hz; rwa [List.getLast_cons (by simp)] at this)
    obtain ⟨n,t,e,_⟩ := rr_ne l a
    have e2 : rr (a :: (l ++ y)) = n :: (t ++ rr y) := by
      show rr ((a :: l) ++ y) = _
      rw [h2,e]
      rfl
    show rr (x :: a :: (l ++ y)) = _
    rw [rr_step e2,rr_step e]
    by_cases c : x = a
    · rw [if_pos c,if_pos c]; rfl
    · rw [if_neg c,if_neg c]; rfl
theorem rr_parts (l : List UInt8) : ∀ x,∃ (m : Nat) (rest : List UInt8),x :: l = List.replicate (m + 1) x ++ rest ∧ (∀ z,rest.head? = some z → x ≠ z) ∧ rr (x :: l) = (m + 1) :: rr rest := by
  induction l with
  | nil => intro x; exact ⟨0,[],rfl,fun z h => (by cases h),rfl⟩
  | cons y l ih =>
    intro x
    obtain ⟨m,rest,e1,e2,e3⟩ := ih y
    by_cases c : x = y
    · subst c
      refine ⟨m + 1,rest,?_,e2,?_⟩
      · rw [List.replicate_succ,List.cons_append,← e1]
      · rw [rr_step e3,if_pos rfl]
    · refine ⟨0,y :: l,rfl,fun z h => ?_,?_⟩
      · have : y = z := by injection h
        rwa [← this]
      · rw [rr_step e3,if_neg c,e3]
theorem rr_behind (u : List UInt8) (m : Nat) (b : UInt8) (rest : List UInt8) (h : ∀ z,rest.head? = some z → b ≠ z) : rr (u ++ (List.replicate (m + 1) b ++ rest)) = rr (u ++ List.replicate (m + 1) b) ++ rr rest := by
  rw [← List.append_assoc]
  obtain ⟨x,l,e⟩ : ∃ x l,u ++ List.replicate (m + 1) b = x :: l := by
    cases u with
    | nil => exact ⟨b,List.replicate m b,rfl⟩
    | cons x u => exact ⟨x,u ++ List.replicate (m + 1) b,rfl⟩
  have hl : ∀ (q : x :: l ≠ []),(x :: l).getLast q = b := by
    rw [← e]
    intro q
    rw [List.getLast_append_of_ne_nil _ (by simp)]
    exact List.getLast_replicate (by simp)
  rw [e]
  refine rr_meet l x rest (fun z hz => ?_)
  rw [hl]
  exact h z hz
structure RunI (L2 L3 : List ByteArray) (B : Nat) (s : Int) (v : List UInt8) : Prop where
  runs : ∀ n ∈ rr v,n ≤ B
  reach : ∃ (e rest : List UInt8),v = e ++ rest ∧ Reach L2 L3 s e ∧ (e = [] ∧ rest = [] ∨ ∃ m b,e = List.replicate (m + 1) b ∧ ∀ z,rest.head? = some z → b ≠ z)
theorem RunI.start {L2 L3 : List ByteArray} {B : Nat} {s : Int} (h : s = 1 ∨ s = -1) : RunI L2 L3 B s [] :=
  ⟨fun n hn => (by cases hn),[],[],rfl,Reach.start s h,.inl ⟨rfl,rfl⟩⟩
theorem RunI.step {L2 L3 : List ByteArray} {B : Nat} {s : Int} {v : List UInt8} (h : RunI L2 L3 B s v) (hB : OkB L2 L3 B) {w : ByteArray} (hw : w ∈ lst L2 L3 s) (hn : rv w ≠ []) : RunI L2 L3 B (nxt s w) (rv w ++ v) := by
  obtain ⟨h1,e,rest,rfl,h2,h3⟩ := h
  have hb := hB s e w h2 hw
  have hr := Reach.step h2 hw
  have key : rr (rv w ++ (e ++ rest)) = rr (rv w ++ e) ++ rr rest ∧ ∀ n ∈ rr rest,n ≤ B := by
    rcases h3 with ⟨rfl,rfl⟩ | ⟨m,b,rfl,h4⟩
    · simp [rr]
    · refine ⟨rr_behind _ m b rest h4,fun n hn => h1 n ?_⟩
      rw [show List.replicate (m + 1) b ++ rest = [] ++ (List.replicate (m + 1) b ++ rest) from rfl,rr_behind [] m b rest h4]
      exact List.mem_append.2 (.inr hn)
  refine ⟨fun n hn => ?_,?_⟩
  · rw [key.1] at hn
    rcases List.mem_append.1 hn with p | p
    · exact hb n p
    · exact key.2 n p
  · cases ew : rv w with
    | nil => exact absurd ew hn
    | cons x l =>
      obtain ⟨m,r2,e1,e2,e3⟩ := rr_parts (l ++ (e ++ rest)) x
      have hln : ln (rv w ++ e) = m + 1 := by
        have k1 := key.1
        rw [ew] at k1 ⊢
        have k2 : rr (x :: (l ++ (e ++ rest))) = rr ((x :: l) ++ e) ++ rr rest := k1
        rw [e3] at k2
        unfold ln
        obtain ⟨a,t,q,_⟩ := rr_ne (l ++ e) x
        have q' : rr (x :: l ++ e) = a :: t := q
        rw [q'] at k2 ⊢
        injection k2 with k3
        exact k3.symm
      have hlb : lby (rv w) = x := by rw [ew]; rfl
      rw [hln,hlb] at hr
      exact ⟨_,r2,e1,hr,.inr ⟨m,x,rfl,e2⟩⟩
def stp (b : UInt8) : Int := if b = 49 then 1 else -1
def dl : List UInt8 → Int
  | [] => 0
  | b :: l => stp b + dl l
theorem dl_app (a b : List UInt8) : dl (a ++ b) = dl a + dl b := by
  induction a with
  | nil => show dl b = 0 + dl b; omega
  | cons x a ih => show stp x + dl (a ++ b) = stp x + dl a + dl b; rw [ih]; omega
theorem dl_count (l : List UInt8) : dl l = 2 * ((l.count 49 : Nat) : Int) - (l.length : Int) := by
  induction l with
  | nil => rfl
  | cons x l ih =>
    show stp x + dl l = _
    rw [ih,List.count_cons,List.length_cons]
    unfold stp
    by_cases c : x = 49
    · subst c; rw [if_pos rfl,if_pos (by decide)]; omega
    · rw [if_neg c,if_neg (by simpa using c)]; omega
theorem dsp_dl (s : ByteArray) (h : s.size ≤ 1048576) : dsp s = dl s.data.toList := by
  unfold dsp Lib.countByte
  rw [dl_count,size_l]
  have h1 := List.count_le_length (a := (49 : UInt8)) (l := s.data.toList)
  have h2 : s.data.toList.length ≤ 1048576 := by rw [← size_l]; exact h
  rw [wrap64_in (x := 2 * ((s.data.toList.count 49 : Nat) : Int)) (by omega) (by omega),wrap64_in (by omega) (by omega)]
def wat (L2 L3 : List ByteArray) (s n : Int) : ByteArray := rdOf ByteArray.empty (lst L2 L3 s) n
def encB (L2 L3 : List ByteArray) : Int → List Int → ByteArray
  | _,[] => ⟨#[]⟩
  | s,n :: D => wat L2 L3 s n ++ encB L2 L3 (nxt s (wat L2 L3 s n)) D
def encS (L2 L3 : List ByteArray) : Int → List Int → Int
  | s,[] => s
  | s,n :: D => encS L2 L3 (nxt s (wat L2 L3 s n)) D
def OkD (L2 L3 : List ByteArray) (D : List Int) : Prop := ∀ x ∈ D,0 ≤ x ∧ x < (L2.length : Int) ∧ x < (L3.length : Int)
theorem lst_len {L2 L3 : List ByteArray} {x : Int} (h : x < (L2.length : Int) ∧ x < (L3.length : Int)) (s : Int) : x < ((lst L2 L3 s).length : Int) := by
  unfold lst; split
  · exact h.1
  · exact h.2
theorem wat_mem {L2 L3 : List ByteArray} {n : Int} (h : 0 ≤ n ∧ n < (L2.length : Int) ∧ n < (L3.length : Int)) (s : Int) : wat L2 L3 s n ∈ lst L2 L3 s := by
  obtain ⟨m,rfl⟩ := Int.eq_ofNat_of_zero_le h.1
  have hl := lst_len h.2 s
  unfold wat
  rw [rdS_get _ m (by omega)]
  exact List.getElem_mem _
theorem VC.okD {a0 a1 : Int} {L2 L3 : List ByteArray} (hv : VC a0 a1 L2 L3) {D : List Int} (h : ∀ x ∈ D,0 ≤ x ∧ x ≤ wrap64 (shl .i64 1 a0 - 1)) : OkD L2 L3 D := by
  intro x hx
  have hle := hv.le64
  have hn2 := hv.n2
  have hn3 := hv.n3
  have c := h x hx
  rw [wrap64_in (by omega) (by omega)] at c
  omega
theorem VC.nxt_dl {a0 a1 : Int} {L2 L3 : List ByteArray} (hv : VC a0 a1 L2 L3) {s : Int} (hs : s = 1 ∨ s = -1) {w : ByteArray} (hw : w ∈ lst L2 L3 s) : nxt s w = s + dl w.data.toList := by
  have hm := hv.mem (lst_mem hw)
  have hd := dsp_dl w (by omega)
  rw [← hd]
  unfold nxt
  rcases hs with rfl | rfl
  · have hw3 : w ∈ L3 := hw
    obtain ⟨i,hi,rfl⟩ := List.mem_iff_getElem.1 hw3
    rcases (hv.w3 i hi).2.2.1 with p | p <;> rw [p] <;> decide
  · have hw2 : w ∈ L2 := hw
    obtain ⟨i,hi,rfl⟩ := List.mem_iff_getElem.1 hw2
    rcases (hv.w2 i hi).2.2.1 with p | p <;> rw [p] <;> decide
theorem encB_size {a0 : Int} {W : Nat} {L2 L3 : List ByteArray} (hv : VC a0 (W : Int) L2 L3) : ∀ (D : List Int) (s : Int),OkD L2 L3 D → (encB L2 L3 s D).size = W * D.length := by
  intro D
  induction D with
  | nil => intro s _; rfl
  | cons n D ih =>
    intro s h
    have hm := hv.mem (lst_mem (wat_mem (h n (by simp)) s))
    show (wat L2 L3 s n ++ encB L2 L3 (nxt s (wat L2 L3 s n)) D).size = _
    rw [ByteArray.size_append,ih _ (fun x hx => h x (by simp [hx])),List.length_cons,Nat.mul_add,Nat.mul_one]
    omega
theorem encB_bits {a0 a1 : Int} {L2 L3 : List ByteArray} (hv : VC a0 a1 L2 L3) : ∀ (D : List Int) (s : Int),OkD L2 L3 D → areB (encB L2 L3 s D).data.toList = true := by
  intro D
  induction D with
  | nil => intro s _; rfl
  | cons n D ih =>
    intro s h
    have hm := (IB_parts (hv.mem (lst_mem (wat_mem (h n (by simp)) s))).1).1
    show areB (wat L2 L3 s n ++ encB L2 L3 (nxt s (wat L2 L3 s n)) D).data.toList = true
    have h2 := ih (nxt s (wat L2 L3 s n)) (fun x hx => h x (by simp [hx]))
    unfold areB at *
    rw [app_l,List.all_append,hm,h2]
    rfl
theorem encS_pm {L2 L3 : List ByteArray} : ∀ (D : List Int) (s : Int),(s = 1 ∨ s = -1) → (encS L2 L3 s D = 1 ∨ encS L2 L3 s D = -1) := by
  intro D
  induction D with
  | nil => intro s h; exact h
  | cons n D ih => intro s h; exact ih _ (nxt_pm h _)
theorem encS_dl {a0 a1 : Int} {L2 L3 : List ByteArray} (hv : VC a0 a1 L2 L3) : ∀ (D : List Int) (s : Int),OkD L2 L3 D → (s = 1 ∨ s = -1) → s + dl (encB L2 L3 s D).data.toList = encS L2 L3 s D := by
  intro D
  induction D with
  | nil => intro s _ _; show s + dl [] = s; show s + 0 = s; omega
  | cons n D ih =>
    intro s h hs
    have hm := wat_mem (h n (by simp)) s
    have hn := hv.nxt_dl hs hm
    show s + dl (wat L2 L3 s n ++ encB L2 L3 (nxt s (wat L2 L3 s n)) D).data.toList = encS L2 L3 (nxt s (wat L2 L3 s n)) D
    rw [← ih _ (fun x hx => h x (by simp [hx])) (nxt_pm hs _),app_l,dl_app]
    omega
theorem enc_sums {a0 : Int} {W : Nat} {L2 L3 : List ByteArray} (hv : VC a0 (W : Int) L2 L3) {lo hi : Int} (hb : lo ≤ -1 ∧ 1 ≤ hi)
    (hlh : ∀ s w,(s = 1 ∨ s = -1) → w ∈ lst L2 L3 s → ∀ n,n ≤ w.size → lo ≤ s + dl (w.data.toList.take n) ∧ s + dl (w.data.toList.take n) ≤ hi) :
    ∀ (D : List Int) (s : Int),OkD L2 L3 D → (s = 1 ∨ s = -1) → ∀ p,p ≤ (encB L2 L3 s D).size → (lo ≤ s + dl ((encB L2 L3 s D).data.toList.take p) ∧ s + dl ((encB L2 L3 s D).data.toList.take p) ≤ hi) ∧
      (p % W = 0 → (s + dl ((encB L2 L3 s D).data.toList.take p) = 1 ∨ s + dl ((encB L2 L3 s D).data.toList.take p) = -1)) := by
  intro D
  induction D with
  | nil =>
    intro s _ hs p _
    have e : dl ((encB L2 L3 s []).data.toList.take p) = 0 := by show dl (([] : List UInt8).take p) = 0; rw [List.take_nil]; rfl
    rw [e]
    omega
  | cons n D ih =>
    intro s h hs p hp
    have hm := wat_mem (h n (by simp)) s
    have hn := hv.nxt_dl hs hm
    have hz : (wat L2 L3 s n).size = W := by have := (hv.mem (lst_mem hm)).2.1; omega
    have hw0 : 2 ≤ W := by have := hv.width; omega
    have hq := hlh s _ hs hm
    have ih2 := ih (nxt s (wat L2 L3 s n)) (fun x hx => h x (by simp [hx])) (nxt_pm hs _)
    have e0 : encB L2 L3 s (n :: D) = wat L2 L3 s n ++ encB L2 L3 (nxt s (wat L2 L3 s n)) D := rfl
    rw [e0] at hp ⊢
    rw [ByteArray.size_append] at hp
    generalize wat L2 L3 s n = w at *
    generalize encB L2 L3 (nxt s w) D = r at *
    rw [app_l]
    have hl : w.data.toList.length = W := by rw [← size_l]; exact hz
    by_cases c : p ≤ W
    · rw [List.take_append_of_le_length (by omega)]
      refine ⟨hq p (by omega),fun h0 => ?_⟩
      by_cases c0 : p = 0
      · subst c0
        rw [List.take_zero]
        show s + 0 = 1 ∨ s + 0 = -1
        omega
      · have : p = W := by
          by_cases c1 : p = W
          · exact c1
          · rw [Nat.mod_eq_of_lt (by omega)] at h0; omega
        subst this
        rw [List.take_of_length_le (by omega),← hn]
        exact nxt_pm hs _
    · have e : (w.data.toList ++ r.data.toList).take p = w.data.toList ++ r.data.toList.take (p - W) := by
        rw [List.take_append,List.take_of_length_le (by omega),hl]
      have i := ih2 (p - W) (by omega)
      rw [e,dl_app,show s + (dl w.data.toList + dl (r.data.toList.take (p - W))) = nxt s w + dl (r.data.toList.take (p - W)) by omega]
      refine ⟨i.1,fun h0 => i.2 ?_⟩
      rw [← h0,Nat.mod_eq_sub_mod (show W ≤ p by omega)]
theorem enc_runs {W : Nat} {L2 L3 : List ByteArray} (C : Cd L2 L3 W) {B : Nat} (hB : OkB L2 L3 B) : ∀ (D : List Int) (s : Int) (out : ByteArray),OkD L2 L3 D → RunI L2 L3 B s (rv out) → ∀ n ∈ rr (rv (out ++ encB L2 L3 s D)),n ≤ B := by
  intro D
  induction D with
  | nil =>
    intro s out _ h
    rw [show out ++ encB L2 L3 s [] = out from ByteArray.append_empty]
    exact h.runs
  | cons n D ih =>
    intro s out h hr
    have hm := wat_mem (h n (by simp)) s
    have e : out ++ encB L2 L3 s (n :: D) = (out ++ wat L2 L3 s n) ++ encB L2 L3 (nxt s (wat L2 L3 s n)) D := (ByteArray.append_assoc).symm
    rw [e]
    refine ih _ _ (fun x hx => h x (by simp [hx])) ?_
    rw [rv_app]
    exact hr.step hB hm (C.ne hm)
section
variable (a0 a1 : Int) (L2 L3 : List ByteArray)
theorem enc_val (hv : VC a0 a1 L2 L3) (D : List Int) (hD : D.length ≤ 400) (hok : OkD L2 L3 D) (d : Nat) : ∀ (j : Nat) (st : Int) (out : ByteArray),j + d = D.length → out.size ≤ 12 * j →
    Ev (fun k => impl_EncodeBlocks.l0 k out st D (D.length : Int) (j : Int) a0 a1 L2 L3) (out ++ encB L2 L3 st (D.drop j),encS L2 L3 st (D.drop j),true) := by
  induction d with
  | zero =>
    intro j st out h _
    rw [List.drop_eq_nil_of_le (by omega),show out ++ encB L2 L3 st [] = out from ByteArray.append_empty]
    exact ev_one (fun k => by rw [impl_EncodeBlocks.l0,if_neg (by omega)]; rfl)
  | succ d ih =>
    intro j st out h ho
    have hj : j < D.length := by omega
    have c := hok _ (List.getElem_mem hj)
    have hm := wat_mem c st
    have hz := (hv.mem (lst_mem hm)).2.2
    have hw := Aside0.mk (wrap_succ hj (by omega))
    have hl := lst_len c.2 st
    have i := ih (j + 1) (nxt st (wat L2 L3 st D[j])) (out ++ wat L2 L3 st D[j]) (by omega) (by rw [ByteArray.size_append]; omega)
    have e0 : encB L2 L3 st (D[j] :: D.drop (j + 1)) = wat L2 L3 st D[j] ++ encB L2 L3 (nxt st (wat L2 L3 st D[j])) (D.drop (j + 1)) := rfl
    have e1 : encS L2 L3 st (D[j] :: D.drop (j + 1)) = encS L2 L3 (nxt st (wat L2 L3 st D[j])) (D.drop (j + 1)) := rfl
    rw [drop_cons D j hj,e0,e1,← ByteArray.append_assoc]
    refine Ev.step (fun k => ?_) i
    rw [impl_EncodeBlocks.l0,if_pos (by omega),if_pos (nat0 j),if_pos (by omega),rd_get _ _ hj,hw.out]
    unfold wat lst at *
    by_cases cs : st < 0
    · rw [if_pos cs] at hl hz ⊢
      rw [if_pos cs,show impl_BlockCode_words_neg.f a0 a1 L2 L3 st = some () from if_pos cs,Option.bind_some,if_pos c.1,if_pos hl,if_pos (by omega),implBehindS_f,Option.bind_some]
    · rw [if_neg cs] at hl hz ⊢
      rw [if_neg cs,show impl_BlockCode_words_pos.f a0 a1 L2 L3 st = some () from if_pos cs,Option.bind_some,if_pos c.1,if_pos hl,if_pos (by omega),implBehindS_f,Option.bind_some]
theorem idx_at {a1 o : Int} {L : List ByteArray} (h : ∀ (i : Nat) (hi : i < L.length),WOK L a1 o i hi) (hn : L.length ≤ 1048576) {n : Nat} (hl : n < L.length) : Ev (fun k => slices_Index_string_string.f k L L[n]) (n : Int) := by
  obtain ⟨r,-,e,e1,-,e2⟩ := idx_both L L[n] hn L.length 0 (by omega)
  have h0 : 0 ≤ r := e1.2 (by rw [List.drop_zero]; exact List.mem_map.2 ⟨_,List.getElem_mem hl,rfl⟩)
  obtain ⟨i,rfl,-,hi,q⟩ := e2 h0
  have : i = n := WOK.ne h hi hl q
  subst this
  exact e
theorem dec_val {W : Nat} (hv : VC a0 (W : Int) L2 L3) : ∀ (D : List Int) (st : Int) (V : List Int),OkD L2 L3 D → (st = 1 ∨ st = -1) → V.length + D.length ≤ 400 →
    Ev (fun k => impl_DecodeBlocks.l0 k (encB L2 L3 st D) V [] st a0 (W : Int) L2 L3) (V ++ D,[],encS L2 L3 st D,true) := by
  intro D
  induction D with
  | nil =>
    intro st V _ _ _
    rw [List.append_nil]
    exact ev_one (fun k => by rw [impl_DecodeBlocks.l0,if_neg (by show ¬ ((0 : Nat) : Int) > 0; omega)]; rfl)
  | cons x D ih =>
    intro st V h hst hV
    rw [List.length_cons] at hV
    have c := h x (by simp)
    have hm := wat_mem c st
    have hz : (wat L2 L3 st x).size = W := by have := (hv.mem (lst_mem hm)).2.1; omega
    have hw0 : 2 ≤ W := by have := hv.width; omega
    have hle := hv.le64
    have i := ih (nxt st (wat L2 L3 st x)) (V ++ [x]) (fun y hy => h y (by simp [hy])) (nxt_pm hst _) (by rw [List.length_append]; show V.length + 1 + D.length ≤ 400; omega)
    rw [List.append_assoc] at i
    have hidx : Ev (fun k => slices_Index_string_string.f k (lst L2 L3 st) (wat L2 L3 st x)) x := by
      obtain ⟨m,rfl⟩ := Int.eq_ofNat_of_zero_le c.1
      unfold wat
      rcases hst with rfl | rfl
      · have hl : m < L3.length := by omega
        show Ev (fun k => slices_Index_string_string.f k L3 (rdOf ByteArray.empty L3 (m : Int))) _
        rw [rdS_get L3 m hl]
        exact idx_at hv.w3 (by omega) hl
      · have hl : m < L2.length := by omega
        show Ev (fun k => slices_Index_string_string.f k L2 (rdOf ByteArray.empty L2 (m : Int))) _
        rw [rdS_get L2 m hl]
        exact idx_at hv.w2 (by omega) hl
    have hin := implBehindS_f st (wat L2 L3 st x)
    have e0 : encB L2 L3 st (x :: D) = wat L2 L3 st x ++ encB L2 L3 (nxt st (wat L2 L3 st x)) D := rfl
    have e1 : encS L2 L3 st (x :: D) = encS L2 L3 (nxt st (wat L2 L3 st x)) D := rfl
    rw [e0,e1]
    generalize encS L2 L3 (nxt st (wat L2 L3 st x)) D = t at *
    generalize wat L2 L3 st x = w at *
    generalize encB L2 L3 (nxt st w) D = r at *
    have x1 : (w ++ r).extract 0 ((W : Int)).toNat = w := by
      rw [Int.toNat_natCast]; exact ByteArray.extract_append_eq_left hz.symm
    have x2 : (w ++ r).extract ((W : Int)).toNat (w ++ r).size = r := by
      rw [Int.toNat_natCast]; exact ByteArray.extract_append_eq_right hz.symm (by rw [ByteArray.size_append])
    have hs := ByteArray.size_append (a := w) (b := r)
    have hVl : V.length < 17592186044416 := by omega
    obtain ⟨K1,hidx⟩ := hidx
    obtain ⟨K2,i⟩ := i
    have hidx' : ∀ k,K1 ≤ k → slices_Index_string_string.f k (lst L2 L3 st) w = some x := hidx
    refine ⟨K1 + K2 + 1,fun k hk => ?_⟩
    obtain ⟨k,rfl⟩ : ∃ q,k = q + 1 := ⟨k - 1,by omega⟩
    have hi := i k (by omega)
    have hid := hidx' k (by omega)
    show impl_DecodeBlocks.l0 (k + 1) (w ++ r) V [] st a0 (W : Int) L2 L3 = _
    simp only [impl_DecodeBlocks.l0]
    rw [if_pos (by omega),if_pos (by omega),if_pos (by omega),x1,x2]
    rcases hst with rfl | rfl
    · rw [if_neg (show ¬ (1 : Int) < 0 by decide),ilpos,Option.bind_some]
      rw [show slices_Index_string_string.f k L3 w = some x from hid,Option.bind_some,if_neg (by omega),if_pos hVl,hin,Option.bind_some]
      exact hi
    · rw [if_pos (show (-1 : Int) < 0 by decide),ilneg,Option.bind_some]
      rw [show slices_Index_string_string.f k L2 w = some x from hid,Option.bind_some,if_neg (by omega),if_pos hVl,hin,Option.bind_some]
      exact hi
theorem dl_take (w : ByteArray) (hz : w.size ≤ 12) (n : Nat) : dsp (w.extract 0 n) = dl (w.data.toList.take n) := by
  rw [dsp_dl _ (by rw [ByteArray.size_extract]; omega),ByteArray.data_extract,Array.toList_extract]
  rfl
end
section
variable (a0 a1 : Int) (L2 L3 : List ByteArray)
theorem sv_wordA (L : List ByteArray) (st : Int) (hst : st = 1 ∨ st = -1) (S : List Int) (x19 x20 : Int) (w : ByteArray) (hz : w.size ≤ 12) (i : Nat) (d : Nat) : ∀ (n : Nat) (lo hi : Int),n + d = w.size + 1 →
    ∃ lo' hi' : Int,lo' ≤ lo ∧ hi ≤ hi' ∧ (∀ m,n ≤ m → m ≤ w.size → lo' ≤ st + dl (w.data.toList.take m) ∧ st + dl (w.data.toList.take m) ≤ hi') ∧
      ∀ R,Ev (fun k => impl_SumRange.l1 k lo' hi' st S x19 x20 L (L.length : Int) (wrap64 ((i : Int) + 1)) a0 a1 L2 L3) R → Ev (fun k => impl_SumRange.l2 k lo hi st w S x19 x20 L (L.length : Int) (i : Int) ((w.size : Int) + 1) (n : Int) a0 a1 L2 L3) R := by
  induction d with
  | zero =>
    intro n lo hi h
    exact ⟨lo,hi,Int.le_refl _,Int.le_refl _,fun m h1 h2 => by omega,fun R hR => Ev.step (fun k => by rw [impl_SumRange.l2,if_neg (by omega)]) hR⟩
  | succ d ih =>
    intro n lo hi h
    have hd := dl_take w hz n
    have hb : -20 ≤ dl (w.data.toList.take n) ∧ dl (w.data.toList.take n) ≤ 20 := by
      rw [dl_count]
      have h1 := List.count_le_length (a := (49 : UInt8)) (l := w.data.toList.take n)
      have h2 : (w.data.toList.take n).length ≤ 12 := by rw [List.length_take,← size_l]; omega
      omega
    have hs : wrap64 (st + dsp (w.extract 0 n)) = st + dl (w.data.toList.take n) := by rw [hd,wrap64_in (by omega) (by omega)]
    have hw : wrap64 ((n : Int) + 1) = ((n + 1 : Nat) : Int) := by rw [wrap64_in (by omega) (by omega)]; omega
    obtain ⟨lo',hi',e1,e2,e3,e4⟩ := ih (n + 1) (mn lo (st + dl (w.data.toList.take n))) (mx hi (st + dl (w.data.toList.take n))) (by omega)
    have q1 : lo' ≤ lo ∧ lo' ≤ st + dl (w.data.toList.take n) := by unfold mn at e1; split at e1 <;> omega
    have q2 : hi ≤ hi' ∧ st + dl (w.data.toList.take n) ≤ hi' := by unfold mx at e2; split at e2 <;> omega
    refine ⟨lo',hi',q1.1,q2.1,fun m h1 h2 => ?_,fun R hR => Ev.step (fun k => ?_) (e4 R hR)⟩
    · by_cases c : m = n
      · subst c; exact ⟨q1.2,q2.2⟩
      · exact e3 m (by omega) h2
    · rw [impl_SumRange.l2,if_pos (by omega),if_pos (nat0 n),if_pos (by omega),Int.toNat_natCast,disp_f,Option.bind_some,hs,hw]
theorem sv_listA (L : List ByteArray) (st : Int) (hst : st = 1 ∨ st = -1) (hL : ∀ w ∈ L,w.size ≤ 12) (hl : L.length ≤ 64) (S : List Int) (x19 x20 : Int) (d : Nat) : ∀ (i : Nat) (lo hi : Int),i + d = L.length →
    ∃ lo' hi' : Int,lo' ≤ lo ∧ hi ≤ hi' ∧ (∀ w ∈ L.drop i,∀ m,m ≤ w.size → lo' ≤ st + dl (w.data.toList.take m) ∧ st + dl (w.data.toList.take m) ≤ hi') ∧
      ∀ R,Ev (fun k => impl_SumRange.l0 k lo' hi' S x19 (wrap64 (x20 + 1)) a0 a1 L2 L3) R → Ev (fun k => impl_SumRange.l1 k lo hi st S x19 x20 L (L.length : Int) (i : Int) a0 a1 L2 L3) R := by
  induction d with
  | zero =>
    intro i lo hi h
    exact ⟨lo,hi,Int.le_refl _,Int.le_refl _,fun w hw => (by rw [List.drop_eq_nil_of_le (by omega)] at hw; cases hw),fun R hR => Ev.step (fun k => by rw [impl_SumRange.l1,if_neg (by omega)]) hR⟩
  | succ d ih =>
    intro i lo hi h
    have hi' : i < L.length := by omega
    have hz := hL _ (List.getElem_mem hi')
    obtain ⟨lo1,hi1,e1,e2,e3,e4⟩ := sv_wordA a0 a1 L2 L3 L st hst S x19 x20 L[i] hz i (L[i].size + 1) 0 lo hi (by omega)
    obtain ⟨lo2,hi2,f1,f2,f3,f4⟩ := ih (i + 1) lo1 hi1 (by omega)
    have hw : wrap64 ((i : Int) + 1) = ((i + 1 : Nat) : Int) := by rw [wrap64_in (by omega) (by omega)]; omega
    have hw2 : wrap64 ((L[i].size : Int) + 1) = (L[i].size : Int) + 1 := wrap64_in (by omega) (by omega)
    refine ⟨lo2,hi2,by omega,by omega,fun w hw m hm => ?_,fun R hR => Ev.step (fun k => ?_) (e4 R (by rw [hw]; exact f4 R hR))⟩
    · rw [drop_cons L i hi'] at hw
      rcases List.mem_cons.1 hw with rfl | hw
      · have := e3 m (Nat.zero_le _) hm; omega
      · exact f3 w hw m hm
    · rw [impl_SumRange.l1,if_pos (by omega),if_pos (nat0 i),if_pos (by omega),rdS_get L i hi',hw2]
      rfl
theorem sv_wordB (L : List ByteArray) (st : Int) (hst : st = 1 ∨ st = -1) (S : List Int) (x19 x20 : Int) (w : ByteArray) (hz : w.size ≤ 12) (i : Nat) (d : Nat) : ∀ (n : Nat) (lo hi : Int),n + d = w.size + 1 →
    ∃ lo' hi' : Int,lo' ≤ lo ∧ hi ≤ hi' ∧ (∀ m,n ≤ m → m ≤ w.size → lo' ≤ st + dl (w.data.toList.take m) ∧ st + dl (w.data.toList.take m) ≤ hi') ∧
      ∀ R,Ev (fun k => impl_SumRange.l101 k lo' hi' st S x19 x20 L (L.length : Int) (wrap64 ((i : Int) + 1)) a0 a1 L2 L3) R → Ev (fun k => impl_SumRange.l102 k lo hi st w S x19 x20 L (L.length : Int) (i : Int) ((w.size : Int) + 1) (n : Int) a0 a1 L2 L3) R := by
  induction d with
  | zero =>
    intro n lo hi h
    exact ⟨lo,hi,Int.le_refl _,Int.le_refl _,fun m h1 h2 => by omega,fun R hR => Ev.step (fun k => by rw [impl_SumRange.l102,if_neg (by omega)]) hR⟩
  | succ d ih =>
    intro n lo hi h
    have hd := dl_take w hz n
    have hb : -20 ≤ dl (w.data.toList.take n) ∧ dl (w.data.toList.take n) ≤ 20 := by
      rw [dl_count]
      have h1 := List.count_le_length (a := (49 : UInt8)) (l := w.data.toList.take n)
      have h2 : (w.data.toList.take n).length ≤ 12 := by rw [List.length_take,← size_l]; omega
      omega
    have hs : wrap64 (st + dsp (w.extract 0 n)) = st + dl (w.data.toList.take n) := by rw [hd,wrap64_in (by omega) (by omega)]
    have hw : wrap64 ((n : Int) + 1) = ((n + 1 : Nat) : Int) := by rw [wrap64_in (by omega) (by omega)]; omega
    obtain ⟨lo',hi',e1,e2,e3,e4⟩ := ih (n + 1) (mn lo (st + dl (w.data.toList.take n))) (mx hi (st + dl (w.data.toList.take n))) (by omega)
    have q1 : lo' ≤ lo ∧ lo' ≤ st + dl (w.data.toList.take n) := by unfold mn at e1; split at e1 <;> omega
    have q2 : hi ≤ hi' ∧ st + dl (w.data.toList.take n) ≤ hi' := by unfold mx at e2; split at e2 <;> omega
    refine ⟨lo',hi',q1.1,q2.1,fun m h1 h2 => ?_,fun R hR => Ev.step (fun k => ?_) (e4 R hR)⟩
    · by_cases c : m = n
      · subst c; exact ⟨q1.2,q2.2⟩
      · exact e3 m (by omega) h2
    · rw [impl_SumRange.l102,if_pos (by omega),if_pos (nat0 n),if_pos (by omega),Int.toNat_natCast,disp_f,Option.bind_some,hs,hw]
theorem sv_listB (L : List ByteArray) (st : Int) (hst : st = 1 ∨ st = -1) (hL : ∀ w ∈ L,w.size ≤ 12) (hl : L.length ≤ 64) (S : List Int) (x19 x20 : Int) (d : Nat) : ∀ (i : Nat) (lo hi : Int),i + d = L.length →
    ∃ lo' hi' : Int,lo' ≤ lo ∧ hi ≤ hi' ∧ (∀ w ∈ L.drop i,∀ m,m ≤ w.size → lo' ≤ st + dl (w.data.toList.take m) ∧ st + dl (w.data.toList.take m) ≤ hi') ∧
      ∀ R,Ev (fun k => impl_SumRange.l0 k lo' hi' S x19 (wrap64 (x20 + 1)) a0 a1 L2 L3) R → Ev (fun k => impl_SumRange.l101 k lo hi st S x19 x20 L (L.length : Int) (i : Int) a0 a1 L2 L3) R := by
  induction d with
  | zero =>
    intro i lo hi h
    exact ⟨lo,hi,Int.le_refl _,Int.le_refl _,fun w hw => (by rw [List.drop_eq_nil_of_le (by omega)] at hw; cases hw),fun R hR => Ev.step (fun k => by rw [impl_SumRange.l101,if_neg (by omega)]) hR⟩
  | succ d ih =>
    intro i lo hi h
    have hi' : i < L.length := by omega
    have hz := hL _ (List.getElem_mem hi')
    obtain ⟨lo1,hi1,e1,e2,e3,e4⟩ := sv_wordB a0 a1 L2 L3 L st hst S x19 x20 L[i] hz i (L[i].size + 1) 0 lo hi (by omega)
    obtain ⟨lo2,hi2,f1,f2,f3,f4⟩ := ih (i + 1) lo1 hi1 (by omega)
    have hw : wrap64 ((i : Int) + 1) = ((i + 1 : Nat) : Int) := by rw [wrap64_in (by omega) (by omega)]; omega
    have hw2 : wrap64 ((L[i].size : Int) + 1) = (L[i].size : Int) + 1 := wrap64_in (by omega) (by omega)
    refine ⟨lo2,hi2,by omega,by omega,fun w hw m hm => ?_,fun R hR => Ev.step (fun k => ?_) (e4 R (by rw [hw]; exact f4 R hR))⟩
    · rw [drop_cons L i hi'] at hw
      rcases List.mem_cons.1 hw with rfl | hw
      · have := e3 m (Nat.zero_le _) hm; omega
      · exact f3 w hw m hm
    · rw [impl_SumRange.l101,if_pos (by omega),if_pos (nat0 i),if_pos (by omega),rdS_get L i hi',hw2]
      rfl
theorem sumRange_val (hv : VC a0 a1 L2 L3) : ∃ lo hi : Int,(lo ≤ -1 ∧ 1 ≤ hi) ∧ (∀ s w,(s = 1 ∨ s = -1) → w ∈ lst L2 L3 s → ∀ n,n ≤ w.size → lo ≤ s + dl (w.data.toList.take n) ∧ s + dl (w.data.toList.take n) ≤ hi) ∧ Ev (fun k => impl_SumRange.f k a0 a1 L2 L3) (lo,hi,true) := by
  obtain ⟨hl2,hl3⟩ := hv.le64
  have c2 : ∀ w ∈ L2,w.size ≤ 12 := fun w h => (hv.mem (.inl h)).2.2
  have c3 : ∀ w ∈ L3,w.size ≤ 12 := fun w h => (hv.mem (.inr h)).2.2
  obtain ⟨lo,hi,g1,g2,g3,f⟩ := sv_listA a0 a1 L2 L3 L2 (-1) (.inr rfl) c2 hl2 [-1,1] 2 0 L2.length 0 (-1) 1 (by omega)
  obtain ⟨lo',hi',g1',g2',g3',q⟩ := sv_listB a0 a1 L2 L3 L3 1 (.inl rfl) c3 hl3 [-1,1] 2 1 L3.length 0 lo hi (by omega)
  have w1 : wrap64 ((0 : Int) + 1) = 1 := wrap64_in (by decide) (by decide)
  have w2 : wrap64 ((1 : Int) + 1) = 2 := wrap64_in (by decide) (by decide)
  refine ⟨lo',hi',⟨by omega,by omega⟩,fun s w hs hw n hn => ?_,?_⟩
  · rcases hs with rfl | rfl
    · exact g3' w (by rw [List.drop_zero]; exact hw) n hn
    · have := g3 w (by rw [List.drop_zero]; exact hw) n hn
      omega
  · unfold impl_SumRange.f
    refine Ev.bind (valid_impl a0 a1 L2 L3 hv) (ev_pos rfl (ev_to rfl ?_))
    have r0 : rd [-1,1] 0 = -1 := rfl
    have r1 : rd [-1,1] 1 = 1 := rfl
    refine Ev.step (fun k => ?_) (f (lo',hi',true) (Ev.step (fun k => ?_) (q (lo',hi',true) (ev_one (fun k => by rw [w2,impl_SumRange.l0,if_neg (by omega)])))))
    · rw [impl_SumRange.l0,if_pos (by decide),if_pos (by decide),if_pos (by decide),r0,if_pos (by decide),show impl_BlockCode_words_neg.f a0 a1 L2 L3 (-1) = some () from if_pos (by decide),Option.bind_some]
      rfl
    · rw [w1,impl_SumRange.l0,if_pos (by omega),if_pos (by decide),if_pos (by decide),r1,if_neg (by decide),show impl_BlockCode_words_pos.f a0 a1 L2 L3 1 = some () from if_pos (by decide),Option.bind_some]
      rfl
end
theorem nums_loop (D : List Int) (hD : D.length ≤ 1000) (d : Nat) : ∀ j : Nat,j + d = D.length → Ev (fun k => laws_b10Nums.l0 k D D (j : Int)) true := by
  induction d with
  | zero => intro j h; exact ev_one (fun k => by rw [laws_b10Nums.l0,if_neg (by omega)])
  | succ d ih =>
    intro j h
    have hw := wrap_succ (j := j) (n := D.length) (by omega) (by omega)
    exact Ev.step (fun k => by rw [laws_b10Nums.l0,if_pos (by omega),if_pos (by omega),if_pos (by omega),if_pos rfl,hw]) (ih (j + 1) (by omega))
theorem nums_ev (D : List Int) (hD : D.length ≤ 1000) : Ev (fun k => laws_b10Nums.f k D D) true := ev_pos rfl (nums_loop D hD D.length 0 (by omega))
theorem end_loop (lo hi most : Int) (hl : lo ≤ -1) (hh : 1 ≤ hi) (hm : 1 ≤ most) (R : List Int) (hR : ∀ x ∈ R,x ≤ most) (hn : R.length ≤ 1000000) (d : Nat) : ∀ j : Nat,j + d = R.length → Ev (fun k => laws_FnBlocks.l1 k lo hi most R (j : Int)) true := by
  induction d with
  | zero => intro j h; exact ev_one (fun k => by rw [laws_FnBlocks.l1,if_neg (by omega),if_pos hl,if_pos hh,decide_eq_true hm])
  | succ d ih =>
    intro j h
    have hj : j < R.length := by omega
    have hw := wrap_succ hj (by omega)
    have hx := hR _ (List.getElem_mem hj)
    exact Ev.step (fun k => by rw [laws_FnBlocks.l1,if_pos (by omega),if_pos (by omega),rd_get _ _ hj,if_neg (by omega),hw]) (ih (j + 1) (by omega))
theorem dl_bound (l : List UInt8) (h : l.length ≤ 400) : -400 ≤ dl l ∧ dl l ≤ 400 := by
  rw [dl_count]
  have := List.count_le_length (a := (49 : UInt8)) (l := l)
  omega
theorem bt_bit {s : ByteArray} (hB : areB s.data.toList = true) {j : Nat} (hj : j < s.data.toList.length) : (bt s (j : Int) = 49 ∧ stp s.data.toList[j] = 1) ∨ (¬ bt s (j : Int) = 49 ∧ stp s.data.toList[j] = -1) := by
  rw [bt_l s j hj]
  unfold stp
  by_cases c : s.data.toList[j] = 49
  · rw [c,if_pos rfl]; exact .inl ⟨rfl,rfl⟩
  · rw [if_neg c]
    refine .inr ⟨fun q => c ?_,rfl⟩
    have : s.data.toList[j].toNat = 49 := by omega
    exact UInt8.toNat_inj.1 this
theorem sums_loop (a0 : Int) (W : Nat) (L2 L3 : List ByteArray) (hW : 2 ≤ W ∧ W ≤ 12) (s : ByteArray) (hz : s.size ≤ 400) (hB : areB s.data.toList = true) (st lo hi most : Int) (hst : st = 1 ∨ st = -1) (R : List Int)
    (hf : ∀ p,p ≤ s.size → (lo ≤ st + dl (s.data.toList.take p) ∧ st + dl (s.data.toList.take p) ≤ hi) ∧ (p % W = 0 → (st + dl (s.data.toList.take p) = 1 ∨ st + dl (s.data.toList.take p) = -1)))
    (hend : Ev (fun k => laws_FnBlocks.l1 k lo hi most R 0) true) (d : Nat) : ∀ j : Nat,j + d = s.size → Ev (fun k => laws_FnBlocks.l0 k s lo hi most R (st + dl (s.data.toList.take j)) (j : Int) a0 (W : Int) L2 L3) true := by
  induction d with
  | zero => intro j h; exact Ev.step (fun k => by rw [laws_FnBlocks.l0,if_neg (by omega)]) hend
  | succ d ih =>
    intro j h
    have hj : j < s.data.toList.length := by rw [← size_l]; omega
    have i := ih (j + 1) (by omega)
    have f := hf (j + 1) (by omega)
    have hb := dl_bound (s.data.toList.take j) (by rw [List.length_take,← size_l]; omega)
    have hw : wrap64 ((j : Int) + 1) = ((j + 1 : Nat) : Int) := by rw [wrap64_in (by omega) (by omega)]; omega
    have et : st + dl (s.data.toList.take (j + 1)) = st + dl (s.data.toList.take j) + stp s.data.toList[j] := by
      rw [take_snoc' _ _ hj,dl_app]
      show st + (dl _ + (stp _ + 0)) = _
      omega
    generalize hx : st + dl (s.data.toList.take (j + 1)) = x at *
    generalize hy : st + dl (s.data.toList.take j) = y at *
    have hy2 : -500 ≤ y ∧ y ≤ 500 := by omega
    clear hx hy hb hf ih hend
    have hmod : Int.tmod (((j + 1 : Nat) : Int)) (W : Int) = (((j + 1) % W : Nat) : Int) := by
      rw [Int.tmod_eq_emod_of_nonneg (by omega)]; omega
    have j3 : Ev (fun k => laws_FnBlocks.j3 k s lo hi most R x (j : Int) false a0 (W : Int) L2 L3) true := by
      refine Ev.step (fun k => ?_) i
      rw [laws_FnBlocks.j3,if_neg Bool.false_ne_true,if_neg (by omega),hw,hmod]
      by_cases c : (j + 1) % W = 0
      · rw [if_pos (by omega)]
        rcases f.2 c with p | p
        · rw [if_pos p]
        · rw [if_neg (by omega),if_pos p]
      · rw [if_neg (by omega)]
    have j2 : Ev (fun k => laws_FnBlocks.j2 k s lo hi most R x (j : Int) a0 (W : Int) L2 L3) true :=
      Ev.step (fun k => by rw [laws_FnBlocks.j2,if_neg (by omega),decide_eq_false (by omega)]) j3
    refine Ev.step (fun k => ?_) j2
    rw [laws_FnBlocks.l0,if_pos (by omega),if_pos (by omega)]
    rcases bt_bit hB hj with ⟨p,q⟩ | ⟨p,q⟩
    · rw [if_pos p,wrap64_in (by omega) (by omega),show y + 1 = x by omega]
    · rw [if_neg p,wrap64_in (by omega) (by omega),show y - 1 = x by omega]
theorem FnBlocks : laws_FnBlocks.Pure := by
  intro l0 l1 n0 b0 n1 b1
  apply Ev.rounds
  unfold laws_FnBlocks.f laws_b10Long.f
  by_cases c0 : (l0.length : Int) > 1048576
  · rw [if_pos c0]; exact ev_some (ev_pos rfl (Ev.now _))
  rw [if_neg c0]
  refine ev_some ?_
  by_cases c1 : (l1.length : Int) > 1048576
  · rw [decide_eq_true c1]; exact ev_pos rfl (Ev.now _)
  rw [decide_eq_false c1]
  refine ev_neg Bool.false_ne_true ?_
  obtain ⟨a0,a1,L2,L3,hv,hblock⟩ := block_ev l0 n0 b0
  obtain ⟨D,hD,hall,hdata⟩ := data_ev l1 n1 b1 hv
  obtain ⟨u,hu,u0,u1⟩ := b10At_f l1 n1 b1 0 2 (by decide) (by decide) (by decide)
  obtain ⟨W,rfl,w1,w2,z2,z3⟩ := hv.sizes
  have hst : wrap64 (wrap64 (2 * u) - 1) = 1 ∨ wrap64 (wrap64 (2 * u) - 1) = -1 := by
    rw [wrap64_in (x := 2 * u) (by omega) (by omega),wrap64_in (by omega) (by omega)]; omega
  refine Ev.bind hblock (Ev.bind hdata (ev_to hu ?_))
  show Ev (fun k => (impl_EncodeBlocks.f k a0 (W : Int) L2 L3 (wrap64 (wrap64 (2 * u) - 1)) D).bind _) true
  generalize wrap64 (wrap64 (2 * u) - 1) = st at hst ⊢
  clear hu u0 u1 u hdata hblock
  have hok := hv.okD hall
  have hn2 := hv.n2
  have C := hv.cd w1 w2 z2 z3
  have hle := hv.le64
  have hsz := encB_size hv D st hok
  have hWD : W * D.length ≤ 12 * 8 := Nat.mul_le_mul w2 hD
  have hWD2 : (W : Int) * (D.length : Int) = ((W * D.length : Nat) : Int) := by rw [Int.natCast_mul]
  have hbits := encB_bits hv D st hok
  have hdl := encS_dl hv D st hok hst
  have hpm := encS_pm (L2 := L2) (L3 := L3) D st hst
  have hIB : IB (encB L2 L3 st D) = true := by
    unfold IB; rw [hbits,Bool.true_and]; exact decide_eq_true (by omega)
  have hval := valid_impl a0 (W : Int) L2 L3 hv
  have hline : impl_isLineState.f st = some true := by
    rcases hst with rfl | rfl <;> rfl
  have hda := hv.data
  have henc : Ev (fun k => impl_EncodeBlocks.f k a0 (W : Int) L2 L3 st D) (encB L2 L3 st D,encS L2 L3 st D,true) := by
    have ha := areIn_ev D 0 (wrap64 (shl .i64 1 a0 - 1)) (by omega)
    rw [show (D.all fun x => decide (0 ≤ x ∧ x ≤ wrap64 (shl .i64 1 a0 - 1))) = true from List.all_eq_true.2 (fun x hx => decide_eq_true (hall x hx))] at ha
    have e := enc_val a0 (W : Int) L2 L3 hv D (by omega) hok D.length 0 st ⟨#[]⟩ (by omega) (by decide)
    rw [List.drop_zero,show (⟨#[]⟩ : ByteArray) ++ encB L2 L3 st D = encB L2 L3 st D from ByteArray.empty_append] at e
    have hq : decide ((D.length : Int) > wrap64 (Int.tdiv (400 : Int) (W : Int))) = false := by
      have h1 : (33 : Int) ≤ 400 / (W : Int) := Int.le_ediv_of_mul_le (by omega) (by omega)
      have h2 : (400 : Int) / (W : Int) ≤ 400 := Int.ediv_le_self _ (by decide)
      rw [Int.tdiv_eq_ediv_of_nonneg (by decide),wrap64_in (by omega) (by omega)]
      exact decide_eq_false (by omega)
    unfold impl_EncodeBlocks.f
    refine Ev.bind hval (ev_pos rfl (ev_to hline (ev_pos rfl (ev_pos (by omega) (Ev.bind ha (ev_pos rfl (ev_neg (by omega) ?_)))))))
    rw [hq]
    exact Ev.step (fun k => by rw [impl_EncodeBlocks.j0,if_neg Bool.false_ne_true]; rfl) e
  have hib := isBits_f (encB L2 L3 st D) (by omega)
  rw [hIB] at hib
  have hdec : Ev (fun k => impl_DecodeBlocks.f k a0 (W : Int) L2 L3 st (encB L2 L3 st D)) (D,[],encS L2 L3 st D,true) := by
    have e := dec_val a0 L2 L3 hv D st [] hok hst (by show 0 + D.length ≤ 400; omega)
    have hm : ((((encB L2 L3 st D).size : Int) % (W : Int)) != 0) = false := by
      rw [hsz,Int.natCast_mul,Int.mul_emod_right]; rfl
    unfold impl_DecodeBlocks.f
    refine Ev.bind hval (ev_pos rfl (ev_to hline (ev_pos rfl (ev_to hib (ev_pos rfl (ev_neg (by omega) ?_))))))
    rw [hm]
    exact Ev.step (fun k => by rw [impl_DecodeBlocks.j0,if_neg Bool.false_ne_true]) e
  obtain ⟨lo,hi,hlh,hsums,hsr⟩ := sumRange_val a0 (W : Int) L2 L3 hv
  have hb : ∀ s w,w ∈ lst L2 L3 s → lby (rv w) = 48 ∨ lby (rv w) = 49 := fun s w hw => lby_bit (C.ne hw) (IB_parts (hv.mem (lst_mem hw)).1).1
  obtain ⟨M,q1,q2⟩ := implRun_ev a0 (W : Int) L2 L3 C w2 hle.1 hle.2 hb
  have hrun : Ev (fun k => impl_RunBound.f k a0 (W : Int) L2 L3) ((M : Int),true) := by
    unfold impl_RunBound.f
    exact Ev.bind hval (ev_pos rfl q2)
  have hOk : OkB L2 L3 M := (q1 M).1 (Nat.le_refl _)
  have hM : 1 ≤ M := by
    obtain ⟨w,hw⟩ := C.some_ 1
    have h1 := hOk 1 [] w (Reach.start 1 (.inl rfl)) hw (ln (rv w)) (by rw [List.append_nil]; exact ln_mem (C.ne hw))
    have h2 := ln_pos (C.ne hw)
    omega
  have hruns := enc_runs C hOk D st ⟨#[]⟩ hok (RunI.start hst)
  rw [show (⟨#[]⟩ : ByteArray) ++ encB L2 L3 st D = encB L2 L3 st D from ByteArray.empty_append] at hruns
  have hdis : impl_DisparityOf.f (encB L2 L3 st D) = some (dl (encB L2 L3 st D).data.toList,true) := by
    unfold impl_DisparityOf.f
    rw [hib,Option.bind_some,if_pos rfl,disp_f,Option.bind_some,dsp_dl _ (by omega)]
  have hrl : Ev (fun k => impl_RunLengths.f k (encB L2 L3 st D)) (RS (encB L2 L3 st D),true) := by
    unfold impl_RunLengths.f
    exact ev_to hib (ev_pos rfl (Ev.bind (f := fun k t => some (t,true)) (implRuns_ev _ (by omega)) (Ev.now _)))
  have hRS : ∀ x ∈ RS (encB L2 L3 st D),x ≤ (M : Int) := by
    intro x hx
    unfold RS RI at hx
    obtain ⟨n,hn,rfl⟩ := List.mem_map.1 hx
    exact Int.ofNat_le.2 (hruns n (List.mem_reverse.1 hn))
  have hRl : (RS (encB L2 L3 st D)).length ≤ 1000000 := by
    unfold RS
    rw [RI_len,List.length_reverse]
    have := rr_len (rv (encB L2 L3 st D))
    rw [rv_len] at this
    omega
  have hnums := nums_ev D (by omega)
  have hfacts := enc_sums hv hlh hsums D st hok hst
  have hend := end_loop lo hi (M : Int) hlh.1 hlh.2 (by omega) (RS (encB L2 L3 st D)) hRS hRl _ 0 (by rw [Nat.zero_add])
  have hloop := sums_loop a0 W L2 L3 ⟨w1,w2⟩ (encB L2 L3 st D) (by omega) hbits st lo hi (M : Int) hst (RS (encB L2 L3 st D)) hfacts hend (encB L2 L3 st D).size 0 (by omega)
  rw [List.take_zero,show st + dl [] = st from Int.add_zero st] at hloop
  have hsz2 : ((encB L2 L3 st D).size : Int) = wrap64 ((W : Int) * (D.length : Int)) := by rw [hWD2,hsz,wrap64_in (by omega) (by omega)]
  have hdl2 : (wrap64 (st + dl (encB L2 L3 st D).data.toList) != encS L2 L3 st D) = false := by
    rw [hdl,wrap64_in (by omega) (by omega)]; simp
  clear hfacts hend hRS hRl hruns hsums hdl hok C hb q1 q2 hOk
  generalize encB L2 L3 st D = bits at *
  generalize encS L2 L3 st D = st2 at *
  generalize RS bits = R at *
  generalize dl bits.data.toList = dd at *
  refine Ev.bind henc (Ev.bind hdec (Ev.bind hsr (Ev.bind hrun (ev_to hdis (Ev.bind hrl ?_)))))
  refine ev_pos rfl (ev_pos rfl (ev_pos rfl (ev_pos rfl (ev_pos rfl (ev_pos rfl (Ev.bind hval (ev_pos rfl (Ev.bind hnums (ev_pos rfl (ev_pos rfl (ev_pos rfl (ev_pos hsz2 ?_))))))))))))
  show Ev (fun k => laws_FnBlocks.j0 k st bits lo hi (M : Int) R (wrap64 (st + dd) != st2) a0 (W : Int) L2 L3) true
  rw [hdl2]
  exact Ev.step (fun k => by rw [laws_FnBlocks.j0,if_neg Bool.false_ne_true]; rfl) hloop
end Go.Proofs.YtegeaoiclepkkabDoor.Pure
