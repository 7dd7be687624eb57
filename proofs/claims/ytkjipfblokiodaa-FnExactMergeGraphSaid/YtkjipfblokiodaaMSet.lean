/-
A set that a call makes (a map to bools that holds true alone), looked into and added to; conditions: the map's block is the call's own.
-/
import Derived.Maps.OwnSet
import Derived.Maps.OwnOps
import Derived.Below
import Derived.Deep.Draws
import Derived.RowKit3
namespace Go.Proofs.Ytkjipfblokiodaa.MSet
open Go Go.Maps Go.RowKit
variable {P : Program} {k e t : TypeId} {w : World} {b n : Nat} {S : Value → Bool}

/-- Block b is a set of at most n keys; S tells what is in it. -/
def SetIs (w : World) (P : Program) (k e : TypeId) (b n : Nat) (S : Value → Bool) : Prop :=
  ∃ D : DataW Unit, w.ownsMap P k (plainElem P e) b n D ∧ IsMap D ∧ ∀ key kl, keyOf P k key = some kl → D.atKey kl (.lit (.bool false)) = .lit (.bool (S key))
theorem SetIs.made (w : World) (P : Program) (k e : TypeId) : SetIs (w.alloc (.map #[] 0)) P k e w.heap.size 0 (fun _ => false) :=
  ⟨.map [], World.ownsMap_made _ _ _ _, isMap_empty, fun _ _ _ => rfl⟩
theorem SetIs.kept (h : SetIs w P k e b n S) {w' : World} {row : Option Nat} (hg : w.grownBy w' row) (hne : some b ≠ row) : SetIs w' P k e b n S := by
  obtain ⟨D, h1, h2, h3⟩ := h
  exact ⟨D, h1.kept hg hne, h2, h3⟩
theorem SetIs.mono (h : SetIs w P k e b n S) {m : Nat} (hm : n ≤ m) : SetIs w P k e b m S := by
  obtain ⟨D, h1, h2, h3⟩ := h
  exact ⟨D, h1.mono hm, h2, h3⟩
theorem SetIs.lt (h : SetIs w P k e b n S) : b < w.heap.size := by
  obtain ⟨D, h1, _⟩ := h
  exact h1.lt
theorem SetIs.of_heap (h : SetIs w P k e b n S) {w' : World} (hh : w'.heap[b]? = w.heap[b]?) : SetIs w' P k e b n S := by
  obtain ⟨D, ⟨es, clock, h1, h2⟩, h3⟩ := h
  exact ⟨D, ⟨es, clock, hh.trans h1, h2⟩, h3⟩
theorem SetIs.below (h : SetIs w P k e b n S) {w' : World} (hb : Below w.heap.size w w') : SetIs w' P k e b n S := h.of_heap (hb.block b h.lt)
theorem SetIs.alloc (h : SetIs w P k e b n S) (o : Obj) : SetIs (w.alloc o) P k e b n S := h.kept (World.grownBy_alloc w o none) (by simp)
theorem SetIs.drew (h : SetIs w P k e b n S) : SetIs w.drew P k e b n S := h.of_heap rfl
theorem SetIs.drewN (h : SetIs w P k e b n S) (m : Nat) : SetIs (w.drewN m) P k e b n S := h.of_heap rfl
theorem SetIs.setCell (h : SetIs w P k e b n S) {p : Addr} (hp : b ≠ p.block) (u : Value) : SetIs (w.setCell p u) P k e b n S := h.of_heap (Below.heap_setCell w p u b hp)

theorem bool_inv (he : P.underlying e = some .bool) {v : Value} {x : Bool} {ps : List MemPlace} (h : plainElem (H := Unit) P e v = some (.lit (.bool x), ps)) : v = .bool x := by
  unfold plainElem at h
  rw [he] at h
  split at h
  · simp at h; rw [h.1]
  · split at h <;> simp at h
  · split at h <;> simp at h
  · cases h

section
variable {ops : Array Oper} {rest : List Oper} {o : Oper} {a : Act} {Q : Exit → Act → World → Prop}
/-- 'seen[x]'. -/
theorem wpList_seen (w : World) (hg : o.guard = none) (m x : Operand) (t : TypeId) (hop : o.op = Op.lookup t m x false)
    (k e : TypeId) (K : Keyed P k) (ht : P.underlying t = some (.map k e)) (he : P.underlying e = some .bool) (hz : (zeroValue e).run P w = .ok (.bool false) w) (b n : Nat) (S : Value → Bool)
    (hm : a.eval m = .map (some b)) (hown : SetIs w P k e b n S) (key : Value) (kl : Lit) (hx : a.eval x = key) (hkey : keyOf P k key = some kl)
    (hK : wpList P ops Q rest (a.put o.dst (.bool (S key))) w) :
    wpList P ops Q (o :: rest) a w := by
  refine wpList_plain hg fun K' hK' => ?_
  obtain ⟨D, h1, h2, h3⟩ := hown
  obtain ⟨v, ps, hrun, hv⟩ := h1.lookup K ht hz (plainElem_bool he false) hkey
  rw [h3 key kl hkey] at hv
  obtain rfl := bool_inv he hv
  unfold Oper.wp
  simp [execOp, hop, hm, hx, hrun, Result.andThen]
  exact hK' _ _ hK
/-- 'seen[x] = true'. -/
theorem wpList_see (w : World) (hg : o.guard = none) (m x v : Operand) (t : TypeId) (hop : o.op = Op.mapUpdate t m x v)
    (k e : TypeId) (K : Keyed P k) (ht : P.underlying t = some (.map k e)) (he : P.underlying e = some .bool) (b n : Nat) (S : Value → Bool)
    (hm : a.eval m = .map (some b)) (hown : SetIs w P k e b n S) (hn : n < maxLen) (key : Value) (kl : Lit) (hx : a.eval x = key) (hv : a.eval v = .bool true) (hkey : keyOf P k key = some kl)
    (S' : Value → Bool) (hS : S' key = true) (hS' : ∀ u, u ≠ key → S' u = S u)
    (hK : ∀ w', SetIs w' P k e b (n + 1) S' → w.grownBy w' (some b) → wpList P ops Q rest (a.put o.dst undef) w') :
    wpList P ops Q (o :: rest) a w := by
  obtain ⟨D, h1, h2, h3⟩ := hown
  refine wpList_mapUpdate_own w hg m x v t hop k e K ht (plainElem P e) b n D hm h1 hn key (.bool true) kl hx hv hkey (.lit (.bool true)) [] (plainElem_bool he true) (fun w' r1 r2 => ?_)
  refine hK w' ⟨_, r1, h2.put _ _, fun key' kl' hk' => ?_⟩ r2
  by_cases c : key' = key
  · subst c
    obtain rfl : kl' = kl := by rw [hkey] at hk'; exact (Option.some.inj hk').symm
    rw [atKey_put_same h2 (K.key hkey), hS]
  · have hne : kl' ≠ kl := fun e' => c (K.inj hk' (by rw [e']; exact hkey))
    first | rw [atKey_put_other hne, h3 key' kl' hk', hS' key' c] | rw [atKey_put_other hne.symm, h3 key' kl' hk', hS' key' c]
/-- '{x: true}' where a map is laid. -/
theorem wpList_ins (w : World) (hg : o.guard = none) (m x v : Operand) (t : TypeId) (hop : o.op = Op.insert t m x v)
    (k e : TypeId) (K : Keyed P k) (ht : P.underlying t = some (.map k e)) (he : P.underlying e = some .bool) (b n : Nat) (S : Value → Bool)
    (hm : a.eval m = .map (some b)) (hown : SetIs w P k e b n S) (hn : n < maxLen) (key : Value) (kl : Lit) (hx : a.eval x = key) (hv : a.eval v = .bool true) (hkey : keyOf P k key = some kl)
    (S' : Value → Bool) (hS : S' key = true) (hS' : ∀ u, u ≠ key → S' u = S u)
    (hK : ∀ w', SetIs w' P k e b (n + 1) S' → w.grownBy w' (some b) → wpList P ops Q rest (a.put o.dst undef) w') :
    wpList P ops Q (o :: rest) a w := by
  obtain ⟨D, h1, h2, h3⟩ := hown
  refine wpList_plain hg fun K' hK' => ?_
  obtain ⟨w', hrun, r1, r2⟩ := h1.update K ht hn hkey (plainElem_bool (H := Unit) he true)
  unfold Oper.wp
  simp [execOp, hop, hm, hx, hv, hrun, Result.andThen]
  refine hK' _ _ (hK w' ⟨_, r1, h2.put _ _, fun key' kl' hk' => ?_⟩ r2)
  by_cases c : key' = key
  · subst c
    obtain rfl : kl' = kl := by rw [hkey] at hk'; exact (Option.some.inj hk').symm
    rw [atKey_put_same h2 (K.key hkey), hS]
  · have hne : kl' ≠ kl := fun e' => c (K.inj hk' (by rw [e']; exact hkey))
    first | rw [atKey_put_other hne, h3 key' kl' hk', hS' key' c] | rw [atKey_put_other hne.symm, h3 key' kl' hk', hS' key' c]
end
end Go.Proofs.Ytkjipfblokiodaa.MSet
