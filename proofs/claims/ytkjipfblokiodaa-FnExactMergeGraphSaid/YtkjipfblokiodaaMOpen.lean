/-
How arguments that are slices, slices of slices, slices of strings and structs of these are laid open: each reads as a list; conditions: the reading of the argument as data.
-/
import Derived.Test.YtkjipfblokiodaaWMore
import Derived.ProofKit
import Derived.OpenShut
import Derived.Deep.Matrix
import Derived.SliceStrings
import Derived.Lib.SmallJoins
import Derived.WideShapes
import Derived.ChangeArms
namespace Go.Proofs.Ytkjipfblokiodaa.MOpen
open Go.RowKit Go.ChangeShapes Go.WideShapes Go.Deep Go.Joins Go.Proofs.YtkjipfblokiodaaW.PrintWords Go.Proofs.YtkjipfblokiodaaW.PrintLast Go.Proofs.YtkjipfblokiodaaW.PrintMore
set_option linter.unusedVariables false
variable {H : Type} {enc : TypeId × Value → H} {P : Program} {W : World}

theorem maxLen_eq : maxLen = 9223372036854775807 := by decide

theorem ints_C {t e : TypeId} {k : IntKind} {n : Nat} {v : Value} {y : DataW H × List MemPlace} (ht : P.underlying t = some (.slice e)) (he : P.underlying e = some (.int k)) (ce : P.cellsOf e = 1)
    (h : DataW.trod enc P W 0 (fun _ => true) true n t [v] = some y) :
    ∃ (A : Option Addr) (c : Nat) (l : List Int), v = .slice A l.length c ∧ (Kd.int k).C W A l.length l ∧ l.length ≤ c ∧ l.length ≤ maxLen ∧ ∀ x ∈ l, (Lit.int k x).wf = true := by
  rcases open_ints ht he ce h with ⟨hcs, _⟩ | ⟨a, len, cap, zs, hcs, _, hl, hm, hz, _, hcell, hwf⟩
  · obtain rfl : v = .slice none 0 0 := by simpa using hcs
    exact ⟨none, 0, [], rfl, Kd.C_nil _ _, Nat.le_refl _, Nat.zero_le _, by simp⟩
  · obtain rfl : v = .slice (some a) len cap := by simpa using hcs
    obtain ⟨l, e1, h1, h2, h3, h4⟩ := ReadsInt.ofRowC (k := k) (w := W) (a := some a) (len := len) (cap := cap) (zs := zs) (.inr ⟨a, rfl, hl, hm, by simpa using hz, hcell, hwf⟩)
    subst e1
    exact ⟨some a, cap, l, rfl, Kd.C_of_reads (d := (0 : Int)) (h1 := fun _ => rfl) h1, h4, h2, h3⟩

theorem rows_C {t e q : TypeId} {k : IntKind} {n : Nat} {v : Value} {y : DataW H × List MemPlace} (ht : P.underlying t = some (.slice e)) (he : P.underlying e = some (.slice q)) (hq : P.underlying q = some (.int k)) (ce : P.cellsOf e = 1) (cq : P.cellsOf q = 1)
    (h : DataW.trod enc P W 0 (fun _ => true) true n t [v] = some y) :
    ∃ (A : Option Addr) (c : Nat) (l : List (List Int)), v = .slice A l.length c ∧ (Kd.slice q (Kd.int k)).C W A l.length l ∧ l.length ≤ c ∧ l.length ≤ maxLen ∧ ∀ r ∈ l, r.length ≤ maxLen ∧ ∀ x ∈ r, (Lit.int k x).wf = true := by
  rcases open_int_rows ht he hq ce cq h with ⟨hcs, _⟩ | ⟨a, len, cap, A, L, C, Z, hcs, _, hl, hm, _, hr⟩
  · obtain rfl : v = .slice none 0 0 := by simpa using hcs
    exact ⟨none, 0, [], rfl, Kd.C_nil _ _, Nat.le_refl _, Nat.zero_le _, by simp⟩
  · obtain rfl : v = .slice (some a) len cap := by simpa using hcs
    have each : ∀ r, r < cap → ∃ x : List Int, L r = x.length ∧ (Kd.int k).C W (A r) x.length x ∧ x.length ≤ C r ∧ x.length ≤ maxLen ∧ ∀ u ∈ x, (Lit.int k u).wf = true := by
      intro r hlt
      obtain ⟨_, h2, h3, h4, h5, h6, h7⟩ := hr r hlt
      have row : (A r = none ∧ L r = 0 ∧ C r = 0 ∧ Z r = []) ∨ ∃ x, A r = some x ∧ L r ≤ C r ∧ C r ≤ maxLen ∧ (Z r).length = C r ∧ (∀ i, i < (Z r).length → W.cell? (x.add i) = some (.int k ((Z r).getD i 0))) ∧ ∀ n ∈ Z r, (Lit.int k n).wf = true := by
        cases hA : A r with
        | none =>
          have hC := h6 hA
          refine .inl ⟨rfl, by omega, hC, ?_⟩
          rw [hC] at h4
          exact List.eq_nil_of_length_eq_zero h4
        | some x => exact .inr ⟨x, rfl, h2, h3, h4, fun i hi => (h7 x hA).2 i (by omega), h5⟩
      obtain ⟨l, e1, g1, g2, g3, g4⟩ := ReadsInt.ofRowC row
      exact ⟨l, e1, Kd.C_of_reads (d := (0 : Int)) (h1 := fun _ => rfl) g1, g4, g2, g3⟩
    obtain ⟨Y, hY⟩ := choose_lt each
    refine ⟨some a, cap, (List.range len).map Y, by simp, ⟨rfl, by rw [List.length_map, List.length_range]; have := maxLen_eq; omega, fun _ => ⟨a, rfl, fun j p hj => ?_⟩⟩, by simpa using hl, by simp; omega, ?_⟩
    · obtain ⟨hlt, hp⟩ := List.getElem?_eq_some_iff.1 hj
      simp at hlt hp
      subst hp
      obtain ⟨h1, h2, h3, h4, h5⟩ := hY j (by omega)
      refine ⟨[.slice (A j) (Y j).length (C j)], rfl, ⟨A j, C j, rfl, h3, h2⟩, fun i u hu => ?_⟩
      cases i with
      | zero =>
        simp at hu
        subst hu
        have := (hr j (by omega)).1
        rw [h1] at this
        show W.cell? (a.add (j * 1 + 0)) = _
        rw [Nat.mul_one, Nat.add_zero]
        exact this
      | succ i => simp at hu
    · intro r hr2
      obtain ⟨j, hj, rfl⟩ := List.mem_map.1 hr2
      rw [List.mem_range] at hj
      exact ⟨(hY j (by omega)).2.2.2.1, (hY j (by omega)).2.2.2.2⟩

theorem strs_C {t e : TypeId} {n : Nat} {v : Value} {y : DataW H × List MemPlace} (ht : P.underlying t = some (.slice e)) (he : P.underlying e = some .string) (ce : P.cellsOf e = 1)
    (h : DataW.trod enc P W 0 (fun _ => true) true n t [v] = some y) :
    ∃ (A : Option Addr) (c : Nat) (l : List ByteArray), v = .slice A l.length c ∧ Kd.string.C W A l.length l ∧ l.length ≤ c ∧ l.length ≤ maxLen ∧ ∀ s ∈ l, s.size ≤ maxLen := by
  rcases open_strings ht he ce h with ⟨hcs, _⟩ | ⟨a, len, cap, ss, hcs, _, hl, hm, hz, _, hcell, hsz⟩
  · obtain rfl : v = .slice none 0 0 := by simpa using hcs
    exact ⟨none, 0, [], rfl, Kd.C_nil _ _, Nat.le_refl _, Nat.zero_le _, by simp⟩
  · obtain rfl : v = .slice (some a) len cap := by simpa using hcs
    have hz' : ss.length = cap := by simpa using hz
    have hlen : (ss.take len).length = len := by rw [List.length_take]; omega
    refine ⟨some a, cap, ss.take len, by rw [hlen], ⟨rfl, by rw [hlen]; have := maxLen_eq; omega, fun _ => ⟨a, rfl, fun j p hj => ?_⟩⟩, by omega, by omega, fun s hs => hsz s (List.mem_of_mem_take hs)⟩
    obtain ⟨hlt, hp⟩ := List.getElem?_eq_some_iff.1 hj
    refine ⟨[.string p], rfl, rfl, fun i u hu => ?_⟩
    cases i with
    | zero =>
      simp at hu
      subst hu
      have h2 := hcell j (by omega)
      rw [List.getElem_take] at hp
      show W.cell? (a.add (j * 1 + 0)) = _
      rw [Nat.mul_one, Nat.add_zero, h2, List.getD_eq_getElem?_getD, List.getElem?_eq_getElem (by omega), ← hp]
      rfl
    | succ i => simp at hu

theorem open_agg1 {r : Reach} {b0 base : Nat} {spare : Nat → Bool} {held : Bool} {t : TypeId} {f0 : Field} {v : Value} {d : DataW H} {p : List MemPlace} (hs : P.underlying t = some (.struct #[f0])) (hone : oneCellFields P #[f0] = true) (hC : P.cellsOf t = 1)
    (hv : Value.okWide P W r b0 t v) (h : DataW.Trod enc P W base spare held t v d p) :
    ∃ (v0 : Value) (y0 : DataW H × List MemPlace) (n : Nat), v = .agg #[v0] ∧ DataW.trod enc P W base spare held n f0.type [v0] = some y0 := by
  obtain ⟨cs, rfl, hsz⟩ := okWide_struct hs hv
  obtain ⟨c0, rfl⟩ : ∃ c0, cs = #[c0] := by
    obtain ⟨l⟩ := cs
    match l, hsz.trans hC with
    | [c0], _ => exact ⟨c0, rfl⟩
  obtain ⟨fuel, hf⟩ := h
  obtain ⟨y0, n, hx, _, h0⟩ := trod_struct1 hs hf
  obtain ⟨o0, k0⟩ := hone_of hone 0 f0 rfl
  rw [o0, k0] at h0
  exact ⟨c0, y0, n, rfl, by simpa [Value.cells] using h0⟩
/-- One cell, at the top. -/
theorem cell_of_trod {base : Nat} {spare : Nat → Bool} {held : Bool} {t : TypeId} {a : Option Addr} {len cap : Nat} {d : DataW H} {p : List MemPlace} (h : DataW.Trod enc P W base spare held t (.slice a len cap) d p) :
    ∃ n y, DataW.trod enc P W base spare held n t [.slice a len cap] = some y := by
  obtain ⟨fuel, hf⟩ := h
  exact ⟨fuel, _, by simpa [Value.cells] using hf⟩
end Go.Proofs.Ytkjipfblokiodaa.MOpen
