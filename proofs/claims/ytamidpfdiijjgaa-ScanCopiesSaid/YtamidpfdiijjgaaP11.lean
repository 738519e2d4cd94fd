/-
  Slices of strings and of numbers that come in, opened.
-/
import Derived.Test.YtamidpfdiijjgaaP10
import Derived.Test.YtamidpfdiijjgaaP7
import Derived.ProofKit
import Derived.OpenShut
import Derived.SliceStrings
namespace Go.AM
open Go Go.Proofs Go.RowKit Go.ChangeShapes Go.WideShapes
set_option linter.unusedVariables false
set_option linter.unusedSimpArgs false

theorem in_strs {H : Type} {enc : TypeId × Value → H} {P : Program} {w : World} {t e : TypeId} (ht : P.underlying t = some (.slice e)) (he : P.underlying e = some .string) (hc : P.cellsOf e = 1) {a : Option Addr} {len cap : Nat} {d : DataW H} {ps : List MemPlace}
    (h : DataW.Trod enc P w 0 (fun _ => true) true t (.slice a len cap) d ps) : ∃ zs : List Txt, SliceIn w 1 a len cap (strCells zs) ∧ ∀ s ∈ zs, s.length ≤ 9223372036854775807 := by
  obtain ⟨fuel, hf⟩ := h
  rcases open_strings ht he hc hf with ⟨hcs, _⟩ | ⟨x, l, c, ss, hcs, _, hl, hm, hz, _, hcell, hsz⟩
  · simp [Value.cells] at hcs
    obtain ⟨rfl, rfl, rfl⟩ := hcs
    exact ⟨[], .inl ⟨rfl, rfl, rfl, rfl⟩, by simp⟩
  · simp [Value.cells] at hcs
    obtain ⟨rfl, rfl, rfl⟩ := hcs
    refine ⟨ss.map fun s => s.data.toList, .inr ⟨_, rfl, hl, hm, by simpa [strCells] using hz, ?_⟩, ?_⟩
    · intro i y hy
      simp [strCells] at hy
      obtain ⟨s, hs, rfl⟩ := hy
      have hi := (List.getElem?_eq_some_iff.1 hs).1
      refine ⟨_, hcell i hi, fun ι => ?_⟩
      rw [List.getD_eq_getElem?_getD, hs]
      simp [Vc, Vp]
    · intro s hs
      simp at hs
      obtain ⟨b, hb, rfl⟩ := hs
      have := hsz b hb
      simp [maxLen] at this ⊢
      exact this

theorem in_ints {H : Type} {enc : TypeId × Value → H} {P : Program} {w : World} {t e : TypeId} {k : IntKind} (ht : P.underlying t = some (.slice e)) (he : P.underlying e = some (.int k)) (hc : P.cellsOf e = 1) {a : Option Addr} {len cap : Nat} {d : DataW H} {ps : List MemPlace}
    (h : DataW.Trod enc P w 0 (fun _ => true) true t (.slice a len cap) d ps) : ∃ zs : List Int, SliceIn w 1 a len cap (zs.map (.int k)) ∧ ∀ n ∈ zs, (Lit.int k n).wf = true := by
  obtain ⟨fuel, hf⟩ := h
  rcases open_ints ht he hc hf with ⟨hcs, _⟩ | ⟨x, l, c, zs, hcs, _, hl, hm, hz, _, hcell, hwz⟩
  · simp [Value.cells] at hcs
    obtain ⟨rfl, rfl, rfl⟩ := hcs
    exact ⟨[], .inl ⟨rfl, rfl, rfl, rfl⟩, by simp⟩
  · simp [Value.cells] at hcs
    obtain ⟨rfl, rfl, rfl⟩ := hcs
    refine ⟨zs, .inr ⟨_, rfl, hl, hm, by simpa using hz, ?_⟩, hwz⟩
    intro i y hy
    simp at hy
    obtain ⟨n, hn, rfl⟩ := hy
    have hi := (List.getElem?_eq_some_iff.1 hn).1
    refine ⟨_, hcell i hi, fun ι => ?_⟩
    rw [List.getD_eq_getElem?_getD, hn]
    simp [Vc, Vp]

end Go.AM
