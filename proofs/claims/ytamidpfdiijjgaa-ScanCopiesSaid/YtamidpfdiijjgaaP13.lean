/-
  Slices of bools that come in, opened.
-/
import Derived.Test.YtamidpfdiijjgaaP11
import Derived.Test.YtamidpfdiijjgaaN2
namespace Go.AM
open Go Go.Proofs Go.RowKit Go.ChangeShapes Go.WideShapes
set_option linter.unusedVariables false
set_option linter.unusedSimpArgs false

theorem in_bools {H : Type} {enc : TypeId × Value → H} {P : Program} {w : World} {t e : TypeId} (ht : P.underlying t = some (.slice e)) (he : P.underlying e = some .bool) (hc : P.cellsOf e = 1) {a : Option Addr} {len cap : Nat} {d : DataW H} {ps : List MemPlace}
    (h : DataW.Trod enc P w 0 (fun _ => true) true t (.slice a len cap) d ps) : ∃ zs : List Bool, SliceIn w 1 a len cap (boolCells zs) ∧ True := by
  obtain ⟨fuel, hf⟩ := h
  rcases DataW.trod_slice ht hf with ⟨hcs, _⟩ | ⟨x, l, c, elems, rest, n, _, hcs, _, hb, hl, hm, hlen, hel, hsp, hns⟩
  · simp [Value.cells] at hcs
    obtain ⟨rfl, rfl, rfl⟩ := hcs
    exact ⟨[], .inl ⟨rfl, rfl, rfl, rfl⟩, trivial⟩
  · simp [Value.cells] at hcs
    obtain ⟨rfl, rfl, rfl⟩ := hcs
    obtain ⟨hrl, hr⟩ := hsp rfl
    have each : ∀ i, ∃ b : Bool, i < cap → w.cell? (x.add i) = some (.bool b) := by
      intro i
      by_cases hi : i < cap
      · have : ∃ y, (w.cells? 0 (x.add (i * P.cellsOf e)) (P.cellsOf e)).bind (DataW.trod enc P w 0 (fun _ => true) true n e) = some y := by
          by_cases h1 : i < len
          · exact ⟨elems[i]'(by omega), by rw [hel i h1, List.getElem?_eq_getElem (by omega)]⟩
          · have h2 := hr (i - len) (by omega)
            rw [show len + (i - len) = i by omega] at h2
            exact ⟨rest[i - len]'(by omega), by rw [h2, List.getElem?_eq_getElem (by omega)]⟩
        obtain ⟨y, hy⟩ := this
        rw [hc, Nat.mul_one, Option.bind_eq_some_iff] at hy
        obtain ⟨cs', h1, h2⟩ := hy
        obtain ⟨b, rfl, _⟩ := DataW.trod_bool he h2
        exact ⟨b, fun _ => cell_of_cells?_one h1⟩
      · exact ⟨false, fun h => absurd h hi⟩
    refine ⟨(List.range cap).map fun i => Classical.choose (each i), .inr ⟨_, rfl, hl, hm, by simp [boolCells], ?_⟩, trivial⟩
    intro i y hy
    have hi : i < cap := by
      have := (List.getElem?_eq_some_iff.1 hy).1
      simpa [boolCells] using this
    simp only [boolCells, List.getElem?_map, List.getElem?_range hi, Option.map_some, Option.some.injEq] at hy
    subst hy
    exact ⟨_, Classical.choose_spec (each i) hi, fun ι => by simp [Vc, Vp]⟩
end Go.AM
