/-
  Slices that come in: each is a row that is read; slices of numbers, opened.
-/
import Derived.Test.YtamidpfdiijjgaaDoorE9
import Derived.ProofKit
import Derived.OpenShut
import Derived.SliceStrings
namespace Go.AM
open Go Go.Proofs Go.RowKit Go.ChangeShapes Go.WideShapes
set_option linter.unusedVariables false
set_option linter.unusedSimpArgs false

abbrev InRow := Addr × List AV

def rowsI (rows : List InRow) : Inj := fun b g => match rows[b]? with
  | some r => if g = r.2.length then some ⟨r.1.block, 0, r.1.off, 0⟩ else none
  | none => none
def rowsH (rows : List InRow) : Heap := rows.map fun r => .ro r.2

/-- The cells of a row are these. -/
def RowOK (w : World) (r : InRow) : Prop := ∀ i x, r.2[i]? = some x → ∃ v, w.cell? (r.1.add i) = some v ∧ ∀ ι, Vc ι x v

theorem cell_spot {w : World} {a : Addr} {v : Value} (h : w.cell? a = some v) : a.spot = none ∧ a.block < w.heap.size := by
  unfold World.cell? at h
  split at h
  · rename_i hb
    constructor
    · cases hs : a.spot with
      | none => rfl
      | some x => rw [hs] at h; simp at h
    · rcases Nat.lt_or_ge a.block w.heap.size with h1 | h1
      · exact h1
      · rw [Array.getElem?_eq_none h1] at hb; simp at hb
  · simp at h

theorem RowOK.at {w : World} {r : InRow} (h : RowOK w r) {i : Nat} {x : AV} (hx : r.2[i]? = some x) : ∃ v, w.cell? (Loc.at ⟨r.1.block, 0, r.1.off, 0⟩ i) = some v ∧ (∀ ι, Vc ι x v) ∧ r.1.spot = none ∧ r.1.block < w.heap.size := by
  have h0 : 0 < r.2.length := by have := (List.getElem?_eq_some_iff.1 hx).1; omega
  obtain ⟨v0, h1, _⟩ := h 0 _ (List.getElem?_eq_getElem h0)
  obtain ⟨h2, h3⟩ := cell_spot h1
  simp only [Addr.add, if_true] at h2 h3
  obtain ⟨v, h4, h5⟩ := h i x hx
  refine ⟨v, ?_, h5, h2, h3⟩
  rw [← h4]
  congr 1
  unfold Loc.at Addr.add
  by_cases hi : i = 0
  · subst hi
    simp
    cases hr : r.1
    rw [hr] at h2
    simp at h2
    simp [h2]
  · simp [hi]; omega

theorem rows_HR {P : Program} {w : World} {rows : List InRow} (h : ∀ r ∈ rows, RowOK w r) : HR P (rowsI rows) w w.heap.size (look (rowsH rows)) := by
  have key : ∀ b o, look (rowsH rows) b = some o → ∃ r, rows[b]? = some r ∧ o = .ro r.2 := by
    intro b o hb
    simp only [look, rowsH, List.getElem?_map] at hb
    cases hr : rows[b]? with
    | none => rw [hr] at hb; simp at hb
    | some r => rw [hr] at hb; simp at hb; exact ⟨r, rfl, hb.symm⟩
  refine ⟨fun b o hb => ?_, fun b b' o o' l l' hb _ _ _ ho => ?_, fun b o hb g l hl => ?_, Nat.le_refl _, fun b cs l hb hl hne => ?_⟩
  · obtain ⟨r, hr, rfl⟩ := key b o hb
    refine ⟨⟨r.1.block, 0, r.1.off, 0⟩, ?_, ⟨rfl, rfl, fun i x hx => ?_⟩, fun ho => by simp [AObj.own] at ho⟩
    · simp [rowsI, hr, AObj.gen]
    · obtain ⟨v, h1, h2, _⟩ := (h r (List.mem_of_getElem? hr)).at hx
      exact ⟨v, h1, h2 _⟩
  · obtain ⟨r, hr, rfl⟩ := key b o hb
    simp [AObj.own] at ho
  · obtain ⟨r, hr, rfl⟩ := key b o hb
    simp only [rowsI, hr] at hl
    split at hl
    · rename_i e; simp [AObj.gen, e]
    · simp at hl
  · obtain ⟨r, hr, he⟩ := key b _ hb
    simp at he
    subst he
    simp only [rowsI, hr, if_true] at hl
    simp at hl
    subst hl
    have h0 : 0 < r.2.length := List.length_pos_iff.2 hne
    obtain ⟨v, _, _, _, h1⟩ := (h r (List.mem_of_getElem? hr)).at (List.getElem?_eq_getElem h0)
    exact h1

theorem rows_fresh {rows : List InRow} {n : Nat} : Fresh (rowsI rows) (rowsH rows).length n := by
  intro b g h1 _
  simp only [rowsH, List.length_map] at h1
  simp only [rowsI]
  rw [List.getElem?_eq_none h1]

/-- A slice that came in, of elements of k cells: nil, or a row with these cells up to its capacity. -/
def SliceIn (w : World) (k : Nat) (a : Option Addr) (len cap : Nat) (xs : List AV) : Prop :=
  (a = none ∧ len = 0 ∧ cap = 0 ∧ xs = []) ∨ ∃ x, a = some x ∧ len ≤ cap ∧ cap ≤ maxLen ∧ xs.length = cap * k ∧ RowOK w (x, xs)

def inRow (a : Option Addr) (xs : List AV) : InRow := (a.getD ⟨0, 0, none⟩, xs)
/-- The argument, its row being the b-th. -/
def inSl (b : Nat) (a : Option Addr) (len cap : Nat) (xs : List AV) : AV := match a with
  | none => .sl none 0 0
  | some _ => .sl (some ⟨b, 0, xs.length⟩) len cap

theorem SliceIn.row {w : World} {k : Nat} {a : Option Addr} {len cap : Nat} {xs : List AV} (h : SliceIn w k a len cap xs) : RowOK w (inRow a xs) := by
  rcases h with ⟨rfl, _, _, rfl⟩ | ⟨x, rfl, _, _, _, h⟩
  · intro i x hx; simp [inRow] at hx
  · exact h

theorem SliceIn.val {w : World} {k : Nat} (hk : 0 < k) {a : Option Addr} {len cap : Nat} {xs : List AV} (h : SliceIn w k a len cap xs) {rows : List InRow} {b : Nat} (hb : rows[b]? = some (inRow a xs)) :
    V (rowsI rows) (inSl b a len cap xs) (.slice a len cap) := by
  rcases h with ⟨rfl, rfl, rfl, rfl⟩ | ⟨x, rfl, h1, h2, h3, h4⟩
  · simp [inSl, V, Va, Vc, Vp]
  · simp only [inSl, V, Va, Vc, Vp]
    refine ⟨trivial, h1, ⟨x.block, 0, x.off, 0⟩, ?_, Nat.zero_le _, rfl, fun hc => ?_⟩
    · simp [rowsI, hb, inRow]
    · have h0 : 0 < xs.length := by rw [h3]; exact Nat.mul_pos hc hk
      obtain ⟨v, _, _, hs, _⟩ := h4.at (r := (x, xs)) (List.getElem?_eq_getElem h0)
      unfold Loc.at
      cases x
      simp at hs
      simp [hs]

/-- What it reads as, elements being one cell each. -/
theorem SliceIn.reads {w : World} {a : Option Addr} {len cap : Nat} {xs : List AV} (h : SliceIn w 1 a len cap xs) {rows : List InRow} {b : Nat} (hb : rows[b]? = some (inRow a xs)) :
    Sl1 (rowsH rows) (inSl b a len cap xs) (xs.take len) := by
  rcases h with ⟨rfl, rfl, rfl, rfl⟩ | ⟨x, rfl, h1, h2, h3, h4⟩
  · exact .inl ⟨rfl, rfl⟩
  · have hl : (xs.take len).length = len := by simp; omega
    refine .inr ⟨b, 0, xs.length, cap, xs, ?_, ?_, ?_⟩
    · rw [hl]; rfl
    · simp [AM.row, look_at, rowsH, hb, inRow]
    · rw [hl]; simp

theorem slB_inSl {b : Nat} {a : Option Addr} {len cap : Nat} {xs : List AV} : ∀ c, slB (inSl b a len cap xs) = some c → c = b := by
  intro c h
  cases a <;> simp [inSl, slB] at h
  exact h.symm

theorem in_ints {H : Type} {enc : TypeId × Value → H} {P : Program} {w : World} {t e : TypeId} {k : IntKind} (ht : P.underlying t = some (.slice e)) (he : P.underlying e = some (.int k)) (hc : P.cellsOf e = 1) {a : Option Addr} {len cap : Nat} {d : DataW H} {ps : List MemPlace}
    (h : DataW.Trod enc P w 0 (fun _ => true) true t (.slice a len cap) d ps) : ∃ zs : List Int, SliceIn w 1 a len cap (zs.map (.int k)) ∧ ∀ n ∈ zs, (Lit.int k n).wf = true := by
  obtain ⟨fuel, hf⟩ := h
  rcases open_ints ht he hc hf with ⟨hcs, _⟩ | ⟨x, l, c, zs, hcs, _, hl, hm, hz, _, hcell, hwz⟩
  · simp [Value.cells] at hcs
    obtain ⟨rfl, rfl, rfl⟩ := hcs
    exact ⟨[], .inl ⟨rfl, rfl, rfl, rfl⟩, by simp⟩
  · simp [Value.cells] at hcs
    obtain ⟨rfl, rfl, rfl⟩ := hcs
    refine ⟨zs, .inr ⟨_, rfl, hl, hm, by simpa using hz, ?_⟩, hwz⟩
    intro i y hy
    simp at hy
    obtain ⟨n, hn, rfl⟩ := hy
    have hi := (List.getElem?_eq_some_iff.1 hn).1
    refine ⟨_, hcell i hi, fun ι => ?_⟩
    rw [List.getD_eq_getElem?_getD, hn]
    simp [Vc, Vp]

end Go.AM
