/-
  Slices that are read; SameInts; the document's count of states.
-/
import Derived.Test.YtamidpfdiijjgaaP5
namespace Go.AM
open Go Go.Proofs
set_option linter.unusedVariables false
set_option linter.unusedSimpArgs false
set_option maxRecDepth 100000

/-- A slice whose elements are one cell each, and what it holds. -/
def Sl1 (h : Heap) (v : AV) (xs : List AV) : Prop :=
  (v = .sl none 0 0 ∧ xs = []) ∨ ∃ b o g c cs, v = .sl (some ⟨b, o, g⟩) xs.length c ∧ row (look h) ⟨b, o, g⟩ = some cs ∧ (cs.drop o).take xs.length = xs

/-- Where its element lies. -/
def elp (v : AV) (i : Nat) : AV := match v with
  | .sl (some a) _ _ => .ptr (some { a with off := a.off + i })
  | _ => .nili

theorem Sl1.len {h : Heap} {v : AV} {xs : List AV} (H : Sl1 h v xs) {t e : TypeId} (ht : tk Try.prog t = .slice e) {L : Look} : alen Try.prog L t v = some (.int .i64 xs.length) := by
  rcases H with ⟨rfl, rfl⟩ | ⟨b, o, g, c, cs, rfl, _, _⟩ <;> simp [alen, ht]

theorem Sl1.at {h : Heap} {v : AV} {xs : List AV} (H : Sl1 h v xs) {t e : TypeId} (ht : tk Try.prog t = .slice e) (he : tsz Try.prog e = 1) {i : Nat} (hi : i < xs.length) : aindexAddr Try.prog t v (.int .i64 i) = some (elp v i) := by
  rcases H with ⟨rfl, rfl⟩ | ⟨b, o, g, c, cs, rfl, _, _⟩
  · simp at hi
  · have : (i : Int) < xs.length := by omega
    simp [aindexAddr, ht, he, this, elp, hi]

theorem Sl1.load {h : Heap} {v : AV} {xs : List AV} (H : Sl1 h v xs) {e : TypeId} (he : agk (tk Try.prog e) = some false) {i : Nat} (hi : i < xs.length) : aload Try.prog (look h) e (elp v i) = some xs[i] := by
  rcases H with ⟨rfl, rfl⟩ | ⟨b, o, g, c, cs, rfl, h1, h2⟩
  · simp at hi
  · simp only [elp, aload]
    have h3 : row (look h) { b := b, off := o + i, gen := g } = some cs := h1
    rw [h3, he]
    have h4 : xs[i]? = some xs[i] := List.getElem?_eq_getElem hi
    have h5 : ((cs.drop o).take xs.length)[i]? = xs[i]? := by rw [h2]
    rw [h4, List.getElem?_take, if_pos hi, List.getElem?_drop] at h5
    exact h5

theorem row_only {h h' : Heap} {fp : Nat → Prop} {a : AA} {cs : List AV} (ho : Only fp h h') (hr : row (look h) a = some cs) (hn : ¬ fp a.b) : row (look h') a = some cs := by
  simp only [row] at hr ⊢
  cases hb : h[a.b]? with
  | none => simp [look_at, hb] at hr
  | some o =>
    rw [look_at, hb] at hr
    rw [look_at, ho.at hb hn]
    exact hr

/-- The block of a slice. -/
def slB (v : AV) : Option Nat := match v with
  | .sl (some a) _ _ => some a.b
  | _ => none

theorem Sl1.keep {h h' : Heap} {v : AV} {xs : List AV} {fp : Nat → Prop} (H : Sl1 h v xs) (ho : Only fp h h') (hf : ∀ b, slB v = some b → ¬ fp b) : Sl1 h' v xs := by
  rcases H with ⟨rfl, rfl⟩ | ⟨b, o, g, c, cs, rfl, h1, h2⟩
  · exact .inl ⟨rfl, rfl⟩
  · exact .inr ⟨b, o, g, c, cs, rfl, row_only ho h1 (hf b rfl), h2⟩

theorem Sl1.same {h h' : Heap} {v : AV} {xs : List AV} (H : Sl1 h v xs) (ho : Only (fun _ => False) h h') : Sl1 h' v xs := H.keep ho fun _ _ => id

theorem Sl1.nil {h : Heap} : Sl1 h (.sl none 0 0) [] := .inl ⟨rfl, rfl⟩
theorem Sl1.cells {h : Heap} {b : Nat} {e : TypeId} {s : Bool} {xs : List AV} (hb : h[b]? = some (.cells xs e s)) : Sl1 h (.sl (some ⟨b, 0, xs.length⟩) xs.length xs.length) xs :=
  .inr ⟨b, 0, xs.length, xs.length, xs, rfl, by simp [row, hb], by simp⟩

theorem Sl1.ints {h : Heap} {b : Nat} {l : List Int} (hb : l ≠ [] → h[b]? = some (.cells (intCells l) 3 true)) : Sl1 h (intSl b l) (intCells l) := by
  unfold intSl
  split
  · rename_i e; subst e; exact .nil
  · rename_i e
    have := Sl1.cells (hb e)
    rw [intCells_len] at this
    exact this

theorem len_le {h : Heap} {v : AV} {xs : List AV} (H : Sl1 h v xs) : True := trivial

abbrev sameEnv (v w : AV) (i : Int) : Env := [(0, v), (1, w), (5, .int .i64 i)]

def Same40 (h : Heap) (v w : AV) (a b : List Int) (m : Nat) (s : St) : Prop := ∃ i : Nat, m = a.length - i ∧ s = ⟨sameEnv v w i, h⟩ ∧ i ≤ a.length ∧ ∀ j, j < i → a[j]? = b[j]?

/-- 'SameInts'. -/
theorem same_ints {h : Heap} {v w : AV} {a b : List Int} (hv : Sl1 h v (intCells a)) (hw : Sl1 h w (intCells b)) (hl : a.length ≤ 1000000000) : D cfg 40 [v, w] h = some (.bool (decide (a = b)), h) := by
  refine D_eq (call40 (R := fun r h' => r = _ ∧ h' = _) (by simp) ?_)
  have h1 := fun L => hv.len (t := 30) (e := 3) (by simp) (L := L)
  have h2 := fun L => hw.len (t := 30) (e := 3) (by simp) (L := L)
  simp only [intCells_len] at h1 h2
  by_cases hne : a.length = b.length
  · simp [c40, c40_r0, c40_r1, c40_r3, len1, h1, h2, hne]
    refine Wt.loop (Same40 h v w a b) (m := a.length) ⟨0, rfl, rfl, Nat.zero_le _, fun j hj => by omega⟩ ?_
    rintro m s ⟨i, rfl, rfl, hi, heq⟩
    have hcut : cut (some [0, 1, 5]) (sameEnv v w i) = sameEnv v w i := by simp
    simp only [hcut]
    by_cases hia : i < a.length
    · have hia' : i < b.length := by omega
      have hib : i < b.length := by omega
      have e1 := hv.at (t := 30) (e := 3) (by simp) (by simp) (i := i) (by rw [intCells_len]; exact hia)
      have e2 := hw.at (t := 30) (e := 3) (by simp) (by simp) (i := i) (by rw [intCells_len]; exact hib)
      have e3 := hv.load (e := 3) (by simp) (i := i) (by rw [intCells_len]; exact hia)
      have e4 := hw.load (e := 3) (by simp) (i := i) (by rw [intCells_len]; exact hib)
      rw [intCells_get] at e3 e4
      have hwr : IntKind.wrap .i64 ((i : Int) + 1) = i + 1 := wrap_i64 (by omega) (by omega)
      by_cases hab : a[i] = b[i]
      · have hnext : Same40 h v w a b (a.length - (i + 1)) ⟨sameEnv v w (i + 1 : Nat), h⟩ := by
          refine ⟨i + 1, rfl, rfl, by omega, fun j hj => ?_⟩
          by_cases hji : j = i
          · subst hji
            rw [List.getElem?_eq_getElem hia, List.getElem?_eq_getElem hib, hab]
          · exact heq j (by omega)
        simp [c40_l4, c40_r4, c40_r5, c40_r6, c40_r7, len1, h1, hne, hib, e1, e2, e3, e4, hab, hwr]
        exact ⟨_, by omega, hnext⟩
      · have hab' : ¬ a = b := fun e => hab (by subst e; rfl)
        simp [c40_l4, c40_r4, c40_r5, c40_r6, c40_r7, len1, h1, hne, hib, e1, e2, e3, e4, hab, hwr, hab']
    · have hab : a = b := by
        apply List.ext_getElem?
        intro j
        by_cases hj : j < i
        · exact heq j hj
        · rw [List.getElem?_eq_none (by omega), List.getElem?_eq_none (by omega)]
      subst hab
      simp [c40_l4, c40_r4, c40_r8, len1, h1, hia]
  · have hab : ¬ a = b := fun e => hne (by rw [e])
    have hne' : ¬ ((a.length : Int) = b.length) := by omega
    simp [c40, c40_r0, c40_r1, c40_r2, c40_r3, len1, h1, h2, hne', hab]

end Go.AM
