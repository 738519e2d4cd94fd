/-
  What the laws on the scanner share: what ends at a place; reading hits.
-/
import Derived.Test.YtamidpfdiijjgaaN5
namespace Go.AM
open Go Go.Proofs
set_option linter.unusedVariables false
set_option linter.unusedSimpArgs false
set_option maxRecDepth 100000

theorem fold_takeS {s : Txt} {n : Nat} : fold (s.take n) = (fold s).take n := by simp [fold, List.map_take]

theorem patAt_hit {p s : Txt} {nc : Bool} {e : Nat} (he : e ≤ s.length) : patAt p nc s e = hitB nc p (s.take e) := by
  cases nc with
  | false => rw [patAt_plain he]; simp [hitB]
  | true =>
    rw [Bool.eq_iff_iff]
    simp only [hitB, if_true, decide_eq_true_eq]
    rw [fold_takeS, suffix_take (by rw [fold_len]; exact he), fold_len]
    have e1 : List.take p.length (List.drop (e - p.length) (fold s)) = fold (List.take p.length (List.drop (e - p.length) s)) := by simp [fold, List.map_take, List.map_drop]
    rw [e1]
    simp only [patAt, he, decide_true, Bool.and_true, Bool.true_and, Bool.and_eq_true, decide_eq_true_eq, Bool.or_eq_true]
    constructor
    · rintro ⟨h1, h2 | h2⟩
      · exact ⟨h1, by rw [h2]⟩
      · exact ⟨h1, h2⟩
    · rintro ⟨h1, h2⟩
      exact ⟨h1, .inr h2⟩

theorem hits_app {nc : List Bool} {w p : Txt} : ∀ {l : List Txt} {i : Nat}, hits nc w (l ++ [p]) i = if hitB (nth nc (i + l.length)) p w then hits nc w l i ++ [((i + l.length : Nat) : Int)] else hits nc w l i
  | [], i => by simp [hits]
  | q :: r, i => by
    simp only [List.cons_append, hits, hits_app (l := r), List.length_cons]
    rw [show i + 1 + r.length = i + (r.length + 1) by omega]
    split <;> split <;> simp

theorem hitsTo_le {nc : List Bool} {t : Txt} {l : List Txt} {n : Nat} : ∀ k, ∃ r, hitsTo nc t l (n + k) = hitsTo nc t l n ++ r
  | 0 => ⟨[], by simp⟩
  | k + 1 => by
    obtain ⟨r, hr⟩ := hitsTo_le (nc := nc) (t := t) (l := l) (n := n) k
    exact ⟨r ++ _, by rw [show n + (k + 1) = (n + k) + 1 by omega, hitsTo_succ, hr, List.append_assoc]⟩

/-- A hit among all. -/
theorem hitsTo_at {nc : List Bool} {t : Txt} {l : List Txt} {n m k : Nat} (hnm : n + 1 ≤ m) (hk : k < (hits nc (t.take (n + 1)) l 0).length) :
    (hitsTo nc t l m)[(hitsTo nc t l n).length + k]? = some ((hits nc (t.take (n + 1)) l 0)[k], ((n + 1 : Nat) : Int)) := by
  obtain ⟨r, hr⟩ := hitsTo_le (nc := nc) (t := t) (l := l) (n := n + 1) (m - (n + 1))
  rw [show n + 1 + (m - (n + 1)) = m by omega] at hr
  rw [hr, hitsTo_succ, List.append_assoc, List.getElem?_append_right (by omega), Nat.add_sub_cancel_left, List.getElem?_append_left (by rw [mk64_len]; exact hk)]
  simp [mk64, hk]

theorem hitCells_at : ∀ {l : List (Int × Int)} {i : Nat} {p : Int × Int}, l[i]? = some p → (hitCells l)[i * 2]? = some (.int .i64 p.1) ∧ (hitCells l)[i * 2 + 1]? = some (.int .i64 p.2)
  | [], i, p, h => by simp at h
  | x :: r, 0, p, h => by simp at h; subst h; simp [hitCells]
  | x :: r, i + 1, p, h => by
    have ih := hitCells_at (l := r) (i := i) (p := p) (by simpa using h)
    have e : hitCells (x :: r) = .int .i64 x.1 :: .int .i64 x.2 :: hitCells r := rfl
    rw [e, show (i + 1) * 2 = i * 2 + 2 by omega, show i * 2 + 2 + 1 = i * 2 + 1 + 2 by omega]
    simpa using ih

section
variable {h : Heap} {b : Nat} {l : List (Int × Int)}

theorem hit_addr {i : Nat} (hi : i < l.length) : aindexAddr Try.prog 71 (hitSl b l) (.int .i64 i) = some (.ptr (some ⟨b, i * 2, l.length * 2⟩)) := by
  have h0 : l.length ≠ 0 := by omega
  have hi' : (i : Int) < l.length := by omega
  simp [hitSl, bufSl, h0, aindexAddr, hi', hi, hitCells_len]

theorem hit_load (hb : l.length ≠ 0 → h[b]? = some (.cells (hitCells l) 75 true)) {i : Nat} {p : Int × Int} (hp : l[i]? = some p) :
    aload Try.prog (look h) 3 (.ptr (some ⟨b, i * 2, l.length * 2⟩)) = some (.int .i64 p.1) ∧ aload Try.prog (look h) 3 (.ptr (some ⟨b, i * 2 + 1, l.length * 2⟩)) = some (.int .i64 p.2) := by
  have hi := (List.getElem?_eq_some_iff.1 hp).1
  have h1 := hb (by omega)
  obtain ⟨h2, h3⟩ := hitCells_at hp
  exact ⟨cell_load h1 hitCells_len (by simp) h2, cell_load h1 hitCells_len (by simp) h3⟩
end
end Go.AM
