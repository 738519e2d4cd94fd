/-
  Plain laws of the chain: where hits lie.
-/
import Derived.Test.YtamidpfdiijjgaaS8
namespace Go.AM
open Go Go.Proofs
set_option linter.unusedVariables false
set_option linter.unusedSimpArgs false
set_option maxRecDepth 100000

theorem hits_range' {c : Cont} {s : Txt} {ah : List Int} {lo hi : Nat} : ∀ {n : Nat}, (∀ e, e < n → hitB c s ah e = decide (lo ≤ e ∧ e < hi)) → hits c s ah n = (List.range' lo (min hi n - lo)).map fun x : Nat => (x : Int)
  | 0, _ => by simp [hits]
  | n + 1, h => by
    have ih := hits_range' (n := n) fun e he => h e (by omega)
    simp only [hits, h n (by omega), ih]
    by_cases h1 : lo ≤ n ∧ n < hi
    · have e1 : min hi (n + 1) - lo = (min hi n - lo) + 1 := by omega
      have e2 : lo + (min hi n - lo) = n := by omega
      rw [e1, List.range'_concat]
      simp [h1]
      omega
    · have e1 : min hi (n + 1) - lo = min hi n - lo := by omega
      rw [e1]
      simp [h1]

theorem hits_one {c : Cont} {s : Txt} {ah : List Int} {a : Nat} {p : Prop} [Decidable p] {n : Nat} (h : ∀ e, e < n → hitB c s ah e = decide (e = a ∧ p)) (ha : a < n) : hits c s ah n = if p then [(a : Int)] else [] := by
  by_cases hp : p
  · have := hits_range' (c := c) (s := s) (ah := ah) (lo := a) (hi := a + 1) (n := n) fun e he => by rw [h e he]; congr 1; apply propext; constructor <;> intro hx <;> simp_all <;> omega
    rw [this, if_pos hp]
    have e1 : min (a + 1) n - a = 1 := by omega
    rw [e1]
    simp
  · have := hits_range' (c := c) (s := s) (ah := ah) (lo := 0) (hi := 0) (n := n) fun e he => by rw [h e he]; simp [hp]
    rw [this, if_neg hp]
    simp

theorem neverFrom_none {s : Txt} {l : List Cont} : ∀ {n e : Nat}, neverFrom s l e n = none ↔ ∀ x, e ≤ x → x < e + n → neverAt s l x = false
  | 0, e => by simp [neverFrom]; intro x h1 h2; omega
  | n + 1, e => by
    simp only [neverFrom]
    by_cases h : neverAt s l e = true
    · rw [if_pos h]
      constructor
      · intro hx; simp at hx
      · intro hx; have := hx e (by omega) (by omega); rw [h] at this; simp at this
    · rw [if_neg h, neverFrom_none (n := n)]
      have h' : neverAt s l e = false := by simpa using h
      constructor
      · intro hx x h1 h2
        by_cases he : x = e
        · subst he; exact h'
        · exact hx x (by omega) (by omega)
      · intro hx x h1 h2
        exact hx x (by omega) (by omega)

theorem neverFrom_some {s : Txt} {l : List Cont} : ∀ {n e x : Nat}, neverFrom s l e n = some x → e ≤ x ∧ x < e + n ∧ neverAt s l x = true ∧ ∀ y, e ≤ y → y < x → neverAt s l y = false
  | 0, e, x, h => by simp [neverFrom] at h
  | n + 1, e, x, h => by
    simp only [neverFrom] at h
    by_cases h1 : neverAt s l e = true
    · rw [if_pos h1] at h
      simp at h
      subst h
      exact ⟨Nat.le_refl _, by omega, h1, fun y _ _ => by omega⟩
    · rw [if_neg h1] at h
      obtain ⟨h2, h3, h4, h5⟩ := neverFrom_some h
      refine ⟨by omega, by omega, h4, fun y h6 h7 => ?_⟩
      by_cases he : y = e
      · subst he; simpa using h1
      · exact h5 y (by omega) h7

theorem neverC_none {s : Txt} {l : List Cont} : neverC l s = none ↔ ∀ x, x ≤ s.length → neverAt s l x = false := by
  rw [neverC, neverFrom_none]
  constructor
  · intro h x hx; exact h x (by omega) (by omega)
  · intro h x _ hx; exact h x (by omega)

theorem neverAt_noNot {s : Txt} {l : List Cont} (h : ∀ c ∈ l, c.not = false) (e : Nat) : neverAt s l e = false := by
  simp only [neverAt]
  rw [List.any_eq_false]
  intro c hc
  simp [h c hc]

theorem neverC_noNot {s : Txt} {l : List Cont} (h : ∀ c ∈ l, c.not = false) : neverC l s = none := neverC_none.2 fun x _ => neverAt_noNot h x

/-- A slice of contents that takes a block. -/
theorem SlC.cells {h : Heap} {b : Nat} {e : TypeId} {g : Bool} {l : List Cont} (hl : l ≠ []) (hb : h[b]? = some (.cells (l.flatMap contCell) e g)) : SlC h (.sl (some ⟨b, 0, l.length * 8⟩) l.length l.length) l := by
  have hlen : ∀ l : List Cont, (l.flatMap contCell).length = l.length * 8 := by
    intro l
    induction l with
    | nil => rfl
    | cons c r ih => simp only [List.flatMap_cons, List.length_append, ih, List.length_cons]; simp [contCell]; omega
  refine .inr ⟨b, l.length * 8, l.length, l.flatMap contCell, rfl, by simp only [AM.row, look_at, hb]; rw [if_pos (hlen l)], ?_⟩
  have key : ∀ (l : List Cont) i c, l[i]? = some c → ((l.flatMap contCell).drop (i * 8)).take 8 = contCell c := by
    intro l
    induction l with
    | nil => intro i c h; simp at h
    | cons d r ih =>
      intro i c h
      cases i with
      | zero => simp at h; subst h; rfl
      | succ i =>
        have := ih i c (by simpa using h)
        rw [← this, show (i + 1) * 8 = 8 + i * 8 by omega, ← List.drop_drop]
        rfl
  exact key l

end Go.AM
