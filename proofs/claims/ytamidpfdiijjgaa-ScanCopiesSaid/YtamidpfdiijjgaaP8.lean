/-
  The document's count is the number of states.
-/
import Derived.Test.YtamidpfdiijjgaaP7
namespace Go.AM
open Go Go.Proofs
set_option linter.unusedVariables false
set_option linter.unusedSimpArgs false

theorem mem_addFrom : ∀ {r : Txt} {X : List Txt} {y x : Txt}, x ∈ addFrom X y r ↔ x ∈ X ∨ ∃ k, 1 ≤ k ∧ k ≤ r.length ∧ x = y ++ r.take k
  | [], X, y, x => by
    simp only [addFrom]
    constructor
    · exact .inl
    · rintro (h | ⟨k, h1, h2, _⟩)
      · exact h
      · simp at h2; omega
  | b :: r, X, y, x => by
    simp only [addFrom]
    rw [mem_addFrom]
    have hone : (x ∈ (if y ++ [b] ∈ X then X else X ++ [y ++ [b]])) ↔ x ∈ X ∨ x = y ++ [b] := by
      split
      · rename_i h
        constructor
        · exact .inl
        · rintro (h1 | rfl)
          · exact h1
          · exact h
      · simp
    rw [hone]
    constructor
    · rintro ((h | rfl) | ⟨k, h1, h2, rfl⟩)
      · exact .inl h
      · exact .inr ⟨1, by omega, by simp, by simp⟩
      · exact .inr ⟨k + 1, by omega, by simp; omega, by simp⟩
    · rintro (h | ⟨k, h1, h2, rfl⟩)
      · exact .inl (.inl h)
      · cases k with
        | zero => omega
        | succ k =>
          by_cases hk : k = 0
          · subst hk; exact .inl (.inr (by simp))
          · exact .inr ⟨k, by omega, by simp at h2; omega, by simp⟩

/-- The beginnings of some texts, in the order of their making. -/
def begs (ps : List Txt) : List Txt := ps.foldl (fun X p => addFrom X [] p) [[]]

theorem begs_snoc {ps : List Txt} {p : Txt} : begs (ps ++ [p]) = addFrom (begs ps) [] p := by simp [begs]

theorem mem_begs {ps : List Txt} {x : Txt} : x ∈ begs ps ↔ x = [] ∨ ∃ q ∈ ps, ∃ k, 1 ≤ k ∧ k ≤ q.length ∧ x = q.take k := by
  have key : ∀ (ps X : List Txt), x ∈ ps.foldl (fun X p => addFrom X [] p) X ↔ x ∈ X ∨ ∃ q ∈ ps, ∃ k, 1 ≤ k ∧ k ≤ q.length ∧ x = q.take k := by
    intro ps
    induction ps with
    | nil => intro X; simp
    | cons p ps ih =>
      intro X
      rw [List.foldl_cons, ih, mem_addFrom]
      simp only [List.nil_append, List.mem_cons, or_and_right, exists_or, exists_eq_left, or_assoc]
  rw [begs, key]
  simp

theorem txt_app {ps : List Txt} {p : Txt} {j : Nat} (h : j < ps.length) : txt (ps ++ [p]) j = txt ps j := by simp [txt, List.getElem?_append_left h]
theorem txt_last {ps : List Txt} {p : Txt} : txt (ps ++ [p]) ps.length = p := by simp [txt]

theorem seenB_iff {l : List Txt} {i k : Nat} : ∀ {j : Nat}, seenB l i k j = true ↔ ∃ a, a < j ∧ k ≤ (txt l a).length ∧ (txt l a).take k = (txt l i).take k
  | 0 => by simp [seenB]
  | j + 1 => by
    simp only [seenB, Bool.or_eq_true, Bool.and_eq_true, decide_eq_true_eq, seenB_iff (j := j)]
    constructor
    · rintro (⟨a, h1, h2, h3⟩ | ⟨h1, h2⟩)
      · exact ⟨a, by omega, h2, h3⟩
      · exact ⟨j, by omega, h1, h2⟩
    · rintro ⟨a, h1, h2, h3⟩
      by_cases e : a = j
      · subst e; exact .inr ⟨h2, h3⟩
      · exact .inl ⟨a, by omega, h2, h3⟩

theorem seen_mem {ps : List Txt} {p : Txt} {k : Nat} (h1 : 1 ≤ k) (hk : k ≤ p.length) : seenB (ps ++ [p]) ps.length k ps.length = true ↔ p.take k ∈ begs ps := by
  rw [seenB_iff, mem_begs]
  have hne : p.take k ≠ [] := by
    intro e
    have := congrArg List.length e
    rw [List.length_take, List.length_nil] at this
    omega
  constructor
  · rintro ⟨a, ha, h2, h3⟩
    rw [txt_last] at h3
    rw [txt_app ha] at h2 h3
    refine .inr ⟨txt ps a, ?_, k, h1, h2, h3.symm⟩
    rw [← txt_eq ha]
    exact List.getElem_mem ha
  · rintro (h | ⟨q, hq, k', h2, h3, h4⟩)
    · exact absurd h hne
    · have : k' = k := by
        have := congrArg List.length h4
        simp at this
        omega
      subst this
      obtain ⟨a, ha, rfl⟩ := List.getElem_of_mem hq
      rw [txt_eq ha] at h3 h4
      exact ⟨a, ha, by rw [txt_app ha]; exact h3, by rw [txt_app ha, txt_last]; exact h4.symm⟩

theorem take_snoc {p : Txt} {k : Nat} (h : k < p.length) : p.take (k + 1) = p.take k ++ [p[k]] := by
  rw [List.take_succ_eq_append_getElem h]

theorem mem_step {X : List Txt} {p : Txt} {k : Nat} (h : k < p.length) : p.take (k + 1) ∈ addFrom X [] (p.take k) ↔ p.take (k + 1) ∈ X := by
  rw [mem_addFrom]
  constructor
  · rintro (h1 | ⟨j, h1, h2, h3⟩)
    · exact h1
    · have := congrArg List.length h3
      simp at this h2
      omega
  · exact .inl

theorem addFrom_step {X : List Txt} {p : Txt} {k : Nat} (h : k < p.length) : addFrom X [] (p.take (k + 1)) = if p.take (k + 1) ∈ X then addFrom X [] (p.take k) else addFrom X [] (p.take k) ++ [p.take (k + 1)] := by
  have h1 := mem_step (X := X) h
  rw [take_snoc h] at h1 ⊢
  rw [addFrom_snoc]
  simp only [List.nil_append]
  by_cases h2 : p.take k ++ [p[k]] ∈ X
  · rw [if_pos (h1.2 h2), if_pos h2]
  · rw [if_neg (fun e => h2 (h1.1 e)), if_neg h2]

theorem cntK_len {ps : List Txt} {p : Txt} : ∀ k, k ≤ p.length → (addFrom (begs ps) [] (p.take k)).length = (begs ps).length + cntK (ps ++ [p]) ps.length k
  | 0, _ => by simp [addFrom, cntK]
  | k + 1, hk => by
    rw [addFrom_step hk]
    have h1 := seen_mem (ps := ps) (p := p) (k := k + 1) (by omega) hk
    have h2 := cntK_len (ps := ps) (p := p) k (by omega)
    simp only [cntK]
    by_cases h3 : p.take (k + 1) ∈ begs ps
    · rw [if_pos h3, if_pos (h1.2 h3), h2]; omega
    · rw [if_neg h3, if_neg (fun e => h3 (h1.1 e)), List.length_append, h2]; simp; omega

theorem cntI_cong {l l' : List Txt} : ∀ {i : Nat}, (∀ j, j < i → txt l j = txt l' j) → cntI l i = cntI l' i
  | 0, _ => rfl
  | i + 1, h => by
    simp only [cntI]
    rw [cntI_cong (i := i) fun j hj => h j (by omega), h i (by omega)]
    congr 1
    have hs : ∀ k j, j ≤ i → seenB l i k j = seenB l' i k j := by
      intro k j
      induction j with
      | zero => intro _; rfl
      | succ j ih =>
        intro hj
        simp only [seenB]
        rw [ih (by omega), h j (by omega), h i (by omega)]
    have : ∀ k, cntK l i k = cntK l' i k := by
      intro k
      induction k with
      | zero => rfl
      | succ k ih => simp only [cntK]; rw [ih, hs (k + 1) i (Nat.le_refl _)]
    exact this _

theorem cnt_begs (ps : List Txt) : cntI ps ps.length = (begs ps).length := by
  have key : ∀ n (ps : List Txt), ps.length = n → cntI ps ps.length = (begs ps).length := by
    intro n
    induction n with
    | zero =>
      intro ps h
      have : ps = [] := List.length_eq_zero_iff.1 h
      subst this
      rfl
    | succ n ih =>
      intro ps h
      rcases List.eq_nil_or_concat ps with e | ⟨qs, p, e⟩
      · subst e; simp at h
      · have e' : ps = qs ++ [p] := by simpa using e
        subst e'
        simp at h
        have h1 := ih qs h
        have h2 := cntK_len (ps := qs) (p := p) p.length (Nat.le_refl _)
        rw [List.take_length] at h2
        rw [begs_snoc, h2, ← h1]
        simp only [List.length_append, List.length_singleton, cntI, txt_last]
        rw [cntI_cong (l := qs ++ [p]) (l' := qs) fun j hj => txt_app hj]
  exact key _ ps rfl

end Go.AM
