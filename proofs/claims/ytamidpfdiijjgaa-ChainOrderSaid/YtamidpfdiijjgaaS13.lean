/-
  The chain's First is the least beginning of which the contents hold.
-/
import Derived.Test.YtamidpfdiijjgaaS12
namespace Go.AM
open Go Go.Proofs
set_option linter.unusedVariables false
set_option linter.unusedSimpArgs false

def upTo (n : Nat) (l : List Int) : List Int := l.filter fun p => decide (p ≤ n)

theorem patAt_take {p s : Txt} {nc : Bool} {e n : Nat} (hn : n ≤ s.length) (he : e ≤ n) : patAt p nc (s.take n) e = patAt p nc s e := by
  simp only [patAt]
  by_cases hp : p.length ≤ e
  · have h1 : List.take p.length (List.drop (e - p.length) (List.take n s)) = List.take p.length (List.drop (e - p.length) s) := by
      rw [List.drop_take, List.take_take]
      congr 1
      omega
    have h2 : e ≤ (s.take n).length := by simp; omega
    have h3 : e ≤ s.length := by omega
    rw [h1, decide_eq_true h2, decide_eq_true h3]
  · simp [hp]

theorem endsAt_take {c : Cont} {s : Txt} {e n : Nat} (hn : n ≤ s.length) (he : e ≤ n) : endsAt c (s.take n) e = endsAt c s e := by
  simp only [endsAt, patAt_take hn he]

theorem behind_upTo {c : Cont} {e n : Nat} {ah : List Int} (he : e ≤ n) : behindB c e (upTo n ah) = behindB c e ah := by
  rw [Bool.eq_iff_iff]
  simp only [behindB, upTo, List.any_eq_true, List.mem_filter, decide_eq_true_eq]
  constructor
  · rintro ⟨p, ⟨h1, _⟩, h2⟩
    exact ⟨p, h1, h2⟩
  · rintro ⟨p, h1, h2⟩
    refine ⟨p, ⟨h1, ?_⟩, h2⟩
    simp only [followsB, Bool.and_eq_true, decide_eq_true_eq] at h2
    have := h2.1.1
    omega

theorem hits_take {c : Cont} {s : Txt} {ah : List Int} {n : Nat} (hn : n ≤ s.length) : ∀ k, k ≤ n + 1 → hits c (s.take n) (upTo n ah) k = hits c s ah k
  | 0, _ => rfl
  | k + 1, h => by
    have h1 : hitB c (s.take n) (upTo n ah) k = hitB c s ah k := by simp only [hitB, endsAt_take hn (show k ≤ n by omega), behind_upTo (c := c) (ah := ah) (show k ≤ n by omega)]
    simp only [hits, h1, hits_take hn k (by omega)]

theorem hits_upTo {c : Cont} {s : Txt} {ah : List Int} {n : Nat} : ∀ m, upTo n (hits c s ah m) = hits c s ah (min m (n + 1))
  | 0 => by simp [hits, upTo]
  | m + 1 => by
    have ih := hits_upTo (c := c) (s := s) (ah := ah) (n := n) m
    by_cases h : m ≤ n
    · have e1 : min (m + 1) (n + 1) = min m (n + 1) + 1 := by omega
      have e2 : min m (n + 1) = m := by omega
      rw [e1, e2]
      rw [e2] at ih
      simp only [hits]
      split
      · simp only [upTo, List.filter_append] at ih ⊢
        rw [ih]
        simp
        omega
      · exact ih
    · have e1 : min (m + 1) (n + 1) = min m (n + 1) := by omega
      rw [e1, ← ih]
      simp only [hits]
      split
      · simp only [upTo, List.filter_append]
        simp
        omega
      · rfl

theorem endsAll_take {l : List Cont} {s : Txt} {n : Nat} (hn : n ≤ s.length) : endsAll l (s.take n) = ((endsAll l s).1.map (upTo n), upTo n (endsAll l s).2) := by
  have hlen : (s.take n).length = n := by simp; omega
  have key : ∀ k (l : List Cont), l.length = k → endsAll l (s.take n) = ((endsAll l s).1.map (upTo n), upTo n (endsAll l s).2) := by
    intro k
    induction k with
    | zero =>
      intro l h
      have : l = [] := List.length_eq_zero_iff.1 h
      subst this
      rfl
    | succ k ih =>
      intro l h
      rcases List.eq_nil_or_concat l with e | ⟨q, c, e⟩
      · subst e; simp at h
      · have e' : l = q ++ [c] := by simpa using e
        subst e'
        simp at h
        have hst : ∀ s, endsAll (q ++ [c]) s = endsStep s (endsAll q s) c := fun s => by simp only [endsAll, List.foldl_append, List.foldl_cons, List.foldl_nil]
        rw [hst, hst, ih q h]
        unfold endsStep
        cases c.not with
        | true => rfl
        | false =>
          have h1 : hits c (s.take n) (upTo n (endsAll q s).2) ((s.take n).length + 1) = upTo n (hits c s (endsAll q s).2 (s.length + 1)) := by
            rw [hlen, hits_take hn (n + 1) (Nat.le_refl _), hits_upTo]
            congr 1
            omega
          simp only [Bool.false_eq_true, if_false, h1, List.map_append, List.map_cons, List.map_nil]
  exact key _ l rfl

theorem hits_head {c : Cont} {s : Txt} {ah : List Int} : ∀ {n : Nat}, ∀ p ∈ hits c s ah n, (hits c s ah n).headD 0 ≤ p
  | 0, p, hp => by simp [hits] at hp
  | n + 1, p, hp => by
    simp only [hits] at hp ⊢
    split at hp
    · rename_i hh
      rw [if_pos hh]
      cases hx : hits c s ah n with
      | nil =>
        rw [hx] at hp
        simp at hp
        subst hp
        simp
      | cons a r =>
        have ih := hits_head (c := c) (s := s) (ah := ah) (n := n)
        have hr := hits_range (c := c) (s := s) (ahead := ah) (n := n)
        rw [hx] at hp ih hr
        simp only [List.cons_append, List.headD_cons] at ih ⊢
        rcases List.mem_append.1 hp with hp | hp
        · exact ih p hp
        · simp at hp
          subst hp
          have := hr a (List.mem_cons_self ..)
          omega
    · rename_i hh
      rw [if_neg hh]
      exact hits_head p hp

theorem endsAll_head {l : List Cont} {s : Txt} : ∀ q ∈ (endsAll l s).1, ∀ p ∈ q, q.headD 0 ≤ p := by
  have key : ∀ k (l : List Cont), l.length = k → ∀ q ∈ (endsAll l s).1, ∀ p ∈ q, q.headD 0 ≤ p := by
    intro k
    induction k with
    | zero =>
      intro l h
      have : l = [] := List.length_eq_zero_iff.1 h
      subst this
      intro q hq
      simp [endsAll] at hq
    | succ k ih =>
      intro l h
      rcases List.eq_nil_or_concat l with e | ⟨t, c, e⟩
      · subst e; simp at h
      · have e' : l = t ++ [c] := by simpa using e
        subst e'
        simp at h
        have hst : endsAll (t ++ [c]) s = endsStep s (endsAll t s) c := by simp only [endsAll, List.foldl_append, List.foldl_cons, List.foldl_nil]
        rw [hst]
        unfold endsStep
        split
        · exact ih t h
        · intro q hq p hp
          simp at hq
          rcases hq with hq | rfl
          · exact ih t h q hq p hp
          · exact hits_head p hp
  exact key _ l rfl

theorem heads_le {ls : List (List Int)} {n : Int} : heads ls ≤ n ↔ 0 ≤ n ∧ ∀ q ∈ ls, q.headD 0 ≤ n := by
  have key : ∀ (ls : List (List Int)) (a : Int), ls.foldl (fun n l => max n (l.headD 0)) a ≤ n ↔ a ≤ n ∧ ∀ q ∈ ls, q.headD 0 ≤ n := by
    intro ls
    induction ls with
    | nil => intro a; simp
    | cons q ls ih =>
      intro a
      rw [List.foldl_cons, ih]
      simp only [List.mem_cons, forall_eq_or_imp]
      rw [Int.max_le]
      constructor
      · rintro ⟨⟨h1, h2⟩, h3⟩; exact ⟨h1, h2, h3⟩
      · rintro ⟨h1, h2, h3⟩; exact ⟨⟨h1, h2⟩, h3⟩
  exact key ls 0

theorem noEmpty_take {ls : List (List Int)} (hh : ∀ q ∈ ls, ∀ p ∈ q, q.headD 0 ≤ p) {n : Nat} : noEmpty (ls.map (upTo n)) = true ↔ noEmpty ls = true ∧ heads ls ≤ n := by
  simp only [noEmpty, List.all_eq_true, List.mem_map, heads_le, decide_eq_true_eq]
  constructor
  · intro h
    refine ⟨fun q hq e => ?_, by omega, fun q hq => ?_⟩
    · exact h _ ⟨q, hq, rfl⟩ (by rw [e]; rfl)
    · have h1 := h _ ⟨q, hq, rfl⟩
      obtain ⟨p, hp⟩ := List.exists_mem_of_ne_nil _ h1
      simp only [upTo, List.mem_filter, decide_eq_true_eq] at hp
      have := hh q hq p hp.1
      omega
  · rintro ⟨h1, h2, h3⟩ _ ⟨q, hq, rfl⟩
    have hne := h1 q hq
    cases q with
    | nil => exact absurd rfl hne
    | cons a r =>
      have := h3 _ hq
      simp only [List.headD_cons] at this
      simp [upTo, this]

theorem neverAt_take {s : Txt} {l : List Cont} {n x : Nat} (hn : n ≤ s.length) (hx : x ≤ n) : neverAt (s.take n) l x = neverAt s l x := by
  simp only [neverAt, endsAt_take hn hx]

theorem holds_take {l : List Cont} {s : Txt} {n : Nat} (hn : n ≤ s.length) : holdsC l (s.take n) = true ↔ noEmpty (endsAll l s).1 = true ∧ heads (endsAll l s).1 ≤ n ∧ ∀ x, x ≤ n → neverAt s l x = false := by
  have hlen : (s.take n).length = n := by simp; omega
  simp only [holdsC, endsAll_take hn, Bool.and_eq_true, noEmpty_take endsAll_head, Option.isNone_iff_eq_none, neverC_none, hlen]
  constructor
  · rintro ⟨⟨h1, h2⟩, h3⟩
    exact ⟨h1, h2, fun x hx => by rw [← neverAt_take hn hx]; exact h3 x hx⟩
  · rintro ⟨h1, h2, h3⟩
    exact ⟨⟨h1, h2⟩, fun x hx => by rw [neverAt_take hn hx]; exact h3 x hx⟩

theorem firstFrom_hit {l : List Cont} {s : Txt} {m : Nat} (hm : holdsC l (s.take m) = true) : ∀ {k n : Nat}, n ≤ m → m < n + k → (∀ i, n ≤ i → i < m → holdsC l (s.take i) = false) → firstFrom l s n k = ((m : Int), true)
  | 0, n, h1, h2, _ => by omega
  | k + 1, n, h1, h2, h3 => by
    simp only [firstFrom]
    by_cases h : n = m
    · subst h; rw [hm]; rfl
    · rw [h3 n (Nat.le_refl _) (by omega)]
      exact firstFrom_hit hm (by omega) (by omega) fun i h4 h5 => h3 i (by omega) h5

theorem firstFrom_no {l : List Cont} {s : Txt} : ∀ {k n : Nat}, (∀ i, n ≤ i → i < n + k → holdsC l (s.take i) = false) → firstFrom l s n k = (0, false)
  | 0, n, _ => rfl
  | k + 1, n, h => by
    simp only [firstFrom]
    rw [h n (Nat.le_refl _) (by omega)]
    exact firstFrom_no fun i h1 h2 => h i (by omega) (by omega)

theorem heads_bound {l : List Cont} {s : Txt} : 0 ≤ heads (endsAll l s).1 ∧ heads (endsAll l s).1 ≤ s.length := by
  obtain ⟨_, _, _, h4⟩ := endsAll_ok (l := l) (s := s)
  constructor
  · have h := (heads_le (ls := (endsAll l s).1) (n := heads (endsAll l s).1)).1 (Int.le_refl _)
    exact h.1
  · rw [heads_le]
    refine ⟨by omega, fun q hq => ?_⟩
    cases q with
    | nil => simp
    | cons a r =>
      have := (h4 _ hq).1 a (List.mem_cons_self ..)
      simp only [List.headD_cons]
      omega

theorem holds_full {l : List Cont} {s : Txt} : holdsC l s = true ↔ noEmpty (endsAll l s).1 = true ∧ ∀ x, x ≤ s.length → neverAt s l x = false := by
  have := holds_take (l := l) (s := s) (n := s.length) (Nat.le_refl _)
  rw [List.take_length] at this
  rw [this]
  have hb := (heads_bound (l := l) (s := s)).2
  constructor
  · rintro ⟨h1, _, h3⟩; exact ⟨h1, h3⟩
  · rintro ⟨h1, h3⟩; exact ⟨h1, hb, h3⟩

theorem first_eq {l : List Cont} {s : Txt} : firstD l s = firstC l s := by
  obtain ⟨hb0, hb1⟩ := heads_bound (l := l) (s := s)
  obtain ⟨H, hH⟩ : ∃ H : Nat, heads (endsAll l s).1 = H := ⟨(heads (endsAll l s).1).toNat, by omega⟩
  have hHs : H ≤ s.length := by omega
  have no : ∀ i, (noEmpty (endsAll l s).1 = true → H ≤ i → (∀ x, x ≤ i → neverAt s l x = false) → False) → i ≤ s.length → holdsC l (s.take i) = false := by
    intro i h hi
    cases hx : holdsC l (s.take i) with
    | false => rfl
    | true =>
      obtain ⟨h1, h2, h3⟩ := (holds_take hi).1 hx
      exact (h h1 (by rw [hH] at h2; omega) h3).elim
  have hit : noEmpty (endsAll l s).1 = true → (∀ x, x ≤ H → neverAt s l x = false) → firstD l s = ((H : Int), true) := by
    intro h1 h2
    refine firstFrom_hit ((holds_take hHs).2 ⟨h1, by omega, h2⟩) (Nat.zero_le _) (by omega) fun i _ hi => no i (fun _ h4 _ => by omega) (by omega)
  cases hne : noEmpty (endsAll l s).1 with
  | false =>
    have h1 : firstC l s = (0, false) := by simp only [firstC, hne]; rfl
    rw [h1]
    exact firstFrom_no fun i _ hi => no i (fun h4 => by rw [hne] at h4; simp at h4) (by omega)
  | true =>
    cases hnv : neverC l s with
    | none =>
      have h1 : firstC l s = ((H : Int), true) := by simp only [firstC, hne, hnv, hH]; rfl
      rw [h1]
      exact hit hne fun x hx => neverC_none.1 hnv x (by omega)
    | some e =>
      obtain ⟨_, he1, he2, he3⟩ := neverFrom_some hnv
      by_cases hle : (e : Int) ≤ H
      · have h1 : firstC l s = (0, false) := by simp only [firstC, hne, hnv, hH, if_pos hle]; rfl
        rw [h1]
        refine firstFrom_no fun i _ hi => no i (fun _ h4 h5 => ?_) (by omega)
        have := h5 e (by omega)
        rw [he2] at this
        simp at this
      · have h1 : firstC l s = ((H : Int), true) := by simp only [firstC, hne, hnv, hH, if_neg hle]; rfl
        rw [h1]
        exact hit hne fun x hx => he3 x (Nat.zero_le _) (by omega)

end Go.AM
