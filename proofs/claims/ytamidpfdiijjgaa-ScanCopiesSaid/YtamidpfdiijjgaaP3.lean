/-
  The trie in plain words: its states are beginnings of patterns, in the order of their making.
-/
import Derived.Test.YtamidpfdiijjgaaP2
namespace Go.AM
open Go Go.Proofs
set_option linter.unusedVariables false
set_option linter.unusedSimpArgs false
set_option maxRecDepth 100000

abbrev Txt := List UInt8

/-- The states' beginnings when a pattern comes to them, from a beginning on. -/
def addFrom (X : List Txt) (x : Txt) : Txt → List Txt
  | [] => X
  | b :: r => addFrom (if x ++ [b] ∈ X then X else X ++ [x ++ [b]]) (x ++ [b]) r

theorem addFrom_snoc {b : UInt8} : ∀ {r : Txt} {X : List Txt} {x : Txt}, addFrom X x (r ++ [b]) = if x ++ r ++ [b] ∈ addFrom X x r then addFrom X x r else addFrom X x r ++ [x ++ r ++ [b]]
  | [], X, x => by simp [addFrom]
  | c :: r, X, x => by
    simp only [List.cons_append, addFrom]
    rw [addFrom_snoc]
    simp

theorem addFrom_app : ∀ {r : Txt} {X : List Txt} {x : Txt}, ∃ Y, addFrom X x r = X ++ Y
  | [], X, x => ⟨[], by simp [addFrom]⟩
  | c :: r, X, x => by
    simp only [addFrom]
    obtain ⟨Y, hY⟩ := addFrom_app (r := r) (X := if x ++ [c] ∈ X then X else X ++ [x ++ [c]]) (x := x ++ [c])
    rw [hY]
    split
    · exact ⟨Y, rfl⟩
    · exact ⟨[x ++ [c]] ++ Y, by simp⟩

theorem addFrom_old {r : Txt} {X : List Txt} {x : Txt} {i : Nat} {y : Txt} (h : X[i]? = some y) : (addFrom X x r)[i]? = some y := by
  obtain ⟨Y, hY⟩ := addFrom_app (r := r) (X := X) (x := x)
  rw [hY, List.getElem?_append_left (List.getElem?_eq_some_iff.1 h).1, h]

theorem addFrom_len {r : Txt} {X : List Txt} {x : Txt} : X.length ≤ (addFrom X x r).length ∧ (addFrom X x r).length ≤ X.length + r.length := by
  induction r generalizing X x with
  | nil => simp [addFrom]
  | cons c r ih =>
    simp only [addFrom]
    by_cases hm : x ++ [c] ∈ X
    · have := ih (X := X) (x := x ++ [c])
      simp [hm] at *
      omega
    · have := ih (X := X ++ [x ++ [c]]) (x := x ++ [c])
      simp [hm] at *
      omega

theorem addFrom_mono {r : Txt} {X : List Txt} {x y : Txt} (h : y ∈ X) : y ∈ addFrom X x r := by
  obtain ⟨Y, hY⟩ := addFrom_app (r := r) (X := X) (x := x)
  rw [hY]
  exact List.mem_append_left _ h

theorem addFrom_end {r : Txt} {X : List Txt} {x : Txt} (h : x ∈ X) : x ++ r ∈ addFrom X x r := by
  induction r generalizing X x with
  | nil => simpa [addFrom] using h
  | cons c r ih =>
    simp only [addFrom]
    rw [show x ++ c :: r = (x ++ [c]) ++ r by simp]
    exact ih (by split <;> simp [*])

/-- Where a text stands among texts: its places. -/
def places (p : Txt) : List Txt → Nat → List Int
  | [], _ => []
  | x :: r, i => if x = p then (i : Int) :: places p r (i + 1) else places p r (i + 1)

/-- What a trie is. -/
structure TModel (T : TM) (X ps : List Txt) : Prop where
  nodup : X.Nodup
  zero : X[0]? = some []
  len : T.up.length = X.length
  up : ∀ (s : Nat) (x : Txt), X[s]? = some x → x ≠ [] → ∃ (q : Nat) (y : Txt) (b : UInt8), T.up[s]? = some ((q : Int), (b.toNat : Int)) ∧ q < s ∧ X[q]? = some y ∧ x = y ++ [b]
  deep : T.deep = X.map fun x => (x.length : Int)
  ends : T.ends = X.map fun x => places x ps 0
  n : T.n = ps.length
  sub : ∀ p ∈ ps, p ∈ X

theorem TModel.pos {T : TM} {X ps : List Txt} (M : TModel T X ps) : 0 < X.length := by
  have := M.zero
  cases h : X with
  | nil => rw [h] at this; simp at this
  | cons x xs => simp

theorem idx_unique {X : List Txt} (hn : X.Nodup) {i j : Nat} {x : Txt} (hi : X[i]? = some x) (hj : X[j]? = some x) : i = j := by
  obtain ⟨h1, h3⟩ := List.getElem?_eq_some_iff.1 hi
  obtain ⟨h2, h4⟩ := List.getElem?_eq_some_iff.1 hj
  have key := List.pairwise_iff_getElem.1 hn
  rcases Nat.lt_trichotomy i j with h | h | h
  · exact absurd (h3.trans h4.symm) (key i j h1 h2 h)
  · exact h
  · exact absurd (h4.trans h3.symm) (key j i h2 h1 h)

theorem childIn_some {s b : Int} : ∀ {l : List (Int × Int)} {i j : Nat}, childIn s b l i = some j → ∃ k, j = i + k ∧ l[k]? = some (s, b)
  | [], i, j, h => by simp [childIn] at h
  | (s', b') :: r, i, j, h => by
    simp only [childIn] at h
    split at h
    · rename_i e
      obtain ⟨rfl, rfl⟩ := e
      simp at h
      exact ⟨0, by omega, rfl⟩
    · obtain ⟨k, hk, hl⟩ := childIn_some h
      exact ⟨k + 1, by omega, by simpa using hl⟩

theorem childIn_none {s b : Int} : ∀ {l : List (Int × Int)} {i k : Nat}, childIn s b l i = none → l[k]? ≠ some (s, b)
  | [], i, k, _ => by simp
  | (s', b') :: r, i, k, h => by
    simp only [childIn] at h
    split at h
    · simp at h
    · rename_i e
      cases k with
      | zero => intro hc; simp at hc; exact e hc
      | succ k => simpa using childIn_none h (k := k)

theorem tail_at {α : Type} {l : List α} {k : Nat} : l.tail[k]? = l[k + 1]? := by cases l <;> simp

theorem TModel.child {T : TM} {X ps : List Txt} (M : TModel T X ps) {s : Nat} {x : Txt} (hs : X[s]? = some x) {b : UInt8} {c : Nat} : T.child s b.toNat = some c ↔ X[c]? = some (x ++ [b]) := by
  have key : ∀ k, T.up.tail[k]? = some ((s : Int), (b.toNat : Int)) → X[k + 1]? = some (x ++ [b]) := by
    intro k hk
    rw [tail_at] at hk
    have hl : k + 1 < X.length := by
      have := (List.getElem?_eq_some_iff.1 hk).1
      have := M.len
      omega
    have hx := List.getElem?_eq_getElem hl
    have hne : X[k + 1] ≠ [] := by
      intro e
      rw [e] at hx
      have := idx_unique M.nodup hx M.zero
      omega
    obtain ⟨q, y, b', h1, h2, h3, h4⟩ := M.up (k + 1) X[k + 1] hx hne
    rw [hk] at h1
    simp at h1
    obtain ⟨e1, e2⟩ := h1
    have e1' : s = q := by omega
    have e2' : b = b' := UInt8.toNat_inj.1 (by omega)
    subst e1'
    subst e2'
    rw [hs] at h3
    simp at h3
    subst h3
    rw [hx, h4]
  constructor
  · intro h
    obtain ⟨k, rfl, hk⟩ := childIn_some h
    rw [Nat.add_comm]
    exact key k hk
  · intro h
    have hc0 : c ≠ 0 := by
      rintro rfl
      rw [M.zero] at h
      simp at h
    obtain ⟨q, y, b', h1, h2, h3, h4⟩ := M.up c _ h (by simp)
    obtain ⟨e1, e2⟩ := List.append_inj' h4 rfl
    simp at e2
    subst e1
    subst e2
    have hq := idx_unique M.nodup hs h3
    subst hq
    cases hr : T.child s b.toNat with
    | some c' =>
      obtain ⟨k, rfl, hk⟩ := childIn_some hr
      have := key k hk
      rw [Nat.add_comm] at this
      rw [idx_unique M.nodup h this]
    | none =>
      have := childIn_none hr (k := c - 1)
      rw [tail_at, Nat.sub_add_cancel (by omega)] at this
      exact absurd h1 this

theorem TModel.child_none {T : TM} {X ps : List Txt} (M : TModel T X ps) {s : Nat} {x : Txt} (hs : X[s]? = some x) {b : UInt8} : T.child s b.toNat = none ↔ x ++ [b] ∉ X := by
  constructor
  · intro h hm
    obtain ⟨c, hc⟩ := List.getElem?_of_mem hm
    rw [(M.child hs).2 hc] at h
    simp at h
  · intro h
    cases hr : T.child s b.toNat with
    | none => rfl
    | some c => exact absurd (List.mem_of_getElem? ((M.child hs).1 hr)) h

/-- What is no state has no child. -/
theorem TModel.child_off {T : TM} {X ps : List Txt} (M : TModel T X ps) {s : Int} (hs : s < 0 ∨ (X.length : Int) ≤ s) {b : Int} : T.child s b = none := by
  cases hr : T.child s b with
  | none => rfl
  | some c =>
    obtain ⟨k, rfl, hk⟩ := childIn_some hr
    rw [tail_at] at hk
    have hl : k + 1 < X.length := by
      have := (List.getElem?_eq_some_iff.1 hk).1
      have := M.len
      omega
    have hx := List.getElem?_eq_getElem hl
    have hne : X[k + 1] ≠ [] := by
      intro e
      rw [e] at hx
      have := idx_unique M.nodup hx M.zero
      omega
    obtain ⟨q, y, b', h1, h2, h3, h4⟩ := M.up (k + 1) X[k + 1] hx hne
    rw [hk] at h1
    simp at h1
    omega

theorem places_none {p : Txt} : ∀ {l : List Txt} {i : Nat}, p ∉ l → places p l i = []
  | [], i, _ => rfl
  | x :: r, i, h => by
    simp at h
    simp only [places]
    rw [if_neg (Ne.symm h.1), places_none h.2]

theorem places_app {p q : Txt} : ∀ {l : List Txt} {i : Nat}, places p (l ++ [q]) i = if q = p then places p l i ++ [((i + l.length : Nat) : Int)] else places p l i
  | [], i => by simp [places]
  | x :: r, i => by
    simp only [List.cons_append, places, places_app (l := r), List.length_cons]
    rw [show i + 1 + r.length = i + (r.length + 1) by omega]
    split <;> split <;> simp

theorem TModel.grow {T : TM} {X ps : List Txt} (M : TModel T X ps) {s : Nat} {x : Txt} (hs : X[s]? = some x) {b : UInt8} (hno : x ++ [b] ∉ X) : TModel (T.grow s b.toNat) (X ++ [x ++ [b]]) ps := by
  have hsl := (List.getElem?_eq_some_iff.1 hs).1
  refine ⟨?_, ?_, ?_, ?_, ?_, ?_, M.n, fun p hp => List.mem_append_left _ (M.sub p hp)⟩
  · rw [List.nodup_append]
    exact ⟨M.nodup, by simp, fun a ha b' hb' => by simp at hb'; subst hb'; intro e; subst e; exact hno ha⟩
  · rw [List.getElem?_append_left M.pos]; exact M.zero
  · simp [TM.grow, M.len]
  · intro t y hy hne
    by_cases ht : t < X.length
    · rw [List.getElem?_append_left ht] at hy
      obtain ⟨q, z, b', h1, h2, h3, h4⟩ := M.up t y hy hne
      refine ⟨q, z, b', ?_, h2, ?_, h4⟩
      · simp only [TM.grow]
        rw [List.getElem?_append_left (by rw [M.len]; exact ht)]
        exact h1
      · rw [List.getElem?_append_left (by omega)]; exact h3
    · have ht' : t = X.length := by
        have := (List.getElem?_eq_some_iff.1 hy).1
        simp at this
        omega
      subst ht'
      simp at hy
      refine ⟨s, x, b, ?_, hsl, by rw [List.getElem?_append_left hsl]; exact hs, hy.symm⟩
      simp only [TM.grow]
      rw [← M.len]
      simp
  · simp only [TM.grow, M.deep]
    simp [hs]
  · simp only [TM.grow, M.ends, List.map_append, List.map_cons, List.map_nil]
    rw [places_none fun hm => hno (M.sub _ hm)]

theorem TModel.run {T : TM} {X ps : List Txt} {s : Nat} {x : Txt} (M : TModel T X ps) (hs : X[s]? = some x) : ∀ r : Txt, ∃ s' : Nat, TModel (T.run s r).1 (addFrom X x r) ps ∧ (T.run s r).2 = s' ∧ (addFrom X x r)[s']? = some (x ++ r)
  | [] => ⟨s, M, rfl, by simpa [addFrom] using hs⟩
  | b :: r => by
    simp only [TM.run, addFrom]
    by_cases hm : x ++ [b] ∈ X
    · obtain ⟨c, hc⟩ := List.getElem?_of_mem hm
      rw [(M.child hs).2 hc]
      simp only [hm, if_true]
      obtain ⟨s', h1, h2, h3⟩ := TModel.run M hc r
      exact ⟨s', h1, h2, by rw [h3]; simp⟩
    · rw [(M.child_none hs).2 hm]
      simp only [hm, if_false]
      have hg := M.grow hs hm
      have hsz : (T.size : Int) = ((X.length : Nat) : Int) := by simp [TM.size, M.len]
      rw [show T.size = X.length from M.len]
      obtain ⟨s', h1, h2, h3⟩ := TModel.run (s := X.length) (x := x ++ [b]) hg (by simp) r
      exact ⟨s', h1, h2, by rw [h3]; simp⟩

theorem TModel.note {T : TM} {X ps : List Txt} {s : Nat} {p : Txt} (M : TModel T X ps) (hs : X[s]? = some p) : TModel (T.note s) X (ps ++ [p]) := by
  have hsl := (List.getElem?_eq_some_iff.1 hs).1
  refine ⟨M.nodup, M.zero, M.len, M.up, M.deep, ?_, by simp [TM.note, M.n], fun q hq => ?_⟩
  · simp only [TM.note, M.ends, M.n]
    apply List.ext_getElem?
    intro i
    simp only [Int.toNat_natCast, List.getElem?_map, hs, Option.map_some, Option.getD_some]
    by_cases hi : i = s
    · subst hi
      rw [List.getElem?_set_self (by simpa using hsl), hs]
      simp [places_app]
    · rw [List.getElem?_set_ne (Ne.symm hi), List.getElem?_map]
      cases hx : X[i]? with
      | none => rfl
      | some x =>
        have : p ≠ x := fun e => hi (idx_unique M.nodup (e ▸ hx) hs)
        simp [places_app, this]
  · simp at hq
    rcases hq with hq | rfl
    · exact M.sub q hq
    · exact List.mem_of_getElem? hs

theorem TModel.add {T : TM} {X ps : List Txt} (M : TModel T X ps) (p : Txt) : TModel (T.add p) (addFrom X [] (p.take 16)) (ps ++ [p.take 16]) := by
  obtain ⟨s', h1, h2, h3⟩ := M.run (s := 0) (x := []) M.zero (p.take 16)
  simp only [TM.add]
  rw [show ((0 : Int)) = ((0 : Nat) : Int) from rfl, h2]
  exact h1.note (by simpa using h3)

theorem T0_model : TModel T0 [[]] [] := by
  refine ⟨by simp, rfl, rfl, fun s x hs hne => ?_, rfl, rfl, rfl, by simp⟩
  cases s with
  | zero => simp at hs; exact absurd hs hne
  | succ s => simp at hs

/-- The states' beginnings of patterns. -/
def states (l : List Txt) : List Txt := l.foldl (fun X p => addFrom X [] (p.take 16)) [[]]
def cuts (l : List Txt) : List Txt := l.map (List.take 16)
def TMof (l : List Txt) : TM := l.foldl TM.add T0

theorem TMof_model (l : List Txt) : TModel (TMof l) (states l) (cuts l) := by
  have key : ∀ (l : List Txt) T X ps, TModel T X ps → TModel (l.foldl TM.add T) (l.foldl (fun X p => addFrom X [] (p.take 16)) X) (ps ++ cuts l) := by
    intro l
    induction l with
    | nil => intro T X ps M; simpa [cuts] using M
    | cons p l ih =>
      intro T X ps M
      have := ih _ _ _ (M.add p)
      simpa [cuts] using this
  have := key l T0 [[]] [] T0_model
  rw [List.nil_append] at this
  exact this

/-- A text whose first byte is new. -/
theorem addFrom_fresh : ∀ {r : Txt} {X : List Txt} {x : Txt} {b : UInt8}, (∀ r', x ++ b :: r' ∉ X) → addFrom X x (b :: r) = X ++ (List.range (r.length + 1)).map fun k => x ++ (b :: r).take (k + 1)
  | [], X, x, b, h => by simp [addFrom, h []]
  | c :: r, X, x, b, h => by
    rw [addFrom, if_neg (h [])]
    rw [addFrom_fresh (r := r) (X := X ++ [x ++ [b]]) (x := x ++ [b]) (b := c)]
    · simp only [List.length_cons]
      rw [List.range_succ_eq_map (n := r.length + 1)]
      simp [Function.comp_def]
    · intro r' hm
      simp at hm
      exact h _ hm

end Go.AM
