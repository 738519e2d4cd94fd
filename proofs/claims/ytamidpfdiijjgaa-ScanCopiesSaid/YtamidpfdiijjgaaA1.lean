/-
  The automaton in plain words: the longest end of a text that is a state; what ends with it.
-/
import Derived.Test.YtamidpfdiijjgaaP8
import Derived.Test.YtamidpfdiijjgaaX1
namespace Go.AM
open Go Go.Proofs
set_option linter.unusedVariables false
set_option linter.unusedSimpArgs false

/-- The longest end of a text that is a state. -/
def lsuf (X : List Txt) : Txt → Txt
  | [] => []
  | c :: r => if c :: r ∈ X then c :: r else lsuf X r

theorem lsuf_suffix {X : List Txt} : ∀ {w : Txt}, lsuf X w <:+ w
  | [] => List.suffix_refl _
  | c :: r => by
    simp only [lsuf]
    split
    · exact List.suffix_refl _
    · exact (lsuf_suffix (w := r)).trans (List.suffix_cons c r)

theorem lsuf_mem {X : List Txt} (h0 : [] ∈ X) : ∀ {w : Txt}, lsuf X w ∈ X
  | [] => h0
  | c :: r => by
    simp only [lsuf]
    split
    · rename_i h; exact h
    · exact lsuf_mem h0

theorem lsuf_self {X : List Txt} {w : Txt} (h : w ∈ X) : lsuf X w = w := by
  cases w with
  | nil => rfl
  | cons c r => simp [lsuf, h]

/-- Each end that is a state is an end of the longest one. -/
theorem lsuf_max {X : List Txt} : ∀ {w u : Txt}, u <:+ w → u ∈ X → u <:+ lsuf X w
  | [], u, h, hu => by simpa [lsuf] using h
  | c :: r, u, h, hu => by
    simp only [lsuf]
    rcases List.suffix_cons_iff.1 h with rfl | h1
    · rw [if_pos hu]; exact List.suffix_refl _
    · split
      · exact h1.trans (List.suffix_cons c r)
      · exact lsuf_max h1 hu

/-- The beginnings of states are states. -/
def Pre (X : List Txt) : Prop := ∀ w b, w ++ [b] ∈ X → w ∈ X

theorem suffix_snoc {u w : Txt} {b : UInt8} (h : u <:+ w ++ [b]) (hu : u ≠ []) : ∃ v, u = v ++ [b] ∧ v <:+ w := by
  obtain ⟨t, ht⟩ := h
  rcases List.eq_nil_or_concat u with e | ⟨v, c, e⟩
  · exact absurd e hu
  · have e' : u = v ++ [c] := by simpa using e
    subst e'
    rw [← List.append_assoc] at ht
    obtain ⟨h1, h2⟩ := List.append_inj' ht rfl
    simp at h2
    subst h2
    exact ⟨v, rfl, t, h1⟩

theorem snoc_suffix {v w : Txt} {b : UInt8} (h : v <:+ w) : v ++ [b] <:+ w ++ [b] := by
  obtain ⟨t, ht⟩ := h
  exact ⟨t, by rw [← List.append_assoc, ht]⟩

theorem suffix_antisymm {a b : Txt} (h : a <:+ b) (h' : b <:+ a) : a = b := h.eq_of_length_le h'.length_le

/-- A step from the longest end. -/
theorem lsuf_step {X : List Txt} (h0 : [] ∈ X) (hp : Pre X) {w : Txt} {b : UInt8} : lsuf X (lsuf X w ++ [b]) = lsuf X (w ++ [b]) := by
  refine suffix_antisymm (lsuf_max ((lsuf_suffix).trans (snoc_suffix lsuf_suffix)) (lsuf_mem h0)) (lsuf_max ?_ (lsuf_mem h0))
  by_cases he : lsuf X (w ++ [b]) = []
  · rw [he]; exact List.nil_suffix
  · obtain ⟨v, h1, h2⟩ := suffix_snoc lsuf_suffix he
    have hm : v ++ [b] ∈ X := by rw [← h1]; exact lsuf_mem h0
    rw [h1]
    exact snoc_suffix (lsuf_max h2 (hp v b hm))

/-- A step that leads to no state. -/
theorem lsuf_miss {X : List Txt} (h0 : [] ∈ X) (hp : Pre X) {x : Txt} {b : UInt8} (hx : x ≠ []) (hm : x ++ [b] ∉ X) : lsuf X (x ++ [b]) = lsuf X (lsuf X x.tail ++ [b]) := by
  rw [lsuf_step h0 hp]
  cases x with
  | nil => exact absurd rfl hx
  | cons c r =>
    simp only [List.cons_append, List.tail_cons] at hm ⊢
    rw [lsuf, if_neg hm]

theorem lsuf_miss0 {X : List Txt} {b : UInt8} (hm : [b] ∉ X) : lsuf X [b] = [] := by
  rw [lsuf, if_neg hm]; rfl

/-- The state of a shorter end. -/
def fsuf (X : List Txt) (x : Txt) : Txt := lsuf X x.tail
theorem fsuf_len {X : List Txt} {x : Txt} (hx : x ≠ []) : (fsuf X x).length < x.length := by
  have h1 := (lsuf_suffix (X := X) (w := x.tail)).length_le
  cases x with
  | nil => exact absurd rfl hx
  | cons c r => simp at h1; simp [fsuf]; omega

/-- A state's number. -/
def st (X : List Txt) (x : Txt) : Nat := X.idxOf x
theorem st_at {X : List Txt} {x : Txt} (h : x ∈ X) : X[st X x]? = some x := by
  have hl : X.idxOf x < X.length := List.idxOf_lt_length_of_mem h
  rw [st, List.getElem?_eq_getElem hl, List.getElem_idxOf hl]
theorem st_lt {X : List Txt} {x : Txt} (h : x ∈ X) : st X x < X.length := List.idxOf_lt_length_of_mem h
theorem st_eq {X : List Txt} (hn : X.Nodup) {s : Nat} {x : Txt} (h : X[s]? = some x) : st X x = s := idx_unique hn (st_at (List.mem_of_getElem? h)) h
theorem st_inj {X : List Txt} {x y : Txt} (hx : x ∈ X) (hy : y ∈ X) (h : st X x = st X y) : x = y := by
  have h1 := st_at hx
  rw [h, st_at hy] at h1
  simpa using h1.symm

/-- Which patterns a text ends with. -/
def outs (x : Txt) : List Txt → Nat → List Int
  | [], _ => []
  | p :: r, i => if p <:+ x then (i : Int) :: outs x r (i + 1) else outs x r (i + 1)

theorem outs_ge {x : Txt} : ∀ {l : List Txt} {i : Nat} {z : Int}, z ∈ outs x l i → (i : Int) ≤ z
  | [], i, z, h => by simp [outs] at h
  | p :: r, i, z, h => by
    simp only [outs] at h
    split at h
    · rcases List.mem_cons.1 h with rfl | h
      · exact Int.le_refl _
      · have := outs_ge h; omega
    · have := outs_ge h; omega

theorem outs_sorted {x : Txt} : ∀ {l : List Txt} {i : Nat}, (outs x l i).Pairwise (· ≤ ·)
  | [], i => .nil
  | p :: r, i => by
    simp only [outs]
    split
    · exact List.pairwise_cons.2 ⟨fun z hz => by have := outs_ge hz; omega, outs_sorted⟩
    · exact outs_sorted

theorem outs_len {x : Txt} : ∀ {l : List Txt} {i : Nat}, (outs x l i).length ≤ l.length
  | [], i => by simp [outs]
  | p :: r, i => by
    have := outs_len (x := x) (l := r) (i := i + 1)
    simp only [outs]
    split <;> simp <;> omega

/-- What ends with a state: what ends with the shorter one, and it alone. -/
theorem outs_perm {X : List Txt} {x : Txt} (hx : x ≠ []) : ∀ {l : List Txt} {i : Nat}, (∀ p ∈ l, p ∈ X) → (outs (fsuf X x) l i ++ places x l i).Perm (outs x l i)
  | [], i, _ => by simp [outs, places]
  | p :: r, i, hl => by
    have ih := outs_perm hx (l := r) (i := i + 1) fun q hq => hl q (List.mem_cons_of_mem _ hq)
    have hp : p ∈ X := hl p (List.mem_cons_self ..)
    have key : p <:+ x ↔ p = x ∨ p <:+ fsuf X x := by
      cases x with
      | nil => exact absurd rfl hx
      | cons c t =>
        rw [List.suffix_cons_iff]
        constructor
        · rintro (h | h)
          · exact .inl h
          · exact .inr (lsuf_max h hp)
        · rintro (h | h)
          · exact .inl h
          · exact .inr (h.trans lsuf_suffix)
    have hnot : p = x → ¬ p <:+ fsuf X x := by
      rintro rfl h
      have h1 := h.length_le
      have h2 := fsuf_len (X := X) hx
      omega
    simp only [outs, places]
    by_cases h1 : p = x
    · have h2 := hnot h1
      rw [if_neg h2, if_pos h1, if_pos (key.2 (.inl h1))]
      exact (List.perm_middle).trans (ih.cons _)
    · by_cases h2 : p <:+ fsuf X x
      · rw [if_pos h2, if_neg h1, if_pos (key.2 (.inr h2))]
        exact ih.cons _
      · rw [if_neg h2, if_neg h1, if_neg (fun h => by rcases key.1 h with h | h; exact h1 h; exact h2 h)]
        exact ih

theorem outs_sort {X : List Txt} {x : Txt} {l : List Txt} {i : Nat} (hx : x ≠ []) (hl : ∀ p ∈ l, p ∈ X) : isort (outs (fsuf X x) l i ++ places x l i) = outs x l i :=
  sorted_unique ((isort_perm _).trans (outs_perm hx hl)) (isort_sorted _) outs_sorted

theorem outs_nil : ∀ {l : List Txt} {i : Nat}, outs [] l i = places [] l i
  | [], i => rfl
  | p :: r, i => by
    simp only [outs, places, List.suffix_nil, outs_nil]

/-- What ends with the longest end that is a state is what ends at all. -/
theorem outs_lsuf {X : List Txt} {w : Txt} : ∀ {l : List Txt} {i : Nat}, (∀ p ∈ l, p ∈ X) → outs (lsuf X w) l i = outs w l i
  | [], i, _ => rfl
  | p :: r, i, hl => by
    have ih := outs_lsuf (w := w) (l := r) (i := i + 1) fun q hq => hl q (List.mem_cons_of_mem _ hq)
    have hp : p ∈ X := hl p (List.mem_cons_self ..)
    have key : p <:+ lsuf X w ↔ p <:+ w := ⟨fun h => h.trans lsuf_suffix, fun h => lsuf_max h hp⟩
    simp only [outs, ih, key]

theorem TModel.pre {T : TM} {X ps : List Txt} (M : TModel T X ps) : Pre X := by
  intro w b h
  obtain ⟨s, hs⟩ := List.getElem?_of_mem h
  obtain ⟨q, y, b', h1, h2, h3, h4⟩ := M.up s _ hs (by simp)
  obtain ⟨e1, e2⟩ := List.append_inj' h4 rfl
  subst e1
  exact List.mem_of_getElem? h3

theorem TModel.nil_mem {T : TM} {X ps : List Txt} (M : TModel T X ps) : [] ∈ X := List.mem_of_getElem? M.zero

/-! ### breadth first -/

/-- The children of a state, in the bytes' order. -/
def kids (X : List Txt) (x : Txt) : Nat → List Txt
  | 0 => []
  | b + 1 => if x ++ [UInt8.ofNat b] ∈ X then kids X x b ++ [x ++ [UInt8.ofNat b]] else kids X x b

theorem mem_kids {X : List Txt} {x y : Txt} : ∀ {n : Nat}, y ∈ kids X x n ↔ ∃ b, b < n ∧ y = x ++ [UInt8.ofNat b] ∧ y ∈ X
  | 0 => by simp [kids]
  | n + 1 => by
    simp only [kids]
    constructor
    · intro h
      split at h
      · rename_i hm
        rcases List.mem_append.1 h with h | h
        · obtain ⟨b, h1, h2, h3⟩ := mem_kids.1 h
          exact ⟨b, by omega, h2, h3⟩
        · simp at h
          exact ⟨n, by omega, h, by rw [h]; exact hm⟩
      · obtain ⟨b, h1, h2, h3⟩ := mem_kids.1 h
        exact ⟨b, by omega, h2, h3⟩
    · rintro ⟨b, h1, rfl, h3⟩
      by_cases hb : b = n
      · subst hb
        rw [if_pos h3]
        simp
      · have := mem_kids.2 ⟨b, (by omega : b < n), rfl, h3⟩
        split
        · exact List.mem_append_left _ this
        · exact this

theorem mem_kids256 {X : List Txt} {x y : Txt} : y ∈ kids X x 256 ↔ ∃ b : UInt8, y = x ++ [b] ∧ y ∈ X := by
  rw [mem_kids]
  constructor
  · rintro ⟨b, _, h2, h3⟩; exact ⟨_, h2, h3⟩
  · rintro ⟨b, h2, h3⟩
    exact ⟨b.toNat, b.toNat_lt, by rw [h2]; simp, h3⟩

theorem kids_nodup {X : List Txt} {x : Txt} : ∀ {n : Nat}, n ≤ 256 → (kids X x n).Nodup
  | 0, _ => by simp [kids]
  | n + 1, hn => by
    have ih := kids_nodup (X := X) (x := x) (n := n) (by omega)
    simp only [kids]
    split
    · rw [List.nodup_append]
      refine ⟨ih, by simp, fun a ha b hb => ?_⟩
      simp at hb
      subst hb
      obtain ⟨c, h1, rfl, _⟩ := mem_kids.1 ha
      intro e
      have e2 := (List.append_inj' e rfl).2
      simp at e2
      have := congrArg UInt8.toNat e2
      simp at this
      omega
    · exact ih

/-- The queue under way. -/
structure Bfs (X done queue : List Txt) : Prop where
  sub : ∀ y ∈ done ++ queue, y ∈ X
  nodup : (done ++ queue).Nodup
  par : ∀ y b, y ++ [b] ∈ done ++ queue → y ∈ done
  sorted : (done ++ queue).Pairwise fun a b => a.length ≤ b.length
  near : ∀ x q, queue = x :: q → ∀ y ∈ queue, y.length ≤ x.length + 1
  root : [] ∈ done ++ queue
  clos : ∀ y b, y ∈ done → y ++ [b] ∈ X → y ++ [b] ∈ done ++ queue

theorem Bfs.start {X : List Txt} (h0 : [] ∈ X) : Bfs X [] [[]] := by
  refine ⟨?_, by simp, ?_, by simp, ?_, by simp, by simp⟩
  · intro y hy; simp at hy; subst hy; exact h0
  · intro y b h; simp at h
  · rintro x q h y hy; simp at hy; subst hy; simp

/-- Those that are shorter than the queue's first one are done. -/
theorem Bfs.short {X done q : List Txt} {x : Txt} (H : Bfs X done (x :: q)) (hp : Pre X) : ∀ (n : Nat) (y : Txt), y.length = n → y ∈ X → y.length < x.length → y ∈ done := by
  have key : ∀ y, y ∈ done ++ x :: q → y.length < x.length → y ∈ done := by
    intro y hy hl
    rcases List.mem_append.1 hy with h | h
    · exact h
    · have h1 := H.sorted
      rw [List.pairwise_append] at h1
      rcases List.mem_cons.1 h with rfl | h
      · omega
      · have := (List.pairwise_cons.1 h1.2.1).1 y h
        omega
  intro n
  induction n with
  | zero =>
    intro y hn hy hl
    have : y = [] := List.length_eq_zero_iff.1 hn
    subst this
    exact key _ H.root hl
  | succ n ih =>
    intro y hn hy hl
    rcases List.eq_nil_or_concat y with e | ⟨z, b, e⟩
    · subst e; simp at hn
    · have e' : y = z ++ [b] := by simpa using e
      subst e'
      simp at hn hl
      exact key _ (H.clos z b (ih z hn (hp z b hy) (by omega)) hy) (by simp; omega)

/-- When the queue is empty all is done. -/
theorem Bfs.all {X done : List Txt} (H : Bfs X done []) (hp : Pre X) : ∀ (n : Nat) (y : Txt), y.length = n → y ∈ X → y ∈ done := by
  have e : done ++ [] = done := List.append_nil _
  intro n
  induction n with
  | zero =>
    intro y hn hy
    have : y = [] := List.length_eq_zero_iff.1 hn
    subst this
    have := H.root
    rwa [e] at this
  | succ n ih =>
    intro y hn hy
    rcases List.eq_nil_or_concat y with e' | ⟨z, b, e'⟩
    · subst e'; simp at hn
    · have e'' : y = z ++ [b] := by simpa using e'
      subst e''
      simp at hn
      have := H.clos z b (ih z hn (hp z b hy)) hy
      rwa [e] at this

theorem Bfs.step {X done q : List Txt} {x : Txt} (H : Bfs X done (x :: q)) : Bfs X (done ++ [x]) (q ++ kids X x 256) := by
  have e : done ++ [x] ++ (q ++ kids X x 256) = (done ++ x :: q) ++ kids X x 256 := by simp
  have hxd : x ∉ done := by
    have := H.nodup
    rw [List.nodup_append] at this
    intro h
    exact this.2.2 x h x (by simp) rfl
  refine ⟨?_, ?_, ?_, ?_, ?_, ?_, ?_⟩
  · intro y hy
    rw [e] at hy
    rcases List.mem_append.1 hy with h | h
    · exact H.sub y h
    · obtain ⟨b, _, h2⟩ := mem_kids256.1 h; exact h2
  · rw [e, List.nodup_append]
    refine ⟨H.nodup, kids_nodup (Nat.le_refl _), fun a ha b hb => ?_⟩
    rintro rfl
    obtain ⟨c, rfl, _⟩ := mem_kids256.1 hb
    exact hxd (H.par x c ha)
  · intro y b hy
    rw [e] at hy
    rcases List.mem_append.1 hy with h | h
    · exact List.mem_append_left _ (H.par y b h)
    · obtain ⟨c, h1, _⟩ := mem_kids256.1 h
      rw [(List.append_inj' h1 rfl).1]
      simp
  · rw [e, List.pairwise_append]
    refine ⟨H.sorted, ?_, fun a ha b hb => ?_⟩
    · refine List.Pairwise.imp_of_mem (R := fun _ _ => True) (fun {a b} ha hb _ => ?_) (List.pairwise_of_forall fun _ _ => trivial)
      obtain ⟨c, rfl, _⟩ := mem_kids256.1 ha
      obtain ⟨d, rfl, _⟩ := mem_kids256.1 hb
      simp
    · obtain ⟨c, rfl, _⟩ := mem_kids256.1 hb
      simp only [List.length_append, List.length_singleton]
      rcases List.mem_append.1 ha with h | h
      · have := (List.pairwise_append.1 H.sorted).2.2 a h x (by simp)
        omega
      · exact H.near x q rfl a h
  · rintro z r hz y hy
    have hz1 : x.length ≤ z.length := by
      cases q with
      | nil =>
        simp at hz
        have : z ∈ kids X x 256 := by rw [hz]; simp
        obtain ⟨c, rfl, _⟩ := mem_kids256.1 this
        simp
      | cons z' q' =>
        simp at hz
        obtain ⟨rfl, _⟩ := hz
        have := (List.pairwise_append.1 H.sorted).2.1
        exact (List.pairwise_cons.1 this).1 z' (by simp)
    rcases List.mem_append.1 hy with h | h
    · have := H.near x q rfl y (List.mem_cons_of_mem _ h)
      omega
    · obtain ⟨c, rfl, _⟩ := mem_kids256.1 h
      simp; omega
  · rw [e]; exact List.mem_append_left _ H.root
  · intro y b hy hm
    rw [e]
    rcases List.mem_append.1 hy with h | h
    · exact List.mem_append_left _ (H.clos y b h hm)
    · simp at h
      subst h
      exact List.mem_append_right _ (mem_kids256.2 ⟨b, rfl, hm⟩)

theorem Bfs.le {X done q : List Txt} (H : Bfs X done q) : done.length + q.length ≤ X.length := by
  have := List.Nodup.length_le_of_subset H.nodup H.sub
  simpa using this

end Go.AM
