/-
  Regions whose order is drawn, second part: in whatever order the operations come, what they do is what the run in the text's order says.
-/
import Derived.Test.YtamidpfdiijjgaaAM11
namespace Go.AM
open Go
set_option linter.unusedVariables false
set_option linter.unusedSimpArgs false
variable {P : Program} {ι ι' : Inj} {w w' : World} {B N : Nat}

theorem callOf_cl {ev : Ev} {op : Op} (h : clOf P op ≠ .call) : callOf ev op = none := by
  cases op <;> simp only [callOf]
  rename_i c
  obtain ⟨callee, args, argTypes⟩ := c
  cases callee <;> simp [clOf] at h ⊢

theorem callOf_call {ev : Ev} {op : Op} (h : clOf P op = .call) : callOf ev op ≠ none := by
  cases op <;> simp only [clOf] at h <;> try (simp at h; done)
  case convert s d x => cases hs : tk P s <;> cases hd : tk P d <;> simp [hs, hd] at h
  case call c =>
    obtain ⟨callee, args, argTypes⟩ := c
    cases callee with
    | value f =>
      simp only [callOf]
      split <;> simp
    | invoke r m => simp at h
    | builtin b => cases b <;> simp at h

open Classical in
/-- The heap when just the operations in 'D' have been done. -/
noncomputable def lk (h : Nat → Heap) (D : Nat → Prop) : Nat → Look
  | 0 => look (h 0)
  | i + 1 => fun b => if D i ∧ (h i)[b]? ≠ (h (i + 1))[b]? then (h (i + 1))[b]? else lk h D i b

section
variable {h : Nat → Heap} {D D' : Nat → Prop}

theorem lk_low {b : Nat} : ∀ {k : Nat}, (∀ j, j < k → ¬ D j → (h j)[b]? = (h (j + 1))[b]?) → lk h D k b = (h k)[b]?
  | 0, _ => rfl
  | k + 1, hs => by
    have ih := lk_low (k := k) fun j hj => hs j (by omega)
    simp only [lk]
    split
    · rfl
    · rename_i hc
      by_cases hD : D k
      · have : (h k)[b]? = (h (k + 1))[b]? := Classical.not_not.1 fun hn => hc ⟨hD, hn⟩
        rw [ih, this]
      · rw [ih, hs k (by omega) hD]

theorem lk_high {b i : Nat} : ∀ {k : Nat}, i ≤ k → (∀ j, i ≤ j → j < k → D j → (h j)[b]? = (h (j + 1))[b]?) → lk h D k b = lk h D i b
  | 0, hi, _ => by
    have : i = 0 := by omega
    subst this; rfl
  | k + 1, hi, hs => by
    by_cases he : i = k + 1
    · subst he; rfl
    · have ih := lk_high (k := k) (by omega) fun j h1 h2 => hs j h1 (by omega)
      simp only [lk]
      rw [if_neg, ih]
      rintro ⟨h1, h2⟩
      exact h2 (hs k (by omega) (by omega) h1)

theorem lk_at {b i n : Nat} (hi : i ≤ n) (h1 : ∀ j, j < i → ¬ D j → (h j)[b]? = (h (j + 1))[b]?) (h2 : ∀ j, i ≤ j → j < n → D j → (h j)[b]? = (h (j + 1))[b]?) : lk h D n b = (h i)[b]? := by
  rw [lk_high hi h2, lk_low h1]

theorem lk_congr {b : Nat} : ∀ {n : Nat}, (∀ j, j < n → (h j)[b]? = (h (j + 1))[b]? ∨ (D j ↔ D' j)) → lk h D n b = lk h D' n b
  | 0, _ => rfl
  | n + 1, hs => by
    have ih := lk_congr (n := n) fun j hj => hs j (by omega)
    simp only [lk]
    rcases hs n (by omega) with h1 | h1
    · simp only [h1, ne_eq, not_true, and_false, if_false]
      exact ih
    · rw [ih]
      by_cases hc : D n ∧ (h n)[b]? ≠ (h (n + 1))[b]?
      · rw [if_pos hc, if_pos ⟨h1.1 hc.1, hc.2⟩]
      · rw [if_neg hc, if_neg fun h' => hc ⟨h1.2 h'.1, h'.2⟩]
end

/-- A part of what the heap holds. -/
theorem HR.part {L L' : Look} (h : HR P ι w B L) (hs : ∀ b o, L' b = some o → L b = some o) : HR P ι w B L' :=
  ⟨fun b o ho => h.obj b o (hs b o ho), fun b b' o o' l l' h1 h2 => h.inj b b' o o' l l' (hs _ _ h1) (hs _ _ h2), fun b o ho => h.past b o (hs b o ho), h.base,
    fun b cs l ho => h.roB b cs l (hs b _ ho)⟩

/-- A step on a part of the heap is a step on the whole, where the rest lies at other numbers. -/
theorem Step.frame {L L₁ L₁' : Look} {n : Nat} (hr : HR P ι w B L) (h1 : ∀ b, L₁ b = if b < n then L b else none) (h2 : ∀ b, n ≤ b → L₁' b = none) (hla : Lays ι ι' n)
    (h : Step P ι w B L₁ ι' w' L₁') : Step P ι w B L ι' w' (fun b => if b < n then L₁' b else L b) := by
  have hpart : ∀ b o, L₁ b = some o → L b = some o ∧ b < n := fun b o ho => by
    rw [h1] at ho
    split at ho
    · exact ⟨ho, by assumption⟩
    · simp at ho
  have hne : ∀ c b o l, L b = some o → n ≤ b → o.own = true → ι b o.gen = some l → l.blk = c → ¬ Held ι L₁ c := by
    rintro c b o l ho hb hown hl hc ⟨b', o', l', ho', hown', hl', hc'⟩
    obtain ⟨h3, h4⟩ := hpart b' o' ho'
    have := hr.inj b b' o o' l l' ho h3 hl hl' hown hown' (hc.trans hc'.symm)
    omega
  have hkeep : ∀ b o l, L b = some o → n ≤ b → ι b o.gen = some l → Robj P ι w l o → Robj P ι' w' l o := by
    intro b o l ho hb hl hob
    refine hob.keep h.ext fun hnil => ?_
    cases hown : o.own with
    | true =>
      obtain ⟨l', hl', _, hB⟩ := hr.obj b o ho
      rw [hl] at hl'; cases hl'
      exact h.keep _ (hB hown).2 (hne _ b o l ho hb hown hl rfl)
    | false =>
      cases o with
      | ro cs => exact h.below (hr.part fun b o ho => (hpart b o ho).1) _ (hr.roB b cs l ho hl fun hc => hnil (by rw [hc]))
      | _ => simp [AObj.own] at hown
  refine ⟨h.ext, ⟨?_, ?_, ?_, h.hr.base, ?_⟩, h.size, ?_, ?_, h.os, h.tape, h.output⟩
  · intro b o ho
    split at ho
    · exact h.hr.obj b o ho
    · rename_i hb
      obtain ⟨l, hl, hob, hB⟩ := hr.obj b o ho
      exact ⟨l, h.ext _ _ _ hl, hkeep b o l ho (by omega) hl hob, fun hown => ⟨(hB hown).1, Nat.lt_of_lt_of_le (hB hown).2 h.size⟩⟩
  · have cross : ∀ b b' o o' l l', L₁' b = some o → n ≤ b' → L b' = some o' → ι' b o.gen = some l → ι' b' o'.gen = some l' → o.own = true → o'.own = true → l.blk ≠ l'.blk := by
      intro b b' o o' l l' ho hb' ho' hl hl' hown hown' heq
      obtain ⟨l₂, hl₂, _, hB⟩ := hr.obj b' o' ho'
      have := h.ext _ _ _ hl₂
      rw [hl'] at this; cases this
      rcases h.held l.blk ⟨b, o, l, ho, hown, hl, rfl⟩ with hh | hh
      · exact hne _ b' o' l' ho' hb' hown' hl₂ heq.symm hh
      · have := (hB hown').2
        omega
    intro b b' o o' l l' ho ho' hl hl' hown hown' heq
    split at ho <;> split at ho'
    · exact h.hr.inj b b' o o' l l' ho ho' hl hl' hown hown' heq
    · exact absurd heq (cross b b' o o' l l' ho (by omega) ho' hl hl' hown hown')
    · exact absurd heq.symm (cross b' b o' o l' l ho' (by omega) ho hl' hl hown' hown)
    · obtain ⟨l₂, hl₂, _, _⟩ := hr.obj b o ho
      obtain ⟨l₃, hl₃, _, _⟩ := hr.obj b' o' ho'
      have e1 := h.ext _ _ _ hl₂
      have e2 := h.ext _ _ _ hl₃
      rw [hl] at e1; cases e1
      rw [hl'] at e2; cases e2
      exact hr.inj b b' o o' l l' ho ho' hl₂ hl₃ hown hown' heq
  · intro b o ho g l hl
    split at ho
    · exact h.hr.past b o ho g l hl
    · rename_i hb
      rcases hla b g l hl with h3 | h3
      · exact hr.past b o ho g l h3
      · omega
  · intro b cs l ho hl hcs
    split at ho
    · exact h.hr.roB b cs l ho hl hcs
    · obtain ⟨l₂, hl₂, _, _⟩ := hr.obj b _ ho
      have e1 := h.ext _ _ _ hl₂
      simp only [AObj.gen] at e1
      rw [hl] at e1; cases e1
      exact hr.roB b cs l ho hl₂ hcs
  · intro c hc hn
    refine h.keep c hc ?_
    rintro ⟨b, o, l, ho, hown, hl, hlc⟩
    exact hn ⟨b, o, l, (hpart b o ho).1, hown, hl, hlc⟩
  · rintro c ⟨b, o, l, ho, hown, hl, hlc⟩
    simp only at ho
    split at ho
    · rcases h.held c ⟨b, o, l, ho, hown, hl, hlc⟩ with ⟨b', o', l', ho', h3⟩ | hh
      · exact .inl ⟨b', o', l', (hpart b' o' ho').1, h3⟩
      · exact .inr hh
    · obtain ⟨l₂, hl₂, _, _⟩ := hr.obj b o ho
      have e1 := h.ext _ _ _ hl₂
      rw [hl] at e1; cases e1
      exact .inl ⟨b, o, l, ho, hown, hl₂, hlc⟩

/-! ### any order -/

theorem Reach.down {ops : Array Oper} {D : Nat → Prop} (hc : ∀ (i : Nat) (o : Oper), ops[i]? = some o → D i → ∀ e ∈ o.after, Region.binds .any e = true → D e.on) {i j : Nat} (h : Reach ops i j) : D i → D j := by
  induction h with
  | one ho he hb => exact fun hi => hc _ _ ho hi _ he hb
  | more ho he hb _ ih => exact fun hi => ih (hc _ _ ho hi _ he hb)

theorem Reach.ready {ops : Array Oper} {D : Nat → Prop} (hc : ∀ (i : Nat) (o : Oper), ops[i]? = some o → D i → ∀ e ∈ o.after, Region.binds .any e = true → D e.on) {i j : Nat} (h : Reach ops i j)
    (hr : ∀ (o : Oper), ops[i]? = some o → ∀ e ∈ o.after, Region.binds .any e = true → D e.on) : D j := by
  cases h with
  | one ho he hb => exact hr _ ho _ he hb
  | more ho he hb h' => exact h'.down hc (hr _ ho _ he hb)

section
variable {F : CallF} {ops : Array Oper} {pairs : List (Nat × Nat)} {s s' : St}

theorem Tr.lenS (T : Tr P F ops pairs s s') (hF : CallOK P F) {i : Nat} {o : Oper} (ho : ops[i]? = some o) : (T.h i).length ≤ (T.h (i + 1)).length := by
  cases hr : T.ran i with
  | true => exact astep_length hF (T.run i o ho hr)
  | false => rw [(T.skip i o ho hr).2]; exact Nat.le_refl _

theorem Tr.len (T : Tr P F ops pairs s s') (hF : CallOK P F) {i : Nat} : ∀ {j : Nat}, i ≤ j → j ≤ ops.size → (T.h i).length ≤ (T.h j).length
  | 0, hij, _ => by
    have : i = 0 := by omega
    subst this; exact Nat.le_refl _
  | j + 1, hij, hj => by
    by_cases he : i = j + 1
    · subst he; exact Nat.le_refl _
    · exact Nat.le_trans (T.len hF (j := j) (by omega) (by omega)) (T.lenS hF (i := j) (o := ops[j]'(by omega)) (Array.getElem?_eq_getElem (by omega)))

/-- An operation that calls nothing. -/
theorem Tr.op (T : Tr P F ops pairs s s') {i : Nat} {o : Oper} (ho : ops[i]? = some o) (hr : T.ran i = true) (hc : clOf P o.op ≠ .call) :
    ∃ δ, aop P (evalA (T.ρ i)) (look (T.h i)) (T.h i).length o.op = some (T.v i, δ) ∧ T.h (i + 1) = (T.h i).apply δ := by
  have h := T.run i o ho hr
  unfold astep at h
  rw [callOf_cl hc] at h
  simp only at h
  split at h
  · rename_i v d hop
    simp at h
    exact ⟨d, by rw [← h.1]; exact hop, h.2.symm⟩
  · simp at h

theorem Tr.still (T : Tr P F ops pairs s s') {i : Nat} {o : Oper} (ho : ops[i]? = some o) (hc : (clOf P o.op).still = true) : T.h (i + 1) = T.h i := by
  cases hr : T.ran i with
  | false => exact (T.skip i o ho hr).2
  | true =>
    obtain ⟨δ, h1, h2⟩ := T.op ho hr (fun hcl => by rw [hcl] at hc; simp [Cl.still] at hc)
    have := aop_cl h1
    cases hcl : clOf P o.op <;> rw [hcl] at hc this <;> simp [Cl.still] at hc this
    · rw [h2, this.1]; rfl
    · rw [h2, this]; rfl

theorem Tr.alloc (T : Tr P F ops pairs s s') {i : Nat} {o : Oper} (ho : ops[i]? = some o) (hc : clOf P o.op = .alloc) {b : Nat} (hb : b ≠ (T.h i).length) : (T.h i)[b]? = (T.h (i + 1))[b]? := by
  cases hr : T.ran i with
  | false => rw [(T.skip i o ho hr).2]
  | true =>
    obtain ⟨δ, h1, h2⟩ := T.op ho hr (fun hcl => by rw [hcl] at hc; simp at hc)
    have := aop_cl h1
    rw [hc] at this
    obtain ⟨⟨ob, rfl⟩, _⟩ := this
    rw [h2]
    simp only [Heap.apply, List.getElem?_append]
    split
    · rfl
    · rw [List.getElem?_eq_none (by omega), List.getElem?_eq_none (by simp; omega)]

/-- The slots as the text's order has them. -/
theorem Tr.get (T : Tr P F ops pairs s s') {t : Nat} {x : AV} : ∀ {i : Nat}, i ≤ ops.size → (T.ρ i).get t = some x →
    (∃ j o, j < i ∧ ops[j]? = some o ∧ o.dst = some t ∧ T.v j = x) ∨ (s.ρ.get t = some x ∧ ∀ j o, j < i → ops[j]? = some o → o.dst ≠ some t)
  | 0, _, h => by rw [T.ρ0] at h; exact .inr ⟨h, fun j o hj => by omega⟩
  | i + 1, hi, h => by
    have ho : ops[i]? = some (ops[i]'(by omega)) := Array.getElem?_eq_getElem (by omega)
    rw [T.next i _ ho, Env.get_put] at h
    split at h
    · rename_i hd
      simp at h
      exact .inl ⟨i, _, by omega, ho, hd, h⟩
    · rename_i hd
      rcases T.get (i := i) (by omega) h with ⟨j, o, hj, h1, h2, h3⟩ | ⟨h1, h2⟩
      · exact .inl ⟨j, o, by omega, h1, h2, h3⟩
      · refine .inr ⟨h1, fun j o hj hjo => ?_⟩
        by_cases hji : j = i
        · subst hji
          rw [ho] at hjo; cases hjo
          exact hd
        · exact h2 j o (by omega) hjo

/-- What holds when just the operations in 'D' have been done. -/
structure Inv (T : Tr P F ops pairs s s') (N : Nat) (B : Nat) (ι₀ : Inj) (w₀ : World) (D : Nat → Prop) (ι : Inj) (a : Act) (w : World) : Prop where
  closed : ∀ (i : Nat) (o : Oper), ops[i]? = some o → D i → ∀ e ∈ o.after, Region.binds .any e = true → D e.on
  size : a.tmps.size = N
  defers : a.defers = []
  reg : ∀ (i : Nat) (o : Oper) (t : Nat), D i → ops[i]? = some o → o.dst = some t → ∃ u, a.tmps[t]? = some u ∧ V ι (T.v i) u
  reg0 : ∀ (t : Nat) (x : AV), s.ρ.get t = some x → (∀ (i : Nat) (o : Oper), D i → ops[i]? = some o → o.dst ≠ some t) → ∃ u, a.tmps[t]? = some u ∧ V ι x u
  step : Step P ι₀ w₀ B (look s.h) ι w (lk T.h D ops.size)
  fresh : ∀ i, i < ops.size → ¬ D i → ∀ b g, (T.h i).length ≤ b → b < (T.h (i + 1)).length → ι b g = none
  lays : Lays ι₀ ι (T.h ops.size).length

variable {T : Tr P F ops pairs s s'} {ι₀ : Inj} {w₀ : World} {D : Nat → Prop} {a : Act}

/-- The slots that a ready operation looks at hold what they hold in the text's order. -/
theorem Inv.look (hI : Inv T N B ι₀ w₀ D ι a w) (ok : OKd P ops pairs N) {i : Nat} {o : Oper} (ho : ops[i]? = some o) (hi : ¬ D i) (hr : ∀ e ∈ o.after, Region.binds .any e = true → D e.on)
    {t : Nat} (ht : t ∈ o.looksAt ops) {x : AV} (hx : (T.ρ i).get t = some x) : ∃ u, a.tmps[t]? = some u ∧ V ι x u := by
  have hin := (Array.getElem?_eq_some_iff.1 ho).1
  have hready : ∀ j, Reach ops i j → D j := fun j hj => hj.ready hI.closed fun o' ho' => by
    rw [ho] at ho'; cases ho'
    exact hr
  rcases T.get (by omega) hx with ⟨j, oj, hj, hjo, hd, hv⟩ | ⟨h0, hno⟩
  · rcases ok.ord i j o oj hj ho hjo with h | h
    · rw [← hv]
      exact hI.reg j oj t (hready j h) hjo hd
    · exact absurd ht (h.slot t hd)
  · refine hI.reg0 t x h0 fun j oj hj hjo hd => ?_
    rcases Nat.lt_trichotomy j i with h | h | h
    · exact hno j oj h hjo hd
    · subst h; exact hi hj
    · rcases ok.ord j i oj o h hjo ho with h | h
      · exact hi (h.down hI.closed hj)
      · exact h.slot' t hd ht

/-- One more is done. -/
theorem Inv.more (hI : Inv T N B ι₀ w₀ D ι a w) (ok : OKd P ops pairs N) {i : Nat} {o : Oper} (ho : ops[i]? = some o) (hi : ¬ D i) (hr : ∀ e ∈ o.after, Region.binds .any e = true → D e.on)
    {u : Value} (hv : V ι' (T.v i) u) (hst : Step P ι w B (lk T.h D ops.size) ι' w' (lk T.h (fun j => D j ∨ j = i) ops.size))
    (hfr : ∀ j, j < ops.size → ¬ D j → j ≠ i → ∀ b g, (T.h j).length ≤ b → b < (T.h (j + 1)).length → ι' b g = none) (hla : Lays ι ι' (T.h ops.size).length) :
    Inv T N B ι₀ w₀ (fun j => D j ∨ j = i) ι' (a.put o.dst u) w' := by
  have hother : ∀ t, o.dst ≠ some t → (a.put o.dst u).tmps[t]? = a.tmps[t]? := by
    intro t ht
    cases hd : o.dst with
    | none => rfl
    | some d =>
      have : d ≠ t := fun e => ht (by rw [hd, e])
      simp only [Act.put]
      rw [Array.getElem?_setIfInBounds_ne this]
  have hsame : ∀ t, o.dst = some t → (a.put o.dst u).tmps[t]? = some u := by
    intro t ht
    rw [ht]
    have := ok.dst i o t ho ht
    simp [Act.put, hI.size, this]
  refine ⟨?_, ?_, ?_, ?_, ?_, hI.step.trans hst, ?_, hI.lays.trans hla (Nat.le_refl _)⟩
  · intro j oj hjo hj e he hb
    rcases hj with hj | hj
    · exact .inl (hI.closed j oj hjo hj e he hb)
    · subst hj
      rw [ho] at hjo; cases hjo
      exact .inl (hr e he hb)
  · cases o.dst <;> simp [Act.put, hI.size]
  · cases o.dst <;> exact hI.defers
  · intro j oj t hj hjo hd
    by_cases hji : j = i
    · subst hji
      rw [ho] at hjo; cases hjo
      exact ⟨u, hsame t hd, hv⟩
    · obtain ⟨x, h1, h2⟩ := hI.reg j oj t (hj.resolve_right hji) hjo hd
      refine ⟨x, ?_, h2.mono hst.ext⟩
      rw [hother t fun h => hji (ok.uniq j i oj o t hjo ho hd h)]
      exact h1
  · intro t x hx hno
    obtain ⟨y, h1, h2⟩ := hI.reg0 t x hx fun j oj hj hjo => hno j oj (.inl hj) hjo
    refine ⟨y, ?_, h2.mono hst.ext⟩
    rw [hother t (hno i o (.inr rfl) ho)]
    exact h1
  · intro j hj hn
    exact hfr j hj (fun h => hn (.inl h)) fun h => hn (.inr h)

end

end Go.AM
