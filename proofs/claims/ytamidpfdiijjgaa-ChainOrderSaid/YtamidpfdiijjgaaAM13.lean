/-
  Regions whose order is drawn, third part: one ready operation; the whole region.
-/
import Derived.Test.YtamidpfdiijjgaaAM12
namespace Go.AM
open Go
set_option linter.unusedVariables false
set_option linter.unusedSimpArgs false
variable {P : Program} {ι ι' : Inj} {w w' : World} {B N : Nat}
variable {F : CallF} {ops : Array Oper} {pairs : List (Nat × Nat)} {s s' : St}
variable {T : Tr P F ops pairs s s'} {ι₀ : Inj} {w₀ : World} {D : Nat → Prop} {a : Act}

theorem mem_looksAt {o : Oper} {t : Nat} (h : Operand.tmp t ∈ o.op.operands.toList) : t ∈ o.looksAt ops :=
  List.mem_append_left _ (List.mem_filterMap.2 ⟨.tmp t, h, rfl⟩)

theorem guard_looksAt {o : Oper} {j t : Nat} {wn : Bool} (hg : o.guard = some (j, wn)) (ht : (ops[j]?).bind (·.dst) = some t) : t ∈ o.looksAt ops := by
  unfold Oper.looksAt
  refine List.mem_append_right _ ?_
  simp only [hg]
  simpa using ht

theorem still_not_strong {c : Cl} (h : c.strong = true) : c.still = false := by cases c <;> simp [Cl.strong, Cl.still] at h ⊢

/-- One ready operation. -/
theorem Inv.op (hF : CallOK P F) (hI : Inv T N B ι₀ w₀ D ι a w) (ok : OKd P ops pairs N) {i : Nat} {o : Oper} (ho : ops[i]? = some o) (hi : ¬ D i) (hr : ∀ e ∈ o.after, Region.binds .any e = true → D e.on)
    {Q : Exit → Act → World → Prop} {K : Act → World → Prop} (hk : ∀ ι' a' w', Inv T N B ι₀ w₀ (fun j => D j ∨ j = i) ι' a' w' → K a' w') : wpOp P ops Q i K a w := by
  have hin := (Array.getElem?_eq_some_iff.1 ho).1
  have hop : ∀ j, j < ops.size → ∃ oj, ops[j]? = some oj := fun j hj => ⟨_, Array.getElem?_eq_getElem hj⟩
  have hready : ∀ j, Reach ops i j → D j := fun j hj => hj.ready hI.closed fun o' ho' => by
    rw [ho] at ho'; cases ho'
    exact hr
  have early : ∀ j oj, j < i → ¬ D j → ops[j]? = some oj → Loose P ops pairs i j o oj := fun j oj hj hn hjo =>
    (ok.ord i j o oj hj ho hjo).resolve_left fun h => hn (hready j h)
  have late : ∀ j oj, i < j → D j → ops[j]? = some oj → Loose P ops pairs j i oj o := fun j oj hj hd hjo =>
    (ok.ord j i oj o hj hjo ho).resolve_left fun h => hi (h.down hI.closed hd)
  have strong_early : (clOf P o.op).strong = true → ∀ j, j < i → ¬ D j → T.h (j + 1) = T.h j := by
    intro hs j hj hn
    obtain ⟨oj, hjo⟩ := hop j (by omega)
    exact T.still hjo ((early j oj hj hn hjo).strong hs)
  have late_same : (clOf P o.op).still = false → ∀ j, i < j → j < ops.size → D j → ∀ b, b < (T.h (i + 1)).length → (T.h j)[b]? = (T.h (j + 1))[b]? := by
    intro hs j hj hjn hd b hb
    obtain ⟨oj, hjo⟩ := hop j hjn
    have hl := late j oj hj hd hjo
    cases hc : clOf P oj.op with
    | pure => rw [T.still hjo (by rw [hc]; rfl)]
    | read => rw [T.still hjo (by rw [hc]; rfl)]
    | alloc =>
      have := T.len hF (i := i + 1) (j := j) (by omega) (by omega)
      exact T.alloc hjo hc (by omega)
    | eff => have := hl.strong (by rw [hc]; rfl); rw [hs] at this; simp at this
    | call => have := hl.strong (by rw [hc]; rfl); rw [hs] at this; simp at this
  have cong : ∀ b, (T.h i)[b]? = (T.h (i + 1))[b]? → lk T.h D ops.size b = lk T.h (fun j => D j ∨ j = i) ops.size b := by
    intro b hb
    refine lk_congr fun j hj => ?_
    by_cases hji : j = i
    · subst hji; exact .inl hb
    · exact .inr ⟨.inl, fun h => h.resolve_right hji⟩
  have disj : ∀ j, j < ops.size → j ≠ i → ∀ b, (T.h j).length ≤ b → b < (T.h (j + 1)).length → b < (T.h i).length ∧ j < i ∨ (T.h (i + 1)).length ≤ b ∧ i < j := by
    intro j hj hne b h1 h2
    rcases Nat.lt_or_gt_of_ne hne with h | h
    · have := T.len hF (i := j + 1) (j := i) (by omega) (by omega)
      exact .inl ⟨by omega, h⟩
    · have := T.len hF (i := i + 1) (j := j) (by omega) (by omega)
      exact .inr ⟨by omega, h⟩
  have hlook := fun t (ht : t ∈ o.looksAt ops) x (hx : (T.ρ i).get t = some x) => hI.look ok ho hi hr ht hx
  have hev : ∀ x ∈ o.op.operands.toList, ∀ v, evalA (T.ρ i) x = some v → V ι v (a.eval x) := by
    intro x hx v hv
    cases x with
    | tmp t =>
      obtain ⟨u, h1, h2⟩ := hlook t (mem_looksAt hx) v hv
      have : a.tmps.getD t undef = u := by simp [Array.getD_eq_getD_getElem?, h1]
      simp only [Act.eval, this]
      exact h2
    | const c => exact const_V hv ι
    | func f => simp [evalA] at hv; subst hv; simp [V, Va, Vc, L2, Act.eval]
    | global g => simp [evalA] at hv
  have hlenN := T.len hF (i := i + 1) (j := ops.size) (by omega) (Nat.le_refl _)
  have hlen1 := T.lenS hF ho
  unfold wpOp
  simp only [ho]
  rw [wanted_of (T.want i o ho) fun j wn t hg ht v hv => hlook t (guard_looksAt hg ht) v hv]
  cases hran : T.ran i with
  | false =>
    obtain ⟨hv, hh⟩ := T.skip i o ho hran
    simp only [Bool.false_eq_true, if_false]
    refine hk ι _ w (hI.more ok ho hi hr (by rw [hv]; exact V.undef ι) ?_ (fun j hj hn _ => hI.fresh j hj hn) .refl)
    have : lk T.h D ops.size = lk T.h (fun j => D j ∨ j = i) ops.size := funext fun b => cong b (by rw [hh])
    rw [← this]
    exact .refl hI.step.hr
  | true =>
    simp only [if_true]
    refine .inl ?_
    by_cases hcall : clOf P o.op = .call
    · have hrun := T.run i o ho hran
      unfold astep at hrun
      have hstrong : (clOf P o.op).strong = true := by rw [hcall]; rfl
      have hse := strong_early hstrong
      have hls := late_same (still_not_strong hstrong)
      split at hrun
      · rename_i g args hc
        obtain ⟨⟨fn, h1, h2, h3⟩, hlen, hcl⟩ := hF g args _ _ _ hrun
        obtain ⟨cargs, hrun', hargs⟩ := run_call (P := P) (w := w) hc hev h1 h2 h3
        unfold Oper.wp
        rw [hrun']
        simp only [Oper.upon]
        have hlow : ∀ b, b < (T.h (i + 1)).length → lk T.h D ops.size b = (T.h i)[b]? := by
          intro b hb
          refine lk_at (by omega) (fun j hj hn => by rw [hse j hj hn]) fun j hj hjn hd => ?_
          have : j ≠ i := fun h => hi (h ▸ hd)
          exact hls j (by omega) hjn hd b hb
        have hL₁ : ∀ b, AM.look (T.h i) b = if b < (T.h (i + 1)).length then lk T.h D ops.size b else none := by
          intro b
          split
          · rename_i hb; rw [hlow b hb]; rfl
          · exact List.getElem?_eq_none (by simp only at hlen; omega)
        have hpart : HR P ι w B (AM.look (T.h i)) := hI.step.hr.part fun b ob hb => by
          rw [hL₁] at hb
          split at hb
          · exact hb
          · simp at hb
        refine (hcl ι w B cargs hpart (fun b g h1 h2 => hI.fresh i hin hi b g h1 h2) hargs).mono ?_
        rintro e w' ⟨ι', u, rfl, hv, hst, hla⟩
        have hst' := Step.frame hI.step.hr hL₁ (fun b hb => List.getElem?_eq_none hb) hla hst
        refine hk ι' _ w' (hI.more ok ho hi hr hv ?_ ?_ ?_)
        · have : (fun b => if b < (T.h (i + 1)).length then AM.look (T.h (i + 1)) b else lk T.h D ops.size b) = lk T.h (fun j => D j ∨ j = i) ops.size := by
            funext b
            split
            · rename_i hb
              rw [lk_at (i := i + 1) (by omega)]
              · rfl
              · intro j hj hn
                have h1 : j ≠ i := fun h => hn (.inr h)
                rw [hse j (by omega) fun h => hn (.inl h)]
              · intro j hj hjn hd
                have h1 : j ≠ i := by omega
                exact hls j (by omega) hjn (hd.resolve_right h1) b hb
            · rename_i hb
              refine cong b ?_
              rw [List.getElem?_eq_none (by omega), List.getElem?_eq_none (by omega)]
          rw [← this]
          exact hst'
        · intro j hj hn hne b g hb1 hb2
          cases he : ι' b g with
          | none => rfl
          | some l =>
            rcases hla b g l he with h4 | h4
            · rw [hI.fresh j hj hn b g hb1 hb2] at h4; simp at h4
            · rcases disj j hj hne b hb1 hb2 with ⟨h5, h6⟩ | ⟨h5, h6⟩
              · rw [hse j h6 hn] at hb2; omega
              · omega
        · intro b g l hl
          rcases hla b g l hl with h4 | h4
          · exact .inl h4
          · exact .inr (by omega)
      · simp at hrun
      · rename_i hc; exact absurd hc (callOf_call hcall)
    · obtain ⟨δ, hop', hh⟩ := T.op ho hran hcall
      have hcl := aop_cl hop'
      -- what is looked into is there
      have hsub : Sub (AM.look (T.h i)) (lk T.h D ops.size) (areads (evalA (T.ρ i)) o.op) := by
        intro b hb ob hob
        have hbl : b < (T.h i).length := (List.getElem?_eq_some_iff.1 hob).1
        cases hc : clOf P o.op with
        | pure => rw [hc] at hcl; rw [hcl.2] at hb; simp at hb
        | alloc => rw [hc] at hcl; rw [hcl.2] at hb; simp at hb
        | call => exact absurd hc hcall
        | eff =>
          rw [lk_at (i := i) (by omega)]
          · exact hob
          · intro j hj hn; rw [strong_early (by rw [hc]; rfl) j hj hn]
          · intro j hj hjn hd
            have : j ≠ i := fun h => hi (h ▸ hd)
            exact late_same (by rw [hc]; rfl) j (by omega) hjn hd b (by omega)
        | read =>
          have pr : ∀ j oj, j ≠ i → ops[j]? = some oj → (clOf P oj.op).still = false → (i, j) ∈ pairs → (T.h j)[b]? = (T.h (j + 1))[b]? := by
            intro j oj hne hjo hs hp
            cases hrj : T.ran j with
            | false => rw [(T.skip j oj hjo hrj).2]
            | true => exact T.pair i j o hp (Ne.symm hne) ho (Array.getElem?_eq_some_iff.1 hjo).1 hran hrj b hb
          rw [lk_at (i := i) (by omega)]
          · exact hob
          · intro j hj hn
            obtain ⟨oj, hjo⟩ := hop j (by omega)
            cases hs : (clOf P oj.op).still with
            | true => rw [T.still hjo hs]
            | false => exact pr j oj (by omega) hjo hs ((early j oj hj hn hjo).reads hc hs)
          · intro j hj hjn hd
            have hne : j ≠ i := fun h => hi (h ▸ hd)
            obtain ⟨oj, hjo⟩ := hop j hjn
            cases hs : (clOf P oj.op).strong with
            | true => exact pr j oj hne hjo (still_not_strong hs) ((late j oj (by omega) hd hjo).reads' hc hs)
            | false =>
              cases hcj : clOf P oj.op with
              | pure => rw [T.still hjo (by rw [hcj]; rfl)]
              | read => rw [T.still hjo (by rw [hcj]; rfl)]
              | alloc =>
                have := T.len hF (i := i) (j := j) (by omega) (by omega)
                exact T.alloc hjo hcj (by omega)
              | eff => rw [hcj] at hs; simp [Cl.strong] at hs
              | call => rw [hcj] at hs; simp [Cl.strong] at hs
      have hop'' := aop_mono hsub hop'
      -- a new block's number is free
      have hnone : (∃ ob, δ = .new ob) → lk T.h D ops.size (T.h i).length = none := by
        rintro ⟨ob, rfl⟩
        have hl1 : (T.h (i + 1)).length = (T.h i).length + 1 := by rw [hh]; simp [Heap.apply]
        have hns : (clOf P o.op).still = false := by
          cases hc : clOf P o.op <;> rw [hc] at hcl <;> simp [Cl.still] at hcl ⊢
        rw [lk_at (i := i) (by omega)]
        · simp
        · intro j hj hn
          have h1 := T.len hF (i := j) (j := i) (by omega) (by omega)
          have h2 := T.len hF (i := j + 1) (j := i) (by omega) (by omega)
          rw [List.getElem?_eq_none (by omega), List.getElem?_eq_none (by omega)]
        · intro j hj hjn hd
          have : j ≠ i := fun h => hi (h ▸ hd)
          exact late_same hns j (by omega) hjn hd _ (by omega)
      refine wp_aop hI.step.hr (fun t ht v hv => hlook t (mem_looksAt ht) v hv) hop'' ?_ ?_
      · intro hnew
        refine ⟨hnone hnew, fun g => hI.fresh i hin hi _ g (Nat.le_refl _) ?_⟩
        obtain ⟨ob, rfl⟩ := hnew
        rw [hh]; simp [Heap.apply]
      · intro ι' w' u hv hst hla
        have hnew_ns : (∃ ob, δ = .new ob) ∨ (∃ c ob, δ = .set c ob) → (clOf P o.op).still = false := by
          intro h
          cases hc : clOf P o.op <;> rw [hc] at hcl <;> simp [Cl.still] at hcl ⊢ <;> rcases h with ⟨_, rfl⟩ | ⟨_, _, rfl⟩ <;> simp at hcl
        have hset_strong : (∃ c ob, δ = .set c ob) → (clOf P o.op).strong = true := by
          rintro ⟨c, ob, rfl⟩
          cases hc : clOf P o.op <;> rw [hc] at hcl <;> simp [Cl.strong] at hcl ⊢
        have hlk : upd (lk T.h D ops.size) (T.h i).length δ = lk T.h (fun j => D j ∨ j = i) ops.size := by
          funext b
          cases δ with
          | no => exact cong b (by rw [hh]; rfl)
          | new ob =>
            have hns := hnew_ns (.inl ⟨ob, rfl⟩)
            have hl1 : (T.h (i + 1)).length = (T.h i).length + 1 := by rw [hh]; simp [Heap.apply]
            simp only [upd]
            split
            · rename_i hb
              subst hb
              rw [lk_at (i := i + 1) (by omega)]
              · rw [hh]; simp [Heap.apply]
              · intro j hj hn
                have hne : j ≠ i := fun h => hn (.inr h)
                have h1 := T.len hF (i := j) (j := i) (by omega) (by omega)
                have h2 := T.len hF (i := j + 1) (j := i) (by omega) (by omega)
                rw [List.getElem?_eq_none (by omega), List.getElem?_eq_none (by omega)]
              · intro j hj hjn hd
                have hne : j ≠ i := by omega
                exact late_same hns j (by omega) hjn (hd.resolve_right hne) _ (by omega)
            · rename_i hb
              refine cong b ?_
              rw [hh]
              simp only [Heap.apply, List.getElem?_append]
              split
              · rfl
              · rw [List.getElem?_eq_none (by omega), List.getElem?_eq_none (by simp; omega)]
          | set c ob =>
            have hst' := hset_strong ⟨c, ob, rfl⟩
            have hns := still_not_strong hst'
            obtain ⟨hcr, x, hx⟩ := aop_set hop'
            have hcl' : c < (T.h i).length := (List.getElem?_eq_some_iff.1 hx).1
            simp only [upd]
            split
            · rename_i hb
              subst hb
              rw [hsub b hcr x hx]
              rw [lk_at (i := i + 1) (by omega)]
              · rw [hh]; simp [Heap.apply, hcl']
              · intro j hj hn
                have hne : j ≠ i := fun h => hn (.inr h)
                rw [strong_early hst' j (by omega) fun h => hn (.inl h)]
              · intro j hj hjn hd
                have hne : j ≠ i := by omega
                exact late_same hns j (by omega) hjn (hd.resolve_right hne) _ (by omega)
            · rename_i hb
              refine cong b ?_
              rw [hh]
              simp [Heap.apply, List.getElem?_set, Ne.symm hb]
        rw [hlk] at hst
        refine hk ι' _ w' (hI.more ok ho hi hr hv hst ?_ ?_)
        · intro j hj hn hne b g hb1 hb2
          cases he : ι' b g with
          | none => rfl
          | some l =>
            rcases hla b g l he with h4 | h4
            · rw [hI.fresh j hj hn b g hb1 hb2] at h4; simp at h4
            · cases δ with
              | no => exact h4.elim
              | new ob =>
                simp only [Delta.touches] at h4
                subst h4
                have hl1 : (T.h (i + 1)).length = (T.h i).length + 1 := by rw [hh]; simp [Heap.apply]
                rcases disj j hj hne _ hb1 hb2 with ⟨h5, h6⟩ | ⟨h5, h6⟩ <;> omega
              | set c ob =>
                simp only [Delta.touches] at h4
                subst h4
                obtain ⟨hcr, x, hx⟩ := aop_set hop'
                have hcl' : b < (T.h i).length := (List.getElem?_eq_some_iff.1 hx).1
                rcases disj j hj hne _ hb1 hb2 with ⟨h5, h6⟩ | ⟨h5, h6⟩
                · rw [strong_early (hset_strong ⟨b, ob, rfl⟩) j h6 hn] at hb2; omega
                · omega
        · intro b g l hl
          rcases hla b g l hl with h4 | h4
          · exact .inl h4
          · refine .inr ?_
            cases δ with
            | no => exact h4.elim
            | new ob =>
              simp only [Delta.touches] at h4
              subst h4
              have hl1 : (T.h (i + 1)).length = (T.h i).length + 1 := by rw [hh]; simp [Heap.apply]
              omega
            | set c ob =>
              simp only [Delta.touches] at h4
              subst h4
              obtain ⟨hcr, x, hx⟩ := aop_set hop'
              have hcl' : b < (T.h i).length := (List.getElem?_eq_some_iff.1 hx).1
              omega

/-! ### the whole region -/

/-- How many are not listed. -/
def left (l : Array Bool) : Nat := (l.toList.filter (! ·)).length

theorem filter_set : ∀ {xs : List Bool} {i : Nat}, xs[i]? = some false → ((xs.set i true).filter (! ·)).length + 1 = (xs.filter (! ·)).length
  | [], i, h => by simp at h
  | x :: xs, 0, h => by simp at h; subst h; simp
  | x :: xs, i + 1, h => by
    have ih := filter_set (xs := xs) (i := i) (by simpa using h)
    simp only [List.set_cons_succ, List.filter_cons]
    cases x <;> simp <;> omega

theorem left_set {l : Array Bool} {i : Nat} (h : l.getD i true = false) : left (l.setIfInBounds i true) + 1 = left l := by
  have hi : i < l.size := by
    rcases Nat.lt_or_ge i l.size with h' | h'
    · exact h'
    · simp [Array.getElem?_eq_none h'] at h
  have hl : l.toList[i]? = some false := by simp [hi] at h; simp [hi, h]
  unfold left
  rw [show (l.setIfInBounds i true).toList = l.toList.set i true by simp]
  exact filter_set hl

theorem Inv.done (hI : Inv T N B ι₀ w₀ D ι a w) (hD : ∀ i, i < ops.size → D i) :
    Regs ι s'.ρ a N ∧ Step P ι₀ w₀ B (AM.look s.h) ι w (AM.look s'.h) ∧ Lays ι₀ ι s'.h.length := by
  have hl := T.last
  have h1 : s'.ρ = T.ρ ops.size := congrArg St.ρ hl
  have h2 : s'.h = T.h ops.size := congrArg St.h hl
  have h3 : lk T.h D ops.size = AM.look s'.h := by
    funext b
    rw [lk_low fun j hj hn => absurd (hD j hj) hn, h2]
    rfl
  refine ⟨⟨hI.size, fun t v hv => ?_, hI.defers⟩, by rw [← h3]; exact hI.step, by rw [h2]; exact hI.lays⟩
  rw [h1] at hv
  rcases T.get (Nat.le_refl _) hv with ⟨j, o, hj, hjo, hd, hx⟩ | ⟨h0, hno⟩
  · rw [← hx]
    exact hI.reg j o t (hD j hj) hjo hd
  · exact hI.reg0 t v h0 fun j o _ hjo => hno j o (Array.getElem?_eq_some_iff.1 hjo).1 hjo

theorem wp_any (hF : CallOK P F) (ok : OKd P ops pairs N) {Q : Exit → Act → World → Prop}
    (hk : ∀ ι a w, Regs ι s'.ρ a N → Step P ι₀ w₀ B (AM.look s.h) ι w (AM.look s'.h) → Lays ι₀ ι s'.h.length → Q .normal a w) :
    ∀ (fuel : Nat) (listed : Array Bool) (ι : Inj) (a : Act) (w : World), listed.size = ops.size → left listed ≤ fuel →
      Inv T N B ι₀ w₀ (fun i => listed.getD i false = true) ι a w → wpAny P .any ops Q fuel listed a w := by
  have fin : ∀ (listed : Array Bool) (ι : Inj) (a : Act) (w : World), listed.size = ops.size → Inv T N B ι₀ w₀ (fun i => listed.getD i false = true) ι a w →
      Region.ready .any ops listed = [] → Q .normal a w := by
    intro listed ι a w hs hI hr
    have hD : ∀ i, i < ops.size → listed.getD i false = true := by
      intro i
      induction i using Nat.strongRecOn with
      | _ i ih =>
        intro hi
        have ho : ops[i]? = some ops[i] := Array.getElem?_eq_getElem hi
        cases hl : listed.getD i true with
        | false =>
          have : i ∈ Region.ready .any ops listed := mem_ready.2 ⟨hl, _, ho, fun e he hb => ih _ (ok.edge i _ ho e he hb) (by have := ok.edge i _ ho e he hb; omega)⟩
          rw [hr] at this
          simp at this
        | true =>
          have hi' : i < listed.size := by omega
          simp [hi'] at hl ⊢
          exact hl
    obtain ⟨h1, h2, h3⟩ := hI.done hD
    exact hk ι a w h1 h2 h3
  intro fuel
  induction fuel with
  | zero =>
    intro listed ι a w hs hf hI
    have hr : Region.ready .any ops listed = [] := by
      cases hr : Region.ready .any ops listed with
      | nil => rfl
      | cons i rest =>
        have hi : i ∈ Region.ready .any ops listed := by rw [hr]; exact List.mem_cons_self ..
        have := left_set (mem_ready.1 hi).1
        omega
    exact ⟨hr, fin listed ι a w hs hI hr⟩
  | succ fuel ih =>
    intro listed ι a w hs hf hI
    refine ⟨fin listed ι a w hs hI, fun i hi => ?_⟩
    obtain ⟨hun, o, ho, hr⟩ := mem_ready.1 hi
    have hin := (Array.getElem?_eq_some_iff.1 ho).1
    refine hI.op hF ok ho ?_ hr ?_
    · intro h
      have hi' : i < listed.size := by omega
      simp [hi'] at hun h
      rw [hun] at h; simp at h
    · intro ι' a' w' hI'
      have hset := left_set hun
      refine ih _ ι' a' w' (by simp [hs]) (by omega) ?_
      have : (fun j => (listed.setIfInBounds i true).getD j false = true) = fun j => listed.getD j false = true ∨ j = i := by
        funext j
        refine propext ?_
        by_cases hj : i = j
        · subst hj
          have hi' : i < listed.size := by omega
          simp [hi']
        · rw [getD_set_ne false hj]
          exact ⟨.inl, fun h => h.resolve_right fun e => hj e.symm⟩
      rw [this]
      exact hI'

theorem HR.drawn {L : Look} {d : Nat} (h : HR P ι w B L) : HR P ι { w with drawn := d } B L :=
  ⟨fun b o ho => let ⟨l, h1, h2, h3⟩ := h.obj b o ho; ⟨l, h1, by cases o <;> exact h2, h3⟩, h.inj, h.past, h.base, h.roB⟩

/-- A region whose order is drawn. -/
theorem wp_drawn (hm : P.follows .mixedOrders = true) (hF : CallOK P F) (ok : OKd P ops pairs N) (h : aopsT P F pairs 0 (slimL ops ops.toList) s ⟨[], []⟩ = some s') {Q : Exit → Act → World → Prop} {id : Nat}
    (hreg : Regs ι s.ρ a N) (hr : HR P ι w B (AM.look s.h)) (hfr : Fresh ι s.h.length s'.h.length)
    (hk : ∀ ι' a' w', Regs ι' s'.ρ a' N → Step P ι w B (AM.look s.h) ι' w' (AM.look s'.h) → Lays ι ι' s'.h.length → Q .normal a' w') : (Code.region id ops true).wp P Q a w := by
  obtain ⟨T⟩ := Tr.of_run h
  have h2 : s'.h = T.h ops.size := congrArg St.h T.last
  refine wp_region_any hm ?_
  refine wp_any (T := T) (ι₀ := ι) (w₀ := { w with drawn := w.drawn + 1 }) (N := N) (B := B) hF ok ?_ ops.size _ ι a _ (by simp) (by simp [left]) ?_
  · intro ι' a' w' h3 h4 h5
    exact hk ι' a' w' h3 ⟨h4.ext, h4.hr, h4.size, h4.keep, h4.held, h4.os, h4.tape, h4.output⟩ h5
  · have hD : ∀ i, ¬ ((Array.replicate ops.size false).getD i false = true) := by
      intro i
      by_cases hi : i < ops.size <;> simp [hi]
    refine ⟨fun i o _ h => absurd h (hD i), hreg.size, hreg.defers, fun i o t h => absurd h (hD i), fun t x hx _ => hreg.get t x hx, ?_, ?_, .refl⟩
    · have : lk T.h (fun i => (Array.replicate ops.size false).getD i false = true) ops.size = AM.look s.h := by
        funext b
        rw [lk_high (Nat.zero_le _) fun j _ _ h => absurd h (hD j)]
        simp only [lk]
        rw [T.h0]
      rw [this]
      exact .refl hr.drawn
    · intro i hi _ b g h3 h4
      have h5 := T.len hF (i := 0) (j := i) (Nat.zero_le _) (by omega)
      have h6 := T.len hF (i := i + 1) (j := ops.size) (by omega) (Nat.le_refl _)
      rw [T.h0] at h5
      exact hfr b g (by omega) (by rw [h2]; omega)

/-! ### the closed check -/

def maskOf (acc : List Nat) : List Edge → Nat
  | [] => 0
  | e :: es => if Region.binds .any e then (2 ^ e.on ||| acc.getD e.on 0) ||| maskOf acc es else maskOf acc es

def masks : List Oper → List Nat → List Nat
  | [], acc => acc
  | o :: os, acc => masks os (acc ++ [maskOf acc o.after.toList])

def looseB (P : Program) (ops : Array Oper) (pairs : List (Nat × Nat)) (i j : Nat) (o o' : Oper) : Bool :=
  (match o'.dst with | some t => !(o.looksAt ops).contains t | none => true) &&
  (match o.dst with | some t => !(o'.looksAt ops).contains t | none => true) &&
  (!(clOf P o.op).strong || (clOf P o'.op).still) &&
  (decide (clOf P o.op ≠ .read) || (clOf P o'.op).still || pairs.contains (i, j)) &&
  (decide (clOf P o'.op ≠ .read) || !(clOf P o.op).strong || pairs.contains (j, i))

def edgesB : Nat → List Oper → Bool
  | _, [] => true
  | i, o :: os => o.after.toList.all (fun e => !Region.binds .any e || decide (e.on < i)) && edgesB (i + 1) os

def uniqB : Nat → List Oper → Bool
  | _, [] => true
  | m, o :: os => match o.dst with
    | some t => !m.testBit t && uniqB (m ||| 2 ^ t) os
    | none => uniqB m os

def ordB (P : Program) (ops : Array Oper) (pairs : List (Nat × Nat)) (ms : List Nat) : Bool :=
  (List.range ops.size).all fun i => match ops[i]? with
    | none => true
    | some o => (List.range i).all fun j => (ms.getD i 0).testBit j || match ops[j]? with
      | none => true
      | some o' => looseB P ops pairs i j o o'

def dstB (N : Nat) : List Oper → Bool
  | [] => true
  | o :: os => (match o.dst with | some t => decide (t < N) | none => true) && dstB N os

def drawB (P : Program) (ops : Array Oper) (pairs : List (Nat × Nat)) : Bool :=
  edgesB 0 ops.toList && uniqB 0 ops.toList && ordB P ops pairs (masks ops.toList [])

theorem edgesB_spec : ∀ {os : List Oper} {k : Nat}, edgesB k os = true → ∀ i o, os[i]? = some o → ∀ e ∈ o.after, Region.binds .any e = true → e.on < k + i
  | [], k, _, i, o, ho => by simp at ho
  | x :: os, k, h, i, o, ho => by
    simp only [edgesB, Bool.and_eq_true] at h
    intro e he hb
    cases i with
    | zero =>
      simp at ho; subst ho
      have := List.all_eq_true.1 h.1 e (by simpa using he)
      simp [hb] at this
      omega
    | succ i =>
      have := edgesB_spec h.2 i o (by simpa using ho) e he hb
      omega

theorem uniqB_spec : ∀ {os : List Oper} {m : Nat}, uniqB m os = true → (∀ (i : Nat) (o : Oper) (t : Nat), os[i]? = some o → o.dst = some t → m.testBit t = false) ∧
    ∀ (i j : Nat) (o o' : Oper) (t : Nat), os[i]? = some o → os[j]? = some o' → o.dst = some t → o'.dst = some t → i = j
  | [], m, _ => ⟨fun i o t ho => by simp at ho, fun i j o o' t ho => by simp at ho⟩
  | x :: os, m, h => by
    unfold uniqB at h
    cases hd : x.dst with
    | none =>
      simp only [hd] at h
      obtain ⟨h1, h2⟩ := uniqB_spec h
      refine ⟨fun i o t ho hot => ?_, fun i j o o' t ho ho' hot hot' => ?_⟩
      · cases i with
        | zero => simp at ho; subst ho; rw [hd] at hot; simp at hot
        | succ i => exact h1 i o t (by simpa using ho) hot
      · cases i with
        | zero => simp at ho; subst ho; rw [hd] at hot; simp at hot
        | succ i =>
          cases j with
          | zero => simp at ho'; subst ho'; rw [hd] at hot'; simp at hot'
          | succ j => rw [h2 i j o o' t (by simpa using ho) (by simpa using ho') hot hot']
    | some t₀ =>
      simp only [hd, Bool.and_eq_true, Bool.not_eq_true'] at h
      obtain ⟨h1, h2⟩ := uniqB_spec h.2
      have hno : ∀ (i : Nat) (o : Oper), os[i]? = some o → o.dst ≠ some t₀ := fun i o ho hot => by
        have := h1 i o t₀ ho hot
        simp [Nat.testBit_or, Nat.testBit_two_pow_self] at this
      refine ⟨fun i o t ho hot => ?_, fun i j o o' t ho ho' hot hot' => ?_⟩
      · cases i with
        | zero => simp at ho; subst ho; rw [hd] at hot; simp at hot; subst hot; exact h.1
        | succ i =>
          have := h1 i o t (by simpa using ho) hot
          simp [Nat.testBit_or] at this
          exact this.1
      · cases i with
        | zero =>
          cases j with
          | zero => rfl
          | succ j =>
            simp at ho; subst ho
            rw [hd] at hot
            simp at hot; subst hot
            exact absurd hot' (hno j o' (by simpa using ho'))
        | succ i =>
          cases j with
          | zero =>
            simp at ho'; subst ho'
            rw [hd] at hot'
            simp at hot'; subst hot'
            exact absurd hot (hno i o (by simpa using ho))
          | succ j => rw [h2 i j o o' t (by simpa using ho) (by simpa using ho') hot hot']

theorem maskOf_spec {acc : List Nat} {j : Nat} : ∀ {es : List Edge}, (maskOf acc es).testBit j = true → ∃ e ∈ es, Region.binds .any e = true ∧ (e.on = j ∨ (acc.getD e.on 0).testBit j = true)
  | [], h => by simp [maskOf] at h
  | e :: es, h => by
    unfold maskOf at h
    split at h
    · rename_i hb
      simp only [Nat.testBit_or, Bool.or_eq_true] at h
      rcases h with (h | h) | h
      · rw [Nat.testBit_two_pow] at h
        simp at h
        exact ⟨e, List.mem_cons_self .., hb, .inl h⟩
      · exact ⟨e, List.mem_cons_self .., hb, .inr h⟩
      · obtain ⟨e', h1, h2⟩ := maskOf_spec h
        exact ⟨e', List.mem_cons_of_mem _ h1, h2⟩
    · obtain ⟨e', h1, h2⟩ := maskOf_spec h
      exact ⟨e', List.mem_cons_of_mem _ h1, h2⟩

theorem masks_spec {ops : Array Oper} : ∀ {os : List Oper} {acc : List Nat}, (∀ i o, os[i]? = some o → ops[acc.length + i]? = some o) → (∀ i j, (acc.getD i 0).testBit j = true → Reach ops i j) →
    ∀ i j, ((masks os acc).getD i 0).testBit j = true → Reach ops i j
  | [], acc, _, h => h
  | o :: os, acc, hos, h => by
    have ho : ops[acc.length]? = some o := by simpa using hos 0 o rfl
    unfold masks
    refine masks_spec (fun i o' hi => ?_) fun i j hj => ?_
    · have := hos (i + 1) o' (by simpa using hi)
      simp
      rwa [show acc.length + 1 + i = acc.length + (i + 1) by omega]
    · rcases Nat.lt_trichotomy i acc.length with hi | hi | hi
      · refine h i j ?_
        simpa [List.getD_eq_getElem?_getD, List.getElem?_append_left hi] using hj
      · subst hi
        have : (maskOf acc o.after.toList).testBit j = true := by simpa [List.getD_eq_getElem?_getD] using hj
        obtain ⟨e, he, hb, hr⟩ := maskOf_spec this
        rcases hr with rfl | hr
        · exact .one ho (by simpa using he) hb
        · exact .more ho (by simpa using he) hb (h _ _ hr)
      · have : (acc ++ [maskOf acc o.after.toList])[i]? = none := List.getElem?_eq_none (by simp; omega)
        simp [List.getD_eq_getElem?_getD, this] at hj

theorem dstB_spec : ∀ {os : List Oper}, dstB N os = true → ∀ (i : Nat) (o : Oper) (t : Nat), os[i]? = some o → o.dst = some t → t < N
  | [], _, i, o, t, ho => by simp at ho
  | x :: os, h, i, o, t, ho => by
    intro hd
    simp only [dstB, Bool.and_eq_true] at h
    cases i with
    | zero => simp at ho; subst ho; have := h.1; rw [hd] at this; simpa using this
    | succ i => exact dstB_spec h.2 i o t (by simpa using ho) hd

theorem looseB_spec {i j : Nat} {o o' : Oper} (h : looseB P ops pairs i j o o' = true) : Loose P ops pairs i j o o' := by
  simp only [looseB, Bool.and_eq_true] at h
  obtain ⟨⟨⟨⟨h1, h2⟩, h3⟩, h4⟩, h5⟩ := h
  refine ⟨fun t ht => ?_, fun t ht => ?_, fun hs => ?_, fun hr hs => ?_, fun hr hs => ?_⟩
  · rw [ht] at h1; simpa using h1
  · rw [ht] at h2; simpa using h2
  · simpa [hs] using h3
  · simpa [hr, hs] using h4
  · simpa [hr, hs] using h5

theorem OKd.of_check (hd : dstB N ops.toList = true) (h : drawB P ops pairs = true) : OKd P ops pairs N := by
  simp only [drawB, Bool.and_eq_true] at h
  obtain ⟨⟨h1, h2⟩, h3⟩ := h
  refine ⟨fun i o ho e he hb => ?_, fun i o t ho => dstB_spec hd i o t (by simpa using ho), fun i j o o' t ho ho' => (uniqB_spec h2).2 i j o o' t (by simpa using ho) (by simpa using ho'), fun i j o o' hji ho ho' => ?_⟩
  · have := edgesB_spec h1 i o (by simpa using ho) e he hb
    omega
  · have hi := (Array.getElem?_eq_some_iff.1 ho).1
    have h4 := List.all_eq_true.1 h3 i (List.mem_range.2 hi)
    simp only [ho] at h4
    have h5 := List.all_eq_true.1 h4 j (List.mem_range.2 hji)
    simp only [ho', Bool.or_eq_true] at h5
    rcases h5 with h5 | h5
    · exact .inl (masks_spec (acc := []) (fun i o hi => by simpa using hi) (fun i j hj => by simp at hj) i j h5)
    · exact .inr (looseB_spec h5)

end Go.AM
