/-
  Registers, one operation with its guard, operations one behind the other.
-/
import Derived.Test.YtamidpfdiijjgaaAM9
namespace Go.AM
open Go
set_option linter.unusedVariables false
set_option linter.unusedSimpArgs false
variable {P : Program} {ι ι' : Inj} {w w' : World} {B N : Nat}

def look (h : Heap) : Look := fun b => h[b]?

theorem look_apply (h : Heap) (d : Delta) : upd (look h) h.length d = look (h.apply d) := by
  funext b
  cases d with
  | no => rfl
  | new o =>
    simp only [upd, look, Heap.apply, List.getElem?_append]
    split
    · rename_i hb; subst hb; simp
    · rename_i hb
      split
      · rfl
      · rename_i hb2
        have : h.length < b := by omega
        rw [List.getElem?_eq_none (by omega)]
        simp; omega
  | set c o =>
    simp only [upd, look, Heap.apply, List.getElem?_set]
    by_cases hb : b = c
    · subst hb
      simp only [if_true]
      by_cases hl : b < h.length
      · simp [hl]
      · simp [hl]
    · simp [hb, Ne.symm hb]

/-- The registers. -/
structure Regs (ι : Inj) (ρ : Env) (a : Act) (N : Nat) : Prop where
  size : a.tmps.size = N
  get : ∀ t v, ρ.get t = some v → ∃ u, a.tmps[t]? = some u ∧ V ι v u
  defers : a.defers = []

theorem Regs.mono {ρ : Env} {a : Act} (h : Regs ι ρ a N) (he : Ext ι ι') : Regs ι' ρ a N :=
  ⟨h.size, fun t v hv => let ⟨u, h1, h2⟩ := h.get t v hv; ⟨u, h1, h2.mono he⟩, h.defers⟩

theorem Env.get_put {ρ : Env} {d : Option Nat} {v : AV} {t : Nat} : (ρ.put d v).get t = if d = some t then some v else ρ.get t := by
  cases d with
  | none => simp [Env.put]
  | some d => simp [Env.put, Env.get]

theorem Regs.put {ρ : Env} {a : Act} (h : Regs ι ρ a N) {d : Option Nat} {v : AV} {u : Value} (hd : ∀ t, d = some t → t < N) (hv : V ι v u) : Regs ι (ρ.put d v) (a.put d u) N := by
  refine ⟨?_, fun t x hx => ?_, ?_⟩
  · cases d <;> simp [Act.put, h.size]
  · rw [Env.get_put] at hx
    split at hx
    · rename_i hdt
      subst hdt
      simp at hx; subst hx
      refine ⟨u, ?_, hv⟩
      have := hd t rfl
      simp [Act.put, h.size, this]
    · rename_i hdt
      obtain ⟨y, h1, h2⟩ := h.get t x hx
      refine ⟨y, ?_, h2⟩
      cases d with
      | none => exact h1
      | some d =>
        have : d ≠ t := fun e => hdt (by rw [e])
        simp only [Act.put]
        rw [Array.getElem?_setIfInBounds_ne this]
        exact h1
  · cases d <;> exact h.defers

theorem const_V {v : Value} {a : AV} (h : absV v = some a) (ι : Inj) : V ι a v := (absV_cells h ι).2

theorem Regs.eval {ρ : Env} {a : Act} (h : Regs ι ρ a N) : ∀ x v, evalA ρ x = some v → V ι v (a.eval x) := by
  intro x v hx
  cases x with
  | tmp t =>
    obtain ⟨u, h1, h2⟩ := h.get t v hx
    have : a.tmps.getD t undef = u := by simp [Array.getD_eq_getD_getElem?, h1]
    simp only [Act.eval, this]
    exact h2
  | const c => exact const_V hx ι
  | func f =>
    simp [evalA] at hx; subst hx
    simp [V, Va, Vc, L2, Act.eval]
  | global g => simp [evalA] at hx

/-- Which numbers of blocks are free. -/
def Fresh (ι : Inj) (n m : Nat) : Prop := ∀ b g, n ≤ b → b < m → ι b g = none

/-- What a step may lay. -/
def Lays (ι ι' : Inj) (n : Nat) : Prop := ∀ b g l, ι' b g = some l → ι b g = some l ∨ b < n

/-- A call by the evaluator stands for a call by the model. -/
def CallOK (P : Program) (F : CallF) : Prop := ∀ g args h r h', F g args h = some (r, h') →
  (∃ fn, P.funcs[g]? = some fn ∧ fn.body.isSome = true ∧ (fn.name == "runtime.NumGoroutine") = false) ∧ h.length ≤ h'.length ∧
  ∀ (ι : Inj) (w : World) (B : Nat) (cargs : List Value), HR P ι w B (look h) → Fresh ι h.length h'.length → L2 (V ι) args cargs →
    Calls P g cargs.toArray w fun e w' => ∃ ι' u, e = .returned u ∧ V ι' r u ∧ Step P ι w B (look h) ι' w' (look h') ∧ Lays ι ι' h'.length

theorem apply_length (h : Heap) (d : Delta) : h.length ≤ (h.apply d).length := by
  cases d <;> simp [Heap.apply]

theorem mem_evL {ev : Ev} : ∀ {xs : List Operand} {vs : List AV}, evL ev xs = some vs → ∀ {R : AV → Value → Prop} {ρ : Operand → Value}, (∀ x ∈ xs, ∀ v, ev x = some v → R v (ρ x)) → L2 R vs (xs.map ρ)
  | [], vs, h, R, ρ, hr => by simp [evL] at h; subst h; trivial
  | x :: xs, vs, h, R, ρ, hr => by
    unfold evL at h
    split at h
    · rename_i v vs' hv hvs
      simp at h; subst h
      exact ⟨hr x (List.mem_cons_self ..) v hv, mem_evL hvs fun y hy => hr y (List.mem_cons_of_mem _ hy)⟩
    · simp at h

theorem run_callFunc {g : FuncId} {fn : Func} (h1 : P.funcs[g]? = some fn) (h2 : fn.body.isSome = true) (h3 : (fn.name == "runtime.NumGoroutine") = false) (args : Array Value) (w : World) :
    (callFunc g args).run P w = .ok (.enter g args) w := by
  have h4 : fn.body ≠ none := by intro hb; simp [hb] at h2
  have h5 : fn.name ≠ "runtime.NumGoroutine" := by simpa using h3
  simp [callFunc, h1, h5, h4]

theorem callOf_spec {ev : Ev} {o : Oper} {g : FuncId} {args : List AV} (h : callOf ev o.op = some (some (g, args))) :
    ∃ c f caps as, o.op = .call c ∧ c.callee = .value f ∧ ev f = some (.fn (.func g) caps) ∧ evL ev c.args.toList = some as ∧ args = as ++ caps := by
  obtain ⟨dst, op, type, pos, after, guard⟩ := o
  cases op <;> simp only [callOf] at h <;> try (simp at h; done)
  rename_i c
  obtain ⟨callee, cargs, argTypes⟩ := c
  cases callee <;> simp only [callOf] at h <;> try (simp at h; done)
  rename_i f
  split at h
  · rename_i g' caps as hf has
    simp at h
    obtain ⟨rfl, rfl⟩ := h
    exact ⟨_, f, caps, as, rfl, rfl, hf, has, rfl⟩
  · simp at h

/-- The call's own step: it enters the function with the values that stand for the arguments. -/
theorem run_call {ev : Ev} {ρ : Operand → Value} {o : Oper} {g : FuncId} {args : List AV} (h : callOf ev o.op = some (some (g, args))) (he : ∀ x ∈ o.op.operands.toList, ∀ v, ev x = some v → V ι v (ρ x))
    {fn : Func} (h1 : P.funcs[g]? = some fn) (h2 : fn.body.isSome = true) (h3 : (fn.name == "runtime.NumGoroutine") = false) :
    ∃ cargs : List Value, (execOp ρ o).run P w = .ok (.enter g cargs.toArray) w ∧ L2 (V ι) args cargs := by
  obtain ⟨c, f, caps, as, hop, hcal, hf, has, rfl⟩ := callOf_spec h
  obtain ⟨dst, op, type, pos, after, guard⟩ := o
  simp only at hop
  subst hop
  obtain ⟨callee, cargs, argTypes⟩ := c
  simp only at hcal has
  subst hcal
  have hops : (Op.call { callee := .value f, args := cargs, argTypes := argTypes }).operands.toList = f :: cargs.toList := by
    simp [Op.operands, Call.operands]
  simp only [hops] at he
  obtain ⟨cs, hfv, hcs⟩ := (he f (List.mem_cons_self ..) _ hf).fn_inv
  have hl := mem_evL has (R := V ι) (ρ := ρ) fun x hx => he x (List.mem_cons_of_mem _ hx)
  refine ⟨cargs.toList.map ρ ++ cs.toList, ?_, hl.append (hcs.mono fun _ _ h => .of_Vp h)⟩
  have hargs : ((cargs.map ρ) ++ cs) = (cargs.toList.map ρ ++ cs.toList).toArray := by
    apply Array.ext'; simp
  simp only [execOp, resolve, hfv, Deferred.ofValue, Sem.run_bind, Sem.run_pure, Result.andThen_ok, invoke, Array.empty_append]
  rw [hargs]
  exact run_callFunc h1 h2 h3 _ _

/-! ### only the operands matter -/

theorem evL_congr {ev ev' : Ev} : ∀ {xs : List Operand}, (∀ x ∈ xs, ev x = ev' x) → evL ev xs = evL ev' xs
  | [], _ => rfl
  | x :: xs, h => by
    simp only [evL, h x (List.mem_cons_self ..), evL_congr fun y hy => h y (List.mem_cons_of_mem _ hy)]

theorem evP_congr {ev ev' : Ev} : ∀ {xs : List (Nat × Operand)}, (∀ x ∈ xs.map (·.2), ev x = ev' x) → evP ev xs = evP ev' xs
  | [], _ => rfl
  | (i, x) :: xs, h => by
    simp only [evP, h x (by simp), evP_congr fun y hy => h y (List.mem_cons_of_mem _ hy)]

theorem evO_congr {ev ev' : Ev} {x : Option Operand} (h : ∀ y ∈ x, ev y = ev' y) : evO ev x = evO ev' x := by
  cases x with
  | none => rfl
  | some y => simp only [evO, h y (by simp)]

theorem aop_ev {ev ev' : Ev} {L : Look} {next : Nat} {op : Op} (h : ∀ x ∈ op.operands.toList, ev x = ev' x) : aop P ev L next op = aop P ev' L next op := by
  cases op <;> simp only [Op.operands] at h <;> simp only [aop]
  case build t ps => rw [evP_congr (xs := ps.toList) (by simpa using h)]
  case buildSlice t n ps => rw [evP_congr (xs := ps.toList) (by simpa using h)]
  case makeFunc fn first captured => rw [evL_congr (xs := captured.toList) fun x hx => h x (by simp at hx ⊢; exact .inr hx)]
  case slice t x lo hi mx =>
    rw [evO_congr (x := lo) fun y hy => h y (by simp at hy ⊢; simp [hy]), evO_congr (x := hi) fun y hy => h y (by simp at hy ⊢; simp [hy]),
      evO_congr (x := mx) fun y hy => h y (by simp at hy ⊢; simp [hy]), h x (by simp)]
  case next it isS =>
    cases isS <;> simp only [aop]
    rw [h it (by simp)]
  case call c =>
    obtain ⟨callee, args, argTypes⟩ := c
    simp only [Call.operands] at h
    rw [evL_congr (xs := args.toList) fun x hx => h x (by simp at hx ⊢; exact .inr hx)]
  all_goals (first | rfl | (simp_all; done))

/-- The operands of an operation alone. -/
def only (op : Op) (ev : Ev) : Ev := fun x => if op.operands.toList.any (sameX x) then ev x else none
where
  sameX (x y : Operand) : Bool :=
    match x, y with
    | .tmp a, .tmp b => a == b
    | .tmp _, _ => false
    | _, _ => true

theorem only_mem {op : Op} {ev : Ev} {x : Operand} (h : x ∈ op.operands.toList) : ev x = only op ev x := by
  unfold only
  rw [if_pos]
  rw [List.any_eq_true]
  exact ⟨x, h, by cases x <;> simp [only.sameX]⟩

/-- One operation that calls nothing, on any heap. -/
theorem wp_aop {ρ : Env} {L : Look} {next : Nat} {o : Oper} {v : AV} {δ : Delta} {a : Act} {Q : Exit → Act → World → Prop} {K : Act → World → Prop}
    (hr : HR P ι w B L) (hregs : ∀ t, Operand.tmp t ∈ o.op.operands.toList → ∀ v, ρ.get t = some v → ∃ u, a.tmps[t]? = some u ∧ V ι v u)
    (h : aop P (evalA ρ) L next o.op = some (v, δ)) (hnf : (∃ ob, δ = .new ob) → L next = none ∧ ∀ g, ι next g = none)
    (hk : ∀ ι' w' u, V ι' v u → Step P ι w B L ι' w' (upd L next δ) → (∀ b g l, ι' b g = some l → ι b g = some l ∨ δ.touches next b) → K (a.put o.dst u) w') :
    o.wp P a w K Q := by
  rw [aop_ev (ev' := only o.op (evalA ρ)) fun x hx => only_mem hx] at h
  have he : ∀ x v, only o.op (evalA ρ) x = some v → V ι v (a.eval x) := by
    intro x v hx
    unfold only at hx
    split at hx
    · rename_i hany
      cases x with
      | tmp t =>
        rw [List.any_eq_true] at hany
        obtain ⟨y, hy, hxy⟩ := hany
        cases y with
        | tmp t' =>
          simp [only.sameX] at hxy
          subst hxy
          obtain ⟨u, h1, h2⟩ := hregs t hy v hx
          have : a.tmps.getD t undef = u := by simp [Array.getD_eq_getD_getElem?, h1]
          simp only [Act.eval, this]
          exact h2
        | _ => simp [only.sameX] at hxy
      | const c => exact const_V hx ι
      | func f => simp [evalA] at hx; subst hx; simp [V, Va, Vc, L2, Act.eval]
      | global g => simp [evalA] at hx
    · simp at hx
  obtain ⟨ι', w', u, hrun, hv, hst, hla⟩ := ok_aop (L := L) hr he (o := o) h hnf
  unfold Oper.wp
  rcases hrun with hrun | ⟨hrun, rfl⟩
  · rw [hrun]; exact hk ι' w' u hv hst hla
  · rw [hrun]; exact hk ι' w' _ hv hst hla

/-- What is set is what was looked into. -/
theorem aop_set {ev : Ev} {L : Look} {next : Nat} {op : Op} {v : AV} {c : Nat} {ob : AObj} (h : aop P ev L next op = some (v, .set c ob)) : c ∈ areads ev op ∧ ∃ x, L c = some x := by
  cases op <;> simp only [aop] at h
  case store t a x =>
    split at h
    · rename_i p y hp hy
      simp only [areads, hp]
      cases hl : astore P L t p y with
      | none => simp [hl] at h
      | some d =>
        simp [hl] at h
        obtain ⟨_, rfl⟩ := h
        unfold astore at hl
        split at hl
        · split at hl
          · rename_i hL
            split at hl
            · simp at hl
              obtain ⟨rfl, _⟩ := hl
              exact ⟨by simp [blkOf], _, hL⟩
            · simp at hl
          · simp at hl
        · simp at hl
    · simp at h
  case convert s d x =>
    split at h
    · rename_i a ha
      simp only [areads, ha]
      unfold aconv at h
      split at h
      · simp at h
      · simp at h
      · simp at h
      · split at h <;> simp at h
      · split at h
        · rename_i hL
          split at h
          · simp at h
            obtain ⟨_, rfl, _⟩ := h
            exact ⟨by simp [blkOf], _, hL⟩
          · simp at h
        · simp at h
      · split at h <;> simp at h
      · split at h
        · split at h
          · rename_i cs _
            cases hb : cellBytes cs <;> simp [hb] at h
          · simp at h
        · simp at h
      · simp at h
    · simp at h
  case mapUpdate t m k x =>
    split at h
    · rename_i m' k' x' hm hk hx
      simp only [areads, hm]
      split at h
      · exact mapUpdate_set h
      · simp at h
    · simp at h
  case insert t m k x =>
    split at h
    · rename_i m' k' x' hm hk hx
      simp only [areads, hm]
      split at h
      · exact mapUpdate_set h
      · simp at h
    · simp at h
  case next it isS =>
    cases isS <;> simp only [aop] at h
    · simp at h
    · split at h
      · rename_i a ha
        simp only [areads, ha]
        unfold aiter at h
        split at h
        · split at h
          · rename_i hL
            split at h
            · split at h
              · simp at h
                obtain ⟨_, rfl, _⟩ := h
                exact ⟨by simp [blkOf], _, hL⟩
              · simp at h
            · simp at h
          · simp at h
        · simp at h
      · simp at h
  case call cl =>
    obtain ⟨callee, args, argTypes⟩ := cl
    simp only at h
    split at h
    · split at h
      · rename_i t x _ _
        cases hb : alen P L t x <;> simp [hb] at h
      · simp at h
    · split at h
      · rename_i t u s x ht hx
        simp only [areads, hx]
        unfold aappend at h
        have main : ∀ e, (if 0 < tsz P e then match srcCells P L e x with
            | some (n, src) => aappendE P L next e n src s
            | none => none else none) = some (v, .set c ob) → c ∈ blkOf (some s) ++ blkOf (some x) ∧ ∃ x, L c = some x := by
          intro e h
          split at h
          · split at h
            · unfold aappendE at h
              split at h
              · split at h
                · simp at h
                · split at h <;> simp at h
              · split at h
                · simp at h
                · split at h
                  · rename_i hL
                    split at h
                    · split at h
                      · split at h
                        · simp at h
                          obtain ⟨_, rfl, _⟩ := h
                          exact ⟨by simp [blkOf], _, hL⟩
                        · simp at h
                      · split at h
                        · simp at h
                          obtain ⟨_, rfl, _⟩ := h
                          exact ⟨by simp [blkOf], _, hL⟩
                        · simp at h
                    · simp at h
                  · simp at h
              · simp at h
            · simp at h
          · simp at h
        split at h
        · exact main _ h
        · exact main _ h
        · simp at h
      · simp at h
    · split at h
      · rename_i vs _
        cases hb : amin vs <;> simp [hb] at h
      · simp at h
    · split at h
      · rename_i vs _
        cases hb : amax vs <;> simp [hb] at h
      · simp at h
    · simp at h
  case buildSlice t n parts =>
    split at h
    · unfold abuildSlice at h
      repeat' (split at h)
      all_goals simp at h
    · simp at h
  case makeSlice t l c =>
    split at h
    · unfold amakeSlice at h
      repeat' (split at h)
      all_goals simp at h
    · simp at h
  all_goals ((repeat' (split at h)) <;> simp at h)
where
  mapUpdate_set {L : Look} {t : TypeId} {m k x v : AV} {c : Nat} {ob : AObj} (h : (amapUpdate P L t m k x).map (fun d => (AV.tup [], d)) = some (v, Delta.set c ob)) :
      c ∈ blkOf (some m) ∧ ∃ x, L c = some x := by
    cases hl : amapUpdate P L t m k x with
    | none => simp [hl] at h
    | some d =>
      simp [hl] at h
      obtain ⟨_, rfl⟩ := h
      unfold amapUpdate at hl
      split at hl
      · split at hl
        · rename_i hL
          split at hl
          · simp at hl
            obtain ⟨rfl, _⟩ := hl
            exact ⟨by simp [blkOf], _, hL⟩
          · simp at hl
        · simp at hl
      · simp at hl

theorem astep_length {F : CallF} (hF : CallOK P F) {op : Op} {s : St} {v : AV} {h' : Heap} (h : astep P F op s = some (v, h')) : s.h.length ≤ h'.length := by
  unfold astep at h
  split at h
  · rename_i g args hc
    exact (hF g args s.h v h' h).2.1
  · simp at h
  · split at h
    · simp at h
      obtain ⟨rfl, rfl⟩ := h
      exact apply_length _ _
    · simp at h

/-- One operation. -/
theorem wp_astep {F : CallF} (hF : CallOK P F) {o : Oper} {s : St} {v : AV} {h' : Heap} (h : astep P F o.op s = some (v, h')) {a : Act} {Q : Exit → Act → World → Prop} {K : Act → World → Prop}
    (hreg : Regs ι s.ρ a N) (hr : HR P ι w B (look s.h)) (hfr : Fresh ι s.h.length h'.length)
    (hk : ∀ ι' w' u, V ι' v u → Step P ι w B (look s.h) ι' w' (look h') → Lays ι ι' h'.length → K (a.put o.dst u) w') : o.wp P a w K Q := by
  unfold astep at h
  split at h
  · rename_i g args hc
    obtain ⟨⟨fn, h1, h2, h3⟩, hlen, hcall⟩ := hF g args s.h v h' h
    obtain ⟨cargs, hrun, hargs⟩ := run_call (P := P) (w := w) hc (fun x _ v hv => hreg.eval x v hv) h1 h2 h3
    unfold Oper.wp
    rw [hrun]
    simp only [Oper.upon]
    refine (hcall ι w B cargs hr hfr hargs).mono ?_
    rintro e w' ⟨ι', u, rfl, hv, hst, hla⟩
    exact hk ι' w' u hv hst hla
  · simp at h
  · split at h
    · rename_i v' d hop
      simp at h
      obtain ⟨rfl, rfl⟩ := h
      refine wp_aop hr (fun t _ => hreg.get t) hop ?_ ?_
      · rintro ⟨ob, rfl⟩
        exact ⟨by simp [look], fun g => hfr _ g (Nat.le_refl _) (by simp [Heap.apply])⟩
      · intro ι' w' u hv hst hla
        rw [look_apply] at hst
        refine hk ι' w' u hv hst fun b g l hl => ?_
        rcases hla b g l hl with h | h
        · exact .inl h
        · cases d with
          | no => exact h.elim
          | new ob => simp only [Delta.touches] at h; subst h; exact .inr (by simp [Heap.apply])
          | set c ob =>
            simp only [Delta.touches] at h
            subst h
            obtain ⟨_, x, hx⟩ := aop_set hop
            have hb : b < s.h.length := (List.getElem?_eq_some_iff.1 hx).1
            exact .inr (by simpa [Heap.apply] using hb)
    · simp at h

/-- Is the operation wanted? -/
theorem wanted_of {ρ : Env} {ops : Array Oper} {o : Oper} {b : Bool} {tmps : Array Value} (h : awanted ρ (slim ops o) = some b)
    (hregs : ∀ j w t, o.guard = some (j, w) → (ops[j]?).bind (·.dst) = some t → ∀ v, ρ.get t = some v → ∃ u, tmps[t]? = some u ∧ V ι v u) : Region.wanted o (yielded ops tmps) = b := by
  unfold awanted slim at h
  cases hg : o.guard with
  | none => simp [hg] at h; simp [Region.wanted, hg, h]
  | some jw =>
    obtain ⟨j, want⟩ := jw
    simp only [hg, Option.map_some] at h
    cases ht : (ops[j]?).bind (·.dst) with
    | none => simp [ht] at h
    | some t =>
      simp only [ht] at h
      split at h
      · rename_i c hc
        obtain ⟨u, h1, h2⟩ := hregs j want t hg ht _ hc
        obtain rfl := h2.bool_inv
        simp at h
        simp [Region.wanted, hg, yielded, ht, h1, ← h]
      · rename_i hc
        obtain ⟨u, h1, h2⟩ := hregs j want t hg ht _ hc
        obtain ⟨vs, rfl, hvs⟩ := h2.tup_inv
        simp at h
        simp [Region.wanted, hg, yielded, ht, h1, ← h]
      · simp at h

theorem aops_length {F : CallF} (hF : CallOK P F) : ∀ {os : List SOp} {s s' : St}, aops P F os s = some s' → s.h.length ≤ s'.h.length
  | [], s, s', h => by simp [aops] at h; subst h; exact Nat.le_refl _
  | o :: os, s, s', h => by
    unfold aops at h
    split at h
    · split at h
      · rename_i v h1 hst
        exact Nat.le_trans (astep_length hF hst) (aops_length hF h)
      · simp at h
    · have := aops_length hF h
      exact this
    · simp at h

theorem Fresh.sub {n m k : Nat} (h : Fresh ι n m) (hk : k ≤ m) : Fresh ι n k := fun b g h1 h2 => h b g h1 (Nat.lt_of_lt_of_le h2 hk)

theorem Fresh.next {n m k : Nat} (h : Fresh ι n m) (hn : n ≤ k) (hl : Lays ι ι' k) : Fresh ι' k m := by
  intro b g h1 h2
  cases he : ι' b g with
  | none => rfl
  | some l =>
    rcases hl b g l he with h3 | h3
    · rw [h b g (Nat.le_trans hn h1) h2] at h3; cases h3
    · omega

theorem Lays.trans {ι'' : Inj} {n m : Nat} (h : Lays ι ι' n) (h' : Lays ι' ι'' m) (hn : n ≤ m) : Lays ι ι'' m := by
  intro b g l hl
  rcases h' b g l hl with h1 | h1
  · rcases h b g l h1 with h2 | h2
    · exact .inl h2
    · exact .inr (by omega)
  · exact .inr h1

theorem Lays.refl {n : Nat} : Lays ι ι n := fun _ _ _ h => .inl h

theorem Fresh.none (n : Nat) : Fresh ι n n := fun b g h1 h2 => by omega

/-- Operations one behind the other. -/
theorem wp_aops {F : CallF} (hF : CallOK P F) {ops : Array Oper} {Q : Exit → Act → World → Prop} (hd : ∀ (i : Nat) (o : Oper) (t : Nat), ops[i]? = some o → o.dst = some t → t < N) :
    ∀ (os : List Oper) (k : Nat) (ι : Inj) (w : World) (a : Act) (s s' : St), (∀ i o, os[i]? = some o → ops[k + i]? = some o) →
      aops P F (slimL ops os) s = some s' → Regs ι s.ρ a N → HR P ι w B (look s.h) → Fresh ι s.h.length s'.h.length →
      (∀ ι' a' w', Regs ι' s'.ρ a' N → Step P ι w B (look s.h) ι' w' (look s'.h) → Lays ι ι' s'.h.length → Q .normal a' w') →
      wpOps P ops Q (List.range' k os.length) a w
  | [], k, ι, w, a, s, s', hos, h, hreg, hr, hfr, hk => by
    simp [slimL, aops] at h; subst h
    exact hk ι a w hreg (.refl hr) .refl
  | o :: os, k, ι, w, a, s, s', hos, h, hreg, hr, hfr, hk => by
    have ho : ops[k]? = some o := by simpa using hos 0 o rfl
    have hos' : ∀ i o', os[i]? = some o' → ops[k + 1 + i]? = some o' := fun i o' hi => by
      have := hos (i + 1) o' (by simpa using hi)
      rwa [show k + (i + 1) = k + 1 + i by omega] at this
    simp only [slimL, aops] at h
    simp only [List.length_cons, List.range'_succ, wpOps, ho]
    have hsd : (slim ops o).dst = o.dst := rfl
    have hso : (slim ops o).op = o.op := rfl
    split at h
    · rename_i hw
      rw [wanted_of hw fun _ _ t _ _ => hreg.get t, if_pos rfl]
      split at h
      · rename_i v h1 hst
        rw [hso] at hst
        have hl1 := astep_length hF hst
        have hl2 := aops_length hF h
        simp only at hl2
        refine .inl (wp_astep hF hst hreg hr (hfr.sub hl2) ?_)
        intro ι' w' u hv hstep hla
        refine wp_aops hF hd os (k + 1) ι' w' _ ⟨s.ρ.put o.dst v, h1⟩ s' hos' h ((hreg.mono hstep.ext).put (fun t ht => hd k o t ho ht) hv) hstep.hr (hfr.next hl1 hla) ?_
        intro ι'' a' w'' hreg' hstep' hla'
        exact hk ι'' a' w'' hreg' (hstep.trans hstep') (hla.trans hla' hl2)
      · simp at h
    · rename_i hw
      rw [wanted_of hw fun _ _ t _ _ => hreg.get t, if_neg (by simp)]
      exact wp_aops hF hd os (k + 1) ι w _ ⟨s.ρ.put o.dst (.tup []), s.h⟩ s' hos' h (hreg.put (fun t ht => hd k o t ho ht) (V.undef ι)) hr hfr hk
    · simp at h

end Go.AM
