/-
  Registers, one operation with its guard, operations one behind the other.
-/
import Derived.Test.YtfmfkpmohlhajaaGreatDoorAMa
import Derived.OrdersIn
import Derived.LoopNIn
import Derived.RangeFuncRecord
import Derived.LoopN
import Derived.Scope
namespace Go.AM
open Go
set_option linter.unusedVariables false
set_option linter.unusedSimpArgs false
variable {P : Program} {ι ι' : Inj} {w w' : World} {B : Base} {N : Nat} {dl : List Deferred} {fr : Option Nat}
abbrev FR (r : Option Nat) : Fence := { fn := fun _ => True, depth := none, alive := false, round := r }
theorem wpIn_op {o : Oper} {a : Act} {Q : Exit → Act → World → Prop} {K : Act → World → Prop} (hd : ∀ c, o.op ≠ .defer c) (h : o.uponIn (FR fr) 0 P a K Q ((execOp a.eval o).run P w)) : o.wpIn (FR fr) 0 P a w K Q :=
 ⟨fun _ _ => trivial, by rw [Oper.semAt_eq _ _ _ hd]; exact h⟩
def look (h : Heap) : Look := fun b => h[b]?
theorem look_apply (h : Heap) (d : Delta) : upd (look h) h.length d = look (h.apply d) := by
 funext b
 cases d with
 | no => rfl
 | new o =>
  simp only [upd, look, Heap.apply, List.getElem?_append]
  split
  · rename_i hb; subst hb; simp
  · rename_i hb
    split
    · rfl
    · rename_i hb2
      have : h.length < b := by omega
      rw [List.getElem?_eq_none (by omega)]
      simp; omega
 | set c o =>
  simp only [upd, look, Heap.apply, List.getElem?_set]
  by_cases hb : b = c
  · subst hb
    simp only [if_true]
    by_cases hl : b < h.length
    · simp [hl]
    · simp [hl]
  · simp [hb, Ne.symm hb]
structure Regs (dl : List Deferred) (ι : Inj) (ρ : Env) (a : Act) (N : Nat) : Prop where
 size : a.tmps.size = N
 get : ∀ t v, ρ.get t = some v → ∃ u, a.tmps[t]? = some u ∧ V ι v u
 defers : a.defers = dl
theorem Regs.mono {ρ : Env} {a : Act} (h : Regs dl ι ρ a N) (he : Ext ι ι') : Regs dl ι' ρ a N :=
 ⟨h.size, fun t v hv => let ⟨u, h1, h2⟩ := h.get t v hv; ⟨u, h1, h2.mono he⟩, h.defers⟩
theorem Env.get_put {ρ : Env} {d : Option Nat} {v : AV} {t : Nat} : (ρ.put d v).get t = if d = some t then some v else ρ.get t := by
 cases d with
 | none => simp [Env.put]
 | some d => simp [Env.put, Env.get]
theorem Regs.put {ρ : Env} {a : Act} (h : Regs dl ι ρ a N) {d : Option Nat} {v : AV} {u : Value} (hd : ∀ t, d = some t → t < N) (hv : V ι v u) : Regs dl ι (ρ.put d v) (a.put d u) N := by
 refine ⟨?_, fun t x hx => ?_, ?_⟩
 · cases d <;> simp [Act.put, h.size]
 · rw [Env.get_put] at hx
   split at hx
   · rename_i hdt
     subst hdt
     simp at hx; subst hx
     refine ⟨u, ?_, hv⟩
     have := hd t rfl
     simp [Act.put, h.size, this]
   · rename_i hdt
     obtain ⟨y, h1, h2⟩ := h.get t x hx
     refine ⟨y, ?_, h2⟩
     cases d with
     | none => exact h1
     | some d =>
      have : d ≠ t := fun e => hdt (by rw [e])
      simp only [Act.put]
      rw [Array.getElem?_setIfInBounds_ne this]
      exact h1
 · cases d <;> exact h.defers
theorem const_V {v : Value} {a : AV} (h : absV v = some a) (ι : Inj) : V ι a v := (absV_cells h ι).2
theorem Regs.eval {ρ : Env} {a : Act} (h : Regs dl ι ρ a N) : ∀ x v, evalA ρ x = some v → V ι v (a.eval x) := by
 intro x v hx
 cases x with
 | tmp t =>
  obtain ⟨u, h1, h2⟩ := h.get t v hx
  have : a.tmps.getD t undef = u := by simp [Array.getD_eq_getD_getElem?, h1]
  simp only [Act.eval, this]
  exact h2
 | const c => exact const_V hx ι
 | func f =>
  simp [evalA] at hx; subst hx
  simp [V, Va, Vc, L2, Act.eval]
 | global g => simp [evalA] at hx
def Fresh (ι : Inj) (n m : Nat) : Prop := ∀ b g, n ≤ b → b < m → ι b g = none
def Lays (ι ι' : Inj) (n : Nat) : Prop := ∀ b g l, ι' b g = some l → ι b g = some l ∨ b < n
def FuncOK (P : Program) (g : FuncId) (args : List AV) (h : Heap) (r : AV) (h' : Heap) : Prop :=
 (∃ fn, P.funcs[g]? = some fn ∧ fn.body.isSome = true ∧ (fn.name == "runtime.NumGoroutine") = false ∧ g < 1000000000) ∧ h.length ≤ h'.length ∧
 ∀ (ι : Inj) (w : World) (B : Base) (cargs : List Value), HR P ι w B (look h) → Fresh ι h.length h'.length → L2 (V ι) args cargs →
  Calls P g cargs.toArray w fun e w' => ∃ ι' u, e = .returned u ∧ V ι' r u ∧ Step P ι w B (look h) ι' w' (look h') ∧ Lays ι ι' h'.length
def CallOK (P : Program) (F : CallF) : Prop := ∀ g args h r h', F g args h = some (r, h') → FuncOK P g args h r h'
def RoundOK (P : Program) (C : Base → Option Nat → Prop) (g : FuncId) (args : List AV) (h : Heap) (r : AV) (h' : Heap) : Prop :=
 h.length ≤ h'.length ∧ ∃ l x, g = 1000000000 + l ∧ args = [x] ∧ ∀ (ι : Inj) (w : World) (B : Base) (fr : Option Nat) (u : Value), C B fr → HR P ι w B (look h) → Fresh ι h.length h'.length → V ι x u →
  ∃ rec : Loop, w.heap[l]? = some (.loop rec) ∧ rec.params.size = 1 ∧
   RoundIn (FR fr) 0 P l rec.fn ((rec.params.zip #[u]).foldl (fun tmps (t, a) => tmps.setIfInBounds t a) rec.tmps) rec.assign rec.body w fun e w' =>
    ∃ ι' z, e = .returned z ∧ V ι' r z ∧ Step P ι w B (look h) ι' w' (look h') ∧ Lays ι ι' h'.length
def CallsOK (P : Program) (C : Base → Option Nat → Prop) (F : CallF) : Prop := ∀ g args h r h', F g args h = some (r, h') → FuncOK P g args h r h' ∨ RoundOK P C g args h r h'
variable {C : Base → Option Nat → Prop}
theorem CallOK.calls {F : CallF} (hF : CallOK P F) : CallsOK P C F := fun g args h r h' hr => .inl (hF g args h r h' hr)
def Grows (F : CallF) : Prop := ∀ g args h r h', F g args h = some (r, h') → h.length ≤ h'.length
theorem CallsOK.grows {F : CallF} (hF : CallsOK P C F) : Grows F := fun g args h r h' hr => (hF g args h r h' hr).elim (fun h => h.2.1) fun h => h.1
theorem CallOK.grows {F : CallF} (hF : CallOK P F) : Grows F := fun g args h r h' hr => (hF g args h r h' hr).2.1
theorem apply_length (h : Heap) (d : Delta) : h.length ≤ (h.apply d).length := by
 cases d <;> simp [Heap.apply]
theorem mem_evL {ev : Ev} : ∀ {xs : List Operand} {vs : List AV}, evL ev xs = some vs → ∀ {R : AV → Value → Prop} {ρ : Operand → Value}, (∀ x ∈ xs, ∀ v, ev x = some v → R v (ρ x)) → L2 R vs (xs.map ρ)
 | [], vs, h, R, ρ, hr => by simp [evL] at h; subst h; trivial
 | x :: xs, vs, h, R, ρ, hr => by
  unfold evL at h
  split at h
  · rename_i v vs' hv hvs
    simp at h; subst h
    exact ⟨hr x (List.mem_cons_self ..) v hv, mem_evL hvs fun y hy => hr y (List.mem_cons_of_mem _ hy)⟩
  · simp at h
theorem run_callFunc {g : FuncId} {fn : Func} (h1 : P.funcs[g]? = some fn) (h2 : fn.body.isSome = true) (h3 : (fn.name == "runtime.NumGoroutine") = false) (args : Array Value) (w : World) :
  (callFunc g args).run P w = .ok (.enter g args) w := by
 have h4 : fn.body ≠ none := by intro hb; simp [hb] at h2
 have h5 : fn.name ≠ "runtime.NumGoroutine" := by simpa using h3
 simp [callFunc, h1, h5, h4]
theorem callOf_spec {ev : Ev} {o : Oper} {g : FuncId} {args : List AV} (h : callOf ev o.op = some (some (g, args))) :
  ∃ c f as, o.op = .call c ∧ c.callee = .value f ∧ evL ev c.args.toList = some as ∧
   ((∃ caps, args = as ++ caps ∧ ev f = some (.fn (.func g) caps) ∧ g < 1000000000) ∨ (∃ a, args = a :: as ∧ ev f = some (.bm g a) ∧ g < 1000000000) ∨ args = as ∧ ∃ l, g = 1000000000 + l ∧ ev f = some (.fn (.yield l) [])) := by
 obtain ⟨dst, op, type, pos, after, guard⟩ := o
 cases op <;> simp only [callOf] at h <;> try (simp at h; done)
 rename_i c
 obtain ⟨callee, cargs, argTypes⟩ := c
 cases callee <;> simp only [callOf] at h <;> try (simp at h; done)
 rename_i f
 split at h
 · rename_i g' caps as hf has
   split at h
   · rename_i hlt
     simp at h
     obtain ⟨rfl, rfl⟩ := h
     exact ⟨_, f, as, rfl, rfl, has, .inl ⟨caps, rfl, hf, hlt⟩⟩
   · simp at h
 · rename_i g' a as hf has
   split at h
   · rename_i hlt
     simp at h
     obtain ⟨rfl, rfl⟩ := h
     exact ⟨_, f, as, rfl, rfl, has, .inr (.inl ⟨a, rfl, hf, hlt⟩)⟩
   · simp at h
 · rename_i l as hf has
   simp at h
   obtain ⟨rfl, rfl⟩ := h
   exact ⟨_, f, as, rfl, rfl, has, .inr (.inr ⟨rfl, l, rfl, hf⟩)⟩
 · simp at h
theorem run_call {ev : Ev} {ρ : Operand → Value} {o : Oper} {g : FuncId} {args : List AV} (h : callOf ev o.op = some (some (g, args))) (he : ∀ x ∈ o.op.operands.toList, ∀ v, ev x = some v → V ι v (ρ x))
  {fn : Func} (h1 : P.funcs[g]? = some fn) (h2 : fn.body.isSome = true) (h3 : (fn.name == "runtime.NumGoroutine") = false) (h4 : g < 1000000000) :
  ∃ cargs : List Value, (execOp ρ o).run P w = .ok (.enter g cargs.toArray) w ∧ L2 (V ι) args cargs := by
 obtain ⟨c, f, as, hop, hcal, has, hf⟩ := callOf_spec h
 obtain ⟨dst, op, type, pos, after, guard⟩ := o
 simp only at hop
 subst hop
 obtain ⟨callee, cargs, argTypes⟩ := c
 simp only at hcal has
 subst hcal
 have hops : (Op.call { callee := .value f, args := cargs, argTypes := argTypes }).operands.toList = f :: cargs.toList := by
  simp [Op.operands, Call.operands]
 simp only [hops] at he
 have hl := mem_evL has (R := V ι) (ρ := ρ) fun x hx => he x (List.mem_cons_of_mem _ hx)
 rcases hf with ⟨caps, rfl, hf, _⟩ | ⟨a, rfl, hf, _⟩ | ⟨_, l, rfl, _⟩
 · obtain ⟨cs, hfv, hcs⟩ := (he f (List.mem_cons_self ..) _ hf).fn_inv
   refine ⟨cargs.toList.map ρ ++ cs.toList, ?_, hl.append (hcs.mono fun _ _ h => .of_Vp h)⟩
   have hargs : ((cargs.map ρ) ++ cs) = (cargs.toList.map ρ ++ cs.toList).toArray := by
    apply Array.ext'; simp
   simp only [execOp, resolve, hfv, Deferred.ofValue, Sem.run_bind, Sem.run_pure, Result.andThen_ok, invoke, Array.empty_append]
   rw [hargs]
   exact run_callFunc h1 h2 h3 _ _
 · obtain ⟨u, hfv, hu⟩ := (he f (List.mem_cons_self ..) _ hf).bm_inv
   refine ⟨u :: cargs.toList.map ρ, ?_, ⟨.of_Vp hu, hl⟩⟩
   have hargs : (#[u] ++ (cargs.map ρ) ++ #[]) = (u :: cargs.toList.map ρ).toArray := by
    apply Array.ext'; simp
   simp only [execOp, resolve, hfv, Deferred.ofValue, Sem.run_bind, Sem.run_pure, Result.andThen_ok, invoke]
   rw [hargs]
   exact run_callFunc h1 h2 h3 _ _
 · exact absurd h4 (Nat.not_lt.2 (Nat.le_add_right _ _))
theorem run_round {ev : Ev} {ρ : Operand → Value} {o : Oper} {l : Nat} {x : AV} (h : callOf ev o.op = some (some (1000000000 + l, [x]))) (he : ∀ x ∈ o.op.operands.toList, ∀ v, ev x = some v → V ι v (ρ x)) :
  ∃ u, V ι x u ∧ ∀ rec : Loop, w.heap[l]? = some (.loop rec) → rec.params.size = 1 →
   (execOp ρ o).run P w = .ok (.round l rec.fn ((rec.params.zip #[u]).foldl (fun tmps (t, a) => tmps.setIfInBounds t a) rec.tmps) rec.assign rec.body) w := by
 obtain ⟨c, f, as, hop, hcal, has, hf⟩ := callOf_spec h
 rcases hf with ⟨_, _, _, hlt⟩ | ⟨_, _, _, hlt⟩ | ⟨hargs, l', hl, hf⟩
 · exact absurd hlt (Nat.not_lt.2 (Nat.le_add_right _ _))
 · exact absurd hlt (Nat.not_lt.2 (Nat.le_add_right _ _))
 obtain rfl : l = l' := Nat.add_left_cancel hl
 obtain ⟨dst, op, type, pos, after, guard⟩ := o
 simp only at hop
 subst hop
 obtain ⟨callee, cargs, argTypes⟩ := c
 simp only at hcal has
 subst hcal
 have hops : (Op.call { callee := .value f, args := cargs, argTypes := argTypes }).operands.toList = f :: cargs.toList := by
  simp [Op.operands, Call.operands]
 simp only [hops] at he
 obtain ⟨cs, hfv, hcs⟩ := (he f (List.mem_cons_self ..) _ hf).fn_inv
 have hcs0 : cs = #[] := by
  have := hcs.length
  simp at this
  exact Array.eq_empty_of_size_eq_zero this.symm
 subst hcs0
 have hl := mem_evL has (R := V ι) (ρ := ρ) fun x hx => he x (List.mem_cons_of_mem _ hx)
 subst hargs
 cases hm : cargs.toList.map ρ with
 | nil => rw [hm] at hl; exact hl.elim
 | cons u us =>
  rw [hm] at hl
  obtain ⟨hv, hn⟩ := hl
  cases us with
  | cons _ _ => exact hn.elim
  | nil =>
   refine ⟨u, hv, fun rec hrec hp => ?_⟩
   have hca : cargs.map ρ = #[u] := Array.ext' (by simpa using hm)
   have hy := run_yield (P := P) (args := #[u]) hrec (by simpa using hp.symm)
   simp only [execOp, resolve, hfv, Deferred.ofValue, Sem.run_bind, Sem.run_pure, Result.andThen_ok, invoke, hca]
   simpa using hy
theorem evL_congr {ev ev' : Ev} : ∀ {xs : List Operand}, (∀ x ∈ xs, ev x = ev' x) → evL ev xs = evL ev' xs
 | [], _ => rfl
 | x :: xs, h => by
  simp only [evL, h x (List.mem_cons_self ..), evL_congr fun y hy => h y (List.mem_cons_of_mem _ hy)]
theorem evP_congr {ev ev' : Ev} : ∀ {xs : List (Nat × Operand)}, (∀ x ∈ xs.map (·.2), ev x = ev' x) → evP ev xs = evP ev' xs
 | [], _ => rfl
 | (i, x) :: xs, h => by
  simp only [evP, h x (by simp), evP_congr fun y hy => h y (List.mem_cons_of_mem _ hy)]
theorem evO_congr {ev ev' : Ev} {x : Option Operand} (h : ∀ y ∈ x, ev y = ev' y) : evO ev x = evO ev' x := by
 cases x with
 | none => rfl
 | some y => simp only [evO, h y (by simp)]
theorem aop_ev {ev ev' : Ev} {L : Look} {next : Nat} {op : Op} (h : ∀ x ∈ op.operands.toList, ev x = ev' x) : aop P ev L next op = aop P ev' L next op := by
 cases op <;> simp only [Op.operands] at h <;> simp only [aop]
 case build t ps => rw [evP_congr (xs := ps.toList) (by simpa using h)]
 case buildSlice t n ps => rw [evP_congr (xs := ps.toList) (by simpa using h)]
 case makeFunc fn first captured =>
  rw [evL_congr (xs := captured.toList) fun x hx => h x (by simp at hx ⊢; exact .inr hx)]
  have hb : ∀ vs, aboundF ev fn first.toList vs = aboundF ev' fn first.toList vs := fun vs => by
   unfold aboundF
   split
   · rename_i g x hfx
     rw [h x (by simp; exact .inl (by rw [← Array.mem_toList_iff, hfx]; simp))]
   · rfl
  simp only [hb]
 case slice t x lo hi mx =>
  rw [evO_congr (x := lo) fun y hy => h y (by simp at hy ⊢; simp [hy]), evO_congr (x := hi) fun y hy => h y (by simp at hy ⊢; simp [hy]),
   evO_congr (x := mx) fun y hy => h y (by simp at hy ⊢; simp [hy]), h x (by simp)]
 case next it isS =>
  cases isS <;> simp only [aop]
  rw [h it (by simp)]
 case call c =>
  obtain ⟨callee, args, argTypes⟩ := c
  simp only [Call.operands] at h
  rw [evL_congr (xs := args.toList) fun x hx => h x (by simp at hx ⊢; exact .inr hx)]
 all_goals (first | rfl | (simp_all; done))
def only (op : Op) (ev : Ev) : Ev := fun x => if op.operands.toList.any (sameX x) then ev x else none
where
 sameX (x y : Operand) : Bool :=
  match x, y with
  | .tmp a, .tmp b => a == b
  | .tmp _, _ => false
  | _, _ => true
theorem only_mem {op : Op} {ev : Ev} {x : Operand} (h : x ∈ op.operands.toList) : ev x = only op ev x := by
 unfold only
 rw [if_pos]
 rw [List.any_eq_true]
 exact ⟨x, h, by cases x <;> simp [only.sameX]⟩
theorem wp_aop {ρ : Env} {L : Look} {next : Nat} {o : Oper} {v : AV} {δ : Delta} {a : Act} {Q : Exit → Act → World → Prop} {K : Act → World → Prop}
  (hr : HR P ι w B L) (hregs : ∀ t, Operand.tmp t ∈ o.op.operands.toList → ∀ v, ρ.get t = some v → ∃ u, a.tmps[t]? = some u ∧ V ι v u)
  (h : aop P (evalA ρ) L next o.op = some (v, δ)) (hnf : (∃ ob, δ = .new ob) → L next = none ∧ ∀ g, ι next g = none)
  (hk : ∀ ι' w' u, V ι' v u → Step P ι w B L ι' w' (upd L next δ) → (∀ b g l, ι' b g = some l → ι b g = some l ∨ δ.touches next b) → K (a.put o.dst u) w') :
  o.wpIn (FR fr) 0 P a w K Q := by
 rw [aop_ev (ev' := only o.op (evalA ρ)) fun x hx => only_mem hx] at h
 have he : ∀ x v, only o.op (evalA ρ) x = some v → V ι v (a.eval x) := by
  intro x v hx
  unfold only at hx
  split at hx
  · rename_i hany
    cases x with
    | tmp t =>
     rw [List.any_eq_true] at hany
     obtain ⟨y, hy, hxy⟩ := hany
     cases y with
     | tmp t' =>
      simp [only.sameX] at hxy
      subst hxy
      obtain ⟨u, h1, h2⟩ := hregs t hy v hx
      have : a.tmps.getD t undef = u := by simp [Array.getD_eq_getD_getElem?, h1]
      simp only [Act.eval, this]
      exact h2
     | _ => simp [only.sameX] at hxy
    | const c => exact const_V hx ι
    | func f => simp [evalA] at hx; subst hx; simp [V, Va, Vc, L2, Act.eval]
    | global g => simp [evalA] at hx
  · simp at hx
 obtain ⟨ι', w', u, hrun, hv, hst, hla⟩ := ok_aop (L := L) hr he (o := o) h hnf
 refine wpIn_op (fun c hc => by rw [hc] at h; simp [aop] at h) ?_
 rcases hrun with hrun | ⟨hrun, rfl⟩
 · rw [hrun]; exact hk ι' w' u hv hst hla
 · rw [hrun]; exact hk ι' w' _ hv hst hla
theorem aop_set {ev : Ev} {L : Look} {next : Nat} {op : Op} {v : AV} {c : Nat} {ob : AObj} (h : aop P ev L next op = some (v, .set c ob)) : c ∈ areads ev op ∧ ∃ x, L c = some x := by
 cases op <;> simp only [aop] at h
 case store t a x =>
  split at h
  · rename_i p y hp hy
    simp only [areads, hp]
    cases hl : astore P L t p y with
    | none => simp [hl] at h
    | some d =>
     simp [hl] at h
     obtain ⟨_, rfl⟩ := h
     unfold astore at hl
     split at hl
     · split at hl
       · rename_i hL
         split at hl
         · simp at hl
           obtain ⟨rfl, _⟩ := hl
           exact ⟨by simp [blkOf], _, hL⟩
         · simp at hl
       · simp at hl
     · simp at hl
  · simp at h
 case convert s d x =>
  split at h
  · rename_i a ha
    simp only [areads, ha]
    unfold aconv at h
    split at h
    · simp at h
    · simp at h
    · simp at h
    · split at h <;> simp at h
    · split at h
      · rename_i hL
        split at h
        · simp at h
          obtain ⟨_, rfl, _⟩ := h
          exact ⟨by simp [blkOf], _, hL⟩
        · simp at h
      · simp at h
    · split at h <;> simp at h
    · split at h
      · split at h
        · rename_i cs _
          cases hb : cellBytes cs <;> simp [hb] at h
        · simp at h
      · simp at h
    · simp at h
  · simp at h
 case mapUpdate t m k x =>
  split at h
  · rename_i m' k' x' hm hk hx
    simp only [areads, hm]
    split at h
    · exact mapUpdate_set h
    · simp at h
  · simp at h
 case insert t m k x =>
  split at h
  · rename_i m' k' x' hm hk hx
    simp only [areads, hm]
    split at h
    · exact mapUpdate_set h
    · simp at h
  · simp at h
 case next it isS =>
  cases isS <;> simp only [aop] at h
  · simp at h
  · split at h
    · rename_i a ha
      simp only [areads, ha]
      unfold aiter at h
      split at h
      · split at h
        · rename_i hL
          split at h
          · split at h
            · simp at h
              obtain ⟨_, rfl, _⟩ := h
              exact ⟨by simp [blkOf], _, hL⟩
            · simp at h
          · simp at h
        · simp at h
      · simp at h
    · simp at h
 case call cl =>
  obtain ⟨callee, args, argTypes⟩ := cl
  simp only at h
  split at h
  · split at h
    · rename_i t x _ _
      cases hb : alen P L t x <;> simp [hb] at h
    · simp at h
  · split at h
    · rename_i t u s x ht hx
      simp only [areads, hx]
      unfold aappend at h
      have main : ∀ e, (if 0 < tsz P e then match srcCells P L e x with
        | some (n, src) => aappendE P L next e n src s
        | none => none else none) = some (v, .set c ob) → c ∈ blkOf (some s) ++ blkOf (some x) ∧ ∃ x, L c = some x := by
       intro e h
       split at h
       · split at h
         · unfold aappendE at h
           split at h
           · split at h
             · simp at h
             · split at h <;> simp at h
           · split at h
             · simp at h
             · split at h
               · rename_i hL
                 split at h
                 · split at h
                   · split at h
                     · simp at h
                       obtain ⟨_, rfl, _⟩ := h
                       exact ⟨by simp [blkOf], _, hL⟩
                     · simp at h
                   · split at h
                     · simp at h
                       obtain ⟨_, rfl, _⟩ := h
                       exact ⟨by simp [blkOf], _, hL⟩
                     · simp at h
                 · simp at h
               · simp at h
           · simp at h
         · simp at h
       · simp at h
      split at h
      · exact main _ h
      · exact main _ h
      · simp at h
    · simp at h
  · split at h
    · rename_i t u s x ht hx
      simp only [areads, hx]
      unfold acopy at h
      split at h
      · split at h
        · rename_i hL
          split at h
          · simp at h
            obtain ⟨_, rfl, _⟩ := h
            exact ⟨by simp [blkOf], _, hL⟩
          · simp at h
        · simp at h
      · simp at h
    · simp at h
  · split at h
    · rename_i t u m k ht hx
      simp only [areads, hx]
      cases hl : adelete P L t m k with
      | none => simp [hl] at h
      | some d =>
       simp [hl] at h
       obtain ⟨_, rfl⟩ := h
       unfold adelete at hl
       split at hl
       · split at hl
         · rename_i hL
           split at hl
           · simp at hl
             obtain ⟨rfl, _⟩ := hl
             exact ⟨by simp [blkOf], _, hL⟩
           · simp at hl
         · simp at hl
       · simp at hl
    · simp at h
  · split at h
    · rename_i vs _
      cases hb : amin vs <;> simp [hb] at h
    · simp at h
  · split at h
    · rename_i vs _
      cases hb : amax vs <;> simp [hb] at h
    · simp at h
  · simp at h
 case buildSlice t n parts =>
  split at h
  · unfold abuildSlice at h
    repeat' (split at h)
    all_goals simp at h
  · simp at h
 case makeSlice t l c =>
  split at h
  · unfold amakeSlice at h
    repeat' (split at h)
    all_goals simp at h
  · simp at h
 case makeFunc f first caps =>
  unfold aboundF at h
  repeat' (split at h)
  all_goals simp at h
 all_goals ((repeat' (split at h)) <;> simp at h)
where
 mapUpdate_set {L : Look} {t : TypeId} {m k x v : AV} {c : Nat} {ob : AObj} (h : (amapUpdate P L t m k x).map (fun d => (AV.tup [], d)) = some (v, Delta.set c ob)) :
   c ∈ blkOf (some m) ∧ ∃ x, L c = some x := by
  cases hl : amapUpdate P L t m k x with
  | none => simp [hl] at h
  | some d =>
   simp [hl] at h
   obtain ⟨_, rfl⟩ := h
   unfold amapUpdate at hl
   split at hl
   · split at hl
     · rename_i hL
       split at hl
       · simp at hl
         obtain ⟨rfl, _⟩ := hl
         exact ⟨by simp [blkOf], _, hL⟩
       · simp at hl
     · simp at hl
   · simp at hl
theorem astep_length {F : CallF} (hF : Grows F) {op : Op} {s : St} {v : AV} {h' : Heap} (h : astep P F op s = some (v, h')) : s.h.length ≤ h'.length := by
 unfold astep at h
 split at h
 · rename_i g args hc
   exact hF g args s.h v h' h
 · simp at h
 · split at h
   · simp at h
     obtain ⟨rfl, rfl⟩ := h
     exact apply_length _ _
   · simp at h
theorem wp_astep {F : CallF} (hF : CallsOK P C F) (hC : C B fr) {o : Oper} {s : St} {v : AV} {h' : Heap} (h : astep P F o.op s = some (v, h')) {a : Act} {Q : Exit → Act → World → Prop} {K : Act → World → Prop}
  (hreg : Regs dl ι s.ρ a N) (hr : HR P ι w B (look s.h)) (hfr : Fresh ι s.h.length h'.length)
  (hk : ∀ ι' w' u, V ι' v u → Step P ι w B (look s.h) ι' w' (look h') → Lays ι ι' h'.length → K (a.put o.dst u) w') : o.wpIn (FR fr) 0 P a w K Q := by
 unfold astep at h
 split at h
 · rename_i g args hc
   rcases hF g args s.h v h' h with ⟨⟨fn, h1, h2, h3, h4⟩, hlen, hcall⟩ | ⟨hlen, l, x, rfl, rfl, hround⟩
   case inr =>
    obtain ⟨u, hv, hrun⟩ := run_round (P := P) (w := w) hc fun x _ v hv => hreg.eval x v hv
    obtain ⟨rec, hrec, hps, hR⟩ := hround ι w B fr u hC hr hfr hv
    refine wpIn_op (fun c hd => by rw [hd] at hc; simp [callOf] at hc) ?_
    rw [hrun rec hrec hps, Oper.uponIn_round]
    refine ⟨by simp, RoundIn.mono hR ?_⟩
    rintro e w' ⟨ι', z, rfl, hz, hst, hla⟩
    exact hk ι' w' z hz hst hla
   obtain ⟨cargs, hrun, hargs⟩ := run_call (P := P) (w := w) hc (fun x _ v hv => hreg.eval x v hv) h1 h2 h3 h4
   refine wpIn_op (fun c hd => by rw [hd] at hc; simp [callOf] at hc) ?_
   rw [hrun]
   refine ⟨by simp, callsIn_wide.2 ?_⟩
   refine (hcall ι w B cargs hr hfr hargs).mono ?_
   rintro e w' ⟨ι', u, rfl, hv, hst, hla⟩
   exact hk ι' w' u hv hst hla
 · simp at h
 · split at h
   · rename_i v' d hop
     simp at h
     obtain ⟨rfl, rfl⟩ := h
     refine wp_aop hr (fun t _ => hreg.get t) hop ?_ ?_
     · rintro ⟨ob, rfl⟩
       exact ⟨by simp [look], fun g => hfr _ g (Nat.le_refl _) (by simp [Heap.apply])⟩
     · intro ι' w' u hv hst hla
       rw [look_apply] at hst
       refine hk ι' w' u hv hst fun b g l hl => ?_
       rcases hla b g l hl with h | h
       · exact .inl h
       · cases d with
         | no => exact h.elim
         | new ob => simp only [Delta.touches] at h; subst h; exact .inr (by simp [Heap.apply])
         | set c ob =>
          simp only [Delta.touches] at h
          subst h
          obtain ⟨_, x, hx⟩ := aop_set hop
          have hb : b < s.h.length := (List.getElem?_eq_some_iff.1 hx).1
          exact .inr (by simpa [Heap.apply] using hb)
   · simp at h
theorem wanted_of {ρ : Env} {ops : Array Oper} {o : Oper} {b : Bool} {tmps : Array Value} (h : awanted ρ (slim ops o) = some b)
  (hregs : ∀ j w t, o.guard = some (j, w) → (ops[j]?).bind (·.dst) = some t → ∀ v, ρ.get t = some v → ∃ u, tmps[t]? = some u ∧ V ι v u) : Region.wanted o (yielded ops tmps) = b := by
 unfold awanted slim at h
 cases hg : o.guard with
 | none => simp [hg] at h; simp [Region.wanted, hg, h]
 | some jw =>
  obtain ⟨j, want⟩ := jw
  simp only [hg, Option.map_some] at h
  cases ht : (ops[j]?).bind (·.dst) with
  | none => simp [ht] at h
  | some t =>
   simp only [ht] at h
   split at h
   · rename_i c hc
     obtain ⟨u, h1, h2⟩ := hregs j want t hg ht _ hc
     obtain rfl := h2.bool_inv
     simp at h
     simp [Region.wanted, hg, yielded, ht, h1, ← h]
   · rename_i hc
     obtain ⟨u, h1, h2⟩ := hregs j want t hg ht _ hc
     obtain ⟨vs, rfl, hvs⟩ := h2.tup_inv
     simp at h
     simp [Region.wanted, hg, yielded, ht, h1, ← h]
   · simp at h
theorem aops_length {F : CallF} (hF : Grows F) : ∀ {os : List SOp} {s s' : St}, aops P F os s = some s' → s.h.length ≤ s'.h.length
 | [], s, s', h => by simp [aops] at h; subst h; exact Nat.le_refl _
 | o :: os, s, s', h => by
  unfold aops at h
  split at h
  · split at h
    · rename_i v h1 hst
      exact Nat.le_trans (astep_length hF hst) (aops_length hF h)
    · simp at h
  · have := aops_length hF h
    exact this
  · simp at h
theorem Fresh.sub {n m k : Nat} (h : Fresh ι n m) (hk : k ≤ m) : Fresh ι n k := fun b g h1 h2 => h b g h1 (Nat.lt_of_lt_of_le h2 hk)
theorem Fresh.next {n m k : Nat} (h : Fresh ι n m) (hn : n ≤ k) (hl : Lays ι ι' k) : Fresh ι' k m := by
 intro b g h1 h2
 cases he : ι' b g with
 | none => rfl
 | some l =>
  rcases hl b g l he with h3 | h3
  · rw [h b g (Nat.le_trans hn h1) h2] at h3; cases h3
  · omega
theorem Lays.trans {ι'' : Inj} {n m : Nat} (h : Lays ι ι' n) (h' : Lays ι' ι'' m) (hn : n ≤ m) : Lays ι ι'' m := by
 intro b g l hl
 rcases h' b g l hl with h1 | h1
 · rcases h b g l h1 with h2 | h2
   · exact .inl h2
   · exact .inr (by omega)
 · exact .inr h1
theorem Lays.refl {n : Nat} : Lays ι ι n := fun _ _ _ h => .inl h
theorem Fresh.none (n : Nat) : Fresh ι n n := fun b g h1 h2 => by omega
theorem wp_aops {F : CallF} (hF : CallsOK P C F) (hC : C B fr) {ops : Array Oper} {Q : Exit → Act → World → Prop} (hd : ∀ (i : Nat) (o : Oper) (t : Nat), ops[i]? = some o → o.dst = some t → t < N) :
  ∀ (os : List Oper) (k : Nat) (ι : Inj) (w : World) (a : Act) (s s' : St), (∀ i o, os[i]? = some o → ops[k + i]? = some o) →
   aops P F (slimL ops os) s = some s' → Regs dl ι s.ρ a N → HR P ι w B (look s.h) → Fresh ι s.h.length s'.h.length →
   (∀ ι' a' w', Regs dl ι' s'.ρ a' N → Step P ι w B (look s.h) ι' w' (look s'.h) → Lays ι ι' s'.h.length → Q .normal a' w') →
   wpOpsIn (FR fr) 0 P ops Q (List.range' k os.length) a w
 | [], k, ι, w, a, s, s', hos, h, hreg, hr, hfr, hk => by
  simp [slimL, aops] at h; subst h
  exact hk ι a w hreg (.refl hr) .refl
 | o :: os, k, ι, w, a, s, s', hos, h, hreg, hr, hfr, hk => by
  have ho : ops[k]? = some o := by simpa using hos 0 o rfl
  have hos' : ∀ i o', os[i]? = some o' → ops[k + 1 + i]? = some o' := fun i o' hi => by
   have := hos (i + 1) o' (by simpa using hi)
   rwa [show k + (i + 1) = k + 1 + i by omega] at this
  simp only [slimL, aops] at h
  simp only [List.length_cons, List.range'_succ, wpOpsIn, ho]
  have hsd : (slim ops o).dst = o.dst := rfl
  have hso : (slim ops o).op = o.op := rfl
  split at h
  · rename_i hw
    rw [wanted_of hw fun _ _ t _ _ => hreg.get t, if_pos rfl]
    split at h
    · rename_i v h1 hst
      rw [hso] at hst
      have hl1 := astep_length hF.grows hst
      have hl2 := aops_length hF.grows h
      simp only at hl2
      refine wp_astep hF hC hst hreg hr (hfr.sub hl2) ?_
      intro ι' w' u hv hstep hla
      refine wp_aops hF hC hd os (k + 1) ι' w' _ ⟨s.ρ.put o.dst v, h1⟩ s' hos' h ((hreg.mono hstep.ext).put (fun t ht => hd k o t ho ht) hv) hstep.hr (hfr.next hl1 hla) ?_
      intro ι'' a' w'' hreg' hstep' hla'
      exact hk ι'' a' w'' hreg' (hstep.trans hstep') (hla.trans hla' hl2)
    · simp at h
  · rename_i hw
    rw [wanted_of hw fun _ _ t _ _ => hreg.get t, if_neg (by simp)]
    exact ⟨fun _ _ => trivial, wp_aops hF hC hd os (k + 1) ι w _ ⟨s.ρ.put o.dst (.tup []), s.h⟩ s' hos' h (hreg.put (fun t ht => hd k o t ho ht) (V.undef ι)) hr hfr hk⟩
  · simp at h
end Go.AM
namespace Go.AM
open Go
set_option linter.unusedVariables false
set_option linter.unusedSimpArgs false
variable {P : Program} {ι ι' : Inj} {w w' : World} {B : Base} {N : Nat}
theorem oAA_eq {a b : Option AA} (h : oAA a b = true) : a = b := by
 cases a <;> cases b <;> simp [oAA, AA.beq] at h ⊢
 rename_i x y
 cases x; cases y
 simp at h ⊢
 exact ⟨h.1.1, h.1.2, h.2⟩
theorem oAA_self {a : Option AA} : oAA a a = true := by
 cases a <;> simp [oAA, AA.beq]
mutual
theorem AV.beq_eq : ∀ {a b : AV}, a.beq b = true → a = b
 | .bool a, b, h => by cases b <;> simp [AV.beq] at h ⊢; exact h
 | .int k a, b, h => by cases b <;> simp [AV.beq] at h ⊢; exact h
 | .str a, b, h => by cases b <;> simp [AV.beq] at h ⊢; exact h
 | .ptr a, b, h => by cases b <;> simp [AV.beq] at h ⊢; exact oAA_eq h
 | .sl a n c, b, h => by cases b <;> simp [AV.beq] at h ⊢; exact ⟨oAA_eq h.1.1, h.1.2, h.2⟩
 | .map a, b, h => by cases b <;> simp [AV.beq] at h ⊢; exact h
 | .fn f a, b, h => by cases b <;> simp [AV.beq] at h ⊢; exact ⟨h.1, AV.beqL_eq h.2⟩
 | .bm f a, b, h => by cases b <;> simp [AV.beq] at h ⊢; exact ⟨h.1, AV.beq_eq h.2⟩
 | .nilf, b, h => by cases b <;> simp [AV.beq] at h ⊢
 | .ifc t a, b, h => by cases b <;> simp [AV.beq] at h ⊢; exact ⟨h.1, AV.beq_eq h.2⟩
 | .nili, b, h => by cases b <;> simp [AV.beq] at h ⊢
 | .agg a, b, h => by cases b <;> simp [AV.beq] at h ⊢; exact AV.beqL_eq h
 | .tup a, b, h => by cases b <;> simp [AV.beq] at h ⊢; exact AV.beqL_eq h
theorem AV.beqL_eq : ∀ {a b : List AV}, AV.beqL a b = true → a = b
 | [], [], _ => rfl
 | x :: xs, y :: ys, h => by
  simp [AV.beqL] at h
  rw [AV.beq_eq h.1, AV.beqL_eq h.2]
 | [], _ :: _, h => by simp [AV.beqL] at h
 | _ :: _, [], h => by simp [AV.beqL] at h
end
mutual
theorem AV.beq_self : ∀ (a : AV), a.beq a = true
 | .bool a => by simp [AV.beq]
 | .int k a => by simp [AV.beq]
 | .str a => by simp [AV.beq]
 | .ptr a => by simp [AV.beq, oAA_self]
 | .sl a n c => by simp [AV.beq, oAA_self]
 | .map a => by simp [AV.beq]
 | .fn f a => by simp [AV.beq, AV.beqL_self a]
 | .bm f a => by simp [AV.beq, AV.beq_self a]
 | .nilf => by simp [AV.beq]
 | .ifc t a => by simp [AV.beq, AV.beq_self a]
 | .nili => by simp [AV.beq]
 | .agg a => by simp [AV.beq, AV.beqL_self a]
 | .tup a => by simp [AV.beq, AV.beqL_self a]
theorem AV.beqL_self : ∀ (a : List AV), AV.beqL a a = true
 | [] => by simp [AV.beqL]
 | x :: xs => by simp [AV.beqL, AV.beq_self x, AV.beqL_self xs]
end
theorem beqE_eq : ∀ {a b : List (AV × AV × Nat)}, beqE a b = true → a = b
 | [], [], _ => rfl
 | (a, b, n) :: xs, (c, d, m) :: ys, h => by
  simp [beqE] at h
  rw [AV.beq_eq h.1.1.1, AV.beq_eq h.1.1.2, h.1.2, beqE_eq h.2]
 | [], _ :: _, h => by simp [beqE] at h
 | _ :: _, [], h => by simp [beqE] at h
theorem beqE_self : ∀ (a : List (AV × AV × Nat)), beqE a a = true
 | [] => rfl
 | (a, b, n) :: xs => by simp [beqE, AV.beq_self, beqE_self xs]
theorem AObj.beq_eq {a b : AObj} (h : a.beq b = true) : a = b := by
 unfold AObj.beq at h
 split at h
 · simp at h; rw [AV.beqL_eq h.1.1, h.1.2, h.2]
 · rw [AV.beqL_eq h]
 · simp at h; rw [h.1.1, beqE_eq h.1.2, h.2]
 · simp at h; rw [h.1, h.2]
 · simp at h
theorem AObj.beq_self (a : AObj) : a.beq a = true := by
 cases a <;> simp [AObj.beq, AV.beqL_self, beqE_self]
theorem sameAt_of {h h' : Heap} {b : Nat} (hb : b < h.length) (he : h'[b]? = h[b]?) : sameAt h h' b = true := by
 unfold sameAt
 rw [he, List.getElem?_eq_getElem hb]
 exact AObj.beq_self _
theorem sameAt_eq {h h' : Heap} {b : Nat} (hs : sameAt h h' b = true) : h[b]? = h'[b]? := by
 unfold sameAt at hs
 split at hs
 · rename_i x y hx hy
   rw [hx, hy, AObj.beq_eq hs]
 · simp at hs
theorem astepT_step {F : CallF} {op : Op} {s : St} {v : AV} {h : Heap} {t : Touch} (hs : astepT P F op s = some (v, h, t)) :
  astep P F op s = some (v, h) ∧ ∀ b, t.same b = true → s.h[b]? = h[b]? := by
 unfold astepT at hs
 unfold astep
 cases hc : callOf (evalA s.ρ) op with
 | some x =>
  cases x with
  | none => simp [hc] at hs
  | some ga =>
   obtain ⟨g, args⟩ := ga
   simp only [hc] at hs ⊢
   split at hs
   · split at hs
     · rename_i hF
       simp at hs
       obtain ⟨rfl, rfl, rfl⟩ := hs
       exact ⟨hF, fun b hb => sameAt_eq hb⟩
     · simp at hs
   · simp at hs
 | none =>
  simp only [hc] at hs ⊢
  split at hs
  · rename_i v' d hop
    simp at hs
    obtain ⟨rfl, rfl, rfl⟩ := hs
    refine ⟨rfl, fun b hb => ?_⟩
    cases d with
    | no => rfl
    | new o =>
     simp [touchD, Touch.same] at hb
     simp only [Heap.apply, List.getElem?_append]
     split
     · rfl
     · rw [List.getElem?_eq_none (by omega)]
       rw [List.getElem?_eq_none (by simp; omega)]
    | set c o =>
     simp [touchD, Touch.same] at hb
     simp [Heap.apply, List.getElem?_set, Ne.symm hb]
  · simp at hs
inductive Cl where
 | pure | read | alloc | eff | call
 deriving DecidableEq
def clOf (P : Program) : Op → Cl
 | .alloc _ | .box .. | .buildSlice .. | .makeMap .. | .makeSlice .. | .range .. => .alloc
 | .load .. | .lookup .. => .read
 | .convert s d _ => match tk P s, tk P d with
  | .slice _, .str => .read
  | .str, .slice _ => .alloc
  | .slice _, _ => .eff
  | _, _ => .pure
 | .move _ | .assign _ | .pick .. | .build .. | .nilCheck _ | .binOp .. | .unOp .. | .makeInterface .. | .makeFunc .. | .fieldAddr .. | .field .. | .indexAddr .. | .index .. | .extract .. => .pure
 | .slice t .. => match tk P t with
  | .arr _ _ => .read
  | _ => .pure
 | .call c => match c.callee with
  | .builtin .len => .read
  | .builtin .min | .builtin .max => .pure
  | .value _ => .call
  | _ => .eff
 | _ => .eff
def Cl.still : Cl → Bool
 | .pure | .read => true
 | _ => false
def Cl.strong : Cl → Bool
 | .eff | .call => true
 | _ => false
theorem aconv_cl {L : Look} {next : Nat} {s d : TypeId} {x : AV} {v : AV} {δ : Delta} (h : aconv P L next s d x = some (v, δ)) :
  ((∀ e, tk P s ≠ .slice e) ∧ (∀ e, tk P d ≠ .slice e) → δ = .no ∧ blkOf (some x) = []) ∧ (tk P d = .str → δ = .no) ∧
  (∀ e, tk P s = .str → tk P d = .slice e → (∃ o, δ = .new o) ∧ blkOf (some x) = []) ∧ (∀ e, tk P d = .slice e → tk P s = .str ∨ ∃ e, tk P s = .slice e) := by
 unfold aconv at h
 split at h
 · rename_i h1 h2
   simp at h; obtain ⟨rfl, rfl⟩ := h
   exact ⟨fun _ => ⟨rfl, rfl⟩, fun _ => rfl, fun e hs => by simp [h1] at hs, fun e hs => by simp [h2] at hs⟩
 · rename_i h1 h2
   simp at h; obtain ⟨rfl, rfl⟩ := h
   exact ⟨fun _ => ⟨rfl, rfl⟩, fun _ => rfl, fun e hs => by simp [h1] at hs, fun e hs => by simp [h2] at hs⟩
 · rename_i h1 h2
   simp at h; obtain ⟨rfl, rfl⟩ := h
   exact ⟨fun _ => ⟨rfl, rfl⟩, fun _ => rfl, fun e hs hd => by simp [h2] at hd, fun e hs => by simp [h2] at hs⟩
 · rename_i h1 h2
   split at h
   · simp at h; obtain ⟨rfl, rfl⟩ := h
     exact ⟨fun hh => absurd h2 (hh.2 _), fun hd => by simp [h2] at hd, fun e _ _ => ⟨⟨_, rfl⟩, rfl⟩, fun e hs => .inl h1⟩
   · simp at h
 · rename_i h1 h2
   split at h
   · split at h
     · simp at h; obtain ⟨rfl, rfl⟩ := h
       exact ⟨fun hh => absurd h1 (hh.1 _), fun hd => by simp [h2] at hd, fun e hs => by simp [h1] at hs, fun e _ => .inr ⟨_, h1⟩⟩
     · simp at h
   · simp at h
 · rename_i h1 h2
   split at h
   · simp at h; obtain ⟨rfl, rfl⟩ := h
     exact ⟨fun hh => absurd h1 (hh.1 _), fun hd => rfl, fun e hs => by simp [h1] at hs, fun e hs => by simp [h2] at hs⟩
   · simp at h
 · rename_i h1 h2
   split at h
   · split at h
     · rename_i cs _
       cases hb : cellBytes cs <;> simp [hb] at h
       obtain ⟨rfl, rfl⟩ := h
       exact ⟨fun hh => absurd h1 (hh.1 _), fun hd => rfl, fun e hs => by simp [h1] at hs, fun e hs => by simp [h2] at hs⟩
     · simp at h
   · simp at h
 · simp at h
theorem aop_cl {ev : Ev} {L : Look} {next : Nat} {op : Op} {v : AV} {δ : Delta} (h : aop P ev L next op = some (v, δ)) :
  match clOf P op with
  | .pure => δ = .no ∧ areads ev op = []
  | .read => δ = .no
  | .alloc => (∃ o, δ = .new o) ∧ areads ev op = []
  | .eff => True
  | .call => False := by
 have opt : ∀ {α : Type} {f : α → AV} {x : Option α} {v : AV} {δ : Delta}, x.map (fun a => (f a, Delta.no)) = some (v, δ) → δ = .no := by
  intro α f x v δ h
  cases x <;> simp at h
  exact h.2.symm
 cases op <;> simp only [aop] at h <;> simp only [clOf, areads]
 case convert s d x =>
  split at h
  · rename_i a ha
    obtain ⟨h1, h2, h3, h4⟩ := aconv_cl h
    simp only [ha]
    cases hs : tk P s <;> cases hd : tk P d <;> simp only [] <;> first
     | trivial
     | exact h2 hd
     | exact h3 _ hs hd
     | (simp [hs, hd] at h4; done)
     | exact h1 ⟨fun e he => by simp [hs] at he, fun e he => by simp [hd] at he⟩
  · simp at h
 case call c =>
  obtain ⟨callee, args, argTypes⟩ := c
  cases callee with
  | value f => simp at h
  | invoke r m => trivial
  | builtin b =>
   cases b <;> simp only [] at h ⊢ <;> try trivial
   · split at h
     · exact opt h
     · simp at h
   all_goals
    split at h
    · exact ⟨opt h, trivial⟩
    · simp at h
 case slice t x lo hi mx =>
  split at h
  · rename_i x' lo' hi' mx' hx _ _ _
    have none : (∀ n e, tk P t ≠ .arr n e) → (match ev x with | some (.ptr (some a)) => [a.b] | _ => []) = [] := by
     intro hs
     rw [hx]
     cases x' <;> try rfl
     rename_i a
     cases a with
     | none => rfl
     | some a =>
      cases mx' with
      | some _ => simp [aslice] at h
      | none => cases ht : tk P t <;> simp [aslice, ht] at h; exact absurd ht (hs _ _)
    cases hs : tk P t <;> simp only [] <;> first
     | exact opt h
     | exact ⟨opt h, none fun n e he => by rw [hs] at he; cases he⟩
  · simp at h
 case buildSlice t n parts =>
  split at h
  · unfold abuildSlice at h
    repeat' (split at h)
    all_goals simp at h
    exact ⟨⟨_, h.2.symm⟩, trivial⟩
  · simp at h
 case makeSlice t l c =>
  split at h
  · unfold amakeSlice at h
    repeat' (split at h)
    all_goals simp at h
    exact ⟨⟨_, h.2.symm⟩, trivial⟩
  · simp at h
 case makeFunc f first caps =>
  unfold aboundF at h
  repeat' (split at h)
  all_goals simp at h
  all_goals first | exact h.2.symm | exact ⟨h.2.symm, trivial⟩
 all_goals first
  | trivial
  | ((repeat' (split at h)) <;> first | (simp at h; done) | exact opt h | exact ⟨opt h, trivial⟩ | exact ⟨by simp at h; exact h.2.symm, trivial⟩ | exact ⟨⟨_, by simp at h; exact h.2.symm⟩, trivial⟩)
def isStore : Op → Bool
 | .store .. => true
 | _ => false
theorem store_cl {op : Op} (h : isStore op = true) : clOf P op = .eff := by
 cases op <;> simp [isStore] at h
 rfl
inductive Reach (ops : Array Oper) : Nat → Nat → Prop
 | one {i : Nat} {o : Oper} {e : Edge} : ops[i]? = some o → e ∈ o.after → Region.binds .any e = true → Reach ops i e.on
 | more {i j : Nat} {o : Oper} {e : Edge} : ops[i]? = some o → e ∈ o.after → Region.binds .any e = true → Reach ops e.on j → Reach ops i j
structure Loose (P : Program) (ops : Array Oper) (pairs : List (Nat × Nat)) (i j : Nat) (o o' : Oper) : Prop where
 slot : ∀ t, o'.dst = some t → t ∉ o.looksAt ops
 slot' : ∀ t, o.dst = some t → t ∉ o'.looksAt ops
 strong : (clOf P o.op).strong = true → (clOf P o'.op).still = true ∨ (isStore o.op = true ∧ clOf P o'.op = .alloc)
 reads : clOf P o.op = .read → (clOf P o'.op).still = false → (i, j) ∈ pairs
 reads' : clOf P o'.op = .read → (clOf P o.op).strong = true → (j, i) ∈ pairs
structure OKd (P : Program) (ops : Array Oper) (pairs : List (Nat × Nat)) (N : Nat) : Prop where
 edge : ∀ (i : Nat) (o : Oper), ops[i]? = some o → ∀ e ∈ o.after, Region.binds .any e = true → e.on < i
 dst : ∀ (i : Nat) (o : Oper) (t : Nat), ops[i]? = some o → o.dst = some t → t < N
 uniq : ∀ (i j : Nat) (o o' : Oper) (t : Nat), ops[i]? = some o → ops[j]? = some o' → o.dst = some t → o'.dst = some t → i = j
 ord : ∀ (i j : Nat) (o o' : Oper), j < i → ops[i]? = some o → ops[j]? = some o' → Reach ops i j ∨ Loose P ops pairs i j o o'
structure Tr (P : Program) (F : CallF) (ops : Array Oper) (pairs : List (Nat × Nat)) (s s' : St) where
 ρ : Nat → Env
 h : Nat → Heap
 v : Nat → AV
 ran : Nat → Bool
 ρ0 : ρ 0 = s.ρ
 h0 : h 0 = s.h
 last : s' = ⟨ρ ops.size, h ops.size⟩
 want : ∀ (i : Nat) (o : Oper), ops[i]? = some o → awanted (ρ i) (slim ops o) = some (ran i)
 next : ∀ (i : Nat) (o : Oper), ops[i]? = some o → ρ (i + 1) = (ρ i).put o.dst (v i)
 run : ∀ (i : Nat) (o : Oper), ops[i]? = some o → ran i = true → astep P F o.op ⟨ρ i, h i⟩ = some (v i, h (i + 1))
 skip : ∀ (i : Nat) (o : Oper), ops[i]? = some o → ran i = false → v i = .tup [] ∧ h (i + 1) = h i
 pair : ∀ (r i : Nat) (o : Oper), (r, i) ∈ pairs → r ≠ i → ops[r]? = some o → i < ops.size → ran r = true → ran i = true → ∀ b ∈ areads (evalA (ρ r)) o.op, (h i)[b]? = (h (i + 1))[b]?
theorem okPairs_spec {j : Nat} {R : List Nat} {t : Touch} {g : Log} : ∀ {ps : List (Nat × Nat)}, okPairs j R t g ps = true → ∀ p ∈ ps,
  (p.1 = j → ∀ t', alook p.2 g.turns = some t' → ∀ b ∈ R, t'.same b = true) ∧ (p.1 ≠ j → p.2 = j → ∀ R', alook p.1 g.reads = some R' → ∀ b ∈ R', t.same b = true)
 | [], _, p, hp => by simp at hp
 | (r, i) :: ps, h, p, hp => by
  simp only [okPairs, Bool.and_eq_true] at h
  rcases List.mem_cons.1 hp with rfl | hp
  · refine ⟨fun hr t' ht b hb => ?_, fun hr hi R' hR b hb => ?_⟩
    · simp only at hr ht
      have h1 := h.1
      rw [if_pos hr, ht] at h1
      exact List.all_eq_true.1 h1 b hb
    · simp only at hr hi hR
      have h1 := h.1
      rw [if_neg hr, if_pos hi, hR] at h1
      exact List.all_eq_true.1 h1 b hb
  · exact okPairs_spec h.2 p hp
theorem aopsT_trace {F : CallF} {ops : Array Oper} {pairs : List (Nat × Nat)} : ∀ (os : List Oper) (k : Nat) (s s' : St) (g : Log), k + os.length = ops.size → (∀ i o, os[i]? = some o → ops[k + i]? = some o) →
  aopsT P F pairs k (slimL ops os) s g = some s' →
  ∃ (ρ : Nat → Env) (h : Nat → Heap) (v : Nat → AV) (ran : Nat → Bool), ρ k = s.ρ ∧ h k = s.h ∧ s' = ⟨ρ ops.size, h ops.size⟩ ∧
   (∀ (i : Nat) (o : Oper), k ≤ i → ops[i]? = some o → awanted (ρ i) (slim ops o) = some (ran i) ∧ ρ (i + 1) = (ρ i).put o.dst (v i) ∧
    (ran i = true → astep P F o.op ⟨ρ i, h i⟩ = some (v i, h (i + 1))) ∧ (ran i = false → v i = .tup [] ∧ h (i + 1) = h i)) ∧
   (∀ (r i : Nat) (o : Oper), (r, i) ∈ pairs → r ≠ i → ops[r]? = some o → i < ops.size → k ≤ r → k ≤ i → ran r = true → ran i = true → ∀ b ∈ areads (evalA (ρ r)) o.op, (h i)[b]? = (h (i + 1))[b]?) ∧
   (∀ (r i : Nat) (o : Oper) (t : Touch), (r, i) ∈ pairs → ops[r]? = some o → k ≤ r → i < k → ran r = true → alook i g.turns = some t → ∀ b ∈ areads (evalA (ρ r)) o.op, t.same b = true) ∧
   (∀ (r i : Nat) (R : List Nat), (r, i) ∈ pairs → r < k → k ≤ i → i < ops.size → ran i = true → alook r g.reads = some R → ∀ b ∈ R, (h i)[b]? = (h (i + 1))[b]?)
 | [], k, s, s', g, hk, hos, h => by
  simp [slimL, aopsT] at h
  subst h
  simp at hk
  subst hk
  refine ⟨fun _ => s.ρ, fun _ => s.h, fun _ => .tup [], fun _ => false, rfl, rfl, rfl, ?_, ?_, ?_, ?_⟩
  · intro i o hi ho
    have := (Array.getElem?_eq_some_iff.1 ho).1
    omega
  · intro r i o _ _ ho _ hr
    have := (Array.getElem?_eq_some_iff.1 ho).1
    omega
  · intro r i o t _ ho hr
    have := (Array.getElem?_eq_some_iff.1 ho).1
    omega
  · intro r i R _ _ h1 h2
    omega
 | o :: os, k, s, s', g, hk, hos, h => by
  have ho : ops[k]? = some o := by simpa using hos 0 o rfl
  have hos' : ∀ i o', os[i]? = some o' → ops[k + 1 + i]? = some o' := fun i o' hi => by
   have := hos (i + 1) o' (by simpa using hi)
   rwa [show k + (i + 1) = k + 1 + i by omega] at this
  have hk' : k + 1 + os.length = ops.size := by simp at hk; omega
  have hkn : k < ops.size := by omega
  simp only [slimL, aopsT] at h
  have hsd : (slim ops o).dst = o.dst := rfl
  have hso : (slim ops o).op = o.op := rfl
  split at h
  · rename_i hw
    split at h
    · rename_i v1 h1 t1 hst
      rw [hso] at hst h
      rw [hsd] at h
      obtain ⟨hstep, hsame⟩ := astepT_step hst
      split at h
      · rename_i hok
        have hok := okPairs_spec hok
        obtain ⟨ρ, hh, v, ran, e1, e2, e3, e4, e5, e6, e7⟩ := aopsT_trace os (k + 1) _ s' _ hk' hos' h
        simp only at e1 e2
        have ne : ∀ i, k + 1 ≤ i → i ≠ k := fun i hi => by omega
        refine ⟨fun i => if i = k then s.ρ else ρ i, fun i => if i = k then s.h else hh i, fun i => if i = k then v1 else v i, fun i => if i = k then true else ran i,
         by simp, by simp, by simp only [Nat.ne_of_gt hkn, if_false]; exact e3, ?_, ?_, ?_, ?_⟩
        · intro i o' hi hio
          by_cases hik : i = k
          · subst hik
            rw [ho] at hio; cases hio
            have : i + 1 ≠ i := by omega
            simp only [this, if_true, if_false]
            exact ⟨hw, e1, fun _ => by rw [e2]; exact hstep, fun hc => by simp at hc⟩
          · have h2 : i + 1 ≠ k := by omega
            simp only [hik, h2, if_false]
            exact e4 i o' (by omega) hio
        · intro r i o' hp hne hro hin hr hi
          by_cases hrk : r = k
          · subst hrk
            have hik : i ≠ r := Ne.symm hne
            have h2 : i + 1 ≠ r := by omega
            rw [ho] at hro; cases hro
            simp only [hik, h2, if_true, if_false]
            intro _ hran b hb
            exact e7 r i _ hp (by omega) (by omega) hin hran (by simp [alook]) b hb
          · by_cases hik : i = k
            · subst hik
              have h2 : i + 1 ≠ i := by omega
              simp only [hrk, h2, if_true, if_false]
              intro hran _ b hb
              rw [e2]
              exact hsame b (e6 r i o' t1 hp hro (by omega) (by omega) hran (by simp [alook]) b hb)
            · have h2 : i + 1 ≠ k := by omega
              simp only [hrk, hik, h2, if_false]
              exact e5 r i o' hp hne hro hin (by omega) (by omega)
        · intro r i o' t hp hro hr hi
          by_cases hrk : r = k
          · subst hrk
            rw [ho] at hro; cases hro
            simp only [if_true]
            intro _ ht b hb
            exact (hok (r, i) hp).1 rfl t ht b hb
          · simp only [hrk, if_false]
            intro hran ht
            refine e6 r i o' t hp hro (by omega) (by omega) hran ?_
            have : ¬ k = i := by omega
            simp [alook, this, ht]
        · intro r i R hp hr hi hin
          by_cases hik : i = k
          · subst hik
            have h2 : i + 1 ≠ i := by omega
            simp only [h2, if_true, if_false]
            intro _ hR b hb
            rw [e2]
            exact hsame b ((hok (r, i) hp).2 (by simp only; omega) rfl R hR b hb)
          · have h2 : i + 1 ≠ k := by omega
            simp only [hik, h2, if_false]
            intro hran hR
            refine e7 r i R hp (by omega) (by omega) hin hran ?_
            have : ¬ k = r := by omega
            simp [alook, this, hR]
      · simp at h
    · simp at h
  · rename_i hw
    obtain ⟨ρ, hh, v, ran, e1, e2, e3, e4, e5, e6, e7⟩ := aopsT_trace os (k + 1) _ s' _ hk' hos' h
    simp only at e1 e2
    rw [hsd] at e1
    refine ⟨fun i => if i = k then s.ρ else ρ i, fun i => if i = k then s.h else hh i, fun i => if i = k then .tup [] else v i, fun i => if i = k then false else ran i,
     by simp, by simp, by simp only [Nat.ne_of_gt hkn, if_false]; exact e3, ?_, ?_, ?_, ?_⟩
    · intro i o' hi hio
      by_cases hik : i = k
      · subst hik
        rw [ho] at hio; cases hio
        have : i + 1 ≠ i := by omega
        simp only [this, if_true, if_false]
        exact ⟨hw, e1, fun hc => by simp at hc, fun _ => ⟨trivial, e2⟩⟩
      · have h2 : i + 1 ≠ k := by omega
        simp only [hik, h2, if_false]
        exact e4 i o' (by omega) hio
    · intro r i o' hp hne hro hin hr hi
      by_cases hrk : r = k
      · simp [hrk]
      · by_cases hik : i = k
        · simp [hik]
        · have h2 : i + 1 ≠ k := by omega
          simp only [hrk, hik, h2, if_false]
          exact e5 r i o' hp hne hro hin (by omega) (by omega)
    · intro r i o' t hp hro hr hi
      by_cases hrk : r = k
      · simp [hrk]
      · simp only [hrk, if_false]
        exact fun hran ht => e6 r i o' t hp hro (by omega) (by omega) hran ht
    · intro r i R hp hr hi hin
      by_cases hik : i = k
      · simp [hik]
      · have h2 : i + 1 ≠ k := by omega
        simp only [hik, h2, if_false]
        exact fun hran hR => e7 r i R hp (by omega) (by omega) hin hran hR
  · simp at h
theorem Tr.of_run {F : CallF} {ops : Array Oper} {pairs : List (Nat × Nat)} {s s' : St} (h : aopsT P F pairs 0 (slimL ops ops.toList) s ⟨[], []⟩ = some s') : Nonempty (Tr P F ops pairs s s') := by
 obtain ⟨ρ, hh, v, ran, e1, e2, e3, e4, e5, _, _⟩ := aopsT_trace ops.toList 0 s s' ⟨[], []⟩ (by simp) (fun i o hi => by simpa using hi) h
 exact ⟨⟨ρ, hh, v, ran, e1, e2, e3, fun i o ho => (e4 i o (Nat.zero_le _) ho).1, fun i o ho => (e4 i o (Nat.zero_le _) ho).2.1, fun i o ho => (e4 i o (Nat.zero_le _) ho).2.2.1,
  fun i o ho => (e4 i o (Nat.zero_le _) ho).2.2.2, fun r i o hp hne ho hi => e5 r i o hp hne ho hi (Nat.zero_le _) (Nat.zero_le _)⟩⟩
end Go.AM
namespace Go.AM
open Go
set_option linter.unusedVariables false
set_option linter.unusedSimpArgs false
variable {P : Program} {ι ι' : Inj} {w w' : World} {B : Base} {N : Nat}
theorem callOf_cl {ev : Ev} {op : Op} (h : clOf P op ≠ .call) : callOf ev op = none := by
 cases op <;> simp only [callOf]
 rename_i c
 obtain ⟨callee, args, argTypes⟩ := c
 cases callee <;> simp [clOf] at h ⊢
theorem callOf_call {ev : Ev} {op : Op} (h : clOf P op = .call) : callOf ev op ≠ none := by
 cases op <;> simp only [clOf] at h <;> try (simp at h; done)
 case slice t x lo hi mx => cases hs : tk P t <;> simp [hs] at h
 case convert s d x => cases hs : tk P s <;> cases hd : tk P d <;> simp [hs, hd] at h
 case call c =>
  obtain ⟨callee, args, argTypes⟩ := c
  cases callee with
  | value f =>
   simp only [callOf]
   split
   · split <;> simp
   · split <;> simp
   · simp
   · simp
  | invoke r m => simp at h
  | builtin b => cases b <;> simp at h
open Classical in
noncomputable def lk (h : Nat → Heap) (D : Nat → Prop) : Nat → Look
 | 0 => look (h 0)
 | i + 1 => fun b => if D i ∧ (h i)[b]? ≠ (h (i + 1))[b]? then (h (i + 1))[b]? else lk h D i b
section
variable {h : Nat → Heap} {D D' : Nat → Prop}
theorem lk_low {b : Nat} : ∀ {k : Nat}, (∀ j, j < k → ¬ D j → (h j)[b]? = (h (j + 1))[b]?) → lk h D k b = (h k)[b]?
 | 0, _ => rfl
 | k + 1, hs => by
  have ih := lk_low (k := k) fun j hj => hs j (by omega)
  simp only [lk]
  split
  · rfl
  · rename_i hc
    by_cases hD : D k
    · have : (h k)[b]? = (h (k + 1))[b]? := Classical.not_not.1 fun hn => hc ⟨hD, hn⟩
      rw [ih, this]
    · rw [ih, hs k (by omega) hD]
theorem lk_high {b i : Nat} : ∀ {k : Nat}, i ≤ k → (∀ j, i ≤ j → j < k → D j → (h j)[b]? = (h (j + 1))[b]?) → lk h D k b = lk h D i b
 | 0, hi, _ => by
  have : i = 0 := by omega
  subst this; rfl
 | k + 1, hi, hs => by
  by_cases he : i = k + 1
  · subst he; rfl
  · have ih := lk_high (k := k) (by omega) fun j h1 h2 => hs j h1 (by omega)
    simp only [lk]
    rw [if_neg, ih]
    rintro ⟨h1, h2⟩
    exact h2 (hs k (by omega) (by omega) h1)
theorem lk_at {b i n : Nat} (hi : i ≤ n) (h1 : ∀ j, j < i → ¬ D j → (h j)[b]? = (h (j + 1))[b]?) (h2 : ∀ j, i ≤ j → j < n → D j → (h j)[b]? = (h (j + 1))[b]?) : lk h D n b = (h i)[b]? := by
 rw [lk_high hi h2, lk_low h1]
theorem lk_congr {b : Nat} : ∀ {n : Nat}, (∀ j, j < n → (h j)[b]? = (h (j + 1))[b]? ∨ (D j ↔ D' j)) → lk h D n b = lk h D' n b
 | 0, _ => rfl
 | n + 1, hs => by
  have ih := lk_congr (n := n) fun j hj => hs j (by omega)
  simp only [lk]
  rcases hs n (by omega) with h1 | h1
  · simp only [h1, ne_eq, not_true, and_false, if_false]
    exact ih
  · rw [ih]
    by_cases hc : D n ∧ (h n)[b]? ≠ (h (n + 1))[b]?
    · rw [if_pos hc, if_pos ⟨h1.1 hc.1, hc.2⟩]
    · rw [if_neg hc, if_neg fun h' => hc ⟨h1.2 h'.1, h'.2⟩]
end
theorem HR.part {L L' : Look} (h : HR P ι w B L) (hs : ∀ b o, L' b = some o → L b = some o) : HR P ι w B L' :=
 ⟨fun b o ho => h.obj b o (hs b o ho), fun b b' o o' l l' h1 h2 => h.inj b b' o o' l l' (hs _ _ h1) (hs _ _ h2), fun b o ho => h.past b o (hs b o ho), h.base,
  fun b cs l ho => h.roB b cs l (hs b _ ho), fun r hm => ⟨(h.rest r hm).1, fun ⟨b, o, l, h1, h2⟩ => (h.rest r hm).2 ⟨b, o, l, hs b o h1, h2⟩⟩, h.since⟩
theorem Step.frame {L L₁ L₁' : Look} {n : Nat} (hr : HR P ι w B L) (h1 : ∀ b, L₁ b = if b < n then L b else none) (h2 : ∀ b, n ≤ b → L₁' b = none) (hla : Lays ι ι' n)
  (h : Step P ι w B L₁ ι' w' L₁') : Step P ι w B L ι' w' (fun b => if b < n then L₁' b else L b) := by
 have hpart : ∀ b o, L₁ b = some o → L b = some o ∧ b < n := fun b o ho => by
  rw [h1] at ho
  split at ho
  · exact ⟨ho, by assumption⟩
  · simp at ho
 have hne : ∀ c b o l, L b = some o → n ≤ b → o.own = true → ι b o.gen = some l → l.blk = c → ¬ Held ι L₁ c := by
  rintro c b o l ho hb hown hl hc ⟨b', o', l', ho', hown', hl', hc'⟩
  obtain ⟨h3, h4⟩ := hpart b' o' ho'
  have := hr.inj b b' o o' l l' ho h3 hl hl' hown hown' (hc.trans hc'.symm)
  omega
 have hkeep : ∀ b o l, L b = some o → n ≤ b → ι b o.gen = some l → Robj P ι w l o → Robj P ι' w' l o := by
  intro b o l ho hb hl hob
  refine hob.keep h.ext fun hnil => ?_
  cases hown : o.own with
  | true =>
   obtain ⟨l', hl', _, hB⟩ := hr.obj b o ho
   rw [hl] at hl'; cases hl'
   exact h.keep _ (hB hown).2 (hne _ b o l ho hb hown hl rfl)
  | false =>
   cases o with
   | ro cs => exact h.below (hr.part fun b o ho => (hpart b o ho).1) _ (hr.roB b cs l ho hl fun hc => hnil (by rw [hc]))
   | _ => simp [AObj.own] at hown
 have hkeepc : ∀ c, c < w.heap.size → ¬ Held ι L c → w'.heap[c]? = w.heap[c]? := by
  intro c hc hn
  refine h.keep c hc ?_
  rintro ⟨b, o, l, ho, hown, hl, hlc⟩
  exact hn ⟨b, o, l, (hpart b o ho).1, hown, hl, hlc⟩
 have hheldc : ∀ c, Held ι' (fun b => if b < n then L₁' b else L b) c → Held ι L c ∨ w.heap.size ≤ c := by
  rintro c ⟨b, o, l, ho, hown, hl, hlc⟩
  simp only at ho
  split at ho
  · rcases h.held c ⟨b, o, l, ho, hown, hl, hlc⟩ with ⟨b', o', l', ho', h3⟩ | hh
    · exact .inl ⟨b', o', l', (hpart b' o' ho').1, h3⟩
    · exact .inr hh
  · obtain ⟨l₂, hl₂, _, _⟩ := hr.obj b o ho
    have e1 := h.ext _ _ _ hl₂
    rw [hl] at e1; cases e1
    exact .inl ⟨b, o, l, ho, hown, hl₂, hlc⟩
 refine ⟨h.ext, ⟨?_, ?_, ?_, h.hr.base, ?_, hr.rest_keep hkeepc hheldc, hr.since.trans h.ext⟩, h.size, hkeepc, hheldc, h.os, h.tape, h.output⟩
 · intro b o ho
   split at ho
   · exact h.hr.obj b o ho
   · rename_i hb
     obtain ⟨l, hl, hob, hB⟩ := hr.obj b o ho
     exact ⟨l, h.ext _ _ _ hl, hkeep b o l ho (by omega) hl hob, fun hown => ⟨(hB hown).1, Nat.lt_of_lt_of_le (hB hown).2 h.size⟩⟩
 · have cross : ∀ b b' o o' l l', L₁' b = some o → n ≤ b' → L b' = some o' → ι' b o.gen = some l → ι' b' o'.gen = some l' → o.own = true → o'.own = true → l.blk ≠ l'.blk := by
    intro b b' o o' l l' ho hb' ho' hl hl' hown hown' heq
    obtain ⟨l₂, hl₂, _, hB⟩ := hr.obj b' o' ho'
    have := h.ext _ _ _ hl₂
    rw [hl'] at this; cases this
    rcases h.held l.blk ⟨b, o, l, ho, hown, hl, rfl⟩ with hh | hh
    · exact hne _ b' o' l' ho' hb' hown' hl₂ heq.symm hh
    · have := (hB hown').2
      omega
   intro b b' o o' l l' ho ho' hl hl' hown hown' heq
   split at ho <;> split at ho'
   · exact h.hr.inj b b' o o' l l' ho ho' hl hl' hown hown' heq
   · exact absurd heq (cross b b' o o' l l' ho (by omega) ho' hl hl' hown hown')
   · exact absurd heq.symm (cross b' b o' o l' l ho' (by omega) ho hl' hl hown' hown)
   · obtain ⟨l₂, hl₂, _, _⟩ := hr.obj b o ho
     obtain ⟨l₃, hl₃, _, _⟩ := hr.obj b' o' ho'
     have e1 := h.ext _ _ _ hl₂
     have e2 := h.ext _ _ _ hl₃
     rw [hl] at e1; cases e1
     rw [hl'] at e2; cases e2
     exact hr.inj b b' o o' l l' ho ho' hl₂ hl₃ hown hown' heq
 · intro b o ho g l hl
   split at ho
   · exact h.hr.past b o ho g l hl
   · rename_i hb
     rcases hla b g l hl with h3 | h3
     · exact hr.past b o ho g l h3
     · omega
 · intro b cs l ho hl hcs
   split at ho
   · exact h.hr.roB b cs l ho hl hcs
   · obtain ⟨l₂, hl₂, _, _⟩ := hr.obj b _ ho
     have e1 := h.ext _ _ _ hl₂
     simp only [AObj.gen] at e1
     rw [hl] at e1; cases e1
     exact hr.roB b cs l ho hl₂ hcs
theorem Reach.down {ops : Array Oper} {D : Nat → Prop} (hc : ∀ (i : Nat) (o : Oper), ops[i]? = some o → D i → ∀ e ∈ o.after, Region.binds .any e = true → D e.on) {i j : Nat} (h : Reach ops i j) : D i → D j := by
 induction h with
 | one ho he hb => exact fun hi => hc _ _ ho hi _ he hb
 | more ho he hb _ ih => exact fun hi => ih (hc _ _ ho hi _ he hb)
theorem Reach.ready {ops : Array Oper} {D : Nat → Prop} (hc : ∀ (i : Nat) (o : Oper), ops[i]? = some o → D i → ∀ e ∈ o.after, Region.binds .any e = true → D e.on) {i j : Nat} (h : Reach ops i j)
  (hr : ∀ (o : Oper), ops[i]? = some o → ∀ e ∈ o.after, Region.binds .any e = true → D e.on) : D j := by
 cases h with
 | one ho he hb => exact hr _ ho _ he hb
 | more ho he hb h' => exact h'.down hc (hr _ ho _ he hb)
section
variable {F : CallF} {ops : Array Oper} {pairs : List (Nat × Nat)} {s s' : St}
theorem Tr.lenS (T : Tr P F ops pairs s s') (hF : CallOK P F) {i : Nat} {o : Oper} (ho : ops[i]? = some o) : (T.h i).length ≤ (T.h (i + 1)).length := by
 cases hr : T.ran i with
 | true => exact astep_length hF.grows (T.run i o ho hr)
 | false => rw [(T.skip i o ho hr).2]; exact Nat.le_refl _
theorem Tr.len (T : Tr P F ops pairs s s') (hF : CallOK P F) {i : Nat} : ∀ {j : Nat}, i ≤ j → j ≤ ops.size → (T.h i).length ≤ (T.h j).length
 | 0, hij, _ => by
  have : i = 0 := by omega
  subst this; exact Nat.le_refl _
 | j + 1, hij, hj => by
  by_cases he : i = j + 1
  · subst he; exact Nat.le_refl _
  · exact Nat.le_trans (T.len hF (j := j) (by omega) (by omega)) (T.lenS hF (i := j) (o := ops[j]'(by omega)) (Array.getElem?_eq_getElem (by omega)))
theorem Tr.op (T : Tr P F ops pairs s s') {i : Nat} {o : Oper} (ho : ops[i]? = some o) (hr : T.ran i = true) (hc : clOf P o.op ≠ .call) :
  ∃ δ, aop P (evalA (T.ρ i)) (look (T.h i)) (T.h i).length o.op = some (T.v i, δ) ∧ T.h (i + 1) = (T.h i).apply δ := by
 have h := T.run i o ho hr
 unfold astep at h
 rw [callOf_cl hc] at h
 simp only at h
 split at h
 · rename_i v d hop
   simp at h
   exact ⟨d, by rw [← h.1]; exact hop, h.2.symm⟩
 · simp at h
theorem Tr.still (T : Tr P F ops pairs s s') {i : Nat} {o : Oper} (ho : ops[i]? = some o) (hc : (clOf P o.op).still = true) : T.h (i + 1) = T.h i := by
 cases hr : T.ran i with
 | false => exact (T.skip i o ho hr).2
 | true =>
  obtain ⟨δ, h1, h2⟩ := T.op ho hr (fun hcl => by rw [hcl] at hc; simp [Cl.still] at hc)
  have := aop_cl h1
  cases hcl : clOf P o.op <;> rw [hcl] at hc this <;> simp [Cl.still] at hc this
  · rw [h2, this.1]; rfl
  · rw [h2, this]; rfl
theorem Tr.alloc (T : Tr P F ops pairs s s') {i : Nat} {o : Oper} (ho : ops[i]? = some o) (hc : clOf P o.op = .alloc) {b : Nat} (hb : b ≠ (T.h i).length) : (T.h i)[b]? = (T.h (i + 1))[b]? := by
 cases hr : T.ran i with
 | false => rw [(T.skip i o ho hr).2]
 | true =>
  obtain ⟨δ, h1, h2⟩ := T.op ho hr (fun hcl => by rw [hcl] at hc; simp at hc)
  have := aop_cl h1
  rw [hc] at this
  obtain ⟨⟨ob, rfl⟩, _⟩ := this
  rw [h2]
  simp only [Heap.apply, List.getElem?_append]
  split
  · rfl
  · rw [List.getElem?_eq_none (by omega), List.getElem?_eq_none (by simp; omega)]
theorem Tr.get (T : Tr P F ops pairs s s') {t : Nat} {x : AV} : ∀ {i : Nat}, i ≤ ops.size → (T.ρ i).get t = some x →
  (∃ j o, j < i ∧ ops[j]? = some o ∧ o.dst = some t ∧ T.v j = x) ∨ (s.ρ.get t = some x ∧ ∀ j o, j < i → ops[j]? = some o → o.dst ≠ some t)
 | 0, _, h => by rw [T.ρ0] at h; exact .inr ⟨h, fun j o hj => by omega⟩
 | i + 1, hi, h => by
  have ho : ops[i]? = some (ops[i]'(by omega)) := Array.getElem?_eq_getElem (by omega)
  rw [T.next i _ ho, Env.get_put] at h
  split at h
  · rename_i hd
    simp at h
    exact .inl ⟨i, _, by omega, ho, hd, h⟩
  · rename_i hd
    rcases T.get (i := i) (by omega) h with ⟨j, o, hj, h1, h2, h3⟩ | ⟨h1, h2⟩
    · exact .inl ⟨j, o, by omega, h1, h2, h3⟩
    · refine .inr ⟨h1, fun j o hj hjo => ?_⟩
      by_cases hji : j = i
      · subst hji
        rw [ho] at hjo; cases hjo
        exact hd
      · exact h2 j o (by omega) hjo
structure Inv (dl : List Deferred) (T : Tr P F ops pairs s s') (N : Nat) (B : Base) (ι₀ : Inj) (w₀ : World) (D : Nat → Prop) (ι : Inj) (a : Act) (w : World) : Prop where
 closed : ∀ (i : Nat) (o : Oper), ops[i]? = some o → D i → ∀ e ∈ o.after, Region.binds .any e = true → D e.on
 size : a.tmps.size = N
 defers : a.defers = dl
 reg : ∀ (i : Nat) (o : Oper) (t : Nat), D i → ops[i]? = some o → o.dst = some t → ∃ u, a.tmps[t]? = some u ∧ V ι (T.v i) u
 reg0 : ∀ (t : Nat) (x : AV), s.ρ.get t = some x → (∀ (i : Nat) (o : Oper), D i → ops[i]? = some o → o.dst ≠ some t) → ∃ u, a.tmps[t]? = some u ∧ V ι x u
 step : Step P ι₀ w₀ B (look s.h) ι w (lk T.h D ops.size)
 fresh : ∀ i, i < ops.size → ¬ D i → ∀ b g, (T.h i).length ≤ b → b < (T.h (i + 1)).length → ι b g = none
 lays : Lays ι₀ ι (T.h ops.size).length
 stores : ∀ (i : Nat) (o : Oper), D i → ops[i]? = some o → isStore o.op = true → T.ran i = true → ∀ c ∈ areads (evalA (T.ρ i)) o.op, ∃ g l, ι c g = some l
variable {dl : List Deferred} {T : Tr P F ops pairs s s'} {ι₀ : Inj} {w₀ : World} {D : Nat → Prop} {a : Act}
theorem Inv.look (hI : Inv dl T N B ι₀ w₀ D ι a w) (ok : OKd P ops pairs N) {i : Nat} {o : Oper} (ho : ops[i]? = some o) (hi : ¬ D i) (hr : ∀ e ∈ o.after, Region.binds .any e = true → D e.on)
  {t : Nat} (ht : t ∈ o.looksAt ops) {x : AV} (hx : (T.ρ i).get t = some x) : ∃ u, a.tmps[t]? = some u ∧ V ι x u := by
 have hin := (Array.getElem?_eq_some_iff.1 ho).1
 have hready : ∀ j, Reach ops i j → D j := fun j hj => hj.ready hI.closed fun o' ho' => by
  rw [ho] at ho'; cases ho'
  exact hr
 rcases T.get (by omega) hx with ⟨j, oj, hj, hjo, hd, hv⟩ | ⟨h0, hno⟩
 · rcases ok.ord i j o oj hj ho hjo with h | h
   · rw [← hv]
     exact hI.reg j oj t (hready j h) hjo hd
   · exact absurd ht (h.slot t hd)
 · refine hI.reg0 t x h0 fun j oj hj hjo hd => ?_
   rcases Nat.lt_trichotomy j i with h | h | h
   · exact hno j oj h hjo hd
   · subst h; exact hi hj
   · rcases ok.ord j i oj o h hjo ho with h | h
     · exact hi (h.down hI.closed hj)
     · exact h.slot' t hd ht
theorem Inv.more (hI : Inv dl T N B ι₀ w₀ D ι a w) (ok : OKd P ops pairs N) {i : Nat} {o : Oper} (ho : ops[i]? = some o) (hi : ¬ D i) (hr : ∀ e ∈ o.after, Region.binds .any e = true → D e.on)
  {u : Value} (hv : V ι' (T.v i) u) (hst : Step P ι w B (lk T.h D ops.size) ι' w' (lk T.h (fun j => D j ∨ j = i) ops.size))
  (hfr : ∀ j, j < ops.size → ¬ D j → j ≠ i → ∀ b g, (T.h j).length ≤ b → b < (T.h (j + 1)).length → ι' b g = none) (hla : Lays ι ι' (T.h ops.size).length)
  (hsi : isStore o.op = true → T.ran i = true → ∀ c ∈ areads (evalA (T.ρ i)) o.op, ∃ g l, ι' c g = some l) :
  Inv dl T N B ι₀ w₀ (fun j => D j ∨ j = i) ι' (a.put o.dst u) w' := by
 have hother : ∀ t, o.dst ≠ some t → (a.put o.dst u).tmps[t]? = a.tmps[t]? := by
  intro t ht
  cases hd : o.dst with
  | none => rfl
  | some d =>
   have : d ≠ t := fun e => ht (by rw [hd, e])
   simp only [Act.put]
   rw [Array.getElem?_setIfInBounds_ne this]
 have hsame : ∀ t, o.dst = some t → (a.put o.dst u).tmps[t]? = some u := by
  intro t ht
  rw [ht]
  have := ok.dst i o t ho ht
  simp [Act.put, hI.size, this]
 refine ⟨?_, ?_, ?_, ?_, ?_, hI.step.trans hst, ?_, hI.lays.trans hla (Nat.le_refl _), ?_⟩
 · intro j oj hjo hj e he hb
   rcases hj with hj | hj
   · exact .inl (hI.closed j oj hjo hj e he hb)
   · subst hj
     rw [ho] at hjo; cases hjo
     exact .inl (hr e he hb)
 · cases o.dst <;> simp [Act.put, hI.size]
 · cases o.dst <;> exact hI.defers
 · intro j oj t hj hjo hd
   by_cases hji : j = i
   · subst hji
     rw [ho] at hjo; cases hjo
     exact ⟨u, hsame t hd, hv⟩
   · obtain ⟨x, h1, h2⟩ := hI.reg j oj t (hj.resolve_right hji) hjo hd
     refine ⟨x, ?_, h2.mono hst.ext⟩
     rw [hother t fun h => hji (ok.uniq j i oj o t hjo ho hd h)]
     exact h1
 · intro t x hx hno
   obtain ⟨y, h1, h2⟩ := hI.reg0 t x hx fun j oj hj hjo => hno j oj (.inl hj) hjo
   refine ⟨y, ?_, h2.mono hst.ext⟩
   rw [hother t (hno i o (.inr rfl) ho)]
   exact h1
 · intro j hj hn
   exact hfr j hj (fun h => hn (.inl h)) fun h => hn (.inr h)
 · intro j oj hj hjo hs hr c hc
   by_cases hji : j = i
   · subst hji
     rw [ho] at hjo; cases hjo
     exact hsi hs hr c hc
   · obtain ⟨g, l, e⟩ := hI.stores j oj (hj.resolve_right hji) hjo hs hr c hc
     exact ⟨g, l, hst.ext _ _ _ e⟩
end
end Go.AM
namespace Go.AM
open Go
set_option linter.unusedVariables false
set_option linter.unusedSimpArgs false
variable {P : Program} {ι ι' : Inj} {w w' : World} {B : Base} {N : Nat} {dl : List Deferred} {fr : Option Nat}
variable {F : CallF} {ops : Array Oper} {pairs : List (Nat × Nat)} {s s' : St}
variable {T : Tr P F ops pairs s s'} {ι₀ : Inj} {w₀ : World} {D : Nat → Prop} {a : Act}
theorem mem_looksAt {o : Oper} {t : Nat} (h : Operand.tmp t ∈ o.op.operands.toList) : t ∈ o.looksAt ops :=
 List.mem_append_left _ (List.mem_filterMap.2 ⟨.tmp t, h, rfl⟩)
theorem guard_looksAt {o : Oper} {j t : Nat} {wn : Bool} (hg : o.guard = some (j, wn)) (ht : (ops[j]?).bind (·.dst) = some t) : t ∈ o.looksAt ops := by
 unfold Oper.looksAt
 refine List.mem_append_right _ ?_
 simp only [hg]
 simpa using ht
theorem still_not_strong {c : Cl} (h : c.strong = true) : c.still = false := by cases c <;> simp [Cl.strong, Cl.still] at h ⊢
theorem V.blk {ι : Inj} {v : AV} {u : Value} (h : V ι v u) {c : Nat} (hc : c ∈ blkOf (some v)) : ∃ g l, ι c g = some l := by
 cases v with
 | ptr a =>
  cases a with
  | none => simp [blkOf] at hc
  | some a =>
   simp [blkOf] at hc
   subst hc
   cases u <;> simp only [V, Va, Vc, Vp] at h <;> try exact h.elim
   rename_i p
   cases p with
   | none => simp only [Vp] at h
   | some p => obtain ⟨l, h1, _⟩ := h; exact ⟨_, l, h1⟩
 | sl a n k =>
  cases a with
  | none => simp [blkOf] at hc
  | some a =>
   simp [blkOf] at hc
   subst hc
   cases u <;> simp only [V, Va, Vc, Vp] at h <;> try exact h.elim
   rename_i p _ _
   cases p with
   | none => simp only [Vp] at h
   | some p => obtain ⟨_, _, l, h1, _⟩ := h; exact ⟨_, l, h1⟩
 | map r =>
  cases r with
  | none => simp [blkOf] at hc
  | some b =>
   simp [blkOf] at hc
   subst hc
   cases u <;> simp only [V, Va, Vc, Vp] at h <;> try exact h.elim
   rename_i p
   cases p with
   | none => simp only [Vp] at h
   | some p => obtain ⟨l, h1, _⟩ := h; exact ⟨_, l, h1⟩
 | _ => simp [blkOf] at hc
theorem Inv.op (hF : CallOK P F) (hI : Inv dl T N B ι₀ w₀ D ι a w) (ok : OKd P ops pairs N) {i : Nat} {o : Oper} (ho : ops[i]? = some o) (hi : ¬ D i) (hr : ∀ e ∈ o.after, Region.binds .any e = true → D e.on)
  {Q : Exit → Act → World → Prop} {K : Act → World → Prop} (hk : ∀ ι' a' w', Inv dl T N B ι₀ w₀ (fun j => D j ∨ j = i) ι' a' w' → K a' w') : wpOpIn (FR fr) 0 P ops Q i K a w := by
 have hin := (Array.getElem?_eq_some_iff.1 ho).1
 have hop : ∀ j, j < ops.size → ∃ oj, ops[j]? = some oj := fun j hj => ⟨_, Array.getElem?_eq_getElem hj⟩
 have hready : ∀ j, Reach ops i j → D j := fun j hj => hj.ready hI.closed fun o' ho' => by
  rw [ho] at ho'; cases ho'
  exact hr
 have early : ∀ j oj, j < i → ¬ D j → ops[j]? = some oj → Loose P ops pairs i j o oj := fun j oj hj hn hjo =>
  (ok.ord i j o oj hj ho hjo).resolve_left fun h => hn (hready j h)
 have late : ∀ j oj, i < j → D j → ops[j]? = some oj → Loose P ops pairs j i oj o := fun j oj hj hd hjo =>
  (ok.ord j i oj o hj hjo ho).resolve_left fun h => hi (h.down hI.closed hd)
 have strong_early : (clOf P o.op).strong = true → isStore o.op = false → ∀ j, j < i → ¬ D j → T.h (j + 1) = T.h j := by
  intro hs hns j hj hn
  obtain ⟨oj, hjo⟩ := hop j (by omega)
  refine T.still hjo (((early j oj hj hn hjo).strong hs).resolve_right fun h => ?_)
  rw [hns] at h; simp at h
 have st_early : (clOf P o.op).strong = true → ∀ j, j < i → ¬ D j → ∀ b, (isStore o.op = true → ∃ g l, ι b g = some l) → (T.h j)[b]? = (T.h (j + 1))[b]? := by
  intro hs j hj hn b hbi
  obtain ⟨oj, hjo⟩ := hop j (by omega)
  rcases (early j oj hj hn hjo).strong hs with h | ⟨h1, h2⟩
  · rw [T.still hjo h]
  · cases hrj : T.ran j with
    | false => rw [(T.skip j oj hjo hrj).2]
    | true =>
     refine T.alloc hjo h2 fun hbl => ?_
     obtain ⟨δ, hop', hh⟩ := T.op hjo hrj (by rw [h2]; simp)
     have hcl := aop_cl hop'
     rw [h2] at hcl
     obtain ⟨⟨ob, rfl⟩, _⟩ := hcl
     obtain ⟨g, l, e⟩ := hbi h1
     have := hI.fresh j (by omega) hn b g (by omega) (by rw [hh]; simp [Heap.apply]; omega)
     rw [e] at this
     simp at this
 have late_same : (clOf P o.op).still = false → ∀ j, i < j → j < ops.size → D j → ∀ b, b < (T.h (i + 1)).length → (clOf P o.op = .alloc → b = (T.h i).length) → (T.h j)[b]? = (T.h (j + 1))[b]? := by
  intro hs j hj hjn hd b hb hal
  obtain ⟨oj, hjo⟩ := hop j hjn
  have hl := late j oj hj hd hjo
  have eff_case : (clOf P oj.op).strong = true → clOf P oj.op ≠ .call → (T.h j)[b]? = (T.h (j + 1))[b]? := by
   intro hst hnc
   rcases hl.strong hst with h | ⟨h1, h2⟩
   · rw [hs] at h; simp at h
   · cases hrj : T.ran j with
     | false => rw [(T.skip j oj hjo hrj).2]
     | true =>
      obtain ⟨δ, hop', hh⟩ := T.op hjo hrj hnc
      have hbn := hal h2
      have hle := T.len hF (i := i + 1) (j := j) (by omega) (by omega)
      cases δ with
      | no => rw [hh]; rfl
      | new ob =>
       rw [hh]
       simp only [Heap.apply]
       rw [List.getElem?_append_left (by omega)]
      | set c ob =>
       obtain ⟨hcr, x, hx⟩ := aop_set hop'
       rw [hh]
       simp only [Heap.apply]
       by_cases hcb : c = b
       · obtain ⟨g, l, e⟩ := hI.stores j oj hd hjo h1 hrj c hcr
         have := hI.fresh i hin hi b g (by omega) hb
         rw [hcb] at e
         rw [e] at this
         simp at this
       · rw [List.getElem?_set_ne hcb]
  cases hc : clOf P oj.op with
  | pure => rw [T.still hjo (by rw [hc]; rfl)]
  | read => rw [T.still hjo (by rw [hc]; rfl)]
  | alloc =>
   have := T.len hF (i := i + 1) (j := j) (by omega) (by omega)
   exact T.alloc hjo hc (by omega)
  | eff => exact eff_case (by rw [hc]; rfl) (by rw [hc]; simp)
  | call =>
   rcases hl.strong (by rw [hc]; rfl) with h | ⟨h1, _⟩
   · rw [hs] at h; simp at h
   · rw [store_cl (P := P) h1] at hc; simp at hc
 have cong : ∀ b, (T.h i)[b]? = (T.h (i + 1))[b]? → lk T.h D ops.size b = lk T.h (fun j => D j ∨ j = i) ops.size b := by
  intro b hb
  refine lk_congr fun j hj => ?_
  by_cases hji : j = i
  · subst hji; exact .inl hb
  · exact .inr ⟨.inl, fun h => h.resolve_right hji⟩
 have disj : ∀ j, j < ops.size → j ≠ i → ∀ b, (T.h j).length ≤ b → b < (T.h (j + 1)).length → b < (T.h i).length ∧ j < i ∨ (T.h (i + 1)).length ≤ b ∧ i < j := by
  intro j hj hne b h1 h2
  rcases Nat.lt_or_gt_of_ne hne with h | h
  · have := T.len hF (i := j + 1) (j := i) (by omega) (by omega)
    exact .inl ⟨by omega, h⟩
  · have := T.len hF (i := i + 1) (j := j) (by omega) (by omega)
    exact .inr ⟨by omega, h⟩
 have hlook := fun t (ht : t ∈ o.looksAt ops) x (hx : (T.ρ i).get t = some x) => hI.look ok ho hi hr ht hx
 have hev : ∀ x ∈ o.op.operands.toList, ∀ v, evalA (T.ρ i) x = some v → V ι v (a.eval x) := by
  intro x hx v hv
  cases x with
  | tmp t =>
   obtain ⟨u, h1, h2⟩ := hlook t (mem_looksAt hx) v hv
   have : a.tmps.getD t undef = u := by simp [Array.getD_eq_getD_getElem?, h1]
   simp only [Act.eval, this]
   exact h2
  | const c => exact const_V hv ι
  | func f => simp [evalA] at hv; subst hv; simp [V, Va, Vc, L2, Act.eval]
  | global g => simp [evalA] at hv
 have held : isStore o.op = true → ∀ c ∈ areads (evalA (T.ρ i)) o.op, ∃ g l, ι c g = some l := by
  intro hs c hc
  obtain ⟨t', a', x', hso⟩ : ∃ t' a' x', o.op = .store t' a' x' := by
   cases hop2 : o.op <;> rw [hop2] at hs <;> simp [isStore] at hs
   exact ⟨_, _, _, rfl⟩
  rw [hso] at hc
  simp only [areads] at hc
  cases hea : evalA (T.ρ i) a' with
  | none => rw [hea] at hc; simp [blkOf] at hc
  | some va =>
   rw [hea] at hc
   exact (hev a' (by rw [hso]; simp [Op.operands]) va hea).blk hc
 have hlenN := T.len hF (i := i + 1) (j := ops.size) (by omega) (Nat.le_refl _)
 have hlen1 := T.lenS hF ho
 unfold wpOpIn
 simp only [ho]
 rw [wanted_of (T.want i o ho) fun j wn t hg ht v hv => hlook t (guard_looksAt hg ht) v hv]
 cases hran : T.ran i with
 | false =>
  obtain ⟨hv, hh⟩ := T.skip i o ho hran
  simp only [Bool.false_eq_true, if_false]
  refine ⟨fun _ _ => trivial, ?_⟩
  refine hk ι _ w (hI.more ok ho hi hr (by rw [hv]; exact V.undef ι) ?_ (fun j hj hn _ => hI.fresh j hj hn) .refl (fun _ hr => by rw [hran] at hr; simp at hr))
  have : lk T.h D ops.size = lk T.h (fun j => D j ∨ j = i) ops.size := funext fun b => cong b (by rw [hh])
  rw [← this]
  exact .refl hI.step.hr
 | true =>
  simp only [if_true]
  by_cases hcall : clOf P o.op = .call
  · have hrun := T.run i o ho hran
    unfold astep at hrun
    have hstrong : (clOf P o.op).strong = true := by rw [hcall]; rfl
    have hnst : isStore o.op = false := by
     cases hs : isStore o.op with
     | false => rfl
     | true => rw [store_cl (P := P) hs] at hcall; simp at hcall
    have hse := strong_early hstrong hnst
    have hls := fun j h1 h2 h3 b h4 => late_same (still_not_strong hstrong) j h1 h2 h3 b h4 (by rw [hcall]; simp)
    split at hrun
    · rename_i g args hc
      obtain ⟨⟨fn, h1, h2, h3, h4⟩, hlen, hcl⟩ := hF g args _ _ _ hrun
      obtain ⟨cargs, hrun', hargs⟩ := run_call (P := P) (w := w) hc hev h1 h2 h3 h4
      refine wpIn_op (fun c hd => by rw [hd] at hc; simp [callOf] at hc) ?_
      rw [hrun']
      refine ⟨by simp, callsIn_wide.2 ?_⟩
      have hlow : ∀ b, b < (T.h (i + 1)).length → lk T.h D ops.size b = (T.h i)[b]? := by
       intro b hb
       refine lk_at (by omega) (fun j hj hn => by rw [hse j hj hn]) fun j hj hjn hd => ?_
       have : j ≠ i := fun h => hi (h ▸ hd)
       exact hls j (by omega) hjn hd b hb
      have hL₁ : ∀ b, AM.look (T.h i) b = if b < (T.h (i + 1)).length then lk T.h D ops.size b else none := by
       intro b
       split
       · rename_i hb; rw [hlow b hb]; rfl
       · exact List.getElem?_eq_none (by simp only at hlen; omega)
      have hpart : HR P ι w B (AM.look (T.h i)) := hI.step.hr.part fun b ob hb => by
       rw [hL₁] at hb
       split at hb
       · exact hb
       · simp at hb
      refine (hcl ι w B cargs hpart (fun b g h1 h2 => hI.fresh i hin hi b g h1 h2) hargs).mono ?_
      rintro e w' ⟨ι', u, rfl, hv, hst, hla⟩
      have hst' := Step.frame hI.step.hr hL₁ (fun b hb => List.getElem?_eq_none hb) hla hst
      refine hk ι' _ w' (hI.more ok ho hi hr hv ?_ ?_ ?_ (fun hs _ => by rw [hnst] at hs; simp at hs))
      · have : (fun b => if b < (T.h (i + 1)).length then AM.look (T.h (i + 1)) b else lk T.h D ops.size b) = lk T.h (fun j => D j ∨ j = i) ops.size := by
         funext b
         split
         · rename_i hb
           rw [lk_at (i := i + 1) (by omega)]
           · rfl
           · intro j hj hn
             have h1 : j ≠ i := fun h => hn (.inr h)
             rw [hse j (by omega) fun h => hn (.inl h)]
           · intro j hj hjn hd
             have h1 : j ≠ i := by omega
             exact hls j (by omega) hjn (hd.resolve_right h1) b hb
         · rename_i hb
           refine cong b ?_
           rw [List.getElem?_eq_none (by omega), List.getElem?_eq_none (by omega)]
        rw [← this]
        exact hst'
      · intro j hj hn hne b g hb1 hb2
        cases he : ι' b g with
        | none => rfl
        | some l =>
         rcases hla b g l he with h4 | h4
         · rw [hI.fresh j hj hn b g hb1 hb2] at h4; simp at h4
         · rcases disj j hj hne b hb1 hb2 with ⟨h5, h6⟩ | ⟨h5, h6⟩
           · rw [hse j h6 hn] at hb2; omega
           · omega
      · intro b g l hl
        rcases hla b g l hl with h4 | h4
        · exact .inl h4
        · exact .inr (by omega)
    · simp at hrun
    · rename_i hc; exact absurd hc (callOf_call hcall)
  · obtain ⟨δ, hop', hh⟩ := T.op ho hran hcall
    have hcl := aop_cl hop'
    have hsub : Sub (AM.look (T.h i)) (lk T.h D ops.size) (areads (evalA (T.ρ i)) o.op) := by
     intro b hb ob hob
     have hbl : b < (T.h i).length := (List.getElem?_eq_some_iff.1 hob).1
     cases hc : clOf P o.op with
     | pure => rw [hc] at hcl; rw [hcl.2] at hb; simp at hb
     | alloc => rw [hc] at hcl; rw [hcl.2] at hb; simp at hb
     | call => exact absurd hc hcall
     | eff =>
      rw [lk_at (i := i) (by omega)]
      · exact hob
      · intro j hj hn; exact st_early (by rw [hc]; rfl) j hj hn b fun hs => held hs b hb
      · intro j hj hjn hd
        have : j ≠ i := fun h => hi (h ▸ hd)
        exact late_same (by rw [hc]; rfl) j (by omega) hjn hd b (by omega) (by rw [hc]; simp)
     | read =>
      have pr : ∀ j oj, j ≠ i → ops[j]? = some oj → (clOf P oj.op).still = false → (i, j) ∈ pairs → (T.h j)[b]? = (T.h (j + 1))[b]? := by
       intro j oj hne hjo hs hp
       cases hrj : T.ran j with
       | false => rw [(T.skip j oj hjo hrj).2]
       | true => exact T.pair i j o hp (Ne.symm hne) ho (Array.getElem?_eq_some_iff.1 hjo).1 hran hrj b hb
      rw [lk_at (i := i) (by omega)]
      · exact hob
      · intro j hj hn
        obtain ⟨oj, hjo⟩ := hop j (by omega)
        cases hs : (clOf P oj.op).still with
        | true => rw [T.still hjo hs]
        | false => exact pr j oj (by omega) hjo hs ((early j oj hj hn hjo).reads hc hs)
      · intro j hj hjn hd
        have hne : j ≠ i := fun h => hi (h ▸ hd)
        obtain ⟨oj, hjo⟩ := hop j hjn
        cases hs : (clOf P oj.op).strong with
        | true => exact pr j oj hne hjo (still_not_strong hs) ((late j oj (by omega) hd hjo).reads' hc hs)
        | false =>
         cases hcj : clOf P oj.op with
         | pure => rw [T.still hjo (by rw [hcj]; rfl)]
         | read => rw [T.still hjo (by rw [hcj]; rfl)]
         | alloc =>
          have := T.len hF (i := i) (j := j) (by omega) (by omega)
          exact T.alloc hjo hcj (by omega)
         | eff => rw [hcj] at hs; simp [Cl.strong] at hs
         | call => rw [hcj] at hs; simp [Cl.strong] at hs
    have hop'' := aop_mono hsub hop'
    have hnone : (∃ ob, δ = .new ob) → lk T.h D ops.size (T.h i).length = none := by
     rintro ⟨ob, rfl⟩
     have hl1 : (T.h (i + 1)).length = (T.h i).length + 1 := by rw [hh]; simp [Heap.apply]
     have hns : (clOf P o.op).still = false := by
      cases hc : clOf P o.op <;> rw [hc] at hcl <;> simp [Cl.still] at hcl ⊢
     rw [lk_at (i := i) (by omega)]
     · simp
     · intro j hj hn
       have h1 := T.len hF (i := j) (j := i) (by omega) (by omega)
       have h2 := T.len hF (i := j + 1) (j := i) (by omega) (by omega)
       rw [List.getElem?_eq_none (by omega), List.getElem?_eq_none (by omega)]
     · intro j hj hjn hd
       have : j ≠ i := fun h => hi (h ▸ hd)
       exact late_same hns j (by omega) hjn hd _ (by omega) fun _ => rfl
    refine wp_aop hI.step.hr (fun t ht v hv => hlook t (mem_looksAt ht) v hv) hop'' ?_ ?_
    · intro hnew
      refine ⟨hnone hnew, fun g => hI.fresh i hin hi _ g (Nat.le_refl _) ?_⟩
      obtain ⟨ob, rfl⟩ := hnew
      rw [hh]; simp [Heap.apply]
    · intro ι' w' u hv hst hla
      have hnew_ns : (∃ ob, δ = .new ob) ∨ (∃ c ob, δ = .set c ob) → (clOf P o.op).still = false := by
       intro h
       cases hc : clOf P o.op <;> rw [hc] at hcl <;> simp [Cl.still] at hcl ⊢ <;> rcases h with ⟨_, rfl⟩ | ⟨_, _, rfl⟩ <;> simp at hcl
      have hset_strong : (∃ c ob, δ = .set c ob) → (clOf P o.op).strong = true := by
       rintro ⟨c, ob, rfl⟩
       cases hc : clOf P o.op <;> rw [hc] at hcl <;> simp [Cl.strong] at hcl ⊢
      have hlk : upd (lk T.h D ops.size) (T.h i).length δ = lk T.h (fun j => D j ∨ j = i) ops.size := by
       funext b
       cases δ with
       | no => exact cong b (by rw [hh]; rfl)
       | new ob =>
        have hns := hnew_ns (.inl ⟨ob, rfl⟩)
        have hl1 : (T.h (i + 1)).length = (T.h i).length + 1 := by rw [hh]; simp [Heap.apply]
        simp only [upd]
        split
        · rename_i hb
          subst hb
          rw [lk_at (i := i + 1) (by omega)]
          · rw [hh]; simp [Heap.apply]
          · intro j hj hn
            have hne : j ≠ i := fun h => hn (.inr h)
            have h1 := T.len hF (i := j) (j := i) (by omega) (by omega)
            have h2 := T.len hF (i := j + 1) (j := i) (by omega) (by omega)
            rw [List.getElem?_eq_none (by omega), List.getElem?_eq_none (by omega)]
          · intro j hj hjn hd
            have hne : j ≠ i := by omega
            exact late_same hns j (by omega) hjn (hd.resolve_right hne) _ (by omega) fun _ => rfl
        · rename_i hb
          refine cong b ?_
          rw [hh]
          simp only [Heap.apply, List.getElem?_append]
          split
          · rfl
          · rw [List.getElem?_eq_none (by omega), List.getElem?_eq_none (by simp; omega)]
       | set c ob =>
        have hst' := hset_strong ⟨c, ob, rfl⟩
        have hns := still_not_strong hst'
        obtain ⟨hcr, x, hx⟩ := aop_set hop'
        have hcl' : c < (T.h i).length := (List.getElem?_eq_some_iff.1 hx).1
        simp only [upd]
        split
        · rename_i hb
          subst hb
          rw [hsub b hcr x hx]
          rw [lk_at (i := i + 1) (by omega)]
          · rw [hh]; simp [Heap.apply, hcl']
          · intro j hj hn
            have hne : j ≠ i := fun h => hn (.inr h)
            exact st_early hst' j (by omega) (fun h => hn (.inl h)) b fun hs => held hs b hcr
          · intro j hj hjn hd
            have hne : j ≠ i := by omega
            exact late_same hns j (by omega) hjn (hd.resolve_right hne) _ (by omega) fun h => by rw [h] at hst'; simp [Cl.strong] at hst'
        · rename_i hb
          refine cong b ?_
          rw [hh]
          simp [Heap.apply, List.getElem?_set, Ne.symm hb]
      rw [hlk] at hst
      refine hk ι' _ w' (hI.more ok ho hi hr hv hst ?_ ?_ (fun hs _ c hc => by
       obtain ⟨g, l, e⟩ := held hs c hc
       exact ⟨g, l, hst.ext _ _ _ e⟩))
      · intro j hj hn hne b g hb1 hb2
        cases he : ι' b g with
        | none => rfl
        | some l =>
         rcases hla b g l he with h4 | h4
         · rw [hI.fresh j hj hn b g hb1 hb2] at h4; simp at h4
         · cases δ with
           | no => exact h4.elim
           | new ob =>
            simp only [Delta.touches] at h4
            subst h4
            have hl1 : (T.h (i + 1)).length = (T.h i).length + 1 := by rw [hh]; simp [Heap.apply]
            rcases disj j hj hne _ hb1 hb2 with ⟨h5, h6⟩ | ⟨h5, h6⟩ <;> omega
           | set c ob =>
            simp only [Delta.touches] at h4
            subst h4
            obtain ⟨hcr, x, hx⟩ := aop_set hop'
            have hcl' : b < (T.h i).length := (List.getElem?_eq_some_iff.1 hx).1
            rcases disj j hj hne _ hb1 hb2 with ⟨h5, h6⟩ | ⟨h5, h6⟩
            · cases hs : isStore o.op with
              | true =>
               obtain ⟨g', l', e'⟩ := held hs b hcr
               have := hI.fresh j hj hn b g' hb1 hb2
               rw [e'] at this
               simp at this
              | false => rw [strong_early (hset_strong ⟨b, ob, rfl⟩) hs j h6 hn] at hb2; omega
            · omega
      · intro b g l hl
        rcases hla b g l hl with h4 | h4
        · exact .inl h4
        · refine .inr ?_
          cases δ with
          | no => exact h4.elim
          | new ob =>
           simp only [Delta.touches] at h4
           subst h4
           have hl1 : (T.h (i + 1)).length = (T.h i).length + 1 := by rw [hh]; simp [Heap.apply]
           omega
          | set c ob =>
           simp only [Delta.touches] at h4
           subst h4
           obtain ⟨hcr, x, hx⟩ := aop_set hop'
           have hcl' : b < (T.h i).length := (List.getElem?_eq_some_iff.1 hx).1
           omega
def left (l : Array Bool) : Nat := (l.toList.filter (! ·)).length
theorem filter_set : ∀ {xs : List Bool} {i : Nat}, xs[i]? = some false → ((xs.set i true).filter (! ·)).length + 1 = (xs.filter (! ·)).length
 | [], i, h => by simp at h
 | x :: xs, 0, h => by simp at h; subst h; simp
 | x :: xs, i + 1, h => by
  have ih := filter_set (xs := xs) (i := i) (by simpa using h)
  simp only [List.set_cons_succ, List.filter_cons]
  cases x <;> simp <;> omega
theorem left_set {l : Array Bool} {i : Nat} (h : l.getD i true = false) : left (l.setIfInBounds i true) + 1 = left l := by
 have hi : i < l.size := by
  rcases Nat.lt_or_ge i l.size with h' | h'
  · exact h'
  · simp [Array.getElem?_eq_none h'] at h
 have hl : l.toList[i]? = some false := by simp [hi] at h; simp [hi, h]
 unfold left
 rw [show (l.setIfInBounds i true).toList = l.toList.set i true by simp]
 exact filter_set hl
theorem Inv.done (hI : Inv dl T N B ι₀ w₀ D ι a w) (hD : ∀ i, i < ops.size → D i) :
  Regs dl ι s'.ρ a N ∧ Step P ι₀ w₀ B (AM.look s.h) ι w (AM.look s'.h) ∧ Lays ι₀ ι s'.h.length := by
 have hl := T.last
 have h1 : s'.ρ = T.ρ ops.size := congrArg St.ρ hl
 have h2 : s'.h = T.h ops.size := congrArg St.h hl
 have h3 : lk T.h D ops.size = AM.look s'.h := by
  funext b
  rw [lk_low fun j hj hn => absurd (hD j hj) hn, h2]
  rfl
 refine ⟨⟨hI.size, fun t v hv => ?_, hI.defers⟩, by rw [← h3]; exact hI.step, by rw [h2]; exact hI.lays⟩
 rw [h1] at hv
 rcases T.get (Nat.le_refl _) hv with ⟨j, o, hj, hjo, hd, hx⟩ | ⟨h0, hno⟩
 · rw [← hx]
   exact hI.reg j o t (hD j hj) hjo hd
 · exact hI.reg0 t v h0 fun j o _ hjo => hno j o (Array.getElem?_eq_some_iff.1 hjo).1 hjo
theorem wp_any (hF : CallOK P F) (ok : OKd P ops pairs N) {Q : Exit → Act → World → Prop}
  (hk : ∀ ι a w, Regs dl ι s'.ρ a N → Step P ι₀ w₀ B (AM.look s.h) ι w (AM.look s'.h) → Lays ι₀ ι s'.h.length → Q .normal a w) :
  ∀ (fuel : Nat) (listed : Array Bool) (ι : Inj) (a : Act) (w : World), listed.size = ops.size → left listed ≤ fuel →
   Inv dl T N B ι₀ w₀ (fun i => listed.getD i false = true) ι a w → wpAnyIn (FR fr) 0 P .any ops Q fuel listed a w := by
 have fin : ∀ (listed : Array Bool) (ι : Inj) (a : Act) (w : World), listed.size = ops.size → Inv dl T N B ι₀ w₀ (fun i => listed.getD i false = true) ι a w →
   Region.ready .any ops listed = [] → Q .normal a w := by
  intro listed ι a w hs hI hr
  have hD : ∀ i, i < ops.size → listed.getD i false = true := by
   intro i
   induction i using Nat.strongRecOn with
   | _ i ih =>
    intro hi
    have ho : ops[i]? = some ops[i] := Array.getElem?_eq_getElem hi
    cases hl : listed.getD i true with
    | false =>
     have : i ∈ Region.ready .any ops listed := mem_ready.2 ⟨hl, _, ho, fun e he hb => ih _ (ok.edge i _ ho e he hb) (by have := ok.edge i _ ho e he hb; omega)⟩
     rw [hr] at this
     simp at this
    | true =>
     have hi' : i < listed.size := by omega
     simp [hi'] at hl ⊢
     exact hl
  obtain ⟨h1, h2, h3⟩ := hI.done hD
  exact hk ι a w h1 h2 h3
 intro fuel
 induction fuel with
 | zero =>
  intro listed ι a w hs hf hI
  have hr : Region.ready .any ops listed = [] := by
   cases hr : Region.ready .any ops listed with
   | nil => rfl
   | cons i rest =>
    have hi : i ∈ Region.ready .any ops listed := by rw [hr]; exact List.mem_cons_self ..
    have := left_set (mem_ready.1 hi).1
    omega
  exact ⟨hr, fin listed ι a w hs hI hr⟩
 | succ fuel ih =>
  intro listed ι a w hs hf hI
  refine ⟨fin listed ι a w hs hI, fun i hi => ?_⟩
  obtain ⟨hun, o, ho, hr⟩ := mem_ready.1 hi
  have hin := (Array.getElem?_eq_some_iff.1 ho).1
  refine hI.op hF ok ho ?_ hr ?_
  · intro h
    have hi' : i < listed.size := by omega
    simp [hi'] at hun h
    rw [hun] at h; simp at h
  · intro ι' a' w' hI'
    have hset := left_set hun
    refine ih _ ι' a' w' (by simp [hs]) (by omega) ?_
    have : (fun j => (listed.setIfInBounds i true).getD j false = true) = fun j => listed.getD j false = true ∨ j = i := by
     funext j
     refine propext ?_
     by_cases hj : i = j
     · subst hj
       have hi' : i < listed.size := by omega
       simp [hi']
     · rw [getD_set_ne false hj]
       exact ⟨.inl, fun h => h.resolve_right fun e => hj e.symm⟩
    rw [this]
    exact hI'
theorem HR.drawn {L : Look} {d : Nat} (h : HR P ι w B L) : HR P ι { w with drawn := d } B L :=
 ⟨fun b o ho => let ⟨l, h1, h2, h3⟩ := h.obj b o ho; ⟨l, h1, by cases o <;> exact h2, h3⟩, h.inj, h.past, h.base, h.roB, h.rest, h.since⟩
theorem wp_drawn (hm : P.follows .mixedOrders = true) (hF : CallOK P F) (ok : OKd P ops pairs N) (h : aopsT P F pairs 0 (slimL ops ops.toList) s ⟨[], []⟩ = some s') {Q : Exit → Act → World → Prop} {id : Nat}
  (hreg : Regs dl ι s.ρ a N) (hr : HR P ι w B (AM.look s.h)) (hfr : Fresh ι s.h.length s'.h.length)
  (hk : ∀ ι' a' w', Regs dl ι' s'.ρ a' N → Step P ι w B (AM.look s.h) ι' w' (AM.look s'.h) → Lays ι ι' s'.h.length → Q .normal a' w') : (Code.region id ops true).wpIn (FR fr) 0 P Q a w := by
 obtain ⟨T⟩ := Tr.of_run h
 have h2 : s'.h = T.h ops.size := congrArg St.h T.last
 refine wpIn_region_any hm ?_
 refine wp_any (dl := dl) (T := T) (ι₀ := ι) (w₀ := { w with drawn := w.drawn + 1 }) (N := N) (B := B) hF ok ?_ ops.size _ ι a _ (by simp) (by simp [left]) ?_
 · intro ι' a' w' h3 h4 h5
   exact hk ι' a' w' h3 ⟨h4.ext, h4.hr, h4.size, h4.keep, h4.held, h4.os, h4.tape, h4.output⟩ h5
 · have hD : ∀ i, ¬ ((Array.replicate ops.size false).getD i false = true) := by
    intro i
    by_cases hi : i < ops.size <;> simp [hi]
   refine ⟨fun i o _ h => absurd h (hD i), hreg.size, hreg.defers, fun i o t h => absurd h (hD i), fun t x hx _ => hreg.get t x hx, ?_, ?_, .refl, fun i o h => absurd h (hD i)⟩
   · have : lk T.h (fun i => (Array.replicate ops.size false).getD i false = true) ops.size = AM.look s.h := by
      funext b
      rw [lk_high (Nat.zero_le _) fun j _ _ h => absurd h (hD j)]
      simp only [lk]
      rw [T.h0]
     rw [this]
     exact .refl hr.drawn
   · intro i hi _ b g h3 h4
     have h5 := T.len hF (i := 0) (j := i) (Nat.zero_le _) (by omega)
     have h6 := T.len hF (i := i + 1) (j := ops.size) (by omega) (Nat.le_refl _)
     rw [T.h0] at h5
     exact hfr b g (by omega) (by rw [h2]; omega)
def maskOf (acc : List Nat) : List Edge → Nat
 | [] => 0
 | e :: es => if Region.binds .any e then (2 ^ e.on ||| acc.getD e.on 0) ||| maskOf acc es else maskOf acc es
def masks : List Oper → List Nat → List Nat
 | [], acc => acc
 | o :: os, acc => masks os (acc ++ [maskOf acc o.after.toList])
def looseB (P : Program) (ops : Array Oper) (pairs : List (Nat × Nat)) (i j : Nat) (o o' : Oper) : Bool :=
 (match o'.dst with | some t => !(o.looksAt ops).contains t | none => true) &&
 (match o.dst with | some t => !(o'.looksAt ops).contains t | none => true) &&
 (!(clOf P o.op).strong || (clOf P o'.op).still || (isStore o.op && decide (clOf P o'.op = .alloc))) &&
 (decide (clOf P o.op ≠ .read) || (clOf P o'.op).still || pairs.contains (i, j)) &&
 (decide (clOf P o'.op ≠ .read) || !(clOf P o.op).strong || pairs.contains (j, i))
def edgesB : Nat → List Oper → Bool
 | _, [] => true
 | i, o :: os => o.after.toList.all (fun e => !Region.binds .any e || decide (e.on < i)) && edgesB (i + 1) os
def uniqB : Nat → List Oper → Bool
 | _, [] => true
 | m, o :: os => match o.dst with
  | some t => !m.testBit t && uniqB (m ||| 2 ^ t) os
  | none => uniqB m os
def ordB (P : Program) (ops : Array Oper) (pairs : List (Nat × Nat)) (ms : List Nat) : Bool :=
 (List.range ops.size).all fun i => match ops[i]? with
  | none => true
  | some o => (List.range i).all fun j => (ms.getD i 0).testBit j || match ops[j]? with
   | none => true
   | some o' => looseB P ops pairs i j o o'
def dstB (N : Nat) : List Oper → Bool
 | [] => true
 | o :: os => (match o.dst with | some t => decide (t < N) | none => true) && dstB N os
def drawB (P : Program) (ops : Array Oper) (pairs : List (Nat × Nat)) : Bool :=
 edgesB 0 ops.toList && uniqB 0 ops.toList && ordB P ops pairs (masks ops.toList [])
theorem edgesB_spec : ∀ {os : List Oper} {k : Nat}, edgesB k os = true → ∀ i o, os[i]? = some o → ∀ e ∈ o.after, Region.binds .any e = true → e.on < k + i
 | [], k, _, i, o, ho => by simp at ho
 | x :: os, k, h, i, o, ho => by
  simp only [edgesB, Bool.and_eq_true] at h
  intro e he hb
  cases i with
  | zero =>
   simp at ho; subst ho
   have := List.all_eq_true.1 h.1 e (by simpa using he)
   simp [hb] at this
   omega
  | succ i =>
   have := edgesB_spec h.2 i o (by simpa using ho) e he hb
   omega
theorem uniqB_spec : ∀ {os : List Oper} {m : Nat}, uniqB m os = true → (∀ (i : Nat) (o : Oper) (t : Nat), os[i]? = some o → o.dst = some t → m.testBit t = false) ∧
  ∀ (i j : Nat) (o o' : Oper) (t : Nat), os[i]? = some o → os[j]? = some o' → o.dst = some t → o'.dst = some t → i = j
 | [], m, _ => ⟨fun i o t ho => by simp at ho, fun i j o o' t ho => by simp at ho⟩
 | x :: os, m, h => by
  unfold uniqB at h
  cases hd : x.dst with
  | none =>
   simp only [hd] at h
   obtain ⟨h1, h2⟩ := uniqB_spec h
   refine ⟨fun i o t ho hot => ?_, fun i j o o' t ho ho' hot hot' => ?_⟩
   · cases i with
     | zero => simp at ho; subst ho; rw [hd] at hot; simp at hot
     | succ i => exact h1 i o t (by simpa using ho) hot
   · cases i with
     | zero => simp at ho; subst ho; rw [hd] at hot; simp at hot
     | succ i =>
      cases j with
      | zero => simp at ho'; subst ho'; rw [hd] at hot'; simp at hot'
      | succ j => rw [h2 i j o o' t (by simpa using ho) (by simpa using ho') hot hot']
  | some t₀ =>
   simp only [hd, Bool.and_eq_true, Bool.not_eq_true'] at h
   obtain ⟨h1, h2⟩ := uniqB_spec h.2
   have hno : ∀ (i : Nat) (o : Oper), os[i]? = some o → o.dst ≠ some t₀ := fun i o ho hot => by
    have := h1 i o t₀ ho hot
    simp [Nat.testBit_or, Nat.testBit_two_pow_self] at this
   refine ⟨fun i o t ho hot => ?_, fun i j o o' t ho ho' hot hot' => ?_⟩
   · cases i with
     | zero => simp at ho; subst ho; rw [hd] at hot; simp at hot; subst hot; exact h.1
     | succ i =>
      have := h1 i o t (by simpa using ho) hot
      simp [Nat.testBit_or] at this
      exact this.1
   · cases i with
     | zero =>
      cases j with
      | zero => rfl
      | succ j =>
       simp at ho; subst ho
       rw [hd] at hot
       simp at hot; subst hot
       exact absurd hot' (hno j o' (by simpa using ho'))
     | succ i =>
      cases j with
      | zero =>
       simp at ho'; subst ho'
       rw [hd] at hot'
       simp at hot'; subst hot'
       exact absurd hot (hno i o (by simpa using ho))
      | succ j => rw [h2 i j o o' t (by simpa using ho) (by simpa using ho') hot hot']
theorem maskOf_spec {acc : List Nat} {j : Nat} : ∀ {es : List Edge}, (maskOf acc es).testBit j = true → ∃ e ∈ es, Region.binds .any e = true ∧ (e.on = j ∨ (acc.getD e.on 0).testBit j = true)
 | [], h => by simp [maskOf] at h
 | e :: es, h => by
  unfold maskOf at h
  split at h
  · rename_i hb
    simp only [Nat.testBit_or, Bool.or_eq_true] at h
    rcases h with (h | h) | h
    · rw [Nat.testBit_two_pow] at h
      simp at h
      exact ⟨e, List.mem_cons_self .., hb, .inl h⟩
    · exact ⟨e, List.mem_cons_self .., hb, .inr h⟩
    · obtain ⟨e', h1, h2⟩ := maskOf_spec h
      exact ⟨e', List.mem_cons_of_mem _ h1, h2⟩
  · obtain ⟨e', h1, h2⟩ := maskOf_spec h
    exact ⟨e', List.mem_cons_of_mem _ h1, h2⟩
theorem masks_spec {ops : Array Oper} : ∀ {os : List Oper} {acc : List Nat}, (∀ i o, os[i]? = some o → ops[acc.length + i]? = some o) → (∀ i j, (acc.getD i 0).testBit j = true → Reach ops i j) →
  ∀ i j, ((masks os acc).getD i 0).testBit j = true → Reach ops i j
 | [], acc, _, h => h
 | o :: os, acc, hos, h => by
  have ho : ops[acc.length]? = some o := by simpa using hos 0 o rfl
  unfold masks
  refine masks_spec (fun i o' hi => ?_) fun i j hj => ?_
  · have := hos (i + 1) o' (by simpa using hi)
    simp
    rwa [show acc.length + 1 + i = acc.length + (i + 1) by omega]
  · rcases Nat.lt_trichotomy i acc.length with hi | hi | hi
    · refine h i j ?_
      simpa [List.getD_eq_getElem?_getD, List.getElem?_append_left hi] using hj
    · subst hi
      have : (maskOf acc o.after.toList).testBit j = true := by simpa [List.getD_eq_getElem?_getD] using hj
      obtain ⟨e, he, hb, hr⟩ := maskOf_spec this
      rcases hr with rfl | hr
      · exact .one ho (by simpa using he) hb
      · exact .more ho (by simpa using he) hb (h _ _ hr)
    · have : (acc ++ [maskOf acc o.after.toList])[i]? = none := List.getElem?_eq_none (by simp; omega)
      simp [List.getD_eq_getElem?_getD, this] at hj
theorem dstB_spec : ∀ {os : List Oper}, dstB N os = true → ∀ (i : Nat) (o : Oper) (t : Nat), os[i]? = some o → o.dst = some t → t < N
 | [], _, i, o, t, ho => by simp at ho
 | x :: os, h, i, o, t, ho => by
  intro hd
  simp only [dstB, Bool.and_eq_true] at h
  cases i with
  | zero => simp at ho; subst ho; have := h.1; rw [hd] at this; simpa using this
  | succ i => exact dstB_spec h.2 i o t (by simpa using ho) hd
theorem looseB_spec {i j : Nat} {o o' : Oper} (h : looseB P ops pairs i j o o' = true) : Loose P ops pairs i j o o' := by
 simp only [looseB, Bool.and_eq_true] at h
 obtain ⟨⟨⟨⟨h1, h2⟩, h3⟩, h4⟩, h5⟩ := h
 refine ⟨fun t ht => ?_, fun t ht => ?_, fun hs => ?_, fun hr hs => ?_, fun hr hs => ?_⟩
 · rw [ht] at h1; simpa using h1
 · rw [ht] at h2; simpa using h2
 · simp only [hs, Bool.not_true, Bool.false_or, Bool.or_eq_true, Bool.and_eq_true, decide_eq_true_eq] at h3
   exact h3
 · simpa [hr, hs] using h4
 · simpa [hr, hs] using h5
theorem OKd.of_check (hd : dstB N ops.toList = true) (h : drawB P ops pairs = true) : OKd P ops pairs N := by
 simp only [drawB, Bool.and_eq_true] at h
 obtain ⟨⟨h1, h2⟩, h3⟩ := h
 refine ⟨fun i o ho e he hb => ?_, fun i o t ho => dstB_spec hd i o t (by simpa using ho), fun i j o o' t ho ho' => (uniqB_spec h2).2 i j o o' t (by simpa using ho) (by simpa using ho'), fun i j o o' hji ho ho' => ?_⟩
 · have := edgesB_spec h1 i o (by simpa using ho) e he hb
   omega
 · have hi := (Array.getElem?_eq_some_iff.1 ho).1
   have h4 := List.all_eq_true.1 h3 i (List.mem_range.2 hi)
   simp only [ho] at h4
   have h5 := List.all_eq_true.1 h4 j (List.mem_range.2 hji)
   simp only [ho', Bool.or_eq_true] at h5
   rcases h5 with h5 | h5
   · exact .inl (masks_spec (acc := []) (fun i o hi => by simpa using hi) (fun i j hj => by simp at hj) i j h5)
   · exact .inr (looseB_spec h5)
end Go.AM
namespace Go.AM
open Go
set_option linter.unusedVariables false
set_option linter.unusedSimpArgs false
variable {P : Program} {ι ι' : Inj} {w w' : World} {B : Base} {N : Nat} {dl : List Deferred} {fr : Option Nat} {C : Base → Option Nat → Prop}
def noTmp : Op → Bool
 | .call c => match c.callee with
  | .value (.func _) => true
  | .value _ => false
  | _ => true
 | _ => true
theorem noTmp_low {ρ : Env} {op : Op} {g : FuncId} {args : List AV} (hn : noTmp op = true) (h : callOf (evalA ρ) op = some (some (g, args))) : g < 1000000000 := by
 cases op <;> simp only [callOf] at h <;> try (simp at h; done)
 rename_i c
 obtain ⟨callee, cargs, ts⟩ := c
 cases callee <;> simp only at h <;> try (simp at h; done)
 rename_i f
 cases f <;> simp only [noTmp] at hn <;> try (simp at hn; done)
 simp only [evalA] at h
 split at h
 · split at h
   · rename_i hlt
     simp at h
     obtain ⟨rfl, _⟩ := h
     exact hlt
   · simp at h
 · rename_i e _
   simp at e
 · rename_i e _
   simp at e
 · simp at h
def lowF (F : CallF) : CallF := fun g args h => if g < 1000000000 then F g args h else none
theorem CallsOK.low {F : CallF} (hF : CallsOK P C F) : CallOK P (lowF F) := by
 intro g args h r h' hr
 unfold lowF at hr
 split at hr
 · rename_i hlt
   rcases hF g args h r h' hr with h1 | ⟨_, l, x, rfl, _⟩
   · exact h1
   · exact absurd hlt (Nat.not_lt.2 (Nat.le_add_right _ _))
 · simp at hr
theorem astepT_low {F : CallF} {op : Op} {s : St} : astepT P (lowF F) op s = astepT P F op s := by
 unfold astepT lowF
 cases callOf (evalA s.ρ) op with
 | none => rfl
 | some x =>
  cases x with
  | none => rfl
  | some ga =>
   obtain ⟨g, args⟩ := ga
   simp only
   split <;> rfl
theorem aopsT_low {F : CallF} {ps : List (Nat × Nat)} : ∀ (os : List SOp) (k : Nat) (s : St) (g : Log), aopsT P (lowF F) ps k os s g = aopsT P F ps k os s g
 | [], k, s, g => rfl
 | o :: os, k, s, g => by
  unfold aopsT
  rw [astepT_low]
  cases awanted s.ρ o with
  | none => rfl
  | some b =>
   cases b with
   | false => exact aopsT_low os _ _ _
   | true =>
    simp only
    cases astepT P F o.op s with
    | none => rfl
    | some r =>
     obtain ⟨v, h, t⟩ := r
     simp only
     rw [aopsT_low os]
theorem aopsT_nil {F : CallF} : ∀ (os : List SOp) (k : Nat) (s s' : St) (g : Log), (∀ o ∈ os, noTmp o.op = true) → aops P F os s = some s' → aopsT P F [] k os s g = some s'
 | [], k, s, s', g, _, h => h
 | o :: os, k, s, s', g, hn, h => by
  unfold aops at h
  unfold aopsT
  split at h
  · rename_i hw
    split at h
    · rename_i v h1 hst
      obtain ⟨t, ht⟩ : ∃ t, astepT P F o.op s = some (v, h1, t) := by
       unfold astep at hst
       unfold astepT
       cases hc : callOf (evalA s.ρ) o.op with
       | none =>
        simp only [hc] at hst ⊢
        split at hst
        · simp at hst
          obtain ⟨rfl, rfl⟩ := hst
          exact ⟨_, rfl⟩
        · simp at hst
       | some x =>
        cases x with
        | none => simp [hc] at hst
        | some ga =>
         obtain ⟨g, args⟩ := ga
         have hlt := noTmp_low (hn o (List.mem_cons_self ..)) hc
         simp only [hc] at hst ⊢
         rw [if_pos hlt, hst]
         exact ⟨_, rfl⟩
      simp only [ht, okPairs, if_true]
      exact aopsT_nil os _ _ _ _ (fun x hx => hn x (List.mem_cons_of_mem _ hx)) h
    · simp at h
  · exact aopsT_nil os _ _ _ _ (fun x hx => hn x (List.mem_cons_of_mem _ hx)) h
  · simp at h
theorem pick_get {ρ : Env} : ∀ {ks : List Nat} {t : Nat} {v : AV}, (pick ρ ks).get t = some v → ρ.get t = some v
 | [], t, v, h => by simp [pick, Env.get] at h
 | k :: ks, t, v, h => by
  unfold pick at h
  split at h
  · rename_i x hx
    simp only [Env.get] at h
    split at h
    · rename_i hk
      subst hk
      simp at h; subst h
      exact hx
    · exact pick_get h
  · exact pick_get h
theorem prune_get {H : Hint} {k : Nat} {ρ : Env} {t : Nat} {v : AV} (h : (prune H k ρ).get t = some v) : ρ.get t = some v := by
 unfold prune at h
 split at h
 · exact pick_get h
 · exact h
theorem Regs.prune {ρ : Env} {a : Act} {H : Hint} {k : Nat} (h : Regs dl ι ρ a N) : Regs dl ι (prune H k ρ) a N :=
 ⟨h.size, fun t v hv => h.get t v (prune_get hv), h.defers⟩
def codeB (P : Program) (H : Hint) (N : Nat) : Code → Bool
 | .region id ops draw => dstB N ops.toList && (!draw || (drawB P ops ((alook id H.pairs).getD []) && ((alook id H.pairs).isSome || ops.toList.all fun o => noTmp o.op)))
 | .seq a b => codeB P H N a && codeB P H N b
 | .cond _ a b => codeB P H N a && codeB P H N b
 | .block _ c => codeB P H N c
 | .loop c => codeB P H N c
 | .scope c => codeB P H N c
 | _ => true
def exitOf : AExit → Exit
 | .normal => .normal
 | .exit id => .exit id
 | .ret => .ret
def Does (dl : List Deferred) (fr : Option Nat) (C : Base → Option Nat → Prop) (P : Program) (N : Nat) (c : Code) (s : St) (e : AExit) (s' : St) : Prop :=
 s.h.length ≤ s'.h.length ∧ ∀ (ι : Inj) (w : World) (B : Base) (a : Act) (Q : Exit → Act → World → Prop), C B fr → Regs dl ι s.ρ a N → HR P ι w B (look s.h) → Fresh ι s.h.length s'.h.length →
  (∀ ι' a' w', Regs dl ι' s'.ρ a' N → Step P ι w B (look s.h) ι' w' (look s'.h) → Lays ι ι' s'.h.length → Q (exitOf e) a' w') → c.wpIn (FR fr) 0 P Q a w
theorem slimL_mem {ops : Array Oper} : ∀ {os : List Oper}, (∀ o ∈ os, noTmp o.op = true) → ∀ x ∈ slimL ops os, noTmp x.op = true
 | [], _, x, hx => by simp [slimL] at hx
 | o :: os, h, x, hx => by
  simp only [slimL, List.mem_cons] at hx
  rcases hx with rfl | hx
  · exact h o (List.mem_cons_self ..)
  · exact slimL_mem (fun y hy => h y (List.mem_cons_of_mem _ hy)) x hx
theorem Does.region (hm : P.follows .mixedOrders = true) {F : CallF} (hF : CallsOK P C F) {H : Hint} {id : Nat} {ops : Array Oper} {draw : Bool} (hc : codeB P H N (.region id ops draw) = true) {s s' : St}
  (h : aregion P F H id ops draw s = some s') : Does dl fr C P N (.region id ops draw) s .normal s' := by
 simp only [codeB, Bool.and_eq_true] at hc
 have hd : ∀ (i : Nat) (o : Oper) (t : Nat), ops[i]? = some o → o.dst = some t → t < N := fun i o t ho => dstB_spec hc.1 i o t (by simpa using ho)
 have drawn : ∀ pairs, drawB P ops pairs = true → aopsT P F pairs 0 (slimL ops ops.toList) s ⟨[], []⟩ = some s' → Does dl fr C P N (.region id ops true) s .normal s' := by
  intro pairs hB hrun
  have ok := OKd.of_check (N := N) hc.1 hB
  rw [← aopsT_low] at hrun
  obtain ⟨T⟩ := Tr.of_run hrun
  refine ⟨?_, fun ι w B a Q hC hreg hr hfr hk => wp_drawn hm hF.low ok hrun hreg hr hfr hk⟩
  have := T.len hF.low (i := 0) (Nat.zero_le _) (Nat.le_refl ops.size)
  rw [T.h0] at this
  rw [congrArg St.h T.last]
  exact this
 cases draw with
 | true =>
  have hB := hc.2
  simp only [Bool.not_true, Bool.false_or, Bool.and_eq_true] at hB
  obtain ⟨hB, hT⟩ := hB
  unfold aregion at h
  cases hp : alook id H.pairs with
  | some pairs =>
   simp only [hp] at h
   rw [hp] at hB
   exact drawn pairs hB h
  | none =>
   simp only [hp] at h
   rw [hp] at hB hT
   refine drawn [] hB (aopsT_nil _ _ _ _ _ (fun o ho => ?_) h)
   simp only [Option.isSome_none, Bool.false_or, List.all_eq_true] at hT
   exact slimL_mem hT o ho
 | false =>
  have h' : aops P F (slimL ops ops.toList) s = some s' := by
   unfold aregion at h
   simpa using h
  refine ⟨aops_length hF.grows h', fun ι w B a Q hC hreg hr hfr hk => wpIn_region ?_⟩
  have := wp_aops (fr := fr) hF hC (Q := Q) hd ops.toList 0 ι w a s s' (fun i o hi => by simpa using hi) h' hreg hr hfr hk
  simpa [List.range_eq_range'] using this
theorem Does.prune {c : Code} {s s' : St} {e : AExit} {H : Hint} {k : Nat} (h : Does dl fr C P N c s e s') : Does dl fr C P N c s e ⟨prune H k s'.ρ, s'.h⟩ :=
 ⟨h.1, fun ι w B a Q hC hreg hr hfr hk => h.2 ι w B a Q hC hreg hr hfr fun ι' a' w' h1 h2 h3 => hk ι' a' w' h1.prune h2 h3⟩
theorem Does.rounds {c : Code} {keep : Env → Env} {body : St → Out} (hkeep : ∀ ρ t v, (keep ρ).get t = some v → ρ.get t = some v) (hb : ∀ s e s', body s = some (e, s') → Does dl fr C P N c s e s') :
  ∀ (n : Nat) (s : St) (e : AExit) (s' : St), aiterate keep body n s = some (e, s') → e ≠ .normal ∧ s.h.length ≤ s'.h.length ∧
   ∀ (ι : Inj) (w : World) (B : Base) (a : Act) (Q : Exit → Act → World → Prop), C B fr → Regs dl ι s.ρ a N → HR P ι w B (look s.h) → Fresh ι s.h.length s'.h.length →
    (∀ ι' a' w', Regs dl ι' s'.ρ a' N → Step P ι w B (look s.h) ι' w' (look s'.h) → Lays ι ι' s'.h.length → Q (exitOf e) a' w') → Code.roundsIn (FR fr) 0 P c Q n a w
 | 0, s, e, s', h => by simp [aiterate] at h
 | n + 1, s, e, s', h => by
  unfold aiterate at h
  have hk : ∀ {ι : Inj} {a : Act}, Regs dl ι s.ρ a N → Regs dl ι (keep s.ρ) a N := fun h => ⟨h.size, fun t v hv => h.get t v (hkeep _ t v hv), h.defers⟩
  split at h
  · rename_i s₁ hs₁
    obtain ⟨h1, h2⟩ := hb _ _ _ hs₁
    obtain ⟨h3, h4, h5⟩ := Does.rounds hkeep hb n s₁ e s' h
    refine ⟨h3, Nat.le_trans h1 h4, fun ι w B a Q hC hreg hr hfr hq => ?_⟩
    refine h2 ι w B a _ hC (hk hreg) hr (hfr.sub h4) fun ι' a' w' hreg' hst hla => ?_
    exact h5 ι' w' B a' Q hC hreg' hst.hr (hfr.next h1 hla) fun ι'' a'' w'' g1 g2 g3 => hq ι'' a'' w'' g1 (hst.trans g2) (hla.trans g3 h4)
  · rename_i hne
    obtain ⟨h1, h2⟩ := hb _ _ _ h
    have hen : e ≠ .normal := fun he => by subst he; exact hne _ h
    refine ⟨hen, h1, fun ι w B a Q hC hreg hr hfr hq => ?_⟩
    refine h2 ι w B a _ hC (hk hreg) hr hfr fun ι' a' w' hreg' hst hla => ?_
    have := hq ι' a' w' hreg' hst hla
    cases e with
    | normal => exact absurd rfl hen
    | exit id => exact this
    | ret => exact this
theorem stepR_scope {b : Frame} {a : Act} {k : List Item} {cs : List Frame} {c : Code} : step P (lone (b.atR a (.code (.scope c) :: k)) cs w) = .next (lone (b.atR a (.code c :: .inScope c :: k)) cs w) :=
 step_lone_go (by simp [stepG, stepG.exec, Frame.atR])
theorem stepR_inScope {b : Frame} {a : Act} {k : List Item} {cs : List Frame} {c : Code} : step P (lone (b.atR a (.inScope c :: k)) cs w) = .next (lone (b.atR a k) cs w) :=
 step_lone_go (by simp [stepG, stepG.exec, Frame.atR])
theorem wpIn_scope_straight {F : Fence} {n : Nat} {Q : Exit → Act → World → Prop} {a : Act} {c : Code} (h : c.wpIn F n P (Exit.noGoto Q) a w) : (Code.scope c).wpIn F n P Q a w := by
 intro b k cs hro hb hr
 have h0 : StepsIn (Machine.fenced P F) P (lone (b.atR a (.code (.scope c) :: k)) cs w) (lone (b.atR a (.code c :: .inScope c :: k)) cs w) := .one (fenced_calm hb hr rfl) stepR_scope
 obtain ⟨e, a₁, w₁, hq, harr⟩ := h b (.inScope c :: k) cs hro hb hr
 have hx : ∀ id, exitTo id (.inScope c :: k) = exitTo id k := fun id => by simp [exitTo]
 cases e with
 | normal => exact ⟨.normal, a₁, w₁, hq, StepsIn.trans h0 (StepsIn.trans harr (.one (fenced_calm hb hr rfl) stepR_inScope))⟩
 | exit id => exact ⟨.exit id, a₁, w₁, hq, .of_steps h0 ⟨fun k' hk => harr.1 k' (by rw [hx]; exact hk), fun hr' hk => harr.2 hr' (by rw [hx]; exact hk)⟩⟩
 | goto l => exact hq.elim
 | ret => exact ⟨_, a₁, w₁, hq, .of_steps h0 harr⟩
 | panic ch => exact ⟨_, a₁, w₁, hq, .of_steps h0 harr⟩
 | outgrown => exact ⟨_, a₁, w₁, hq, .of_steps h0 harr⟩
theorem acode_does (hm : P.follows .mixedOrders = true) {F : CallF} (hF : CallsOK P C F) {H : Hint} {n : Nat} : ∀ (c : Code), codeB P H N c = true → ∀ (s : St) (e : AExit) (s' : St), acode P F H n c s = some (e, s') → Does dl fr C P N c s e s' := by
 intro c
 induction c with
 | skip =>
  intro _ s e s' h
  simp [acode] at h
  obtain ⟨rfl, rfl⟩ := h
  exact ⟨Nat.le_refl _, fun ι w B a Q hC hreg hr hfr hk => wpIn_skip (hk ι a w hreg (.refl hr) .refl)⟩
 | label l =>
  intro _ s e s' h
  simp [acode] at h
  obtain ⟨rfl, rfl⟩ := h
  exact ⟨Nat.le_refl _, fun ι w B a Q hC hreg hr hfr hk => wpIn_label (hk ι a w hreg (.refl hr) .refl)⟩
 | exit id =>
  intro _ s e s' h
  simp [acode] at h
  obtain ⟨rfl, rfl⟩ := h
  exact ⟨Nat.le_refl _, fun ι w B a Q hC hreg hr hfr hk => wpIn_exit (hk ι a w hreg (.refl hr) .refl)⟩
 | ret =>
  intro _ s e s' h
  simp [acode] at h
  obtain ⟨rfl, rfl⟩ := h
  exact ⟨Nat.le_refl _, fun ι w B a Q hC hreg hr hfr hk => wpIn_ret (hk ι a w hreg (.refl hr) .refl)⟩
 | region id ops draw =>
  intro hc s e s' h
  simp only [acode] at h
  split at h
  · rename_i s₁ hs₁
    simp at h
    obtain ⟨rfl, rfl⟩ := h
    exact (Does.region hm hF hc hs₁).prune
  · simp at h
 | seq x y ihx ihy =>
  intro hc s e s' h
  simp only [codeB, Bool.and_eq_true] at hc
  simp only [acode] at h
  split at h
  · rename_i s₁ hs₁
    obtain ⟨h1, h2⟩ := ihx hc.1 _ _ _ hs₁
    obtain ⟨h3, h4⟩ := ihy hc.2 _ _ _ h
    refine ⟨Nat.le_trans h1 h3, fun ι w B a Q hC hreg hr hfr hk => wpIn_seq ?_⟩
    refine h2 ι w B a _ hC hreg hr (hfr.sub h3) fun ι' a' w' hreg' hst hla => ?_
    exact h4 ι' w' B a' Q hC hreg' hst.hr (hfr.next h1 hla) fun ι'' a'' w'' g1 g2 g3 => hk ι'' a'' w'' g1 (hst.trans g2) (hla.trans g3 h3)
  · rename_i hne
    obtain ⟨h1, h2⟩ := ihx hc.1 _ _ _ h
    have hen : e ≠ .normal := fun he => by subst he; exact hne _ h
    refine ⟨h1, fun ι w B a Q hC hreg hr hfr hk => wpIn_seq ?_⟩
    refine h2 ι w B a _ hC hreg hr hfr fun ι' a' w' hreg' hst hla => ?_
    have := hk ι' a' w' hreg' hst hla
    cases e with
    | normal => exact absurd rfl hen
    | exit id => exact this
    | ret => exact this
 | cond c x y ihx ihy =>
  intro hc s e s' h
  simp only [codeB, Bool.and_eq_true] at hc
  simp only [acode] at h
  have main : ∀ (e : AExit) (s' : St), (match evalA s.ρ c with
    | some (.bool true) => acode P F H n x s
    | some (.bool false) => acode P F H n y s
    | _ => none) = some (e, s') → Does dl fr C P N (.cond c x y) s e s' := by
   intro e s' h
   split at h
   · rename_i hv
     obtain ⟨h1, h2⟩ := ihx hc.1 _ _ _ h
     exact ⟨h1, fun ι w B a Q hC hreg hr hfr hk => wpIn_cond_true (hreg.eval c _ hv).bool_inv (h2 ι w B a Q hC hreg hr hfr hk)⟩
   · rename_i hv
     obtain ⟨h1, h2⟩ := ihy hc.2 _ _ _ h
     exact ⟨h1, fun ι w B a Q hC hreg hr hfr hk => wpIn_cond_false (hreg.eval c _ hv).bool_inv (h2 ι w B a Q hC hreg hr hfr hk)⟩
   · simp at h
  split at h
  · rename_i s₁ hs₁
    simp at h
    obtain ⟨rfl, rfl⟩ := h
    exact (main _ _ hs₁).prune
  · exact main _ _ h
 | block id x ih =>
  intro hc s e s' h
  simp only [codeB] at hc
  simp only [acode] at h
  split at h
  · rename_i id' s₁ hs₁
    obtain ⟨h1, h2⟩ := ih hc _ _ _ hs₁
    split at h
    · rename_i hid
      simp at h
      obtain ⟨rfl, rfl⟩ := h
      refine ⟨h1, fun ι w B a Q hC hreg hr hfr hk => wpIn_block ?_⟩
      refine h2 ι w B a _ hC hreg hr hfr fun ι' a' w' hreg' hst hla => ?_
      simp only [exitOf, Exit.inBlock, hid, if_true]
      exact hk ι' a' w' hreg' hst hla
    · rename_i hid
      simp at h
      obtain ⟨rfl, rfl⟩ := h
      refine ⟨h1, fun ι w B a Q hC hreg hr hfr hk => wpIn_block ?_⟩
      refine h2 ι w B a _ hC hreg hr hfr fun ι' a' w' hreg' hst hla => ?_
      simp only [exitOf, Exit.inBlock, hid, if_false]
      exact hk ι' a' w' hreg' hst hla
  · rename_i hne
    obtain ⟨h1, h2⟩ := ih hc _ _ _ h
    refine ⟨h1, fun ι w B a Q hC hreg hr hfr hk => wpIn_block ?_⟩
    refine h2 ι w B a _ hC hreg hr hfr fun ι' a' w' hreg' hst hla => ?_
    have := hk ι' a' w' hreg' hst hla
    cases e with
    | normal => exact this
    | exit id => exact absurd h (hne _ _)
    | ret => exact this
 | loop x ih =>
  intro hc s e s' h
  simp only [codeB] at hc
  simp only [acode] at h
  obtain ⟨h1, h2, h3⟩ := Does.rounds (P := P) (N := N) (c := x) (fun ρ t v => prune_get) (ih hc) n s e s' h
  exact ⟨h2, fun ι w B a Q hC hreg hr hfr hk => wpIn_loop_rounds n (h3 ι w B a Q hC hreg hr hfr hk)⟩
 | scope x ih =>
  intro hc s e s' h
  simp only [codeB] at hc
  simp only [acode] at h
  obtain ⟨h1, h2⟩ := ih hc _ _ _ h
  refine ⟨h1, fun ι w B a Q hC hreg hr hfr hk => wpIn_scope_straight ?_⟩
  refine h2 ι w B a _ hC hreg hr hfr fun ι' a' w' hreg' hst hla => ?_
  have := hk ι' a' w' hreg' hst hla
  cases e <;> exact this
 | _ =>
  intro _ s e s' h
  simp [acode] at h
def resRun (tmps : Array Value) : ResultVar → Sem Value
 | .tmp t => pure (tmps.getD t undef)
 | .cell x t => do loadVar t (← asAddr (tmps.getD x undef))
theorem results_eq (fn : Func) (tmps : Array Value) : results fn tmps = (do
  let vs ← fn.results.mapM (resRun tmps)
  pure (if h : vs.size = 1 then vs[0] else .tuple vs)) := by
 unfold results
 congr 2
theorem run_result {a : Act} {s : St} (hreg : Regs dl ι s.ρ a N) (hr : HR P ι w B (look s.h)) {r : ResultVar} {v : AV} (h : aresult P s r = some v) :
  ∃ u, (resRun a.tmps r).run P w = .ok u w ∧ V ι v u := by
 cases r with
 | tmp t =>
  obtain ⟨u, h1, h2⟩ := hreg.get t v h
  exact ⟨u, by simp [resRun, h1], h2⟩
 | cell x t =>
  simp only [aresult] at h
  split at h
  · rename_i p hp
    obtain ⟨u, h1, h2⟩ := hreg.get x p hp
    obtain ⟨y, h3, h4⟩ := ok_load (L := look s.h) hr h2 h
    refine ⟨y, ?_, h4⟩
    rw [← h3]
    unfold aload at h
    split at h
    · obtain ⟨l, _, _, rfl⟩ := h2.ptr_inv
      simp [resRun, h1, Instr.loadAt, Instr.sureAddr, asAddr]
    · simp at h
  · simp at h
theorem run_resultL {a : Act} {s : St} (hreg : Regs dl ι s.ρ a N) (hr : HR P ι w B (look s.h)) : ∀ {rs : List ResultVar} {vs : List AV}, aresultL P s rs = some vs →
  ∃ us, (rs.mapM (resRun a.tmps)).run P w = .ok us w ∧ L2 (V ι) vs us
 | [], vs, h => by simp [aresultL] at h; subst h; exact ⟨[], by simp, trivial⟩
 | r :: rs, vs, h => by
  unfold aresultL at h
  split at h
  · rename_i v vs' hv hvs
    simp at h; subst h
    obtain ⟨u, h1, h2⟩ := run_result hreg hr hv
    obtain ⟨us, h3, h4⟩ := run_resultL hreg hr hvs
    refine ⟨u :: us, ?_, h2, h4⟩
    rw [List.mapM_cons]
    simp only [Sem.run_bind, h1, h3, Result.andThen_ok, Sem.run_pure]
  · simp at h
theorem argsEnv_get : ∀ {args : List AV} {i t : Nat} {v : AV}, (argsEnv i args).get t = some v → i ≤ t ∧ args[t - i]? = some v
 | [], i, t, v, h => by simp [argsEnv, Env.get] at h
 | x :: xs, i, t, v, h => by
  simp only [argsEnv, Env.get] at h
  split at h
  · rename_i he
    subst he
    exact ⟨Nat.le_refl _, by simpa using h⟩
  · rename_i he
    obtain ⟨h1, h2⟩ := argsEnv_get h
    refine ⟨by omega, ?_⟩
    rw [show t - i = (t - (i + 1)) + 1 by omega]
    simpa using h2
def fnB (P : Program) (H : Hint) (fn : Func) : Bool :=
 match fn.body with
 | some code => fn.name != "runtime.NumGoroutine" && codeB P H fn.ntmps code && fn.results.toList.all fun r => true
 | none => false
structure CfgOK (c : Cfg) : Prop where
 mixed : c.P.follows .mixedOrders = true
 small : c.P.funcs.size ≤ 1000000000
 own : ∀ f fn, c.ext f = none → c.P.funcs[f]? = some fn → fnB c.P (c.hint f) fn = true
 ext : ∀ f g, c.ext f = some g → ∀ args h r h', g args h = some (r, h') →
  (∃ fn, c.P.funcs[f]? = some fn ∧ fn.body.isSome = true ∧ (fn.name == "runtime.NumGoroutine") = false) ∧ h.length ≤ h'.length ∧
  ∀ (ι : Inj) (w : World) (B : Base) (cargs : List Value), HR c.P ι w B (look h) → Fresh ι h.length h'.length → L2 (V ι) args cargs →
   Calls c.P f cargs.toArray w fun e w' => ∃ ι' u, e = .returned u ∧ V ι' r u ∧ Step c.P ι w B (look h) ι' w' (look h') ∧ Lays ι ι' h'.length
theorem call_code {c : Cfg} {F : CallF} (hm : c.P.follows .mixedOrders = true) (hF : CallOK c.P F) {f : FuncId} {fn : Func} {code : Code} (hfn : c.P.funcs[f]? = some fn) (hb : fn.body = some code) {H : Hint}
  (hc : codeB c.P H fn.ntmps code = true) {n : Nat} {args : List AV} {h : Heap} {r : AV} {h' : Heap} (hn : args.length ≤ fn.ntmps)
  (hrun : afinish c.P fn (acode c.P F H n code ⟨argsEnv 0 args, h⟩) = some (r, h')) :
  h.length ≤ h'.length ∧ ∀ (ι : Inj) (w : World) (B : Base) (cargs : List Value), HR c.P ι w B (look h) → Fresh ι h.length h'.length → L2 (V ι) args cargs →
   Calls c.P f cargs.toArray w fun e w' => ∃ ι' u, e = .returned u ∧ V ι' r u ∧ Step c.P ι w B (look h) ι' w' (look h') ∧ Lays ι ι' h'.length := by
 have main : ∀ e s', acode c.P F H n code ⟨argsEnv 0 args, h⟩ = some (e, s') → (e = .normal ∨ e = .ret) → ∀ vs, aresultL c.P s' fn.results.toList = some vs → vs.all AV.notTup = true → r = pack vs → h' = s'.h →
   h.length ≤ h'.length ∧ ∀ (ι : Inj) (w : World) (B : Base) (cargs : List Value), HR c.P ι w B (look h) → Fresh ι h.length h'.length → L2 (V ι) args cargs →
   Calls c.P f cargs.toArray w fun e w' => ∃ ι' u, e = .returned u ∧ V ι' r u ∧ Step c.P ι w B (look h) ι' w' (look h') ∧ Lays ι ι' h'.length := by
  clear hrun
  rintro e s' hrun he vs hvs hall rfl rfl
  obtain ⟨h1, h2⟩ := acode_does (C := fun _ _ => True) hm hF.calls code hc _ _ _ hrun
  refine ⟨h1, fun ι w B cargs hr hfr hargs => calls_of_wp hfn hb ((wpIn_wide (n := 0)).1 ?_)⟩
  have hlen := hargs.length
  refine h2 ι w B _ _ trivial ⟨by simp; omega, fun t v hv => ?_, rfl⟩ hr hfr fun ι' a' w' hreg hst hla => ?_
  · obtain ⟨_, hv⟩ := argsEnv_get hv
    obtain ⟨u, hu, hc⟩ := hargs.get _ v hv
    refine ⟨u, ?_, hc⟩
    simp only [Nat.sub_zero] at hu
    rw [Array.getElem?_append_left (by simp; exact (List.getElem?_eq_some_iff.1 hu).1)]
    simpa using hu
  · obtain ⟨us, hus, hl⟩ := run_resultL hreg hst.hr hvs
    have hres : ∃ u, (results fn a'.tmps).run c.P w' = .ok u w' ∧ V ι' (pack vs) u := by
     rw [results_eq, Array.mapM_eq_mapM_toList]
     have hva : L2 (Va ι') vs us := L2.of_get hl.length fun i x hx => by
      obtain ⟨u, hu, hv⟩ := hl.get i x hx
      have := List.all_eq_true.1 hall x (List.mem_of_getElem? hx)
      exact ⟨u, hu, hv.to_Va fun ts ht => by subst ht; simp [AV.notTup] at this⟩
     clear hvs hall
     simp only [Sem.run_bind, Sem.run_map, Sem.run_pure, hus, Result.andThen_ok]
     match vs, us, hl, hva with
     | [], [], _, _ => exact ⟨_, rfl, trivial⟩
     | [v], [u], hl, _ => exact ⟨_, rfl, hl.1⟩
     | v1 :: v2 :: vs, u1 :: u2 :: us, _, hva => exact ⟨.tuple (u1 :: u2 :: us).toArray, by simp, hva⟩
    obtain ⟨u, hu, hv⟩ := hres
    have hd := hreg.defers
    rcases he with rfl | rfl <;> exact ⟨hd, u, hu, ι', u, rfl, hv, hst, hla⟩
 unfold afinish at hrun
 split at hrun
 · rename_i s' hs'
   split at hrun
   · rename_i vs hvs
     split at hrun
     · rename_i hall
       simp at hrun
       exact main _ _ hs' (.inl rfl) vs hvs hall hrun.1.symm hrun.2.symm
     · simp at hrun
   · simp at hrun
 · rename_i s' hs'
   split at hrun
   · rename_i vs hvs
     split at hrun
     · rename_i hall
       simp at hrun
       exact main _ _ hs' (.inr rfl) vs hvs hall hrun.1.symm hrun.2.symm
     · simp at hrun
   · simp at hrun
 · simp at hrun
theorem acall_ok {c : Cfg} (hc : CfgOK c) : ∀ n, CallOK c.P (acall c n)
 | 0 => fun g args h r h' hrun => by simp [acall] at hrun
 | n + 1 => by
  intro g args h r h' hrun
  unfold acall at hrun
  split at hrun
  · rename_i F hF
    obtain ⟨⟨fn, h1, h2, h3⟩, h4⟩ := hc.ext g F hF args h r h' hrun
    exact ⟨⟨fn, h1, h2, h3, Nat.lt_of_lt_of_le (Array.getElem?_eq_some_iff.1 h1).1 hc.small⟩, h4⟩
  · rename_i hext
    split at hrun
    · rename_i fn hfn
      split at hrun
      · rename_i code hb
        split at hrun
        · rename_i hn
          have hB := hc.own g fn hext hfn
          unfold fnB at hB
          rw [hb] at hB
          simp only [Bool.and_eq_true] at hB
          obtain ⟨⟨h1, h2⟩, _⟩ := hB
          obtain ⟨h3, h4⟩ := call_code hc.mixed (acall_ok hc n) hfn hb h2 hn hrun
          exact ⟨⟨fn, hfn, by rw [hb]; rfl, by simpa using h1, Nat.lt_of_lt_of_le (Array.getElem?_eq_some_iff.1 hfn).1 hc.small⟩, h3, h4⟩
        · simp at hrun
      · simp at hrun
    · simp at hrun
end Go.AM
namespace Go.AM
open Go
set_option linter.unusedVariables false
set_option linter.unusedSimpArgs false
variable {P : Program} {H : Hint}
inductive SC where
 | skip
 | reg (ops : List SOp) (pairs : Option (List (Nat × Nat))) (keep : Option (List Nat))
 | seq (a b : SC)
 | cond (c : Operand) (a b : SC) (keep : Option (List Nat))
 | block (id : Nat) (c : SC)
 | loop (c : SC) (keep : Option (List Nat))
 | exit (id : Nat)
 | ret
 | bad
def compile (H : Hint) : Code → SC
 | .skip => .skip
 | .region id ops draw => .reg (slimL ops ops.toList) (match draw, alook id H.pairs with | true, some ps => some ps | _, _ => none) (alook id H.keep)
 | .seq a b => .seq (compile H a) (compile H b)
 | .cond c a b => .cond c (compile H a) (compile H b) (alook (condKey c) H.keep)
 | .block id c => .block id (compile H c)
 | .loop c => .loop (compile H c) (alook (1000000 + firstReg c) H.keep)
 | .exit id => .exit id
 | .ret => .ret
 | .scope c => compile H c
 | .label _ => .skip
 | _ => .bad
def cut (keep : Option (List Nat)) (ρ : Env) : Env :=
 match keep with
 | some ks => pick ρ ks
 | none => ρ
theorem prune_cut (k : Nat) (ρ : Env) : prune H k ρ = cut (alook k H.keep) ρ := by
 unfold prune cut
 cases alook k H.keep <;> rfl
def sreg (P : Program) (F : CallF) (ops : List SOp) (pairs : Option (List (Nat × Nat))) (s : St) : Option St :=
 match pairs with
 | some ps => aopsT P F ps 0 ops s ⟨[], []⟩
 | none => aops P F ops s
def after (keep : Option (List Nat)) : Out → Out
 | some (.normal, s) => some (.normal, ⟨cut keep s.ρ, s.h⟩)
 | r => r
def scode (P : Program) (F : CallF) (N : Nat) : SC → St → Out
 | .skip, s => some (.normal, s)
 | .reg ops pairs keep, s => match sreg P F ops pairs s with
  | some s' => some (.normal, ⟨cut keep s'.ρ, s'.h⟩)
  | none => none
 | .seq a b, s => match scode P F N a s with
  | some (.normal, s') => scode P F N b s'
  | r => r
 | .cond c a b keep, s => after keep (match evalA s.ρ c with
   | some (.bool true) => scode P F N a s
   | some (.bool false) => scode P F N b s
   | _ => none)
 | .block id c, s => match scode P F N c s with
  | some (.exit id', s') => if id' = id then some (.normal, s') else some (.exit id', s')
  | r => r
 | .loop c keep, s => aiterate (cut keep) (scode P F N c) N s
 | .exit id, s => some (.exit id, s)
 | .ret, s => some (.ret, s)
 | .bad, _ => none
theorem acode_compile {F : CallF} {N : Nat} : ∀ (c : Code) (s : St), acode P F H N c s = scode P F N (compile H c) s := by
 intro c
 induction c with
 | region id ops draw =>
  intro s
  simp only [acode, compile, scode, aregion, sreg, prune_cut]
  cases draw with
  | false => rfl
  | true => cases alook id H.pairs <;> rfl
 | seq a b iha ihb => intro s; simp only [acode, compile, scode, iha, ihb]; rfl
 | cond c a b iha ihb =>
  intro s
  simp only [acode, compile, scode, iha, ihb, prune_cut, after]
  rfl
 | block id c ih => intro s; simp only [acode, compile, scode, ih]; rfl
 | loop c ih =>
  intro s
  simp only [acode, compile, scode]
  have h1 : acode P F H N c = scode P F N (compile H c) := funext ih
  have h2 : prune H (1000000 + firstReg c) = cut (alook (1000000 + firstReg c) H.keep) := funext (prune_cut _)
  rw [h1, h2]
 | scope c ih => intro s; simp only [acode, compile, ih]
 | _ => intro s; simp only [acode, compile, scode]
def Comes (F : CallF) (G : Nat → CallF) : Prop := ∀ g a h r, F g a h = some r → ∃ m, ∀ m', m ≤ m' → G m' g a h = some r
section
variable {F : CallF} {G : Nat → CallF}
theorem astep_ev (hG : Comes F G) {op : Op} {s : St} {r : AV × Heap} (h : astep P F op s = some r) : ∃ m, ∀ m', m ≤ m' → astep P (G m') op s = some r := by
 unfold astep at h
 cases hc : callOf (evalA s.ρ) op with
 | none =>
  simp only [hc] at h
  exact ⟨0, fun m' _ => by unfold astep; simp only [hc]; exact h⟩
 | some x =>
  cases x with
  | none => simp [hc] at h
  | some ga =>
   simp only [hc] at h
   obtain ⟨m, hm⟩ := hG _ _ _ _ h
   exact ⟨m, fun m' hm' => by unfold astep; simp only [hc]; exact hm m' hm'⟩
theorem astepT_ev (hG : Comes F G) {op : Op} {s : St} {r : AV × Heap × Touch} (h : astepT P F op s = some r) : ∃ m, ∀ m', m ≤ m' → astepT P (G m') op s = some r := by
 unfold astepT at h
 cases hc : callOf (evalA s.ρ) op with
 | none =>
  simp only [hc] at h
  exact ⟨0, fun m' _ => by unfold astepT; simp only [hc]; exact h⟩
 | some x =>
  cases x with
  | none => simp [hc] at h
  | some ga =>
   simp only [hc] at h
   split at h
   · rename_i hlt
     split at h
     · rename_i v h' hF
       obtain ⟨m, hm⟩ := hG _ _ _ _ hF
       refine ⟨m, fun m' hm' => ?_⟩
       unfold astepT
       simp only [hc, hm m' hm', if_pos hlt]
       exact h
     · simp at h
   · simp at h
theorem aops_ev (hG : Comes F G) : ∀ {os : List SOp} {s r : St}, aops P F os s = some r → ∃ m, ∀ m', m ≤ m' → aops P (G m') os s = some r
 | [], s, r, h => ⟨0, fun _ _ => h⟩
 | o :: os, s, r, h => by
  unfold aops at h
  cases hw : awanted s.ρ o with
  | none => simp [hw] at h
  | some b =>
   cases b with
   | false =>
    simp only [hw] at h
    obtain ⟨m, hm⟩ := aops_ev hG h
    refine ⟨m, fun m' hm' => ?_⟩
    unfold aops
    simp only [hw]
    exact hm m' hm'
   | true =>
    simp only [hw] at h
    split at h
    · rename_i v h' hst
      obtain ⟨m1, hm1⟩ := astep_ev hG hst
      obtain ⟨m2, hm2⟩ := aops_ev hG h
      refine ⟨max m1 m2, fun m' hm' => ?_⟩
      unfold aops
      simp only [hw, hm1 m' (by omega)]
      exact hm2 m' (by omega)
    · simp at h
theorem aopsT_ev (hG : Comes F G) {ps : List (Nat × Nat)} : ∀ {os : List SOp} {j : Nat} {s r : St} {g : Log}, aopsT P F ps j os s g = some r → ∃ m, ∀ m', m ≤ m' → aopsT P (G m') ps j os s g = some r
 | [], j, s, r, g, h => ⟨0, fun _ _ => h⟩
 | o :: os, j, s, r, g, h => by
  unfold aopsT at h
  cases hw : awanted s.ρ o with
  | none => simp [hw] at h
  | some b =>
   cases b with
   | false =>
    simp only [hw] at h
    obtain ⟨m, hm⟩ := aopsT_ev hG h
    refine ⟨m, fun m' hm' => ?_⟩
    unfold aopsT
    simp only [hw]
    exact hm m' hm'
   | true =>
    simp only [hw] at h
    split at h
    · rename_i v h' t hst
      split at h
      · rename_i hok
        obtain ⟨m1, hm1⟩ := astepT_ev hG hst
        obtain ⟨m2, hm2⟩ := aopsT_ev hG h
        refine ⟨max m1 m2, fun m' hm' => ?_⟩
        unfold aopsT
        simp only [hw, hm1 m' (by omega), hok, if_true]
        exact hm2 m' (by omega)
      · simp at h
    · simp at h
theorem sreg_ev (hG : Comes F G) {ops : List SOp} {pairs : Option (List (Nat × Nat))} {s r : St} (h : sreg P F ops pairs s = some r) : ∃ m, ∀ m', m ≤ m' → sreg P (G m') ops pairs s = some r := by
 cases pairs with
 | none => exact aops_ev hG h
 | some ps => exact aopsT_ev hG h
theorem aiterate_ev {keep : Env → Env} {b : St → Out} {b' : Nat → Nat → St → Out} {n₀ : Nat} (hb : ∀ s r, b s = some r → ∃ m, ∀ m', m ≤ m' → ∀ n', n₀ ≤ n' → b' m' n' s = some r) :
  ∀ {k : Nat} {s : St} {r : AExit × St}, aiterate keep b k s = some r → ∃ m, ∀ m', m ≤ m' → ∀ n', n₀ ≤ n' → ∀ k', k ≤ k' → aiterate keep (b' m' n') k' s = some r
 | 0, s, r, h => by simp [aiterate] at h
 | k + 1, s, r, h => by
  unfold aiterate at h
  cases hx : b ⟨keep s.ρ, s.h⟩ with
  | none => simp [hx] at h
  | some x =>
   obtain ⟨e, s₁⟩ := x
   obtain ⟨m1, hm1⟩ := hb _ _ hx
   cases e with
   | normal =>
    simp only [hx] at h
    obtain ⟨m2, hm2⟩ := aiterate_ev hb h
    refine ⟨max m1 m2, fun m' hm' n' hn' k' hk' => ?_⟩
    obtain ⟨j, rfl⟩ : ∃ j, k' = j + 1 := ⟨k' - 1, by omega⟩
    unfold aiterate
    simp only [hm1 m' (by omega) n' hn']
    exact hm2 m' (by omega) n' hn' j (by omega)
   | exit id =>
    simp only [hx] at h
    refine ⟨m1, fun m' hm' n' hn' k' hk' => ?_⟩
    obtain ⟨j, rfl⟩ : ∃ j, k' = j + 1 := ⟨k' - 1, by omega⟩
    unfold aiterate
    simp only [hm1 m' hm' n' hn']
    exact h
   | ret =>
    simp only [hx] at h
    refine ⟨m1, fun m' hm' n' hn' k' hk' => ?_⟩
    obtain ⟨j, rfl⟩ : ∃ j, k' = j + 1 := ⟨k' - 1, by omega⟩
    unfold aiterate
    simp only [hm1 m' hm' n' hn']
    exact h
theorem scode_ev (hG : Comes F G) {n : Nat} : ∀ (c : SC) (s : St) (r : AExit × St), scode P F n c s = some r → ∃ m, ∀ m', m ≤ m' → ∀ n', n ≤ n' → scode P (G m') n' c s = some r := by
 intro c
 induction c with
 | skip => exact fun s r h => ⟨0, fun _ _ _ _ => h⟩
 | exit id => exact fun s r h => ⟨0, fun _ _ _ _ => h⟩
 | ret => exact fun s r h => ⟨0, fun _ _ _ _ => h⟩
 | bad => exact fun s r h => by simp [scode] at h
 | reg ops pairs keep =>
  intro s r h
  simp only [scode] at h
  split at h
  · rename_i s' hs'
    obtain ⟨m, hm⟩ := sreg_ev hG hs'
    refine ⟨m, fun m' hm' n' _ => ?_⟩
    simp only [scode, hm m' hm']
    exact h
  · simp at h
 | seq a b iha ihb =>
  intro s r h
  simp only [scode] at h
  cases hx : scode P F n a s with
  | none => simp [hx] at h
  | some x =>
   obtain ⟨e, s₁⟩ := x
   obtain ⟨m1, hm1⟩ := iha _ _ hx
   cases e with
   | normal =>
    simp only [hx] at h
    obtain ⟨m2, hm2⟩ := ihb _ _ h
    refine ⟨max m1 m2, fun m' hm' n' hn' => ?_⟩
    simp only [scode, hm1 m' (by omega) n' hn']
    exact hm2 m' (by omega) n' hn'
   | exit id =>
    simp only [hx] at h
    refine ⟨m1, fun m' hm' n' hn' => ?_⟩
    simp only [scode, hm1 m' hm' n' hn']
    exact h
   | ret =>
    simp only [hx] at h
    refine ⟨m1, fun m' hm' n' hn' => ?_⟩
    simp only [scode, hm1 m' hm' n' hn']
    exact h
 | cond c a b keep iha ihb =>
  intro s r h
  simp only [scode] at h
  cases hv : evalA s.ρ c with
  | none => simp [hv, after] at h
  | some v =>
   cases v with
   | bool t =>
    cases t with
    | true =>
     simp only [hv] at h
     cases hx : scode P F n a s with
     | none => simp [hx, after] at h
     | some x =>
      obtain ⟨m, hm⟩ := iha _ _ hx
      refine ⟨m, fun m' hm' n' hn' => ?_⟩
      simp only [scode, hv, hm m' hm' n' hn']
      rw [hx] at h
      exact h
    | false =>
     simp only [hv] at h
     cases hx : scode P F n b s with
     | none => simp [hx, after] at h
     | some x =>
      obtain ⟨m, hm⟩ := ihb _ _ hx
      refine ⟨m, fun m' hm' n' hn' => ?_⟩
      simp only [scode, hv, hm m' hm' n' hn']
      rw [hx] at h
      exact h
   | _ => simp [hv, after] at h
 | block id c ih =>
  intro s r h
  simp only [scode] at h
  cases hx : scode P F n c s with
  | none => simp [hx] at h
  | some x =>
   obtain ⟨m, hm⟩ := ih _ _ hx
   refine ⟨m, fun m' hm' n' hn' => ?_⟩
   simp only [scode, hm m' hm' n' hn']
   rw [hx] at h
   exact h
 | loop c keep ih =>
  intro s r h
  simp only [scode] at h
  obtain ⟨m, hm⟩ := aiterate_ev (b' := fun m' n' => scode P (G m') n' c) ih h
  exact ⟨m, fun m' hm' n' hn' => hm m' hm' n' hn' n' hn'⟩
end
theorem acode_ev {F : CallF} {G : Nat → CallF} (hG : Comes F G) {n : Nat} (c : Code) (s : St) (r : AExit × St) (h : acode P F H n c s = some r) :
  ∃ m, ∀ m', m ≤ m' → ∀ n', n ≤ n' → acode P (G m') H n' c s = some r := by
 rw [acode_compile] at h
 obtain ⟨m, hm⟩ := scode_ev hG _ _ _ h
 exact ⟨m, fun m' h1 n' h2 => by rw [acode_compile]; exact hm m' h1 n' h2⟩
theorem afinish_some {fn : Func} {o : Out} {r : AV × Heap} (h : afinish P fn o = some r) : ∃ x, o = some x := by
 unfold afinish at h
 split at h
 · exact ⟨_, rfl⟩
 · exact ⟨_, rfl⟩
 · simp at h
theorem acall_more (c : Cfg) : ∀ n f args h r, acall c n f args h = some r → acall c (n + 1) f args h = some r
 | 0, f, args, h, r, hr => by simp [acall] at hr
 | n + 1, f, args, h, r, hr => by
  unfold acall at hr
  unfold acall
  split at hr
  · rename_i F hF
    exact hr
  · rename_i hF
    split at hr
    · rename_i fn hfn
      split at hr
      · rename_i code hb
        split at hr
        · rename_i hn
          rw [if_pos hn]
          obtain ⟨x, hx⟩ := afinish_some hr
          obtain ⟨m, hm⟩ := acode_ev (F := acall c n) (G := fun _ => acall c (n + 1)) (fun g a h r hg => ⟨0, fun _ _ => acall_more c n g a h r hg⟩) code _ x hx
          rw [hm m (Nat.le_refl _) (n + 1) (by omega), ← hx]
          exact hr
        · simp at hr
      · simp at hr
    · simp at hr
theorem acall_le (c : Cfg) {n : Nat} {f : FuncId} {args : List AV} {h : Heap} {r : AV × Heap} (hr : acall c n f args h = some r) : ∀ {m : Nat}, n ≤ m → acall c m f args h = some r := by
 intro m hm
 induction m with
 | zero =>
  have : n = 0 := by omega
  subst this; exact hr
 | succ m ih =>
  by_cases he : n = m + 1
  · subst he; exact hr
  · exact acall_more c m f args h r (ih (by omega))
open Classical in
noncomputable def D (c : Cfg) : CallF := fun f args h =>
 if hx : ∃ r n, acall c n f args h = some r then some hx.choose else none
theorem D_of {c : Cfg} {n : Nat} {f : FuncId} {args : List AV} {h : Heap} {r : AV × Heap} (hr : acall c n f args h = some r) : D c f args h = some r := by
 have hx : ∃ r n, acall c n f args h = some r := ⟨r, n, hr⟩
 unfold D
 rw [dif_pos hx]
 obtain ⟨m, hm⟩ := hx.choose_spec
 have h1 := acall_le c hr (Nat.le_max_left n m)
 have h2 := acall_le c hm (Nat.le_max_right n m)
 rw [h1] at h2
 exact h2.symm
theorem D_spec {c : Cfg} {f : FuncId} {args : List AV} {h : Heap} {r : AV × Heap} (hr : D c f args h = some r) : ∃ n, acall c n f args h = some r := by
 unfold D at hr
 split at hr
 · rename_i hx
   obtain ⟨m, hm⟩ := hx.choose_spec
   simp at hr
   rw [hr] at hm
   exact ⟨m, hm⟩
 · simp at hr
theorem D_comes (c : Cfg) : Comes (D c) (acall c) := fun g a h r hr =>
 let ⟨n, hn⟩ := D_spec hr
 ⟨n, fun m hm => acall_le c hn hm⟩
theorem D_ok {c : Cfg} (hc : CfgOK c) : CallOK c.P (D c) := fun g args h r h' hr =>
 let ⟨n, hn⟩ := D_spec hr
 acall_ok hc n g args h r h' hn
theorem D_code {c : Cfg} {f : FuncId} {fn : Func} {code : Code} (hx : c.ext f = none) (hf : c.P.funcs[f]? = some fn) (hb : fn.body = some code) {args : List AV} (hn : args.length ≤ fn.ntmps) {h : Heap} {r : AV × Heap}
  {n : Nat} (hr : afinish c.P fn (scode c.P (D c) n (compile (c.hint f) code) ⟨argsEnv 0 args, h⟩) = some r) : D c f args h = some r := by
 obtain ⟨x, hx'⟩ := afinish_some hr
 obtain ⟨m, hm⟩ := scode_ev (D_comes c) _ _ _ hx'
 have := hm (max m n) (Nat.le_max_left ..) (max m n) (Nat.le_max_right ..)
 refine D_of (n := max m n + 1) ?_
 unfold acall
 simp only [hx, hf, hb, if_pos hn]
 rw [acode_compile, this, ← hx']
 exact hr
def W (P : Program) (F : CallF) (k : SC) (s : St) (Q : AExit → St → Prop) : Prop := ∃ n e s', (∀ n', n ≤ n' → scode P F n' k s = some (e, s')) ∧ Q e s'
variable {F : CallF} {s : St} {Q : AExit → St → Prop}
theorem W.mono {k : SC} {Q' : AExit → St → Prop} (h : W P F k s Q) (hq : ∀ e s', Q e s' → Q' e s') : W P F k s Q' :=
 let ⟨n, e, s', h1, h2⟩ := h
 ⟨n, e, s', h1, hq _ _ h2⟩
theorem W.skip (h : Q .normal s) : W P F .skip s Q := ⟨0, _, _, fun _ _ => rfl, h⟩
theorem W.exit {id : Nat} (h : Q (.exit id) s) : W P F (.exit id) s Q := ⟨0, _, _, fun _ _ => rfl, h⟩
theorem W.ret (h : Q .ret s) : W P F .ret s Q := ⟨0, _, _, fun _ _ => rfl, h⟩
theorem W.reg {ops : List SOp} {pairs : Option (List (Nat × Nat))} {keep : Option (List Nat)} {s' : St} (h : sreg P F ops pairs s = some s') (hq : Q .normal ⟨cut keep s'.ρ, s'.h⟩) : W P F (.reg ops pairs keep) s Q :=
 ⟨0, _, _, fun n' _ => by simp only [scode, h], hq⟩
def andThen (K : St → Prop) (Q : AExit → St → Prop) : AExit → St → Prop
 | .normal, s => K s
 | e, s => Q e s
theorem W.seq {a b : SC} (h : W P F a s (andThen (fun s' => W P F b s' Q) Q)) : W P F (.seq a b) s Q := by
 obtain ⟨n, e, s', h1, h2⟩ := h
 cases e with
 | normal =>
  obtain ⟨m, e, s'', h3, h4⟩ := h2
  exact ⟨max n m, e, s'', fun n' hn' => by simp only [scode, h1 n' (by omega)]; exact h3 n' (by omega), h4⟩
 | exit id => exact ⟨n, _, s', fun n' hn' => by simp only [scode, h1 n' hn'], h2⟩
 | ret => exact ⟨n, _, s', fun n' hn' => by simp only [scode, h1 n' hn'], h2⟩
def onCut (keep : Option (List Nat)) (Q : AExit → St → Prop) : AExit → St → Prop
 | .normal, s => Q .normal ⟨cut keep s.ρ, s.h⟩
 | e, s => Q e s
theorem W.cond {x : Operand} {a b : SC} {keep : Option (List Nat)} {t : Bool} (hx : evalA s.ρ x = some (.bool t)) (h : W P F (if t then a else b) s (onCut keep Q)) : W P F (.cond x a b keep) s Q := by
 obtain ⟨n, e, s', h1, h2⟩ := h
 have key : ∀ n', n ≤ n' → scode P F n' (.cond x a b keep) s = after keep (some (e, s')) := by
  intro n' hn'
  have := h1 n' hn'
  cases t <;> simp at this <;> simp only [scode, hx, this]
 cases e with
 | normal => exact ⟨n, _, _, key, h2⟩
 | exit id => exact ⟨n, _, _, key, h2⟩
 | ret => exact ⟨n, _, _, key, h2⟩
theorem W.cond_true {x : Operand} {a b : SC} {keep : Option (List Nat)} (hx : evalA s.ρ x = some (.bool true)) (h : W P F a s (onCut keep Q)) : W P F (.cond x a b keep) s Q := W.cond hx h
theorem W.cond_false {x : Operand} {a b : SC} {keep : Option (List Nat)} (hx : evalA s.ρ x = some (.bool false)) (h : W P F b s (onCut keep Q)) : W P F (.cond x a b keep) s Q := W.cond hx h
def inBlock (id : Nat) (Q : AExit → St → Prop) : AExit → St → Prop
 | .exit id', s => if id' = id then Q .normal s else Q (.exit id') s
 | e, s => Q e s
theorem W.block {id : Nat} {k : SC} (h : W P F k s (inBlock id Q)) : W P F (.block id k) s Q := by
 obtain ⟨n, e, s', h1, h2⟩ := h
 cases e with
 | normal => exact ⟨n, _, s', fun n' hn' => by simp only [scode, h1 n' hn'], h2⟩
 | exit id' =>
  by_cases hi : id' = id
  · refine ⟨n, .normal, s', fun n' hn' => by simp only [scode, h1 n' hn', hi, if_true], ?_⟩
    simpa only [inBlock, hi, if_true] using h2
  · refine ⟨n, .exit id', s', fun n' hn' => by simp only [scode, h1 n' hn', hi, if_false], ?_⟩
    simpa only [inBlock, hi, if_false] using h2
 | ret => exact ⟨n, _, s', fun n' hn' => by simp only [scode, h1 n' hn'], h2⟩
theorem W.loop {k : SC} {keep : Option (List Nat)} (I : Nat → St → Prop) {m : Nat} (h₀ : I m s)
  (round : ∀ m s, I m s → W P F k ⟨cut keep s.ρ, s.h⟩ (andThen (fun s' => ∃ m', m' < m ∧ I m' s') Q)) : W P F (.loop k keep) s Q := by
 have key : ∀ m s, I m s → ∃ n j e s', (∀ n', n ≤ n' → ∀ j', j ≤ j' → aiterate (cut keep) (scode P F n' k) j' s = some (e, s')) ∧ Q e s' := by
  intro m
  induction m using Nat.strongRecOn with
  | _ m ih =>
   intro s hI
   obtain ⟨n, e, s', h1, h2⟩ := round m s hI
   cases e with
   | normal =>
    obtain ⟨m', hm', hI'⟩ := h2
    obtain ⟨n2, j2, e, s'', h3, h4⟩ := ih m' hm' s' hI'
    refine ⟨max n n2, j2 + 1, e, s'', fun n' hn' j' hj' => ?_, h4⟩
    obtain ⟨i, rfl⟩ : ∃ i, j' = i + 1 := ⟨j' - 1, by omega⟩
    simp only [aiterate, h1 n' (by omega)]
    exact h3 n' (by omega) i (by omega)
   | exit id =>
    refine ⟨n, 1, _, s', fun n' hn' j' hj' => ?_, h2⟩
    obtain ⟨i, rfl⟩ : ∃ i, j' = i + 1 := ⟨j' - 1, by omega⟩
    simp only [aiterate, h1 n' hn']
   | ret =>
    refine ⟨n, 1, _, s', fun n' hn' j' hj' => ?_, h2⟩
    obtain ⟨i, rfl⟩ : ∃ i, j' = i + 1 := ⟨j' - 1, by omega⟩
    simp only [aiterate, h1 n' hn']
 obtain ⟨n, j, e, s', h1, h2⟩ := key m s h₀
 exact ⟨max n j, e, s', fun n' hn' => by simp only [scode]; exact h1 n' (by omega) n' (by omega), h2⟩
def Fin (P : Program) (fn : Func) (R : AV → Heap → Prop) : AExit → St → Prop
 | .exit _, _ => False
 | _, s => ∃ vs, aresultL P s fn.results.toList = some vs ∧ vs.all AV.notTup = true ∧ R (pack vs) s.h
theorem W.call {c : Cfg} {f : FuncId} {fn : Func} {code : Code} {k : SC} (hx : c.ext f = none) (hf : c.P.funcs[f]? = some fn) (hb : fn.body = some code) (hk : compile (c.hint f) code = k) {args : List AV} (hn : args.length ≤ fn.ntmps) {h : Heap}
  {R : AV → Heap → Prop} (hw : W c.P (D c) k ⟨argsEnv 0 args, h⟩ (Fin c.P fn R)) : ∃ r h', D c f args h = some (r, h') ∧ R r h' := by
 obtain ⟨n, e, s', h1, h2⟩ := hw
 have h3 := h1 n (Nat.le_refl _)
 cases e with
 | exit id => exact h2.elim
 | normal =>
  obtain ⟨vs, h4, h5, h6⟩ := h2
  refine ⟨_, _, D_code hx hf hb hn (n := n) ?_, h6⟩
  rw [hk, h3]
  simp only [afinish, h4, h5, if_true]
 | ret =>
  obtain ⟨vs, h4, h5, h6⟩ := h2
  refine ⟨_, _, D_code hx hf hb hn (n := n) ?_, h6⟩
  rw [hk, h3]
  simp only [afinish, h4, h5, if_true]
theorem W.top (hm : P.follows .mixedOrders = true) (hF : CallOK P F) {f : FuncId} {fn : Func} {code : Code} {k : SC} (hf : P.funcs[f]? = some fn) (hb : fn.body = some code) {H : Hint} (hB : fnB P H fn = true) (hk : compile H code = k)
  {args : List AV} (hn : args.length ≤ fn.ntmps) {h : Heap} {R : AV → Heap → Prop} (hw : W P F k ⟨argsEnv 0 args, h⟩ (Fin P fn R)) :
  ∃ r h', R r h' ∧ h.length ≤ h'.length ∧ ∀ (ι : Inj) (w : World) (B : Base) (cargs : List Value), HR P ι w B (look h) → Fresh ι h.length h'.length → L2 (V ι) args cargs →
   Calls P f cargs.toArray w fun e w' => ∃ ι' u, e = .returned u ∧ V ι' r u ∧ Step P ι w B (look h) ι' w' (look h') ∧ Lays ι ι' h'.length := by
 obtain ⟨n, e, s', h1, h2⟩ := hw
 have h3 := h1 n (Nat.le_refl _)
 rw [← hk, ← acode_compile] at h3
 have hc : codeB P H fn.ntmps code = true := by
  unfold fnB at hB
  rw [hb] at hB
  simp only [Bool.and_eq_true] at hB
  exact hB.1.2
 cases e with
 | exit id => exact h2.elim
 | normal =>
  obtain ⟨vs, h4, h5, h6⟩ := h2
  obtain ⟨h7, h8⟩ := call_code (c := { P := P, hint := fun _ => H, ext := fun _ => none }) hm hF hf hb hc (n := n) (h := h) hn (r := pack vs) (h' := s'.h) (by simp only [h3, afinish, h4, h5, if_true])
  exact ⟨_, _, h6, h7, h8⟩
 | ret =>
  obtain ⟨vs, h4, h5, h6⟩ := h2
  obtain ⟨h7, h8⟩ := call_code (c := { P := P, hint := fun _ => H, ext := fun _ => none }) hm hF hf hb hc (n := n) (h := h) hn (r := pack vs) (h' := s'.h) (by simp only [h3, afinish, h4, h5, if_true])
  exact ⟨_, _, h6, h7, h8⟩
def plainArgs (args : List AV) : Bool := args.all fun v => match v with
 | .bool _ | .int _ _ | .str _ => true
 | _ => false
theorem plain_V {ι ι' : Inj} {v : AV} (h : (match v with | .bool _ | .int _ _ | .str _ => true | _ => false) = true) {u : Value} (hv : V ι v u) : V ι' v u := by
 cases v <;> simp at h <;> cases u <;> exact hv
theorem plainArgs_V {ι ι' : Inj} : ∀ {args : List AV} {us : List Value}, plainArgs args = true → L2 (V ι) args us → L2 (V ι') args us
 | [], [], _, _ => trivial
 | v :: vs, u :: us, h, hv => by
  simp only [plainArgs, List.all_cons, Bool.and_eq_true] at h
  exact ⟨plain_V h.1 hv.1, plainArgs_V h.2 hv.2⟩
 | [], _ :: _, _, h => h.elim
 | _ :: _, [], _, h => h.elim
theorem HR.empty (P : Program) (w : World) : HR P (fun _ _ => none) w ⟨w.heap.size, [], fun _ _ => none⟩ (look []) := by
 refine ⟨fun b o h => ?_, fun b b' o o' l l' h => ?_, fun b o h => ?_, Nat.le_refl _, fun b cs l h => ?_, fun r h => ?_, fun _ _ _ h => h⟩ <;> simp [look] at h
def forget (F : CallF) : CallF := fun f args h =>
 if plainArgs args then
  match F f args [] with
  | some (r, _) => if plainArgs [r] then some (r, h) else none
  | none => none
 else none
theorem forget_ok {F : CallF} (hF : CallOK P F) : CallOK P (forget F) := by
 intro g args h r h' hr
 unfold forget at hr
 split at hr
 · rename_i hp
   split at hr
   · rename_i r₁ h₁ hF₁
     split at hr
     · rename_i hpr
       simp at hr
       obtain ⟨rfl, rfl⟩ := hr
       obtain ⟨hfn, hlen, hcall⟩ := hF g args [] r₁ h₁ hF₁
       refine ⟨hfn, Nat.le_refl _, fun ι w B cargs hHR hfr hargs => ?_⟩
       refine (hcall (fun _ _ => none) w ⟨w.heap.size, [], fun _ _ => none⟩ cargs (.empty P w) (fun _ _ _ _ => rfl) (plainArgs_V hp hargs)).mono ?_
       rintro e w' ⟨ι', u, rfl, hv, hst, hla⟩
       have hbel := hst.below (.empty P w)
       simp only [plainArgs, List.all_cons, List.all_nil, Bool.and_true] at hpr
       refine ⟨ι, u, rfl, plain_V hpr hv, ⟨.refl ι, ⟨fun b o ho => ?_, hHR.inj, hHR.past, Nat.le_trans hHR.base hst.size, hHR.roB, hHR.rest_keep (fun c hc _ => hbel c hc) fun c hc => .inl hc, hHR.since⟩, hst.size, fun c hc _ => hbel c hc, fun c hc => .inl hc, hst.os, hst.tape, hst.output⟩, .refl⟩
       obtain ⟨l, hl, hob, hB⟩ := hHR.obj b o ho
       refine ⟨l, hl, hob.keep (.refl ι) fun hnil => hbel _ ?_, fun ho' => ⟨(hB ho').1, Nat.lt_of_lt_of_le (hB ho').2 hst.size⟩⟩
       cases hown : o.own with
       | true => exact (hB hown).2
       | false =>
        cases o with
        | ro cs => exact Nat.lt_of_lt_of_le (hHR.roB b cs l ho hl fun hc => hnil (by rw [hc])) hHR.base
        | _ => simp [AObj.own] at hown
     · simp at hr
   · simp at hr
 · simp at hr
def mixed (fs : List FuncId) (F : CallF) : CallF := fun f args h => if fs.contains f then forget F f args h else F f args h
theorem mixed_ok {F : CallF} {fs : List FuncId} (hF : CallOK P F) : CallOK P (mixed fs F) := by
 intro g args h r h' hr
 unfold mixed at hr
 split at hr
 · exact forget_ok hF g args h r h' hr
 · exact hF g args h r h' hr
end Go.AM
namespace Go.AM
open Go
set_option linter.unusedVariables false
set_option linter.unusedSimpArgs false
universe u
structure Tag {α : Sort u} (a : α) : Type where
def bindO {α β : Type} (x : Option α) (f : α → Option β) (_ : Tag f := ⟨⟩) : Option β :=
 match x with
 | some a => f a
 | none => none
theorem bindO_some {α β : Type} (a : α) (f : α → Option β) : bindO (some a) f = f a := (rfl)
theorem bindO_none {α β : Type} (f : α → Option β) : bindO none f = none := (rfl)
def holds {α : Type} (x : Option α) (f : α → Prop) (_ : Tag f := ⟨⟩) : Prop :=
 match x with
 | some a => f a
 | none => False
theorem holds_some {α : Type} (a : α) (f : α → Prop) : holds (some a) f = f a := (rfl)
theorem holds_none {α : Type} (f : α → Prop) : holds (none : Option α) f = False := (rfl)
def iteO {α : Type} (p : Prop) [Decidable p] (a b : Option α) : Option α := if p then a else b
theorem iteO_eq {α : Type} (p : Prop) [Decidable p] (a b : Option α) : iteO p a b = if p then a else b := (rfl)
theorem iteO_pos {α : Type} {p : Prop} [Decidable p] (h : p) (a b : Option α) : iteO p a b = a := if_pos h
theorem iteO_neg {α : Type} {p : Prop} [Decidable p] (h : ¬ p) (a b : Option α) : iteO p a b = b := if_neg h
def condK (v : Option AV) (A B : Prop) (_ : Tag A := ⟨⟩) (_ : Tag B := ⟨⟩) : Prop :=
 match v with
 | some (.bool true) => A
 | some (.bool false) => B
 | _ => False
theorem condK_true (A B : Prop) : condK (some (.bool true)) A B = A := (rfl)
theorem condK_false (A B : Prop) : condK (some (.bool false)) A B = B := (rfl)
theorem condK_of {p : Prop} [Decidable p] {A B : Prop} (h : p → A) (h' : ¬ p → B) : condK (some (.bool (decide p))) A B := by
 by_cases hp : p
 · simp only [hp, decide_true]; exact h hp
 · simp only [hp, decide_false]; exact h' hp
theorem condK_not {p : Prop} [Decidable p] {A B : Prop} (h : ¬ p → A) (h' : p → B) : condK (some (.bool (!decide p))) A B := by
 by_cases hp : p
 · simp only [hp, decide_true]; exact h' hp
 · simp only [hp, decide_false]; exact h hp
theorem condK_bool {b : Bool} {A B : Prop} (h : b = true → A) (h' : b = false → B) : condK (some (.bool b)) A B := by
 cases b
 · exact h' rfl
 · exact h rfl
def guardK {α : Type} (v : Option AV) (w : Bool) (a b : Option α) (_ : Tag a := ⟨⟩) (_ : Tag b := ⟨⟩) : Option α :=
 match v with
 | some (.bool x) => if x = w then a else b
 | some (.tup []) => b
 | _ => none
theorem guardK_tt {α : Type} (a b : Option α) : guardK (some (.bool true)) true a b = a := (rfl)
theorem guardK_ff {α : Type} (a b : Option α) : guardK (some (.bool false)) false a b = a := (rfl)
theorem guardK_tf {α : Type} (a b : Option α) : guardK (some (.bool true)) false a b = b := (rfl)
theorem guardK_ft {α : Type} (a b : Option α) : guardK (some (.bool false)) true a b = b := (rfl)
theorem guardK_un {α : Type} (w : Bool) (a b : Option α) : guardK (some (.tup [])) w a b = b := (rfl)
section
variable {P : Program} {F : CallF} {s : St} {os : List SOp} {d : Option Tmp} {op : Op}
theorem aops_nil : aops P F [] s = some s := (rfl)
theorem aops_run : aops P F (⟨d, op, none⟩ :: os) s = bindO (astep P F op s) fun r => aops P F os ⟨s.ρ.put d r.1, r.2⟩ := by
 simp only [aops, awanted]
 cases astep P F op s <;> rfl
theorem aops_guard {t : Nat} {w : Bool} : aops P F (⟨d, op, some (some t, w)⟩ :: os) s =
  guardK (s.ρ.get t) w (bindO (astep P F op s) fun r => aops P F os ⟨s.ρ.put d r.1, r.2⟩) (aops P F os ⟨s.ρ.put d (.tup []), s.h⟩) := by
 simp only [aops, awanted]
 cases hg : s.ρ.get t with
 | none => rfl
 | some v =>
  cases v with
  | bool b => cases b <;> cases w <;> simp [guardK] <;> cases astep P F op s <;> rfl
  | tup vs => cases vs <;> rfl
  | _ => rfl
variable {ps : List (Nat × Nat)} {j : Nat} {g : Log}
theorem aopsT_nil' : aopsT P F ps j [] s g = some s := (rfl)
def guardP {α : Type} (b : Bool) (a : Option α) (_ : Tag a := ⟨⟩) : Option α := if b then a else none
theorem guardP_true {α : Type} (a : Option α) : guardP true a = a := (rfl)
theorem aopsT_run : aopsT P F ps j (⟨d, op, none⟩ :: os) s g = bindO (astepT P F op s) fun r => guardP (okPairs j (areads (evalA s.ρ) op) r.2.2 g ps)
  (aopsT P F ps (j + 1) os ⟨s.ρ.put d r.1, r.2.1⟩ ⟨(j, areads (evalA s.ρ) op) :: g.reads, (j, r.2.2) :: g.turns⟩) := by
 simp only [aopsT, awanted]
 cases h : astepT P F op s with
 | none => rfl
 | some r => obtain ⟨v, h, t⟩ := r; rfl
theorem aopsT_guard {t : Nat} {w : Bool} : aopsT P F ps j (⟨d, op, some (some t, w)⟩ :: os) s g =
  guardK (s.ρ.get t) w (bindO (astepT P F op s) fun r => guardP (okPairs j (areads (evalA s.ρ) op) r.2.2 g ps)
   (aopsT P F ps (j + 1) os ⟨s.ρ.put d r.1, r.2.1⟩ ⟨(j, areads (evalA s.ρ) op) :: g.reads, (j, r.2.2) :: g.turns⟩)) (aopsT P F ps (j + 1) os ⟨s.ρ.put d (.tup []), s.h⟩ g) := by
 simp only [aopsT, awanted]
 cases hg : s.ρ.get t with
 | none => rfl
 | some v =>
  cases v with
  | bool b =>
   cases b <;> cases w <;> simp [guardK] <;> cases h : astepT P F op s with
   | none => rfl
   | some r => obtain ⟨v, h, t⟩ := r; rfl
  | tup vs => cases vs <;> rfl
  | _ => rfl
def fin (s : St) (r : Option (AV × Delta)) : Option (AV × Heap) := bindO r fun r => some (r.1, s.h.apply r.2)
def finT (s : St) (r : Option (AV × Delta)) : Option (AV × Heap × Touch) := bindO r fun r => some (r.1, s.h.apply r.2, touchD s.h.length r.2)
theorem astep_eq (h : callOf (evalA s.ρ) op = none) : astep P F op s = fin s (aop P (evalA s.ρ) (look s.h) s.h.length op) := by
 unfold astep fin
 rw [h]
 change (match aop P (evalA s.ρ) (look s.h) s.h.length op with
  | some (v, d) => some (v, Heap.apply s.h d)
  | none => none) = _
 cases aop P (evalA s.ρ) (look s.h) s.h.length op <;> rfl
theorem astepT_eq (h : callOf (evalA s.ρ) op = none) : astepT P F op s = finT s (aop P (evalA s.ρ) (look s.h) s.h.length op) := by
 unfold astepT finT
 rw [h]
 change (match aop P (evalA s.ρ) (look s.h) s.h.length op with
  | some (v, d) => some (v, Heap.apply s.h d, touchD s.h.length d)
  | none => none) = _
 cases aop P (evalA s.ρ) (look s.h) s.h.length op <;> rfl
theorem astep_call {f : FuncId} {args : Array Operand} {ts : Array TypeId} (hf : f < 1000000000) : astep P F (.call ⟨.value (.func f), args, ts⟩) s = bindO (evL (evalA s.ρ) args.toList) fun as => F f as s.h := by
 simp only [astep, callOf, evalA]
 cases evL (evalA s.ρ) args.toList <;> simp [bindO, hf]
theorem astepT_call {f : FuncId} {args : Array Operand} {ts : Array TypeId} (hf : f < 1000000000) : astepT P F (.call ⟨.value (.func f), args, ts⟩) s =
  bindO (evL (evalA s.ρ) args.toList) fun as => bindO (F f as s.h) fun r => some (r.1, r.2, .heaps s.h r.2) := by
 simp only [astepT, callOf, evalA]
 cases evL (evalA s.ρ) args.toList with
 | none => simp [bindO]
 | some as =>
  simp only [bindO, List.append_nil, hf, if_true]
  cases h : F f as s.h <;> rfl
end
section
variable {P : Program} {ev : Ev} {L : Look} {n : Nat}
theorem ev_cons {x : Operand} {xs : List Operand} : evL ev (x :: xs) = bindO (ev x) fun v => bindO (evL ev xs) fun vs => some (v :: vs) := by
 simp only [evL]
 cases ev x <;> cases evL ev xs <;> rfl
theorem ev_nil : evL ev [] = some [] := (rfl)
theorem evP_cons {i : Nat} {x : Operand} {xs : List (Nat × Operand)} : evP ev ((i, x) :: xs) = bindO (ev x) fun v => bindO (evP ev xs) fun vs => some ((i, v) :: vs) := by
 simp only [evP]
 cases ev x <;> cases evP ev xs <;> rfl
theorem evP_nil : evP ev [] = some [] := (rfl)
theorem evO_none : evO ev none = some none := (rfl)
theorem evO_some {x : Operand} : evO ev (some x) = bindO (ev x) fun v => some (some v) := by
 simp only [evO]
 cases ev x <;> rfl
theorem op_move {x : Operand} : aop P ev L n (.move x) = bindO (ev x) fun v => some (v, .no) := by simp only [aop]; cases ev x <;> rfl
theorem op_assign {x : Operand} : aop P ev L n (.assign x) = bindO (ev x) fun v => some (v, .no) := by simp only [aop]; cases ev x <;> rfl
theorem op_alloc {t : TypeId} : aop P ev L n (.alloc t) = bindO (tzero P t) fun z => if z.cells.length = tsz P t then some (.ptr (some ⟨n, 0, z.cells.length⟩), .new (.cells z.cells t false)) else none := by
 simp only [aop]; cases tzero P t <;> rfl
theorem op_box {t : TypeId} {x : Operand} : aop P ev L n (.box t x) = bindO (ev x) fun v => if v.cells.all AV.one then some (.ptr (some ⟨n, 0, v.cells.length⟩), .new (.cells v.cells t false)) else none := by
 simp only [aop]; cases ev x <;> rfl
theorem op_build {t : TypeId} {ps : Array (Nat × Operand)} : aop P ev L n (.build t ps) = bindO (evP ev ps.toList) fun ps => bindO (abuild P t ps) fun v => some (v, .no) := by
 simp only [aop]
 cases evP ev ps.toList with
 | none => rfl
 | some ps => simp only [bindO]; cases abuild P t ps <;> rfl
theorem op_buildSlice {t : TypeId} {k : Nat} {ps : Array (Nat × Operand)} : aop P ev L n (.buildSlice t k ps) = bindO (evP ev ps.toList) fun ps => abuildSlice P n t k ps := by
 simp only [aop]; cases evP ev ps.toList <;> rfl
theorem op_load {t : TypeId} {a : Operand} : aop P ev L n (.load t a) = bindO (ev a) fun p => bindO (aload P L t p) fun v => some (v, .no) := by
 simp only [aop]
 cases ev a with
 | none => rfl
 | some p => simp only [bindO]; cases aload P L t p <;> rfl
theorem op_store {t : TypeId} {a x : Operand} : aop P ev L n (.store t a x) = bindO (ev a) fun p => bindO (ev x) fun v => bindO (astore P L t p v) fun d => some (.tup [], d) := by
 simp only [aop]
 cases ev a with
 | none => rfl
 | some p =>
  cases ev x with
  | none => rfl
  | some v => simp only [bindO]; cases astore P L t p v <;> rfl
theorem op_nilCheck {x : Operand} : aop P ev L n (.nilCheck x) = bindO (ev x) fun v => bindO (nilck v) fun v => some (v, .no) := by
 simp only [aop]
 cases ev x with
 | none => rfl
 | some v => simp only [bindO]; cases nilck v <;> rfl
theorem op_unOp {op : UnOp} {t : TypeId} {x : Operand} : aop P ev L n (.unOp op t x) = bindO (ev x) fun a => bindO (aun op a) fun v => some (v, .no) := by
 simp only [aop]
 cases ev x with
 | none => rfl
 | some v => simp only [bindO]; cases aun op v <;> rfl
def bin (P : Program) (op : BinOp) (t : TypeId) (x y : AV) : Option (AV × Delta) :=
 match x, y with
 | .agg a, .agg b =>
  if op = .eql ∧ (kshape P t).isSome ∧ kshape P t = shapeOf (.agg a) ∧ kshape P t = shapeOf (.agg b) then (keq (.agg a) (.agg b)).map fun r => (.bool r, .no)
  else if op = .neq ∧ (kshape P t).isSome ∧ kshape P t = shapeOf (.agg a) ∧ kshape P t = shapeOf (.agg b) then (keq (.agg a) (.agg b)).map fun r => (.bool (!r), .no)
  else none
 | x, y => bindO (abin (tk P t) op x y) fun v => some (v, .no)
theorem op_binOp {op : BinOp} {t u : TypeId} {x y : Operand} : aop P ev L n (.binOp op t x y u) = bindO (ev x) fun a => bindO (ev y) fun b => bin P op t a b := by
 simp only [aop]
 cases ev x with
 | none => rfl
 | some a =>
  cases ev y with
  | none => cases a <;> rfl
  | some b =>
   cases a <;> cases b <;> simp only [bindO, bin] <;> first | rfl | (cases abin (tk P t) op _ _ <;> rfl)
theorem op_convert {s d : TypeId} {x : Operand} : aop P ev L n (.convert s d x) = bindO (ev x) fun a => aconv P L n s d a := by
 simp only [aop]; cases ev x <;> rfl
theorem op_makeFunc {f : Fn} {caps : Array Operand} : aop P ev L n (.makeFunc f #[] caps) = bindO (evL ev caps.toList) fun vs => if vs.all AV.plain then some (.fn f vs, .no) else none := by
 simp only [aop]
 cases evL ev caps.toList with
 | none => rfl
 | some vs => simp [bindO, aboundF]
theorem op_makeBound {g : FuncId} {x : Operand} : aop P ev L n (.makeFunc (.func g) #[x] #[]) = bindO (ev x) fun a => if a.plain then some (.bm g a, .no) else none := by
 simp only [aop, evL, aboundF]
 cases ev x <;> simp [bindO]
theorem op_makeSlice {t : TypeId} {l c : Operand} : aop P ev L n (.makeSlice t l c) = bindO (ev l) fun l => bindO (ev c) fun c => amakeSlice P n t l c := by
 simp only [aop]
 cases ev l <;> cases ev c <;> rfl
theorem op_slice {t : TypeId} {x : Operand} {lo hi mx : Option Operand} : aop P ev L n (.slice t x lo hi mx) =
  bindO (ev x) fun x => bindO (evO ev lo) fun lo => bindO (evO ev hi) fun hi => bindO (evO ev mx) fun mx => bindO (aslice P L t x lo hi mx) fun v => some (v, .no) := by
 simp only [aop]
 cases ev x with
 | none => rfl
 | some x =>
  cases evO ev lo with
  | none => rfl
  | some lo =>
   cases evO ev hi with
   | none => rfl
   | some hi =>
    cases evO ev mx with
    | none => rfl
    | some mx => simp only [bindO]; cases aslice P L t x lo hi mx <;> rfl
def fieldA (P : Program) (t : TypeId) (f : Nat) (v : AV) : Option (AV × Delta) :=
 match v, tfield P t f with
 | .ptr (some a), some (o, u) => if 0 < tsz P u then some (.ptr (some { a with off := a.off + o }), .no) else none
 | _, _ => none
def fieldV (P : Program) (t : TypeId) (f : Nat) (v : AV) : Option (AV × Delta) :=
 match v, tfield P t f with
 | .agg cs, some (o, u) => bindO (apart P u cs o) fun v => some (v, .no)
 | _, _ => none
def extractV (i : Nat) (v : AV) : Option (AV × Delta) :=
 match v with
 | .tup vs => bindO (vs[i]?) fun v => some (v, .no)
 | _ => none
def len1 (P : Program) (L : Look) (t : TypeId) : List AV → Option (AV × Delta)
 | [x] => bindO (alen P L t x) fun v => some (v, .no)
 | _ => none
def append2 (P : Program) (L : Look) (n : Nat) (t u : TypeId) : List AV → Option (AV × Delta)
 | [s, x] => aappend P L n t u s x
 | _ => none
theorem op_fieldAddr {t : TypeId} {x : Operand} {f : Nat} : aop P ev L n (.fieldAddr t x f) = bindO (ev x) fun v => fieldA P t f v := by
 simp only [aop]
 cases hx : ev x with
 | none => rfl
 | some v =>
  simp only [bindO, fieldA]
  cases v with
  | ptr a => cases a <;> cases tfield P t f <;> rfl
  | _ => rfl
theorem op_field {t : TypeId} {x : Operand} {f : Nat} : aop P ev L n (.field t x f) = bindO (ev x) fun v => fieldV P t f v := by
 simp only [aop]
 cases hx : ev x with
 | none => rfl
 | some v =>
  simp only [bindO, fieldV]
  cases v with
  | agg a =>
   cases h : tfield P t f with
   | none => rfl
   | some ou =>
    obtain ⟨o, u⟩ := ou
    simp only []
    cases apart P u a o <;> rfl
  | _ => rfl
theorem op_indexAddr {t : TypeId} {x i : Operand} : aop P ev L n (.indexAddr t x i) = bindO (ev x) fun x => bindO (ev i) fun i => bindO (aindexAddr P t x i) fun v => some (v, .no) := by
 simp only [aop]
 cases ev x with
 | none => rfl
 | some x =>
  cases ev i with
  | none => rfl
  | some i => simp only [bindO]; cases aindexAddr P t x i <;> rfl
theorem op_index {t : TypeId} {x i : Operand} : aop P ev L n (.index t x i) = bindO (ev x) fun x => bindO (ev i) fun i => bindO (aindex P t x i) fun v => some (v, .no) := by
 simp only [aop]
 cases ev x with
 | none => rfl
 | some x =>
  cases ev i with
  | none => rfl
  | some i => simp only [bindO]; cases aindex P t x i <;> rfl
theorem op_lookup {t : TypeId} {m k : Operand} {ok : Bool} : aop P ev L n (.lookup t m k ok) = bindO (ev m) fun m => bindO (ev k) fun k => bindO (alookup P L t m k ok) fun v => some (v, .no) := by
 simp only [aop]
 cases ev m with
 | none => rfl
 | some x =>
  cases ev k with
  | none => rfl
  | some i => simp only [bindO]; cases alookup P L t x i ok <;> rfl
theorem op_mapUpdate {t : TypeId} {m k x : Operand} : aop P ev L n (.mapUpdate t m k x) =
  bindO (ev m) fun m => bindO (ev k) fun k => bindO (ev x) fun v => if v.notTup then bindO (amapUpdate P L t m k v) fun d => some (.tup [], d) else none := by
 simp only [aop]
 cases ev m with
 | none => rfl
 | some m =>
  cases ev k with
  | none => rfl
  | some k =>
   cases ev x with
   | none => rfl
   | some v =>
    simp only [bindO]
    split
    · cases amapUpdate P L t m k v <;> rfl
    · rfl
theorem op_extract {t : Operand} {i : Nat} : aop P ev L n (.extract t i) = bindO (ev t) fun v => extractV i v := by
 simp only [aop]
 cases ev t with
 | none => rfl
 | some v =>
  cases v with
  | tup vs => simp only [bindO, extractV]; cases vs[i]? <;> rfl
  | _ => rfl
theorem op_len {args : Array Operand} {t : TypeId} : aop P ev L n (.call ⟨.builtin .len, args, #[t]⟩) = bindO (evL ev args.toList) fun vs => len1 P L t vs := by
 simp only [aop]
 cases evL ev args.toList with
 | none => rfl
 | some vs =>
  simp only [bindO, len1]
  match vs with
  | [] => rfl
  | [x] => simp only []; cases alen P L t x <;> rfl
  | _ :: _ :: _ => rfl
theorem op_append {args : Array Operand} {t u : TypeId} : aop P ev L n (.call ⟨.builtin .append, args, #[t, u]⟩) = bindO (evL ev args.toList) fun vs => append2 P L n t u vs := by
 simp only [aop]
 cases evL ev args.toList with
 | none => rfl
 | some vs =>
  simp only [bindO, append2]
  match vs with
  | [] => rfl
  | [x] => rfl
  | [x, y] => rfl
  | _ :: _ :: _ :: _ => rfl
def copy2 (P : Program) (L : Look) (t : TypeId) : List AV → Option (AV × Delta)
 | [d, s] => acopy P L t d s
 | _ => none
def delete2 (P : Program) (L : Look) (t : TypeId) : List AV → Option (AV × Delta)
 | [m, k] => bindO (adelete P L t m k) fun d => some (.tup [], d)
 | _ => none
theorem op_copy {args : Array Operand} {t u : TypeId} : aop P ev L n (.call ⟨.builtin .copy, args, #[t, u]⟩) = bindO (evL ev args.toList) fun vs => copy2 P L t vs := by
 simp only [aop]
 cases evL ev args.toList with
 | none => rfl
 | some vs =>
  simp only [bindO, copy2]
  match vs with
  | [] => rfl
  | [x] => rfl
  | [x, y] => rfl
  | _ :: _ :: _ :: _ => rfl
theorem op_delete {args : Array Operand} {t u : TypeId} : aop P ev L n (.call ⟨.builtin .delete, args, #[t, u]⟩) = bindO (evL ev args.toList) fun vs => delete2 P L t vs := by
 simp only [aop]
 cases evL ev args.toList with
 | none => rfl
 | some vs =>
  simp only [bindO, delete2]
  match vs with
  | [] => rfl
  | [x] => rfl
  | [x, y] => simp only []; cases adelete P L t x y <;> rfl
  | _ :: _ :: _ :: _ => rfl
theorem op_min {args : Array Operand} {ts : Array TypeId} : aop P ev L n (.call ⟨.builtin .min, args, ts⟩) = bindO (evL ev args.toList) fun vs => bindO (amin vs) fun v => some (v, .no) := by
 simp only [aop]
 cases evL ev args.toList with
 | none => rfl
 | some vs => simp only [bindO]; cases amin vs <;> rfl
theorem op_max {args : Array Operand} {ts : Array TypeId} : aop P ev L n (.call ⟨.builtin .max, args, ts⟩) = bindO (evL ev args.toList) fun vs => bindO (amax vs) fun v => some (v, .no) := by
 simp only [aop]
 cases evL ev args.toList with
 | none => rfl
 | some vs => simp only [bindO]; cases amax vs <;> rfl
end
section
variable {P : Program} {F : CallF} {s : St} {Q : AExit → St → Prop}
theorem scode_more {k : SC} {n n' : Nat} {r : AExit × St} (h : scode P F n k s = some r) (hn : n ≤ n') : scode P F n' k s = some r := by
 obtain ⟨m, hm⟩ := scode_ev (F := F) (G := fun _ => F) (fun g a h r hr => ⟨0, fun _ _ => hr⟩) k s r h
 exact hm m (Nat.le_refl _) n' hn
theorem W_skip : W P F .skip s Q = Q .normal s := propext ⟨fun ⟨n, e, s', h1, h2⟩ => by
 have := h1 n (Nat.le_refl _)
 simp [scode] at this
 obtain ⟨rfl, rfl⟩ := this
 exact h2, W.skip⟩
theorem W_exit {id : Nat} : W P F (.exit id) s Q = Q (.exit id) s := propext ⟨fun ⟨n, e, s', h1, h2⟩ => by
 have := h1 n (Nat.le_refl _)
 simp [scode] at this
 obtain ⟨rfl, rfl⟩ := this
 exact h2, W.exit⟩
theorem W_ret : W P F .ret s Q = Q .ret s := propext ⟨fun ⟨n, e, s', h1, h2⟩ => by
 have := h1 n (Nat.le_refl _)
 simp [scode] at this
 obtain ⟨rfl, rfl⟩ := this
 exact h2, W.ret⟩
theorem W_reg {ops : List SOp} {pairs : Option (List (Nat × Nat))} {keep : Option (List Nat)} : W P F (.reg ops pairs keep) s Q = holds (sreg P F ops pairs s) fun s' => Q .normal ⟨cut keep s'.ρ, s'.h⟩ := by
 refine propext ⟨fun ⟨n, e, s', h1, h2⟩ => ?_, fun h => ?_⟩
 · have := h1 n (Nat.le_refl _)
   simp only [scode] at this
   split at this
   · rename_i s₁ hs
     simp at this
     obtain ⟨rfl, rfl⟩ := this
     simp only [hs, holds]
     exact h2
   · simp at this
 · cases hs : sreg P F ops pairs s with
   | none => simp [hs, holds] at h
   | some s₁ => simp only [hs, holds] at h; exact W.reg hs h
theorem W_seq {a b : SC} : W P F (.seq a b) s Q = W P F a s (andThen (fun s' => W P F b s' Q) Q) := by
 refine propext ⟨fun ⟨n, e, s', h1, h2⟩ => ?_, W.seq⟩
 have h := h1 n (Nat.le_refl _)
 simp only [scode] at h
 cases hx : scode P F n a s with
 | none => simp [hx] at h
 | some x =>
  obtain ⟨e₁, s₁⟩ := x
  refine ⟨n, e₁, s₁, fun n' hn' => scode_more hx hn', ?_⟩
  cases e₁ with
  | normal =>
   simp only [hx] at h
   exact ⟨n, e, s', fun n' hn' => scode_more h hn', h2⟩
  | exit id =>
   simp only [hx] at h
   simp at h
   obtain ⟨rfl, rfl⟩ := h
   exact h2
  | ret =>
   simp only [hx] at h
   simp at h
   obtain ⟨rfl, rfl⟩ := h
   exact h2
theorem W_cond {x : Operand} {a b : SC} {keep : Option (List Nat)} : W P F (.cond x a b keep) s Q = condK (evalA s.ρ x) (W P F a s (onCut keep Q)) (W P F b s (onCut keep Q)) := by
 refine propext ⟨fun ⟨n, e, s', h1, h2⟩ => ?_, fun h => ?_⟩
 · have h := h1 n (Nat.le_refl _)
   simp only [scode] at h
   have main : ∀ k : SC, after keep (scode P F n k s) = some (e, s') → W P F k s (onCut keep Q) := by
    intro k hk
    cases hx : scode P F n k s with
    | none => simp [hx, after] at hk
    | some y =>
     obtain ⟨e₁, s₁⟩ := y
     rw [hx] at hk
     refine ⟨n, e₁, s₁, fun n' hn' => scode_more hx hn', ?_⟩
     cases e₁ <;> simp [after] at hk <;> obtain ⟨rfl, rfl⟩ := hk <;> exact h2
   cases hv : evalA s.ρ x with
   | none => simp [hv, after] at h
   | some v =>
    cases v with
    | bool t =>
     cases t
     · simp only [hv] at h; exact main b h
     · simp only [hv] at h; exact main a h
    | _ => simp [hv, after] at h
 · cases hv : evalA s.ρ x with
   | none => simp [hv, condK] at h
   | some v =>
    cases v with
    | bool t =>
     cases t
     · simp only [hv, condK] at h; exact W.cond_false hv h
     · simp only [hv, condK] at h; exact W.cond_true hv h
    | _ => simp [hv, condK] at h
theorem W_block {id : Nat} {k : SC} : W P F (.block id k) s Q = W P F k s (inBlock id Q) := by
 refine propext ⟨fun ⟨n, e, s', h1, h2⟩ => ?_, W.block⟩
 have h := h1 n (Nat.le_refl _)
 simp only [scode] at h
 cases hx : scode P F n k s with
 | none => simp [hx] at h
 | some x =>
  obtain ⟨e₁, s₁⟩ := x
  refine ⟨n, e₁, s₁, fun n' hn' => scode_more hx hn', ?_⟩
  cases e₁ with
  | normal =>
   simp [hx] at h
   obtain ⟨rfl, rfl⟩ := h
   exact h2
  | exit id' =>
   simp only [hx] at h
   simp only [inBlock]
   split at h <;> simp at h <;> obtain ⟨rfl, rfl⟩ := h
   · rename_i hi; rw [if_pos hi]; exact h2
   · rename_i hi; rw [if_neg hi]; exact h2
  | ret =>
   simp [hx] at h
   obtain ⟨rfl, rfl⟩ := h
   exact h2
def Wt (P : Program) (F : CallF) (k : SC) (s : St) (Q : AExit → St → Prop) (_ : Tag Q := ⟨⟩) : Prop := W P F k s Q
theorem Wt_skip : Wt P F .skip s Q = Q .normal s := W_skip
theorem Wt_exit {id : Nat} : Wt P F (.exit id) s Q = Q (.exit id) s := W_exit
theorem Wt_ret : Wt P F .ret s Q = Q .ret s := W_ret
theorem Wt_reg {ops : List SOp} {pairs : Option (List (Nat × Nat))} {keep : Option (List Nat)} : Wt P F (.reg ops pairs keep) s Q = holds (sreg P F ops pairs s) fun s' => Q .normal ⟨cut keep s'.ρ, s'.h⟩ := W_reg
theorem Wt_seq {a b : SC} : Wt P F (.seq a b) s Q = Wt P F a s (andThen (fun s' => Wt P F b s' Q) Q) := W_seq
theorem Wt_cond {x : Operand} {a b : SC} {keep : Option (List Nat)} : Wt P F (.cond x a b keep) s Q = condK (evalA s.ρ x) (Wt P F a s (onCut keep Q)) (Wt P F b s (onCut keep Q)) := W_cond
theorem Wt_block {id : Nat} {k : SC} : Wt P F (.block id k) s Q = Wt P F k s (inBlock id Q) := W_block
theorem Wt.loop {k : SC} {keep : Option (List Nat)} (I : Nat → St → Prop) {m : Nat} (h₀ : I m s)
  (round : ∀ m s, I m s → Wt P F k ⟨cut keep s.ρ, s.h⟩ (andThen (fun s' => ∃ m', m' < m ∧ I m' s') Q)) : Wt P F (.loop k keep) s Q := W.loop I h₀ round
variable {K : St → Prop} {keep : Option (List Nat)} {id id' : Nat}
theorem andThen_normal : andThen K Q .normal s = K s := (rfl)
theorem andThen_exit : andThen K Q (.exit id) s = Q (.exit id) s := (rfl)
theorem andThen_ret : andThen K Q .ret s = Q .ret s := (rfl)
theorem onCut_normal : onCut keep Q .normal s = Q .normal ⟨cut keep s.ρ, s.h⟩ := (rfl)
theorem onCut_exit : onCut keep Q (.exit id) s = Q (.exit id) s := (rfl)
theorem onCut_ret : onCut keep Q .ret s = Q .ret s := (rfl)
theorem inBlock_normal : inBlock id Q .normal s = Q .normal s := (rfl)
theorem inBlock_same : inBlock id Q (.exit id) s = Q .normal s := by simp [inBlock]
theorem inBlock_other (h : id' ≠ id) : inBlock id Q (.exit id') s = Q (.exit id') s := by simp [inBlock, h]
theorem inBlock_ret : inBlock id Q .ret s = Q .ret s := (rfl)
theorem cut_some {ks : List Nat} {ρ : Env} : cut (some ks) ρ = pick ρ ks := (rfl)
theorem cut_none {ρ : Env} : cut none ρ = ρ := (rfl)
def Ends (P : Program) (rs : List ResultVar) (R : AV → Heap → Prop) : AExit → St → Prop
 | .exit _, _ => False
 | _, s => holds (aresultL P s rs) fun vs => vs.all AV.notTup = true ∧ R (pack vs) s.h
theorem Ends_normal {rs : List ResultVar} {R : AV → Heap → Prop} : Ends P rs R .normal s = holds (aresultL P s rs) fun vs => vs.all AV.notTup = true ∧ R (pack vs) s.h := (rfl)
theorem Ends_ret {rs : List ResultVar} {R : AV → Heap → Prop} : Ends P rs R .ret s = holds (aresultL P s rs) fun vs => vs.all AV.notTup = true ∧ R (pack vs) s.h := (rfl)
theorem Ends_fin {fn : Func} {rs : List ResultVar} (hrs : fn.results.toList = rs) {R : AV → Heap → Prop} {e : AExit} (h : Ends P rs R e s) : Fin P fn R e s := by
 subst hrs
 cases e with
 | exit id => exact h.elim
 | normal =>
  simp only [Ends_normal] at h
  cases hv : aresultL P s fn.results.toList with
  | none => simp [hv, holds] at h
  | some vs => simp only [hv, holds] at h; exact ⟨vs, hv, h.1, h.2⟩
 | ret =>
  simp only [Ends_ret] at h
  cases hv : aresultL P s fn.results.toList with
  | none => simp [hv, holds] at h
  | some vs => simp only [hv, holds] at h; exact ⟨vs, hv, h.1, h.2⟩
theorem W.calls {c : Cfg} {f : FuncId} {fn : Func} {code : Code} {k : SC} {rs : List ResultVar} (hx : c.ext f = none) (hf : c.P.funcs[f]? = some fn) (hb : fn.body = some code) (hk : compile (c.hint f) code = k) (hrs : fn.results.toList = rs)
  {args : List AV} (hn : args.length ≤ fn.ntmps) {h : Heap} {R : AV → Heap → Prop} (hw : Wt c.P (D c) k ⟨argsEnv 0 args, h⟩ (Ends c.P rs R)) : ∃ r h', D c f args h = some (r, h') ∧ R r h' :=
 W.call hx hf hb hk hn (hw.mono fun e s' h => Ends_fin hrs h)
theorem result_tmp {t : Nat} {rs : List ResultVar} : aresultL P s (.tmp t :: rs) = bindO (s.ρ.get t) fun v => bindO (aresultL P s rs) fun vs => some (v :: vs) := by
 simp only [aresultL, aresult]
 cases s.ρ.get t <;> cases aresultL P s rs <;> rfl
theorem result_nil : aresultL P s [] = some [] := (rfl)
end
theorem get_cons {k t : Nat} {v : AV} {ρ : Env} : Env.get ((k, v) :: ρ) t = if k = t then some v else Env.get ρ t := (rfl)
theorem put_some {ρ : Env} {d : Nat} {v : AV} : Env.put ρ (some d) v = (d, v) :: ρ := (rfl)
theorem put_none {ρ : Env} {v : AV} : Env.put ρ none v = ρ := (rfl)
def consO (k : Nat) (v : Option AV) (ρ : Env) : Env :=
 match v with
 | some v => (k, v) :: ρ
 | none => ρ
theorem consO_some {k : Nat} {v : AV} {ρ : Env} : consO k (some v) ρ = (k, v) :: ρ := (rfl)
theorem consO_none {k : Nat} {ρ : Env} : consO k none ρ = ρ := (rfl)
theorem pick_cons {ρ : Env} {k : Nat} {ks : List Nat} : pick ρ (k :: ks) = consO k (ρ.get k) (pick ρ ks) := by
 simp only [pick]
 cases ρ.get k <;> rfl
theorem pick_nil {ρ : Env} : pick ρ [] = [] := (rfl)
def callV (F : CallF) (h : Heap) (f : Option AV) (al : List AV) : Option (AV × Heap) :=
 match f with
 | some (.fn (.func g) caps) => if g < 1000000000 then F g (al ++ caps) h else none
 | some (.bm g a) => if g < 1000000000 then F g (a :: al) h else none
 | some (.fn (.yield l) []) => F (1000000000 + l) al h
 | _ => none
theorem callV_bm {F : CallF} {h : Heap} {g : FuncId} {a : AV} {al : List AV} (hg : g < 1000000000) : callV F h (some (.bm g a)) al = F g (a :: al) h := if_pos hg
theorem callV_func {F : CallF} {h : Heap} {g : FuncId} {caps al : List AV} (hg : g < 1000000000) : callV F h (some (.fn (.func g) caps)) al = F g (al ++ caps) h := if_pos hg
theorem callV_yield {F : CallF} {h : Heap} {l : Nat} {al : List AV} : callV F h (some (.fn (.yield l) [])) al = F (1000000000 + l) al h := (rfl)
theorem astep_callv {P : Program} {F : CallF} {s : St} {t : Nat} {args : Array Operand} {ts : Array TypeId} : astep P F (.call ⟨.value (.tmp t), args, ts⟩) s = bindO (evL (evalA s.ρ) args.toList) fun al => callV F s.h (s.ρ.get t) al := by
 simp only [astep, callOf, evalA]
 cases hg : s.ρ.get t with
 | none => cases evL (evalA s.ρ) args.toList <;> rfl
 | some v =>
  cases v with
  | fn f caps =>
   cases f with
   | func g =>
    cases evL (evalA s.ρ) args.toList with
    | none => rfl
    | some al =>
     simp only [bindO, callV]
     by_cases hlt : g < 1000000000 <;> simp only [hlt, if_true, if_false]
   | yield l => cases caps <;> cases evL (evalA s.ρ) args.toList <;> rfl
   | _ => cases evL (evalA s.ρ) args.toList <;> rfl
  | bm g a =>
   cases evL (evalA s.ρ) args.toList with
   | none => rfl
   | some al =>
    simp only [bindO, callV]
    by_cases hlt : g < 1000000000 <;> simp only [hlt, if_true, if_false]
  | _ => cases evL (evalA s.ρ) args.toList <;> rfl
theorem astepT_callv {P : Program} {F : CallF} {s : St} {t : Nat} {args : Array Operand} {ts : Array TypeId} {g : FuncId} {caps : List AV} (hf : s.ρ.get t = some (.fn (.func g) caps)) (hg : g < 1000000000) :
  astepT P F (.call ⟨.value (.tmp t), args, ts⟩) s = bindO (evL (evalA s.ρ) args.toList) fun al => bindO (F g (al ++ caps) s.h) fun r => some (r.1, r.2, .heaps s.h r.2) := by
 simp only [astepT, callOf, evalA, hf]
 cases evL (evalA s.ρ) args.toList with
 | none => rfl
 | some al =>
  simp only [bindO, hg, if_true]
  cases F g (al ++ caps) s.h <;> rfl
end Go.AM
namespace Go.AM
open Go
set_option linter.unusedVariables false
set_option linter.unusedSimpArgs false
theorem evalA_tmp {ρ : Env} {t : Nat} : evalA ρ (.tmp t) = ρ.get t := (rfl)
theorem evalA_const {ρ : Env} {v : Value} : evalA ρ (.const v) = absV v := (rfl)
theorem absV_bool {b : Bool} : absV (.bool b) = some (.bool b) := (rfl)
theorem absV_int {k : IntKind} {n : Int} : absV (.int k n) = some (.int k n) := (rfl)
theorem absV_string {s : Array UInt8} : absV (.string ⟨s⟩) = some (.str s.toList) := (rfl)
theorem absV_pointer : absV (.pointer none) = some (.ptr none) := (rfl)
theorem absV_slice : absV (.slice none 0 0) = some (.sl none 0 0) := (rfl)
theorem absV_map : absV (.map none) = some (.map none) := (rfl)
theorem absV_nilFunc : absV .nilFunc = some .nilf := (rfl)
theorem absV_nilIface : absV .nilIface = some .nili := (rfl)
theorem absV_agg {cs : Array Value} : absV (.agg cs) = bindO (absL cs.toList) fun xs => some (.agg xs) := by
 simp only [absV]
 cases absL cs.toList <;> rfl
theorem absL_cons {v : Value} {vs : List Value} : absL (v :: vs) = bindO (absC v) fun x => bindO (absL vs) fun xs => some (x :: xs) := by
 simp only [absL]
 cases absC v <;> cases absL vs <;> rfl
theorem absL_nil : absL [] = some [] := (rfl)
theorem absC_bool {b : Bool} : absC (.bool b) = some (.bool b) := (rfl)
theorem absC_int {k : IntKind} {n : Int} : absC (.int k n) = some (.int k n) := (rfl)
theorem absC_string {s : Array UInt8} : absC (.string ⟨s⟩) = some (.str s.toList) := (rfl)
theorem absC_pointer : absC (.pointer none) = some (.ptr none) := (rfl)
theorem absC_slice : absC (.slice none 0 0) = some (.sl none 0 0) := (rfl)
theorem absC_map : absC (.map none) = some (.map none) := (rfl)
theorem absC_nilFunc : absC .nilFunc = some .nilf := (rfl)
section
variable {P : Program} {F : CallF} {s : St}
theorem sreg_none {ops : List SOp} : sreg P F ops none s = aops P F ops s := (rfl)
theorem sreg_some {ops : List SOp} {ps : List (Nat × Nat)} : sreg P F ops (some ps) s = aopsT P F ps 0 ops s ⟨[], []⟩ := (rfl)
theorem step_move {x : Operand} : astep P F (.move x) s = bindO (evalA s.ρ x) fun v => some (v, s.h) := by
 rw [astep_eq rfl, op_move]; cases evalA s.ρ x <;> rfl
theorem step_assign {x : Operand} : astep P F (.assign x) s = bindO (evalA s.ρ x) fun v => some (v, s.h) := by
 rw [astep_eq rfl, op_assign]; cases evalA s.ρ x <;> rfl
theorem step_nilCheck {x : Operand} : astep P F (.nilCheck x) s = bindO (evalA s.ρ x) fun v => bindO (nilck v) fun v => some (v, s.h) := by
 rw [astep_eq rfl, op_nilCheck]
 cases evalA s.ρ x with
 | none => rfl
 | some v => simp only [bindO_some]; cases nilck v <;> rfl
theorem step_load {t : TypeId} {x : Operand} : astep P F (.load t x) s = bindO (evalA s.ρ x) fun p => bindO (aload P (look s.h) t p) fun v => some (v, s.h) := by
 rw [astep_eq rfl, op_load]
 cases evalA s.ρ x with
 | none => rfl
 | some v => simp only [bindO_some]; cases aload P (look s.h) t v <;> rfl
theorem step_unOp {op : UnOp} {t : TypeId} {x : Operand} : astep P F (.unOp op t x) s = bindO (evalA s.ρ x) fun v => bindO (aun op v) fun v => some (v, s.h) := by
 rw [astep_eq rfl, op_unOp]
 cases evalA s.ρ x with
 | none => rfl
 | some v => simp only [bindO_some]; cases aun op v <;> rfl
theorem step_binOp {op : BinOp} {t u : TypeId} {x y : Operand} : astep P F (.binOp op t x y u) s = bindO (evalA s.ρ x) fun a => bindO (evalA s.ρ y) fun b => fin s (bin P op t a b) := by
 rw [astep_eq rfl, op_binOp]
 cases evalA s.ρ x <;> cases evalA s.ρ y <;> rfl
theorem step_alloc {t : TypeId} : astep P F (.alloc t) s = fin s (aop P (evalA s.ρ) (look s.h) s.h.length (.alloc t)) := astep_eq rfl
theorem step_box {t : TypeId} {x : Operand} : astep P F (.box t x) s = fin s (aop P (evalA s.ρ) (look s.h) s.h.length (.box t x)) := astep_eq rfl
theorem step_build {t : TypeId} {ps : Array (Nat × Operand)} : astep P F (.build t ps) s = fin s (aop P (evalA s.ρ) (look s.h) s.h.length (.build t ps)) := astep_eq rfl
theorem step_buildSlice {t : TypeId} {n : Nat} {ps : Array (Nat × Operand)} : astep P F (.buildSlice t n ps) s = fin s (aop P (evalA s.ρ) (look s.h) s.h.length (.buildSlice t n ps)) := astep_eq rfl
theorem step_store {t : TypeId} {x y : Operand} : astep P F (.store t x y) s = fin s (aop P (evalA s.ρ) (look s.h) s.h.length (.store t x y)) := astep_eq rfl
theorem step_convert {t u : TypeId} {x : Operand} : astep P F (.convert t u x) s = fin s (aop P (evalA s.ρ) (look s.h) s.h.length (.convert t u x)) := astep_eq rfl
theorem step_makeFunc {f : Fn} {a b : Array Operand} : astep P F (.makeFunc f a b) s = fin s (aop P (evalA s.ρ) (look s.h) s.h.length (.makeFunc f a b)) := astep_eq rfl
theorem step_makeMap {t : TypeId} {r : Option Operand} : astep P F (.makeMap t r) s = fin s (aop P (evalA s.ρ) (look s.h) s.h.length (.makeMap t r)) := astep_eq rfl
theorem step_makeSlice {t : TypeId} {x y : Operand} : astep P F (.makeSlice t x y) s = fin s (aop P (evalA s.ρ) (look s.h) s.h.length (.makeSlice t x y)) := astep_eq rfl
theorem step_slice {t : TypeId} {x : Operand} {l h m : Option Operand} : astep P F (.slice t x l h m) s = fin s (aop P (evalA s.ρ) (look s.h) s.h.length (.slice t x l h m)) := astep_eq rfl
theorem step_fieldAddr {t : TypeId} {x : Operand} {f : Nat} : astep P F (.fieldAddr t x f) s = fin s (aop P (evalA s.ρ) (look s.h) s.h.length (.fieldAddr t x f)) := astep_eq rfl
theorem step_field {t : TypeId} {x : Operand} {f : Nat} : astep P F (.field t x f) s = fin s (aop P (evalA s.ρ) (look s.h) s.h.length (.field t x f)) := astep_eq rfl
theorem step_indexAddr {t : TypeId} {x y : Operand} : astep P F (.indexAddr t x y) s = fin s (aop P (evalA s.ρ) (look s.h) s.h.length (.indexAddr t x y)) := astep_eq rfl
theorem step_index {t : TypeId} {x y : Operand} : astep P F (.index t x y) s = fin s (aop P (evalA s.ρ) (look s.h) s.h.length (.index t x y)) := astep_eq rfl
theorem step_lookup {t : TypeId} {x y : Operand} {ok : Bool} : astep P F (.lookup t x y ok) s = fin s (aop P (evalA s.ρ) (look s.h) s.h.length (.lookup t x y ok)) := astep_eq rfl
theorem step_mapUpdate {t : TypeId} {x y z : Operand} : astep P F (.mapUpdate t x y z) s = fin s (aop P (evalA s.ρ) (look s.h) s.h.length (.mapUpdate t x y z)) := astep_eq rfl
theorem step_insert {t : TypeId} {x y z : Operand} : astep P F (.insert t x y z) s = fin s (aop P (evalA s.ρ) (look s.h) s.h.length (.insert t x y z)) := astep_eq rfl
theorem step_range {t : TypeId} {x : Operand} : astep P F (.range t x) s = fin s (aop P (evalA s.ρ) (look s.h) s.h.length (.range t x)) := astep_eq rfl
theorem step_next {x : Operand} {b : Bool} : astep P F (.next x b) s = fin s (aop P (evalA s.ρ) (look s.h) s.h.length (.next x b)) := astep_eq rfl
theorem step_extract {x : Operand} {i : Nat} : astep P F (.extract x i) s = fin s (aop P (evalA s.ρ) (look s.h) s.h.length (.extract x i)) := astep_eq rfl
theorem step_pick {x y z : Operand} : astep P F (.pick x y z) s = fin s (aop P (evalA s.ρ) (look s.h) s.h.length (.pick x y z)) := astep_eq rfl
theorem step_makeInterface {t : TypeId} {x : Operand} : astep P F (.makeInterface t x) s = fin s (aop P (evalA s.ρ) (look s.h) s.h.length (.makeInterface t x)) := astep_eq rfl
theorem step_builtin {b : Builtin} {as : Array Operand} {ts : Array TypeId} : astep P F (.call ⟨.builtin b, as, ts⟩) s = fin s (aop P (evalA s.ρ) (look s.h) s.h.length (.call ⟨.builtin b, as, ts⟩)) := astep_eq rfl
def tch (s : St) (r : Option (AV × Delta)) : Option (AV × Heap × Touch) := finT s r
theorem fin_some {v : AV} {δ : Delta} : fin s (some (v, δ)) = some (v, s.h.apply δ) := (rfl)
theorem finT_some {v : AV} {δ : Delta} : finT s (some (v, δ)) = some (v, s.h.apply δ, touchD s.h.length δ) := (rfl)
theorem apply_no {h : Heap} : h.apply .no = h := (rfl)
theorem apply_new {h : Heap} {o : AObj} : h.apply (.new o) = h ++ [o] := (rfl)
theorem apply_set {h : Heap} {b : Nat} {o : AObj} : h.apply (.set b o) = h.set b o := (rfl)
end
theorem bin_int {P : Program} {op : BinOp} {t : TypeId} {k k' : IntKind} {a b : Int} : bin P op t (.int k a) (.int k' b) = bindO (abin (tk P t) op (.int k a) (.int k' b)) fun v => some (v, .no) := (rfl)
theorem bin_str {P : Program} {op : BinOp} {t : TypeId} {a b : List UInt8} : bin P op t (.str a) (.str b) = bindO (abin (tk P t) op (.str a) (.str b)) fun v => some (v, .no) := (rfl)
theorem bin_bool {P : Program} {op : BinOp} {t : TypeId} {a b : Bool} : bin P op t (.bool a) (.bool b) = bindO (abin (tk P t) op (.bool a) (.bool b)) fun v => some (v, .no) := (rfl)
theorem bin_ptr {P : Program} {op : BinOp} {t : TypeId} {a b : Option AA} : bin P op t (.ptr a) (.ptr b) = bindO (abin (tk P t) op (.ptr a) (.ptr b)) fun v => some (v, .no) := (rfl)
theorem bin_sl {P : Program} {op : BinOp} {t : TypeId} {a b : Option AA} {n c m d : Nat} : bin P op t (.sl a n c) (.sl b m d) = bindO (abin (tk P t) op (.sl a n c) (.sl b m d)) fun v => some (v, .no) := (rfl)
attribute [simp] bindO_some bindO_none holds_some holds_none condK_true condK_false guardK_tt guardK_ff guardK_tf guardK_ft guardK_un guardP_true
 aops_nil aops_run aops_guard aopsT_nil' aopsT_run aopsT_guard astep_call astepT_call ev_cons ev_nil evP_cons evP_nil evO_none evO_some
 op_alloc op_box op_build op_buildSlice op_store op_convert op_makeFunc op_makeBound op_makeSlice op_slice op_fieldAddr op_field op_indexAddr op_index op_lookup op_mapUpdate op_extract op_len op_append op_copy op_delete op_min op_max
 Wt_skip Wt_exit Wt_ret Wt_reg Wt_seq Wt_cond Wt_block andThen_normal andThen_exit andThen_ret onCut_normal onCut_exit onCut_ret inBlock_normal inBlock_same inBlock_other inBlock_ret cut_some cut_none
 Ends_normal Ends_ret result_tmp result_nil get_cons put_some put_none consO_some consO_none pick_cons pick_nil
 evalA_tmp evalA_const absV_bool absV_int absV_string absV_pointer absV_slice absV_map absV_nilFunc absV_nilIface absV_agg absL_cons absL_nil absC_bool absC_int absC_string absC_pointer absC_slice absC_map absC_nilFunc
 sreg_none sreg_some step_move step_assign step_nilCheck step_load step_unOp step_binOp step_alloc step_box step_build step_buildSlice step_store step_convert step_makeFunc step_makeMap step_makeSlice step_slice step_fieldAddr step_field
 step_indexAddr step_index step_lookup step_mapUpdate step_insert step_range step_next step_extract step_pick step_makeInterface step_builtin fin_some finT_some apply_no apply_new apply_set bin_int bin_str bin_bool bin_ptr bin_sl
section
variable {t : TK} {k : IntKind} {a b : Int}
theorem abin_add : abin t .add (.int k a) (.int k b) = some (.int k (k.wrap (a + b))) := by simp [abin]
theorem abin_sub : abin t .sub (.int k a) (.int k b) = some (.int k (k.wrap (a - b))) := by simp [abin]
theorem abin_mul : abin t .mul (.int k a) (.int k b) = some (.int k (k.wrap (a * b))) := by simp [abin]
theorem abin_quo (h : b ≠ 0) : abin t .quo (.int k a) (.int k b) = some (.int k (k.wrap (a.tdiv b))) := by simp [abin, h]
theorem abin_rem (h : b ≠ 0) : abin t .rem (.int k a) (.int k b) = some (.int k (a.tmod b)) := by simp [abin, h]
theorem abin_and : abin t .and (.int k a) (.int k b) = some (.int k (k.wrap (BitVec.ofInt k.bits a &&& BitVec.ofInt k.bits b).toNat)) := by simp [abin]
theorem abin_or : abin t .or (.int k a) (.int k b) = some (.int k (k.wrap (BitVec.ofInt k.bits a ||| BitVec.ofInt k.bits b).toNat)) := by simp [abin]
theorem abin_xor : abin t .xor (.int k a) (.int k b) = some (.int k (k.wrap (BitVec.ofInt k.bits a ^^^ BitVec.ofInt k.bits b).toNat)) := by simp [abin]
theorem abin_eql : abin t .eql (.int k a) (.int k b) = some (.bool (decide (a = b))) := by simp [abin]
theorem abin_neq : abin t .neq (.int k a) (.int k b) = some (.bool (!decide (a = b))) := by simp [abin]
theorem abin_lss : abin t .lss (.int k a) (.int k b) = some (.bool (decide (a < b))) := by simp [abin]
theorem abin_leq : abin t .leq (.int k a) (.int k b) = some (.bool (decide (a ≤ b))) := by simp [abin]
theorem abin_gtr : abin t .gtr (.int k a) (.int k b) = some (.bool (decide (b < a))) := by simp [abin]
theorem abin_geq : abin t .geq (.int k a) (.int k b) = some (.bool (decide (b ≤ a))) := by simp [abin]
theorem abin_shl {k' : IntKind} (h : 0 ≤ b) : abin t .shl (.int k a) (.int k' b) = some (.int k (k.wrap (a * 2 ^ (min b.toNat k.bits)))) := by simp [abin, h]
theorem abin_shr {k' : IntKind} (h : 0 ≤ b) : abin t .shr (.int k a) (.int k' b) = some (.int k (a.fdiv (2 ^ (min b.toNat k.bits)))) := by simp [abin, h]
theorem abin_eqlS {x y : List UInt8} : abin t .eql (.str x) (.str y) = some (.bool (decide (x = y))) := by simp [abin]
theorem abin_neqS {x y : List UInt8} : abin t .neq (.str x) (.str y) = some (.bool (!decide (x = y))) := by simp [abin]
theorem abin_addS {x y : List UInt8} (h : x.length + y.length ≤ 9223372036854775807) : abin t .add (.str x) (.str y) = some (.str (x ++ y)) := by simp [abin, h]
theorem abin_eqlB {x y : Bool} : abin .bool .eql (.bool x) (.bool y) = some (.bool (decide (x = y))) := by simp [abin, aeq]
theorem abin_neqB {x y : Bool} : abin .bool .neq (.bool x) (.bool y) = some (.bool (!decide (x = y))) := by simp [abin, aeq]
theorem abin_eqlP {e : TypeId} {x : AA} : abin (.ptr e) .eql (.ptr (some x)) (.ptr none) = some (.bool false) := by simp [abin, aeq]
theorem abin_neqP {e : TypeId} {x : AA} : abin (.ptr e) .neq (.ptr (some x)) (.ptr none) = some (.bool true) := by simp [abin, aeq]
theorem abin_eqlPn {e : TypeId} : abin (.ptr e) .eql (.ptr none) (.ptr none) = some (.bool true) := by simp [abin, aeq]
theorem abin_neqPn {e : TypeId} : abin (.ptr e) .neq (.ptr none) (.ptr none) = some (.bool false) := by simp [abin, aeq]
theorem abin_eqlL {e : TypeId} {x : Option AA} {n c m d : Nat} : abin (.slice e) .eql (.sl x n c) (.sl none m d) = some (.bool x.isNone) := by cases x <;> simp [abin, aeq]
theorem abin_neqL {e : TypeId} {x : Option AA} {n c m d : Nat} : abin (.slice e) .neq (.sl x n c) (.sl none m d) = some (.bool (!x.isNone)) := by cases x <;> simp [abin, aeq]
theorem abin_eqlM {e f : TypeId} {x : Option Nat} : abin (.map e f) .eql (.map x) (.map none) = some (.bool x.isNone) := by cases x <;> simp [abin, aeq]
theorem aun_not {b : Bool} : aun .not (.bool b) = some (.bool (!b)) := (rfl)
theorem aun_neg : aun .neg (.int k a) = some (.int k (k.wrap (0 - a))) := (rfl)
theorem nilck_ptr {x : AA} : nilck (.ptr (some x)) = some (.ptr (some x)) := (rfl)
theorem nilck_map {x : Nat} : nilck (.map (some x)) = some (.map (some x)) := (rfl)
end
theorem wrap_i64 {n : Int} (h : -9223372036854775808 ≤ n) (h' : n ≤ 9223372036854775807) : IntKind.wrap .i64 n = n := by
 simp only [IntKind.wrap, IntKind.signed, IntKind.bits]
 simp
 omega
theorem wrap_u8 {n : Int} (h : 0 ≤ n) (h' : n ≤ 255) : IntKind.wrap .u8 n = n := by
 simp only [IntKind.wrap, IntKind.signed, IntKind.bits]
 simp
 omega
theorem wrap_u32 {n : Int} (h : 0 ≤ n) (h' : n ≤ 4294967295) : IntKind.wrap .u32 n = n := by
 simp only [IntKind.wrap, IntKind.signed, IntKind.bits]
 simp
 omega
attribute [simp] abin_add abin_sub abin_mul abin_eql abin_neq abin_lss abin_leq abin_gtr abin_geq abin_eqlS abin_neqS abin_eqlB abin_neqB abin_eqlP abin_neqP abin_eqlPn abin_neqPn abin_eqlL abin_neqL abin_eqlM aun_not aun_neg nilck_ptr nilck_map
section
variable {P : Program} {F : CallF} {s : St}
theorem stepT_move {x : Operand} : astepT P F (.move x) s = finT s (aop P (evalA s.ρ) (look s.h) s.h.length (.move x)) := astepT_eq rfl
theorem stepT_assign {x : Operand} : astepT P F (.assign x) s = finT s (aop P (evalA s.ρ) (look s.h) s.h.length (.assign x)) := astepT_eq rfl
theorem stepT_nilCheck {x : Operand} : astepT P F (.nilCheck x) s = finT s (aop P (evalA s.ρ) (look s.h) s.h.length (.nilCheck x)) := astepT_eq rfl
theorem stepT_load {t : TypeId} {x : Operand} : astepT P F (.load t x) s = finT s (aop P (evalA s.ρ) (look s.h) s.h.length (.load t x)) := astepT_eq rfl
theorem stepT_unOp {op : UnOp} {t : TypeId} {x : Operand} : astepT P F (.unOp op t x) s = finT s (aop P (evalA s.ρ) (look s.h) s.h.length (.unOp op t x)) := astepT_eq rfl
theorem stepT_binOp {op : BinOp} {t u : TypeId} {x y : Operand} : astepT P F (.binOp op t x y u) s = finT s (aop P (evalA s.ρ) (look s.h) s.h.length (.binOp op t x y u)) := astepT_eq rfl
theorem stepT_alloc {t : TypeId} : astepT P F (.alloc t) s = finT s (aop P (evalA s.ρ) (look s.h) s.h.length (.alloc t)) := astepT_eq rfl
theorem stepT_box {t : TypeId} {x : Operand} : astepT P F (.box t x) s = finT s (aop P (evalA s.ρ) (look s.h) s.h.length (.box t x)) := astepT_eq rfl
theorem stepT_build {t : TypeId} {ps : Array (Nat × Operand)} : astepT P F (.build t ps) s = finT s (aop P (evalA s.ρ) (look s.h) s.h.length (.build t ps)) := astepT_eq rfl
theorem stepT_buildSlice {t : TypeId} {n : Nat} {ps : Array (Nat × Operand)} : astepT P F (.buildSlice t n ps) s = finT s (aop P (evalA s.ρ) (look s.h) s.h.length (.buildSlice t n ps)) := astepT_eq rfl
theorem stepT_store {t : TypeId} {x y : Operand} : astepT P F (.store t x y) s = finT s (aop P (evalA s.ρ) (look s.h) s.h.length (.store t x y)) := astepT_eq rfl
theorem stepT_convert {t u : TypeId} {x : Operand} : astepT P F (.convert t u x) s = finT s (aop P (evalA s.ρ) (look s.h) s.h.length (.convert t u x)) := astepT_eq rfl
theorem stepT_makeFunc {f : Fn} {a b : Array Operand} : astepT P F (.makeFunc f a b) s = finT s (aop P (evalA s.ρ) (look s.h) s.h.length (.makeFunc f a b)) := astepT_eq rfl
theorem stepT_makeMap {t : TypeId} {r : Option Operand} : astepT P F (.makeMap t r) s = finT s (aop P (evalA s.ρ) (look s.h) s.h.length (.makeMap t r)) := astepT_eq rfl
theorem stepT_makeSlice {t : TypeId} {x y : Operand} : astepT P F (.makeSlice t x y) s = finT s (aop P (evalA s.ρ) (look s.h) s.h.length (.makeSlice t x y)) := astepT_eq rfl
theorem stepT_slice {t : TypeId} {x : Operand} {l h m : Option Operand} : astepT P F (.slice t x l h m) s = finT s (aop P (evalA s.ρ) (look s.h) s.h.length (.slice t x l h m)) := astepT_eq rfl
theorem stepT_fieldAddr {t : TypeId} {x : Operand} {f : Nat} : astepT P F (.fieldAddr t x f) s = finT s (aop P (evalA s.ρ) (look s.h) s.h.length (.fieldAddr t x f)) := astepT_eq rfl
theorem stepT_field {t : TypeId} {x : Operand} {f : Nat} : astepT P F (.field t x f) s = finT s (aop P (evalA s.ρ) (look s.h) s.h.length (.field t x f)) := astepT_eq rfl
theorem stepT_indexAddr {t : TypeId} {x y : Operand} : astepT P F (.indexAddr t x y) s = finT s (aop P (evalA s.ρ) (look s.h) s.h.length (.indexAddr t x y)) := astepT_eq rfl
theorem stepT_index {t : TypeId} {x y : Operand} : astepT P F (.index t x y) s = finT s (aop P (evalA s.ρ) (look s.h) s.h.length (.index t x y)) := astepT_eq rfl
theorem stepT_lookup {t : TypeId} {x y : Operand} {ok : Bool} : astepT P F (.lookup t x y ok) s = finT s (aop P (evalA s.ρ) (look s.h) s.h.length (.lookup t x y ok)) := astepT_eq rfl
theorem stepT_mapUpdate {t : TypeId} {x y z : Operand} : astepT P F (.mapUpdate t x y z) s = finT s (aop P (evalA s.ρ) (look s.h) s.h.length (.mapUpdate t x y z)) := astepT_eq rfl
theorem stepT_insert {t : TypeId} {x y z : Operand} : astepT P F (.insert t x y z) s = finT s (aop P (evalA s.ρ) (look s.h) s.h.length (.insert t x y z)) := astepT_eq rfl
theorem stepT_range {t : TypeId} {x : Operand} : astepT P F (.range t x) s = finT s (aop P (evalA s.ρ) (look s.h) s.h.length (.range t x)) := astepT_eq rfl
theorem stepT_next {x : Operand} {b : Bool} : astepT P F (.next x b) s = finT s (aop P (evalA s.ρ) (look s.h) s.h.length (.next x b)) := astepT_eq rfl
theorem stepT_extract {x : Operand} {i : Nat} : astepT P F (.extract x i) s = finT s (aop P (evalA s.ρ) (look s.h) s.h.length (.extract x i)) := astepT_eq rfl
theorem stepT_pick {x y z : Operand} : astepT P F (.pick x y z) s = finT s (aop P (evalA s.ρ) (look s.h) s.h.length (.pick x y z)) := astepT_eq rfl
theorem stepT_makeInterface {t : TypeId} {x : Operand} : astepT P F (.makeInterface t x) s = finT s (aop P (evalA s.ρ) (look s.h) s.h.length (.makeInterface t x)) := astepT_eq rfl
theorem stepT_builtin {b : Builtin} {as : Array Operand} {ts : Array TypeId} : astepT P F (.call ⟨.builtin b, as, ts⟩) s = finT s (aop P (evalA s.ρ) (look s.h) s.h.length (.call ⟨.builtin b, as, ts⟩)) := astepT_eq rfl
end
section
variable {P : Program} {ev : Ev} {L : Look} {n : Nat}
def pickV (c a b : AV) : Option (AV × Delta) :=
 match c with
 | .bool c => some (if c then a else b, .no)
 | _ => none
theorem op_pick {x y z : Operand} : aop P ev L n (.pick x y z) = bindO (ev x) fun c => bindO (ev y) fun a => bindO (ev z) fun b => pickV c a b := by
 simp only [aop]
 cases ev x with
 | none => rfl
 | some c =>
  cases ev y with
  | none => cases c <;> rfl
  | some a =>
   cases ev z with
   | none => cases c <;> rfl
   | some b => cases c <;> rfl
theorem op_makeMap {t : TypeId} {kt et : TypeId} (hk : tk P t = .map kt et) (hs : (kshape P kt).isSome = true) : aop P ev L n (.makeMap t none) = some (.map (some n), .new (.map t [] 0)) := by
 simp only [aop, hk, hs, if_true]
theorem op_insert {t : TypeId} {m k x : Operand} : aop P ev L n (.insert t m k x) =
  bindO (ev m) fun m => bindO (ev k) fun k => bindO (ev x) fun v => if v.notTup then bindO (amapUpdate P L t m k v) fun d => some (.tup [], d) else none := by
 simp only [aop]
 cases ev m with
 | none => rfl
 | some m =>
  cases ev k with
  | none => rfl
  | some k =>
   cases ev x with
   | none => rfl
   | some v =>
    simp only [bindO]
    split
    · cases amapUpdate P L t m k v <;> rfl
    · rfl
theorem op_next {x : Operand} : aop P ev L n (.next x true) = bindO (ev x) fun it => aiter L it := by
 simp only [aop]
 cases ev x <;> rfl
def rangeV (n : Nat) (v : AV) : Option (AV × Delta) :=
 match v with
 | .str s => some (.ptr (some ⟨n, 0, 0⟩), .new (.iter s 0))
 | _ => none
theorem op_range {t : TypeId} {x : Operand} (hk : tk P t = .str) : aop P ev L n (.range t x) = bindO (ev x) fun v => rangeV n v := by
 simp only [aop, hk]
 cases ev x with
 | none => rfl
 | some v => cases v <;> rfl
end
theorem look_at {h : Heap} {b : Nat} : look h b = h[b]? := (rfl)
theorem at_other {h : Heap} {b c : Nat} {o : AObj} (hc : c ≠ b) : (h.set c o)[b]? = h[b]? := by simp [List.getElem?_set, hc]
theorem at_same {h : Heap} {b : Nat} {o : AObj} (hb : b < h.length) : (h.set b o)[b]? = some o := by simp [List.getElem?_set, hb]
theorem at_old {h l : Heap} {b : Nat} (hb : b < h.length) : (h ++ l)[b]? = h[b]? := List.getElem?_append_left hb
theorem at_new {h l : Heap} {k : Nat} : (h ++ l)[h.length + k]? = l[k]? := by
 rw [List.getElem?_append_right (by omega)]
 congr 1
 omega
theorem at_new0 {h l : Heap} : (h ++ l)[h.length]? = l[0]? := by simp [List.getElem?_append]
attribute [simp] stepT_move stepT_assign stepT_nilCheck stepT_load stepT_unOp stepT_binOp stepT_alloc stepT_box stepT_build stepT_buildSlice stepT_store stepT_convert stepT_makeFunc stepT_makeMap stepT_makeSlice stepT_slice stepT_fieldAddr stepT_field stepT_indexAddr stepT_index stepT_lookup stepT_mapUpdate stepT_insert stepT_range stepT_next stepT_extract stepT_pick stepT_makeInterface stepT_builtin op_move op_assign op_nilCheck op_load op_unOp op_binOp op_pick op_insert op_next pickV rangeV look_at
 areads blkOf okPairs alook Touch.same touchD AV.cells AV.one AV.notTup AV.plain agk pack argsEnv
end Go.AM
