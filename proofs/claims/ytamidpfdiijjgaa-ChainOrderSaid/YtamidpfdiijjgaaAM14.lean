/-
  Code, functions: a call by the evaluator stands for a call by the model.
-/
import Derived.Test.YtamidpfdiijjgaaAM13
import Derived.LoopN
import Derived.Scope
namespace Go.AM
open Go
set_option linter.unusedVariables false
set_option linter.unusedSimpArgs false
variable {P : Program} {ι ι' : Inj} {w w' : World} {B N : Nat}

theorem aopsT_nil {F : CallF} : ∀ (os : List SOp) (k : Nat) (s s' : St) (g : Log), aops P F os s = some s' → aopsT P F [] k os s g = some s'
  | [], k, s, s', g, h => h
  | o :: os, k, s, s', g, h => by
    unfold aops at h
    unfold aopsT
    split at h
    · rename_i hw
      split at h
      · rename_i v h1 hst
        obtain ⟨t, ht⟩ : ∃ t, astepT P F o.op s = some (v, h1, t) := by
          unfold astep at hst
          unfold astepT
          cases hc : callOf (evalA s.ρ) o.op with
          | none =>
            simp only [hc] at hst ⊢
            split at hst
            · simp at hst
              obtain ⟨rfl, rfl⟩ := hst
              exact ⟨_, rfl⟩
            · simp at hst
          | some x =>
            cases x with
            | none => simp [hc] at hst
            | some ga =>
              simp only [hc] at hst ⊢
              rw [hst]
              exact ⟨_, rfl⟩
        simp only [ht, okPairs, if_true]
        exact aopsT_nil os _ _ _ _ h
      · simp at h
    · exact aopsT_nil os _ _ _ _ h
    · simp at h

theorem pick_get {ρ : Env} : ∀ {ks : List Nat} {t : Nat} {v : AV}, (pick ρ ks).get t = some v → ρ.get t = some v
  | [], t, v, h => by simp [pick, Env.get] at h
  | k :: ks, t, v, h => by
    unfold pick at h
    split at h
    · rename_i x hx
      simp only [Env.get] at h
      split at h
      · rename_i hk
        subst hk
        simp at h; subst h
        exact hx
      · exact pick_get h
    · exact pick_get h

theorem prune_get {H : Hint} {k : Nat} {ρ : Env} {t : Nat} {v : AV} (h : (prune H k ρ).get t = some v) : ρ.get t = some v := by
  unfold prune at h
  split at h
  · exact pick_get h
  · exact h

theorem Regs.prune {ρ : Env} {a : Act} {H : Hint} {k : Nat} (h : Regs ι ρ a N) : Regs ι (prune H k ρ) a N :=
  ⟨h.size, fun t v hv => h.get t v (prune_get hv), h.defers⟩

/-- The closed check of a function's code. -/
def codeB (P : Program) (H : Hint) (N : Nat) : Code → Bool
  | .region id ops draw => dstB N ops.toList && (!draw || drawB P ops ((alook id H.pairs).getD []))
  | .seq a b => codeB P H N a && codeB P H N b
  | .cond _ a b => codeB P H N a && codeB P H N b
  | .block _ c => codeB P H N c
  | .loop c => codeB P H N c
  | .scope c => codeB P H N c
  | _ => true

def exitOf : AExit → Exit
  | .normal => .normal
  | .exit id => .exit id
  | .ret => .ret

/-- A part of the code does what the evaluator says. -/
def Does (P : Program) (N : Nat) (c : Code) (s : St) (e : AExit) (s' : St) : Prop :=
  s.h.length ≤ s'.h.length ∧ ∀ (ι : Inj) (w : World) (B : Nat) (a : Act) (Q : Exit → Act → World → Prop), Regs ι s.ρ a N → HR P ι w B (look s.h) → Fresh ι s.h.length s'.h.length →
    (∀ ι' a' w', Regs ι' s'.ρ a' N → Step P ι w B (look s.h) ι' w' (look s'.h) → Lays ι ι' s'.h.length → Q (exitOf e) a' w') → c.wp P Q a w

theorem Does.region (hm : P.follows .mixedOrders = true) {F : CallF} (hF : CallOK P F) {H : Hint} {id : Nat} {ops : Array Oper} {draw : Bool} (hc : codeB P H N (.region id ops draw) = true) {s s' : St}
    (h : aregion P F H id ops draw s = some s') : Does P N (.region id ops draw) s .normal s' := by
  simp only [codeB, Bool.and_eq_true] at hc
  have hd : ∀ (i : Nat) (o : Oper) (t : Nat), ops[i]? = some o → o.dst = some t → t < N := fun i o t ho => dstB_spec hc.1 i o t (by simpa using ho)
  have drawn : ∀ pairs, drawB P ops pairs = true → aopsT P F pairs 0 (slimL ops ops.toList) s ⟨[], []⟩ = some s' → Does P N (.region id ops true) s .normal s' := by
    intro pairs hB hrun
    have ok := OKd.of_check (N := N) hc.1 hB
    obtain ⟨T⟩ := Tr.of_run hrun
    refine ⟨?_, fun ι w B a Q hreg hr hfr hk => wp_drawn hm hF ok hrun hreg hr hfr hk⟩
    have := T.len hF (i := 0) (Nat.zero_le _) (Nat.le_refl ops.size)
    rw [T.h0] at this
    rw [congrArg St.h T.last]
    exact this
  cases draw with
  | true =>
    have hB := hc.2
    simp only [Bool.not_true, Bool.false_or] at hB
    unfold aregion at h
    cases hp : alook id H.pairs with
    | some pairs =>
      simp only [hp] at h
      rw [hp] at hB
      exact drawn pairs hB h
    | none =>
      simp only [hp] at h
      rw [hp] at hB
      exact drawn [] hB (aopsT_nil _ _ _ _ _ h)
  | false =>
    have h' : aops P F (slimL ops ops.toList) s = some s' := by
      unfold aregion at h
      simpa using h
    refine ⟨aops_length hF h', fun ι w B a Q hreg hr hfr hk => wp_region ?_⟩
    have := wp_aops hF (Q := Q) hd ops.toList 0 ι w a s s' (fun i o hi => by simpa using hi) h' hreg hr hfr hk
    simpa [List.range_eq_range'] using this

theorem Does.prune {c : Code} {s s' : St} {e : AExit} {H : Hint} {k : Nat} (h : Does P N c s e s') : Does P N c s e ⟨prune H k s'.ρ, s'.h⟩ :=
  ⟨h.1, fun ι w B a Q hreg hr hfr hk => h.2 ι w B a Q hreg hr hfr fun ι' a' w' h1 h2 h3 => hk ι' a' w' h1.prune h2 h3⟩

theorem Does.rounds {c : Code} {keep : Env → Env} {body : St → Out} (hkeep : ∀ ρ t v, (keep ρ).get t = some v → ρ.get t = some v) (hb : ∀ s e s', body s = some (e, s') → Does P N c s e s') :
    ∀ (n : Nat) (s : St) (e : AExit) (s' : St), aiterate keep body n s = some (e, s') → e ≠ .normal ∧ s.h.length ≤ s'.h.length ∧
      ∀ (ι : Inj) (w : World) (B : Nat) (a : Act) (Q : Exit → Act → World → Prop), Regs ι s.ρ a N → HR P ι w B (look s.h) → Fresh ι s.h.length s'.h.length →
        (∀ ι' a' w', Regs ι' s'.ρ a' N → Step P ι w B (look s.h) ι' w' (look s'.h) → Lays ι ι' s'.h.length → Q (exitOf e) a' w') → Code.rounds P c Q n a w
  | 0, s, e, s', h => by simp [aiterate] at h
  | n + 1, s, e, s', h => by
    unfold aiterate at h
    have hk : ∀ {ι : Inj} {a : Act}, Regs ι s.ρ a N → Regs ι (keep s.ρ) a N := fun h => ⟨h.size, fun t v hv => h.get t v (hkeep _ t v hv), h.defers⟩
    split at h
    · rename_i s₁ hs₁
      obtain ⟨h1, h2⟩ := hb _ _ _ hs₁
      obtain ⟨h3, h4, h5⟩ := Does.rounds hkeep hb n s₁ e s' h
      refine ⟨h3, Nat.le_trans h1 h4, fun ι w B a Q hreg hr hfr hq => ?_⟩
      refine h2 ι w B a _ (hk hreg) hr (hfr.sub h4) fun ι' a' w' hreg' hst hla => ?_
      exact h5 ι' w' B a' Q hreg' hst.hr (hfr.next h1 hla) fun ι'' a'' w'' g1 g2 g3 => hq ι'' a'' w'' g1 (hst.trans g2) (hla.trans g3 h4)
    · rename_i hne
      obtain ⟨h1, h2⟩ := hb _ _ _ h
      have hen : e ≠ .normal := fun he => by subst he; exact hne _ h
      refine ⟨hen, h1, fun ι w B a Q hreg hr hfr hq => ?_⟩
      refine h2 ι w B a _ (hk hreg) hr hfr fun ι' a' w' hreg' hst hla => ?_
      have := hq ι' a' w' hreg' hst hla
      cases e with
      | normal => exact absurd rfl hen
      | exit id => exact this
      | ret => exact this

theorem acode_does (hm : P.follows .mixedOrders = true) {F : CallF} (hF : CallOK P F) {H : Hint} {n : Nat} : ∀ (c : Code), codeB P H N c = true → ∀ (s : St) (e : AExit) (s' : St), acode P F H n c s = some (e, s') → Does P N c s e s' := by
  intro c
  induction c with
  | skip =>
    intro _ s e s' h
    simp [acode] at h
    obtain ⟨rfl, rfl⟩ := h
    exact ⟨Nat.le_refl _, fun ι w B a Q hreg hr hfr hk => wp_skip (hk ι a w hreg (.refl hr) .refl)⟩
  | label l =>
    intro _ s e s' h
    simp [acode] at h
    obtain ⟨rfl, rfl⟩ := h
    exact ⟨Nat.le_refl _, fun ι w B a Q hreg hr hfr hk => wp_label (hk ι a w hreg (.refl hr) .refl)⟩
  | exit id =>
    intro _ s e s' h
    simp [acode] at h
    obtain ⟨rfl, rfl⟩ := h
    exact ⟨Nat.le_refl _, fun ι w B a Q hreg hr hfr hk => wp_exit (hk ι a w hreg (.refl hr) .refl)⟩
  | ret =>
    intro _ s e s' h
    simp [acode] at h
    obtain ⟨rfl, rfl⟩ := h
    exact ⟨Nat.le_refl _, fun ι w B a Q hreg hr hfr hk => wp_ret (hk ι a w hreg (.refl hr) .refl)⟩
  | region id ops draw =>
    intro hc s e s' h
    simp only [acode] at h
    split at h
    · rename_i s₁ hs₁
      simp at h
      obtain ⟨rfl, rfl⟩ := h
      exact (Does.region hm hF hc hs₁).prune
    · simp at h
  | seq x y ihx ihy =>
    intro hc s e s' h
    simp only [codeB, Bool.and_eq_true] at hc
    simp only [acode] at h
    split at h
    · rename_i s₁ hs₁
      obtain ⟨h1, h2⟩ := ihx hc.1 _ _ _ hs₁
      obtain ⟨h3, h4⟩ := ihy hc.2 _ _ _ h
      refine ⟨Nat.le_trans h1 h3, fun ι w B a Q hreg hr hfr hk => wp_seq ?_⟩
      refine h2 ι w B a _ hreg hr (hfr.sub h3) fun ι' a' w' hreg' hst hla => ?_
      exact h4 ι' w' B a' Q hreg' hst.hr (hfr.next h1 hla) fun ι'' a'' w'' g1 g2 g3 => hk ι'' a'' w'' g1 (hst.trans g2) (hla.trans g3 h3)
    · rename_i hne
      obtain ⟨h1, h2⟩ := ihx hc.1 _ _ _ h
      have hen : e ≠ .normal := fun he => by subst he; exact hne _ h
      refine ⟨h1, fun ι w B a Q hreg hr hfr hk => wp_seq ?_⟩
      refine h2 ι w B a _ hreg hr hfr fun ι' a' w' hreg' hst hla => ?_
      have := hk ι' a' w' hreg' hst hla
      cases e with
      | normal => exact absurd rfl hen
      | exit id => exact this
      | ret => exact this
  | cond c x y ihx ihy =>
    intro hc s e s' h
    simp only [codeB, Bool.and_eq_true] at hc
    simp only [acode] at h
    have main : ∀ (e : AExit) (s' : St), (match evalA s.ρ c with
        | some (.bool true) => acode P F H n x s
        | some (.bool false) => acode P F H n y s
        | _ => none) = some (e, s') → Does P N (.cond c x y) s e s' := by
      intro e s' h
      split at h
      · rename_i hv
        obtain ⟨h1, h2⟩ := ihx hc.1 _ _ _ h
        exact ⟨h1, fun ι w B a Q hreg hr hfr hk => wp_cond_true (hreg.eval c _ hv).bool_inv (h2 ι w B a Q hreg hr hfr hk)⟩
      · rename_i hv
        obtain ⟨h1, h2⟩ := ihy hc.2 _ _ _ h
        exact ⟨h1, fun ι w B a Q hreg hr hfr hk => wp_cond_false (hreg.eval c _ hv).bool_inv (h2 ι w B a Q hreg hr hfr hk)⟩
      · simp at h
    split at h
    · rename_i s₁ hs₁
      simp at h
      obtain ⟨rfl, rfl⟩ := h
      exact (main _ _ hs₁).prune
    · exact main _ _ h
  | block id x ih =>
    intro hc s e s' h
    simp only [codeB] at hc
    simp only [acode] at h
    split at h
    · rename_i id' s₁ hs₁
      obtain ⟨h1, h2⟩ := ih hc _ _ _ hs₁
      split at h
      · rename_i hid
        simp at h
        obtain ⟨rfl, rfl⟩ := h
        refine ⟨h1, fun ι w B a Q hreg hr hfr hk => wp_block ?_⟩
        refine h2 ι w B a _ hreg hr hfr fun ι' a' w' hreg' hst hla => ?_
        simp only [exitOf, Exit.inBlock, hid, if_true]
        exact hk ι' a' w' hreg' hst hla
      · rename_i hid
        simp at h
        obtain ⟨rfl, rfl⟩ := h
        refine ⟨h1, fun ι w B a Q hreg hr hfr hk => wp_block ?_⟩
        refine h2 ι w B a _ hreg hr hfr fun ι' a' w' hreg' hst hla => ?_
        simp only [exitOf, Exit.inBlock, hid, if_false]
        exact hk ι' a' w' hreg' hst hla
    · rename_i hne
      obtain ⟨h1, h2⟩ := ih hc _ _ _ h
      refine ⟨h1, fun ι w B a Q hreg hr hfr hk => wp_block ?_⟩
      refine h2 ι w B a _ hreg hr hfr fun ι' a' w' hreg' hst hla => ?_
      have := hk ι' a' w' hreg' hst hla
      cases e with
      | normal => exact this
      | exit id => exact absurd h (hne _ _)
      | ret => exact this
  | loop x ih =>
    intro hc s e s' h
    simp only [codeB] at hc
    simp only [acode] at h
    obtain ⟨h1, h2, h3⟩ := Does.rounds (P := P) (N := N) (c := x) (fun ρ t v => prune_get) (ih hc) n s e s' h
    exact ⟨h2, fun ι w B a Q hreg hr hfr hk => wp_loop_rounds n (h3 ι w B a Q hreg hr hfr hk)⟩
  | scope x ih =>
    intro hc s e s' h
    simp only [codeB] at hc
    simp only [acode] at h
    obtain ⟨h1, h2⟩ := ih hc _ _ _ h
    refine ⟨h1, fun ι w B a Q hreg hr hfr hk => wp_scope_straight ?_⟩
    refine h2 ι w B a _ hreg hr hfr fun ι' a' w' hreg' hst hla => ?_
    have := hk ι' a' w' hreg' hst hla
    cases e <;> exact this
  | _ =>
    intro _ s e s' h
    simp [acode] at h

/-! ### a function -/

/-- A result, out of the slots. -/
def resRun (tmps : Array Value) : ResultVar → Sem Value
  | .tmp t => pure (tmps.getD t undef)
  | .cell x t => do loadVar t (← asAddr (tmps.getD x undef))

theorem results_eq (fn : Func) (tmps : Array Value) : results fn tmps = (do
    let vs ← fn.results.mapM (resRun tmps)
    pure (if h : vs.size = 1 then vs[0] else .tuple vs)) := by
  unfold results
  congr 2

theorem run_result {a : Act} {s : St} (hreg : Regs ι s.ρ a N) (hr : HR P ι w B (look s.h)) {r : ResultVar} {v : AV} (h : aresult P s r = some v) :
    ∃ u, (resRun a.tmps r).run P w = .ok u w ∧ V ι v u := by
  cases r with
  | tmp t =>
    obtain ⟨u, h1, h2⟩ := hreg.get t v h
    exact ⟨u, by simp [resRun, h1], h2⟩
  | cell x t =>
    simp only [aresult] at h
    split at h
    · rename_i p hp
      obtain ⟨u, h1, h2⟩ := hreg.get x p hp
      obtain ⟨y, h3, h4⟩ := ok_load (L := look s.h) hr h2 h
      refine ⟨y, ?_, h4⟩
      rw [← h3]
      unfold aload at h
      split at h
      · obtain ⟨l, _, _, rfl⟩ := h2.ptr_inv
        simp [resRun, h1, Instr.loadAt, Instr.sureAddr, asAddr]
      · simp at h
    · simp at h

theorem run_resultL {a : Act} {s : St} (hreg : Regs ι s.ρ a N) (hr : HR P ι w B (look s.h)) : ∀ {rs : List ResultVar} {vs : List AV}, aresultL P s rs = some vs →
    ∃ us, (rs.mapM (resRun a.tmps)).run P w = .ok us w ∧ L2 (V ι) vs us
  | [], vs, h => by simp [aresultL] at h; subst h; exact ⟨[], by simp, trivial⟩
  | r :: rs, vs, h => by
    unfold aresultL at h
    split at h
    · rename_i v vs' hv hvs
      simp at h; subst h
      obtain ⟨u, h1, h2⟩ := run_result hreg hr hv
      obtain ⟨us, h3, h4⟩ := run_resultL hreg hr hvs
      refine ⟨u :: us, ?_, h2, h4⟩
      rw [List.mapM_cons]
      simp only [Sem.run_bind, h1, h3, Result.andThen_ok, Sem.run_pure]
    · simp at h

theorem argsEnv_get : ∀ {args : List AV} {i t : Nat} {v : AV}, (argsEnv i args).get t = some v → i ≤ t ∧ args[t - i]? = some v
  | [], i, t, v, h => by simp [argsEnv, Env.get] at h
  | x :: xs, i, t, v, h => by
    simp only [argsEnv, Env.get] at h
    split at h
    · rename_i he
      subst he
      exact ⟨Nat.le_refl _, by simpa using h⟩
    · rename_i he
      obtain ⟨h1, h2⟩ := argsEnv_get h
      refine ⟨by omega, ?_⟩
      rw [show t - i = (t - (i + 1)) + 1 by omega]
      simpa using h2

/-- The closed check of one function. -/
def fnB (P : Program) (H : Hint) (fn : Func) : Bool :=
  match fn.body with
  | some code => fn.name != "runtime.NumGoroutine" && codeB P H fn.ntmps code && fn.results.toList.all fun r => true
  | none => false

/-- What a table of functions must be for the evaluator's calls to stand for the model's. -/
structure CfgOK (c : Cfg) : Prop where
  mixed : c.P.follows .mixedOrders = true
  own : ∀ f fn, c.ext f = none → c.P.funcs[f]? = some fn → fnB c.P (c.hint f) fn = true
  ext : ∀ f g, c.ext f = some g → ∀ args h r h', g args h = some (r, h') →
    (∃ fn, c.P.funcs[f]? = some fn ∧ fn.body.isSome = true ∧ (fn.name == "runtime.NumGoroutine") = false) ∧ h.length ≤ h'.length ∧
    ∀ (ι : Inj) (w : World) (B : Nat) (cargs : List Value), HR c.P ι w B (look h) → Fresh ι h.length h'.length → L2 (V ι) args cargs →
      Calls c.P f cargs.toArray w fun e w' => ∃ ι' u, e = .returned u ∧ V ι' r u ∧ Step c.P ι w B (look h) ι' w' (look h') ∧ Lays ι ι' h'.length

/-- A function by its code. -/
theorem call_code {c : Cfg} {F : CallF} (hm : c.P.follows .mixedOrders = true) (hF : CallOK c.P F) {f : FuncId} {fn : Func} {code : Code} (hfn : c.P.funcs[f]? = some fn) (hb : fn.body = some code) {H : Hint}
    (hc : codeB c.P H fn.ntmps code = true) {n : Nat} {args : List AV} {h : Heap} {r : AV} {h' : Heap} (hn : args.length ≤ fn.ntmps)
    (hrun : afinish c.P fn (acode c.P F H n code ⟨argsEnv 0 args, h⟩) = some (r, h')) :
    h.length ≤ h'.length ∧ ∀ (ι : Inj) (w : World) (B : Nat) (cargs : List Value), HR c.P ι w B (look h) → Fresh ι h.length h'.length → L2 (V ι) args cargs →
      Calls c.P f cargs.toArray w fun e w' => ∃ ι' u, e = .returned u ∧ V ι' r u ∧ Step c.P ι w B (look h) ι' w' (look h') ∧ Lays ι ι' h'.length := by
  have main : ∀ e s', acode c.P F H n code ⟨argsEnv 0 args, h⟩ = some (e, s') → (e = .normal ∨ e = .ret) → ∀ vs, aresultL c.P s' fn.results.toList = some vs → vs.all AV.notTup = true → r = pack vs → h' = s'.h →
      h.length ≤ h'.length ∧ ∀ (ι : Inj) (w : World) (B : Nat) (cargs : List Value), HR c.P ι w B (look h) → Fresh ι h.length h'.length → L2 (V ι) args cargs →
      Calls c.P f cargs.toArray w fun e w' => ∃ ι' u, e = .returned u ∧ V ι' r u ∧ Step c.P ι w B (look h) ι' w' (look h') ∧ Lays ι ι' h'.length := by
    clear hrun
    rintro e s' hrun he vs hvs hall rfl rfl
    obtain ⟨h1, h2⟩ := acode_does hm hF code hc _ _ _ hrun
    refine ⟨h1, fun ι w B cargs hr hfr hargs => calls_of_wp hfn hb ?_⟩
    have hlen := hargs.length
    refine h2 ι w B _ _ ⟨by simp; omega, fun t v hv => ?_, rfl⟩ hr hfr fun ι' a' w' hreg hst hla => ?_
    · obtain ⟨_, hv⟩ := argsEnv_get hv
      obtain ⟨u, hu, hc⟩ := hargs.get _ v hv
      refine ⟨u, ?_, hc⟩
      simp only [Nat.sub_zero] at hu
      rw [Array.getElem?_append_left (by simp; exact (List.getElem?_eq_some_iff.1 hu).1)]
      simpa using hu
    · obtain ⟨us, hus, hl⟩ := run_resultL hreg hst.hr hvs
      have hres : ∃ u, (results fn a'.tmps).run c.P w' = .ok u w' ∧ V ι' (pack vs) u := by
        rw [results_eq, Array.mapM_eq_mapM_toList]
        have hva : L2 (Va ι') vs us := L2.of_get hl.length fun i x hx => by
          obtain ⟨u, hu, hv⟩ := hl.get i x hx
          have := List.all_eq_true.1 hall x (List.mem_of_getElem? hx)
          exact ⟨u, hu, hv.to_Va fun ts ht => by subst ht; simp [AV.notTup] at this⟩
        clear hvs hall
        simp only [Sem.run_bind, Sem.run_map, Sem.run_pure, hus, Result.andThen_ok]
        match vs, us, hl, hva with
        | [], [], _, _ => exact ⟨_, rfl, trivial⟩
        | [v], [u], hl, _ => exact ⟨_, rfl, hl.1⟩
        | v1 :: v2 :: vs, u1 :: u2 :: us, _, hva => exact ⟨.tuple (u1 :: u2 :: us).toArray, by simp, hva⟩
      obtain ⟨u, hu, hv⟩ := hres
      have hd := hreg.defers
      rcases he with rfl | rfl <;> exact ⟨hd, u, hu, ι', u, rfl, hv, hst, hla⟩
  unfold afinish at hrun
  split at hrun
  · rename_i s' hs'
    split at hrun
    · rename_i vs hvs
      split at hrun
      · rename_i hall
        simp at hrun
        exact main _ _ hs' (.inl rfl) vs hvs hall hrun.1.symm hrun.2.symm
      · simp at hrun
    · simp at hrun
  · rename_i s' hs'
    split at hrun
    · rename_i vs hvs
      split at hrun
      · rename_i hall
        simp at hrun
        exact main _ _ hs' (.inr rfl) vs hvs hall hrun.1.symm hrun.2.symm
      · simp at hrun
    · simp at hrun
  · simp at hrun

theorem acall_ok {c : Cfg} (hc : CfgOK c) : ∀ n, CallOK c.P (acall c n)
  | 0 => fun g args h r h' hrun => by simp [acall] at hrun
  | n + 1 => by
    intro g args h r h' hrun
    unfold acall at hrun
    split at hrun
    · rename_i F hF
      exact hc.ext g F hF args h r h' hrun
    · rename_i hext
      split at hrun
      · rename_i fn hfn
        split at hrun
        · rename_i code hb
          split at hrun
          · rename_i hn
            have hB := hc.own g fn hext hfn
            unfold fnB at hB
            rw [hb] at hB
            simp only [Bool.and_eq_true] at hB
            obtain ⟨⟨h1, h2⟩, _⟩ := hB
            obtain ⟨h3, h4⟩ := call_code hc.mixed (acall_ok hc n) hfn hb h2 hn hrun
            exact ⟨⟨fn, hfn, by rw [hb]; rfl, by simpa using h1⟩, h3, h4⟩
          · simp at hrun
        · simp at hrun
      · simp at hrun

end Go.AM
