/-
  The limit: a call with fuel enough. Compiled code, its big-step rules.
-/
import Derived.Test.YtamidpfdiijjgaaAM14
namespace Go.AM
open Go
set_option linter.unusedVariables false
set_option linter.unusedSimpArgs false
variable {P : Program} {H : Hint}

/-! ### code, made slim -/

inductive SC where
  | skip
  | reg (ops : List SOp) (pairs : Option (List (Nat × Nat))) (keep : Option (List Nat))
  | seq (a b : SC)
  | cond (c : Operand) (a b : SC) (keep : Option (List Nat))
  | block (id : Nat) (c : SC)
  | loop (c : SC) (keep : Option (List Nat))
  | exit (id : Nat)
  | ret
  | bad

def compile (H : Hint) : Code → SC
  | .skip => .skip
  | .region id ops draw => .reg (slimL ops ops.toList) (match draw, alook id H.pairs with | true, some ps => some ps | _, _ => none) (alook id H.keep)
  | .seq a b => .seq (compile H a) (compile H b)
  | .cond c a b => .cond c (compile H a) (compile H b) (alook (condKey c) H.keep)
  | .block id c => .block id (compile H c)
  | .loop c => .loop (compile H c) (alook (1000000 + firstReg c) H.keep)
  | .exit id => .exit id
  | .ret => .ret
  | .scope c => compile H c
  | .label _ => .skip
  | _ => .bad

def cut (keep : Option (List Nat)) (ρ : Env) : Env :=
  match keep with
  | some ks => pick ρ ks
  | none => ρ

theorem prune_cut (k : Nat) (ρ : Env) : prune H k ρ = cut (alook k H.keep) ρ := by
  unfold prune cut
  cases alook k H.keep <;> rfl

def sreg (P : Program) (F : CallF) (ops : List SOp) (pairs : Option (List (Nat × Nat))) (s : St) : Option St :=
  match pairs with
  | some ps => aopsT P F ps 0 ops s ⟨[], []⟩
  | none => aops P F ops s

def after (keep : Option (List Nat)) : Out → Out
  | some (.normal, s) => some (.normal, ⟨cut keep s.ρ, s.h⟩)
  | r => r

def scode (P : Program) (F : CallF) (N : Nat) : SC → St → Out
  | .skip, s => some (.normal, s)
  | .reg ops pairs keep, s => match sreg P F ops pairs s with
    | some s' => some (.normal, ⟨cut keep s'.ρ, s'.h⟩)
    | none => none
  | .seq a b, s => match scode P F N a s with
    | some (.normal, s') => scode P F N b s'
    | r => r
  | .cond c a b keep, s => after keep (match evalA s.ρ c with
      | some (.bool true) => scode P F N a s
      | some (.bool false) => scode P F N b s
      | _ => none)
  | .block id c, s => match scode P F N c s with
    | some (.exit id', s') => if id' = id then some (.normal, s') else some (.exit id', s')
    | r => r
  | .loop c keep, s => aiterate (cut keep) (scode P F N c) N s
  | .exit id, s => some (.exit id, s)
  | .ret, s => some (.ret, s)
  | .bad, _ => none

theorem acode_compile {F : CallF} {N : Nat} : ∀ (c : Code) (s : St), acode P F H N c s = scode P F N (compile H c) s := by
  intro c
  induction c with
  | region id ops draw =>
    intro s
    simp only [acode, compile, scode, aregion, sreg, prune_cut]
    cases draw with
    | false => rfl
    | true => cases alook id H.pairs <;> rfl
  | seq a b iha ihb => intro s; simp only [acode, compile, scode, iha, ihb]; rfl
  | cond c a b iha ihb =>
    intro s
    simp only [acode, compile, scode, iha, ihb, prune_cut, after]
    rfl
  | block id c ih => intro s; simp only [acode, compile, scode, ih]; rfl
  | loop c ih =>
    intro s
    simp only [acode, compile, scode]
    have h1 : acode P F H N c = scode P F N (compile H c) := funext ih
    have h2 : prune H (1000000 + firstReg c) = cut (alook (1000000 + firstReg c) H.keep) := funext (prune_cut _)
    rw [h1, h2]
  | scope c ih => intro s; simp only [acode, compile, ih]
  | _ => intro s; simp only [acode, compile, scode]

/-! ### more fuel -/

/-- A family of calls that comes to what 'F' says. -/
def Comes (F : CallF) (G : Nat → CallF) : Prop := ∀ g a h r, F g a h = some r → ∃ m, ∀ m', m ≤ m' → G m' g a h = some r

section
variable {F : CallF} {G : Nat → CallF}

theorem astep_ev (hG : Comes F G) {op : Op} {s : St} {r : AV × Heap} (h : astep P F op s = some r) : ∃ m, ∀ m', m ≤ m' → astep P (G m') op s = some r := by
  unfold astep at h
  cases hc : callOf (evalA s.ρ) op with
  | none =>
    simp only [hc] at h
    exact ⟨0, fun m' _ => by unfold astep; simp only [hc]; exact h⟩
  | some x =>
    cases x with
    | none => simp [hc] at h
    | some ga =>
      simp only [hc] at h
      obtain ⟨m, hm⟩ := hG _ _ _ _ h
      exact ⟨m, fun m' hm' => by unfold astep; simp only [hc]; exact hm m' hm'⟩

theorem astepT_ev (hG : Comes F G) {op : Op} {s : St} {r : AV × Heap × Touch} (h : astepT P F op s = some r) : ∃ m, ∀ m', m ≤ m' → astepT P (G m') op s = some r := by
  unfold astepT at h
  cases hc : callOf (evalA s.ρ) op with
  | none =>
    simp only [hc] at h
    exact ⟨0, fun m' _ => by unfold astepT; simp only [hc]; exact h⟩
  | some x =>
    cases x with
    | none => simp [hc] at h
    | some ga =>
      simp only [hc] at h
      split at h
      · rename_i v h' hF
        obtain ⟨m, hm⟩ := hG _ _ _ _ hF
        refine ⟨m, fun m' hm' => ?_⟩
        unfold astepT
        simp only [hc, hm m' hm']
        exact h
      · simp at h

theorem aops_ev (hG : Comes F G) : ∀ {os : List SOp} {s r : St}, aops P F os s = some r → ∃ m, ∀ m', m ≤ m' → aops P (G m') os s = some r
  | [], s, r, h => ⟨0, fun _ _ => h⟩
  | o :: os, s, r, h => by
    unfold aops at h
    cases hw : awanted s.ρ o with
    | none => simp [hw] at h
    | some b =>
      cases b with
      | false =>
        simp only [hw] at h
        obtain ⟨m, hm⟩ := aops_ev hG h
        refine ⟨m, fun m' hm' => ?_⟩
        unfold aops
        simp only [hw]
        exact hm m' hm'
      | true =>
        simp only [hw] at h
        split at h
        · rename_i v h' hst
          obtain ⟨m1, hm1⟩ := astep_ev hG hst
          obtain ⟨m2, hm2⟩ := aops_ev hG h
          refine ⟨max m1 m2, fun m' hm' => ?_⟩
          unfold aops
          simp only [hw, hm1 m' (by omega)]
          exact hm2 m' (by omega)
        · simp at h

theorem aopsT_ev (hG : Comes F G) {ps : List (Nat × Nat)} : ∀ {os : List SOp} {j : Nat} {s r : St} {g : Log}, aopsT P F ps j os s g = some r → ∃ m, ∀ m', m ≤ m' → aopsT P (G m') ps j os s g = some r
  | [], j, s, r, g, h => ⟨0, fun _ _ => h⟩
  | o :: os, j, s, r, g, h => by
    unfold aopsT at h
    cases hw : awanted s.ρ o with
    | none => simp [hw] at h
    | some b =>
      cases b with
      | false =>
        simp only [hw] at h
        obtain ⟨m, hm⟩ := aopsT_ev hG h
        refine ⟨m, fun m' hm' => ?_⟩
        unfold aopsT
        simp only [hw]
        exact hm m' hm'
      | true =>
        simp only [hw] at h
        split at h
        · rename_i v h' t hst
          split at h
          · rename_i hok
            obtain ⟨m1, hm1⟩ := astepT_ev hG hst
            obtain ⟨m2, hm2⟩ := aopsT_ev hG h
            refine ⟨max m1 m2, fun m' hm' => ?_⟩
            unfold aopsT
            simp only [hw, hm1 m' (by omega), hok, if_true]
            exact hm2 m' (by omega)
          · simp at h
        · simp at h

theorem sreg_ev (hG : Comes F G) {ops : List SOp} {pairs : Option (List (Nat × Nat))} {s r : St} (h : sreg P F ops pairs s = some r) : ∃ m, ∀ m', m ≤ m' → sreg P (G m') ops pairs s = some r := by
  cases pairs with
  | none => exact aops_ev hG h
  | some ps => exact aopsT_ev hG h

theorem aiterate_ev {keep : Env → Env} {b : St → Out} {b' : Nat → Nat → St → Out} {n₀ : Nat} (hb : ∀ s r, b s = some r → ∃ m, ∀ m', m ≤ m' → ∀ n', n₀ ≤ n' → b' m' n' s = some r) :
    ∀ {k : Nat} {s : St} {r : AExit × St}, aiterate keep b k s = some r → ∃ m, ∀ m', m ≤ m' → ∀ n', n₀ ≤ n' → ∀ k', k ≤ k' → aiterate keep (b' m' n') k' s = some r
  | 0, s, r, h => by simp [aiterate] at h
  | k + 1, s, r, h => by
    unfold aiterate at h
    cases hx : b ⟨keep s.ρ, s.h⟩ with
    | none => simp [hx] at h
    | some x =>
      obtain ⟨e, s₁⟩ := x
      obtain ⟨m1, hm1⟩ := hb _ _ hx
      cases e with
      | normal =>
        simp only [hx] at h
        obtain ⟨m2, hm2⟩ := aiterate_ev hb h
        refine ⟨max m1 m2, fun m' hm' n' hn' k' hk' => ?_⟩
        obtain ⟨j, rfl⟩ : ∃ j, k' = j + 1 := ⟨k' - 1, by omega⟩
        unfold aiterate
        simp only [hm1 m' (by omega) n' hn']
        exact hm2 m' (by omega) n' hn' j (by omega)
      | exit id =>
        simp only [hx] at h
        refine ⟨m1, fun m' hm' n' hn' k' hk' => ?_⟩
        obtain ⟨j, rfl⟩ : ∃ j, k' = j + 1 := ⟨k' - 1, by omega⟩
        unfold aiterate
        simp only [hm1 m' hm' n' hn']
        exact h
      | ret =>
        simp only [hx] at h
        refine ⟨m1, fun m' hm' n' hn' k' hk' => ?_⟩
        obtain ⟨j, rfl⟩ : ∃ j, k' = j + 1 := ⟨k' - 1, by omega⟩
        unfold aiterate
        simp only [hm1 m' hm' n' hn']
        exact h

theorem scode_ev (hG : Comes F G) {n : Nat} : ∀ (c : SC) (s : St) (r : AExit × St), scode P F n c s = some r → ∃ m, ∀ m', m ≤ m' → ∀ n', n ≤ n' → scode P (G m') n' c s = some r := by
  intro c
  induction c with
  | skip => exact fun s r h => ⟨0, fun _ _ _ _ => h⟩
  | exit id => exact fun s r h => ⟨0, fun _ _ _ _ => h⟩
  | ret => exact fun s r h => ⟨0, fun _ _ _ _ => h⟩
  | bad => exact fun s r h => by simp [scode] at h
  | reg ops pairs keep =>
    intro s r h
    simp only [scode] at h
    split at h
    · rename_i s' hs'
      obtain ⟨m, hm⟩ := sreg_ev hG hs'
      refine ⟨m, fun m' hm' n' _ => ?_⟩
      simp only [scode, hm m' hm']
      exact h
    · simp at h
  | seq a b iha ihb =>
    intro s r h
    simp only [scode] at h
    cases hx : scode P F n a s with
    | none => simp [hx] at h
    | some x =>
      obtain ⟨e, s₁⟩ := x
      obtain ⟨m1, hm1⟩ := iha _ _ hx
      cases e with
      | normal =>
        simp only [hx] at h
        obtain ⟨m2, hm2⟩ := ihb _ _ h
        refine ⟨max m1 m2, fun m' hm' n' hn' => ?_⟩
        simp only [scode, hm1 m' (by omega) n' hn']
        exact hm2 m' (by omega) n' hn'
      | exit id =>
        simp only [hx] at h
        refine ⟨m1, fun m' hm' n' hn' => ?_⟩
        simp only [scode, hm1 m' hm' n' hn']
        exact h
      | ret =>
        simp only [hx] at h
        refine ⟨m1, fun m' hm' n' hn' => ?_⟩
        simp only [scode, hm1 m' hm' n' hn']
        exact h
  | cond c a b keep iha ihb =>
    intro s r h
    simp only [scode] at h
    cases hv : evalA s.ρ c with
    | none => simp [hv, after] at h
    | some v =>
      cases v with
      | bool t =>
        cases t with
        | true =>
          simp only [hv] at h
          cases hx : scode P F n a s with
          | none => simp [hx, after] at h
          | some x =>
            obtain ⟨m, hm⟩ := iha _ _ hx
            refine ⟨m, fun m' hm' n' hn' => ?_⟩
            simp only [scode, hv, hm m' hm' n' hn']
            rw [hx] at h
            exact h
        | false =>
          simp only [hv] at h
          cases hx : scode P F n b s with
          | none => simp [hx, after] at h
          | some x =>
            obtain ⟨m, hm⟩ := ihb _ _ hx
            refine ⟨m, fun m' hm' n' hn' => ?_⟩
            simp only [scode, hv, hm m' hm' n' hn']
            rw [hx] at h
            exact h
      | _ => simp [hv, after] at h
  | block id c ih =>
    intro s r h
    simp only [scode] at h
    cases hx : scode P F n c s with
    | none => simp [hx] at h
    | some x =>
      obtain ⟨m, hm⟩ := ih _ _ hx
      refine ⟨m, fun m' hm' n' hn' => ?_⟩
      simp only [scode, hm m' hm' n' hn']
      rw [hx] at h
      exact h
  | loop c keep ih =>
    intro s r h
    simp only [scode] at h
    obtain ⟨m, hm⟩ := aiterate_ev (b' := fun m' n' => scode P (G m') n' c) ih h
    exact ⟨m, fun m' hm' n' hn' => hm m' hm' n' hn' n' hn'⟩

end

theorem acode_ev {F : CallF} {G : Nat → CallF} (hG : Comes F G) {n : Nat} (c : Code) (s : St) (r : AExit × St) (h : acode P F H n c s = some r) :
    ∃ m, ∀ m', m ≤ m' → ∀ n', n ≤ n' → acode P (G m') H n' c s = some r := by
  rw [acode_compile] at h
  obtain ⟨m, hm⟩ := scode_ev hG _ _ _ h
  exact ⟨m, fun m' h1 n' h2 => by rw [acode_compile]; exact hm m' h1 n' h2⟩

theorem afinish_some {fn : Func} {o : Out} {r : AV × Heap} (h : afinish P fn o = some r) : ∃ x, o = some x := by
  unfold afinish at h
  split at h
  · exact ⟨_, rfl⟩
  · exact ⟨_, rfl⟩
  · simp at h

theorem acall_more (c : Cfg) : ∀ n f args h r, acall c n f args h = some r → acall c (n + 1) f args h = some r
  | 0, f, args, h, r, hr => by simp [acall] at hr
  | n + 1, f, args, h, r, hr => by
    unfold acall at hr
    unfold acall
    split at hr
    · rename_i F hF
      exact hr
    · rename_i hF
      split at hr
      · rename_i fn hfn
        split at hr
        · rename_i code hb
          split at hr
          · rename_i hn
            rw [if_pos hn]
            obtain ⟨x, hx⟩ := afinish_some hr
            obtain ⟨m, hm⟩ := acode_ev (F := acall c n) (G := fun _ => acall c (n + 1)) (fun g a h r hg => ⟨0, fun _ _ => acall_more c n g a h r hg⟩) code _ x hx
            rw [hm m (Nat.le_refl _) (n + 1) (by omega), ← hx]
            exact hr
          · simp at hr
        · simp at hr
      · simp at hr

theorem acall_le (c : Cfg) {n : Nat} {f : FuncId} {args : List AV} {h : Heap} {r : AV × Heap} (hr : acall c n f args h = some r) : ∀ {m : Nat}, n ≤ m → acall c m f args h = some r := by
  intro m hm
  induction m with
  | zero =>
    have : n = 0 := by omega
    subst this; exact hr
  | succ m ih =>
    by_cases he : n = m + 1
    · subst he; exact hr
    · exact acall_more c m f args h r (ih (by omega))

/-! ### the limit -/

open Classical in
noncomputable def D (c : Cfg) : CallF := fun f args h =>
  if hx : ∃ r n, acall c n f args h = some r then some hx.choose else none

theorem D_of {c : Cfg} {n : Nat} {f : FuncId} {args : List AV} {h : Heap} {r : AV × Heap} (hr : acall c n f args h = some r) : D c f args h = some r := by
  have hx : ∃ r n, acall c n f args h = some r := ⟨r, n, hr⟩
  unfold D
  rw [dif_pos hx]
  obtain ⟨m, hm⟩ := hx.choose_spec
  have h1 := acall_le c hr (Nat.le_max_left n m)
  have h2 := acall_le c hm (Nat.le_max_right n m)
  rw [h1] at h2
  exact h2.symm

theorem D_spec {c : Cfg} {f : FuncId} {args : List AV} {h : Heap} {r : AV × Heap} (hr : D c f args h = some r) : ∃ n, acall c n f args h = some r := by
  unfold D at hr
  split at hr
  · rename_i hx
    obtain ⟨m, hm⟩ := hx.choose_spec
    simp at hr
    rw [hr] at hm
    exact ⟨m, hm⟩
  · simp at hr

theorem D_comes (c : Cfg) : Comes (D c) (acall c) := fun g a h r hr =>
  let ⟨n, hn⟩ := D_spec hr
  ⟨n, fun m hm => acall_le c hn hm⟩

theorem D_ok {c : Cfg} (hc : CfgOK c) : CallOK c.P (D c) := fun g args h r h' hr =>
  let ⟨n, hn⟩ := D_spec hr
  acall_ok hc n g args h r h' hn

/-- What a call of a function that is taken by its own code comes to. -/
theorem D_code {c : Cfg} {f : FuncId} {fn : Func} {code : Code} (hx : c.ext f = none) (hf : c.P.funcs[f]? = some fn) (hb : fn.body = some code) {args : List AV} (hn : args.length ≤ fn.ntmps) {h : Heap} {r : AV × Heap}
    {n : Nat} (hr : afinish c.P fn (scode c.P (D c) n (compile (c.hint f) code) ⟨argsEnv 0 args, h⟩) = some r) : D c f args h = some r := by
  obtain ⟨x, hx'⟩ := afinish_some hr
  obtain ⟨m, hm⟩ := scode_ev (D_comes c) _ _ _ hx'
  have := hm (max m n) (Nat.le_max_left ..) (max m n) (Nat.le_max_right ..)
  refine D_of (n := max m n + 1) ?_
  unfold acall
  simp only [hx, hf, hb, if_pos hn]
  rw [acode_compile, this, ← hx']
  exact hr

/-! ### big steps -/

/-- Compiled code comes from 's' to what 'Q' says. -/
def W (P : Program) (F : CallF) (k : SC) (s : St) (Q : AExit → St → Prop) : Prop := ∃ n e s', (∀ n', n ≤ n' → scode P F n' k s = some (e, s')) ∧ Q e s'

variable {F : CallF} {s : St} {Q : AExit → St → Prop}

theorem W.mono {k : SC} {Q' : AExit → St → Prop} (h : W P F k s Q) (hq : ∀ e s', Q e s' → Q' e s') : W P F k s Q' :=
  let ⟨n, e, s', h1, h2⟩ := h
  ⟨n, e, s', h1, hq _ _ h2⟩

theorem W.skip (h : Q .normal s) : W P F .skip s Q := ⟨0, _, _, fun _ _ => rfl, h⟩
theorem W.exit {id : Nat} (h : Q (.exit id) s) : W P F (.exit id) s Q := ⟨0, _, _, fun _ _ => rfl, h⟩
theorem W.ret (h : Q .ret s) : W P F .ret s Q := ⟨0, _, _, fun _ _ => rfl, h⟩

theorem W.reg {ops : List SOp} {pairs : Option (List (Nat × Nat))} {keep : Option (List Nat)} {s' : St} (h : sreg P F ops pairs s = some s') (hq : Q .normal ⟨cut keep s'.ρ, s'.h⟩) : W P F (.reg ops pairs keep) s Q :=
  ⟨0, _, _, fun n' _ => by simp only [scode, h], hq⟩

def andThen (K : St → Prop) (Q : AExit → St → Prop) : AExit → St → Prop
  | .normal, s => K s
  | e, s => Q e s

theorem W.seq {a b : SC} (h : W P F a s (andThen (fun s' => W P F b s' Q) Q)) : W P F (.seq a b) s Q := by
  obtain ⟨n, e, s', h1, h2⟩ := h
  cases e with
  | normal =>
    obtain ⟨m, e, s'', h3, h4⟩ := h2
    exact ⟨max n m, e, s'', fun n' hn' => by simp only [scode, h1 n' (by omega)]; exact h3 n' (by omega), h4⟩
  | exit id => exact ⟨n, _, s', fun n' hn' => by simp only [scode, h1 n' hn'], h2⟩
  | ret => exact ⟨n, _, s', fun n' hn' => by simp only [scode, h1 n' hn'], h2⟩

def onCut (keep : Option (List Nat)) (Q : AExit → St → Prop) : AExit → St → Prop
  | .normal, s => Q .normal ⟨cut keep s.ρ, s.h⟩
  | e, s => Q e s

theorem W.cond {x : Operand} {a b : SC} {keep : Option (List Nat)} {t : Bool} (hx : evalA s.ρ x = some (.bool t)) (h : W P F (if t then a else b) s (onCut keep Q)) : W P F (.cond x a b keep) s Q := by
  obtain ⟨n, e, s', h1, h2⟩ := h
  have key : ∀ n', n ≤ n' → scode P F n' (.cond x a b keep) s = after keep (some (e, s')) := by
    intro n' hn'
    have := h1 n' hn'
    cases t <;> simp at this <;> simp only [scode, hx, this]
  cases e with
  | normal => exact ⟨n, _, _, key, h2⟩
  | exit id => exact ⟨n, _, _, key, h2⟩
  | ret => exact ⟨n, _, _, key, h2⟩

theorem W.cond_true {x : Operand} {a b : SC} {keep : Option (List Nat)} (hx : evalA s.ρ x = some (.bool true)) (h : W P F a s (onCut keep Q)) : W P F (.cond x a b keep) s Q := W.cond hx h
theorem W.cond_false {x : Operand} {a b : SC} {keep : Option (List Nat)} (hx : evalA s.ρ x = some (.bool false)) (h : W P F b s (onCut keep Q)) : W P F (.cond x a b keep) s Q := W.cond hx h

def inBlock (id : Nat) (Q : AExit → St → Prop) : AExit → St → Prop
  | .exit id', s => if id' = id then Q .normal s else Q (.exit id') s
  | e, s => Q e s

theorem W.block {id : Nat} {k : SC} (h : W P F k s (inBlock id Q)) : W P F (.block id k) s Q := by
  obtain ⟨n, e, s', h1, h2⟩ := h
  cases e with
  | normal => exact ⟨n, _, s', fun n' hn' => by simp only [scode, h1 n' hn'], h2⟩
  | exit id' =>
    by_cases hi : id' = id
    · refine ⟨n, .normal, s', fun n' hn' => by simp only [scode, h1 n' hn', hi, if_true], ?_⟩
      simpa only [inBlock, hi, if_true] using h2
    · refine ⟨n, .exit id', s', fun n' hn' => by simp only [scode, h1 n' hn', hi, if_false], ?_⟩
      simpa only [inBlock, hi, if_false] using h2
  | ret => exact ⟨n, _, s', fun n' hn' => by simp only [scode, h1 n' hn'], h2⟩

/-- A loop: an invariant that counts down. -/
theorem W.loop {k : SC} {keep : Option (List Nat)} (I : Nat → St → Prop) {m : Nat} (h₀ : I m s)
    (round : ∀ m s, I m s → W P F k ⟨cut keep s.ρ, s.h⟩ (andThen (fun s' => ∃ m', m' < m ∧ I m' s') Q)) : W P F (.loop k keep) s Q := by
  have key : ∀ m s, I m s → ∃ n j e s', (∀ n', n ≤ n' → ∀ j', j ≤ j' → aiterate (cut keep) (scode P F n' k) j' s = some (e, s')) ∧ Q e s' := by
    intro m
    induction m using Nat.strongRecOn with
    | _ m ih =>
      intro s hI
      obtain ⟨n, e, s', h1, h2⟩ := round m s hI
      cases e with
      | normal =>
        obtain ⟨m', hm', hI'⟩ := h2
        obtain ⟨n2, j2, e, s'', h3, h4⟩ := ih m' hm' s' hI'
        refine ⟨max n n2, j2 + 1, e, s'', fun n' hn' j' hj' => ?_, h4⟩
        obtain ⟨i, rfl⟩ : ∃ i, j' = i + 1 := ⟨j' - 1, by omega⟩
        simp only [aiterate, h1 n' (by omega)]
        exact h3 n' (by omega) i (by omega)
      | exit id =>
        refine ⟨n, 1, _, s', fun n' hn' j' hj' => ?_, h2⟩
        obtain ⟨i, rfl⟩ : ∃ i, j' = i + 1 := ⟨j' - 1, by omega⟩
        simp only [aiterate, h1 n' hn']
      | ret =>
        refine ⟨n, 1, _, s', fun n' hn' j' hj' => ?_, h2⟩
        obtain ⟨i, rfl⟩ : ∃ i, j' = i + 1 := ⟨j' - 1, by omega⟩
        simp only [aiterate, h1 n' hn']
  obtain ⟨n, j, e, s', h1, h2⟩ := key m s h₀
  exact ⟨max n j, e, s', fun n' hn' => by simp only [scode]; exact h1 n' (by omega) n' (by omega), h2⟩

/-- What a function hands back, out of what its code comes to. -/
def Fin (P : Program) (fn : Func) (R : AV → Heap → Prop) : AExit → St → Prop
  | .exit _, _ => False
  | _, s => ∃ vs, aresultL P s fn.results.toList = some vs ∧ vs.all AV.notTup = true ∧ R (pack vs) s.h

theorem W.call {c : Cfg} {f : FuncId} {fn : Func} {code : Code} {k : SC} (hx : c.ext f = none) (hf : c.P.funcs[f]? = some fn) (hb : fn.body = some code) (hk : compile (c.hint f) code = k) {args : List AV} (hn : args.length ≤ fn.ntmps) {h : Heap}
    {R : AV → Heap → Prop} (hw : W c.P (D c) k ⟨argsEnv 0 args, h⟩ (Fin c.P fn R)) : ∃ r h', D c f args h = some (r, h') ∧ R r h' := by
  obtain ⟨n, e, s', h1, h2⟩ := hw
  have h3 := h1 n (Nat.le_refl _)
  cases e with
  | exit id => exact h2.elim
  | normal =>
    obtain ⟨vs, h4, h5, h6⟩ := h2
    refine ⟨_, _, D_code hx hf hb hn (n := n) ?_, h6⟩
    rw [hk, h3]
    simp only [afinish, h4, h5, if_true]
  | ret =>
    obtain ⟨vs, h4, h5, h6⟩ := h2
    refine ⟨_, _, D_code hx hf hb hn (n := n) ?_, h6⟩
    rw [hk, h3]
    simp only [afinish, h4, h5, if_true]

/-- A function at the top: its code with calls that stand for the model's. -/
theorem W.top (hm : P.follows .mixedOrders = true) (hF : CallOK P F) {f : FuncId} {fn : Func} {code : Code} {k : SC} (hf : P.funcs[f]? = some fn) (hb : fn.body = some code) {H : Hint} (hB : fnB P H fn = true) (hk : compile H code = k)
    {args : List AV} (hn : args.length ≤ fn.ntmps) {h : Heap} {R : AV → Heap → Prop} (hw : W P F k ⟨argsEnv 0 args, h⟩ (Fin P fn R)) :
    ∃ r h', R r h' ∧ h.length ≤ h'.length ∧ ∀ (ι : Inj) (w : World) (B : Nat) (cargs : List Value), HR P ι w B (look h) → Fresh ι h.length h'.length → L2 (V ι) args cargs →
      Calls P f cargs.toArray w fun e w' => ∃ ι' u, e = .returned u ∧ V ι' r u ∧ Step P ι w B (look h) ι' w' (look h') ∧ Lays ι ι' h'.length := by
  obtain ⟨n, e, s', h1, h2⟩ := hw
  have h3 := h1 n (Nat.le_refl _)
  rw [← hk, ← acode_compile] at h3
  have hc : codeB P H fn.ntmps code = true := by
    unfold fnB at hB
    rw [hb] at hB
    simp only [Bool.and_eq_true] at hB
    exact hB.1.2
  cases e with
  | exit id => exact h2.elim
  | normal =>
    obtain ⟨vs, h4, h5, h6⟩ := h2
    obtain ⟨h7, h8⟩ := call_code (c := { P := P, hint := fun _ => H, ext := fun _ => none }) hm hF hf hb hc (n := n) (h := h) hn (r := pack vs) (h' := s'.h) (by simp only [h3, afinish, h4, h5, if_true])
    exact ⟨_, _, h6, h7, h8⟩
  | ret =>
    obtain ⟨vs, h4, h5, h6⟩ := h2
    obtain ⟨h7, h8⟩ := call_code (c := { P := P, hint := fun _ => H, ext := fun _ => none }) hm hF hf hb hc (n := n) (h := h) hn (r := pack vs) (h' := s'.h) (by simp only [h3, afinish, h4, h5, if_true])
    exact ⟨_, _, h6, h7, h8⟩

/-! ### calls that lay nothing that is kept -/

/-- A call without addresses among its arguments, whose result bears none: what it lays is forgotten. -/
def plainArgs (args : List AV) : Bool := args.all fun v => match v with
  | .bool _ | .int _ _ | .str _ => true
  | _ => false

theorem plain_V {ι ι' : Inj} {v : AV} (h : (match v with | .bool _ | .int _ _ | .str _ => true | _ => false) = true) {u : Value} (hv : V ι v u) : V ι' v u := by
  cases v <;> simp at h <;> cases u <;> exact hv

theorem plainArgs_V {ι ι' : Inj} : ∀ {args : List AV} {us : List Value}, plainArgs args = true → L2 (V ι) args us → L2 (V ι') args us
  | [], [], _, _ => trivial
  | v :: vs, u :: us, h, hv => by
    simp only [plainArgs, List.all_cons, Bool.and_eq_true] at h
    exact ⟨plain_V h.1 hv.1, plainArgs_V h.2 hv.2⟩
  | [], _ :: _, _, h => h.elim
  | _ :: _, [], _, h => h.elim

theorem HR.empty (P : Program) (w : World) : HR P (fun _ _ => none) w w.heap.size (look []) := by
  refine ⟨fun b o h => ?_, fun b b' o o' l l' h => ?_, fun b o h => ?_, Nat.le_refl _, fun b cs l h => ?_⟩ <;> simp [look] at h

/-- What a call on an empty heap says of a call anywhere. -/
def forget (F : CallF) : CallF := fun f args h =>
  if plainArgs args then
    match F f args [] with
    | some (r, _) => if plainArgs [r] then some (r, h) else none
    | none => none
  else none

theorem forget_ok {F : CallF} (hF : CallOK P F) : CallOK P (forget F) := by
  intro g args h r h' hr
  unfold forget at hr
  split at hr
  · rename_i hp
    split at hr
    · rename_i r₁ h₁ hF₁
      split at hr
      · rename_i hpr
        simp at hr
        obtain ⟨rfl, rfl⟩ := hr
        obtain ⟨hfn, hlen, hcall⟩ := hF g args [] r₁ h₁ hF₁
        refine ⟨hfn, Nat.le_refl _, fun ι w B cargs hHR hfr hargs => ?_⟩
        refine (hcall (fun _ _ => none) w w.heap.size cargs (.empty P w) (fun _ _ _ _ => rfl) (plainArgs_V hp hargs)).mono ?_
        rintro e w' ⟨ι', u, rfl, hv, hst, hla⟩
        have hbel := hst.below (.empty P w)
        simp only [plainArgs, List.all_cons, List.all_nil, Bool.and_true] at hpr
        refine ⟨ι, u, rfl, plain_V hpr hv, ⟨.refl ι, ⟨fun b o ho => ?_, hHR.inj, hHR.past, Nat.le_trans hHR.base hst.size, hHR.roB⟩, hst.size, fun c hc _ => hbel c hc, fun c hc => .inl hc, hst.os, hst.tape, hst.output⟩, .refl⟩
        obtain ⟨l, hl, hob, hB⟩ := hHR.obj b o ho
        refine ⟨l, hl, hob.keep (.refl ι) fun hnil => hbel _ ?_, fun ho' => ⟨(hB ho').1, Nat.lt_of_lt_of_le (hB ho').2 hst.size⟩⟩
        cases hown : o.own with
        | true => exact (hB hown).2
        | false =>
          cases o with
          | ro cs => exact Nat.lt_of_lt_of_le (hHR.roB b cs l ho hl fun hc => hnil (by rw [hc])) hHR.base
          | _ => simp [AObj.own] at hown
      · simp at hr
    · simp at hr
  · simp at hr

/-- Some functions by 'forget', the others as they are. -/
def mixed (fs : List FuncId) (F : CallF) : CallF := fun f args h => if fs.contains f then forget F f args h else F f args h

theorem mixed_ok {F : CallF} {fs : List FuncId} (hF : CallOK P F) : CallOK P (mixed fs F) := by
  intro g args h r h' hr
  unfold mixed at hr
  split at hr
  · exact forget_ok hF g args h r h' hr
  · exact hF g args h r h' hr

end Go.AM
