/-
  Regions whose order is drawn, first part: kinds of operations, what the check of a region says, what the evaluator's run in the text's order says.
-/
import Derived.Test.YtamidpfdiijjgaaAM10
namespace Go.AM
open Go
set_option linter.unusedVariables false
set_option linter.unusedSimpArgs false
variable {P : Program} {ι ι' : Inj} {w w' : World} {B N : Nat}

/-! ### the same -/

theorem oAA_eq {a b : Option AA} (h : oAA a b = true) : a = b := by
  cases a <;> cases b <;> simp [oAA, AA.beq] at h ⊢
  rename_i x y
  cases x; cases y
  simp at h ⊢
  exact ⟨h.1.1, h.1.2, h.2⟩

theorem beqP_eq {a b : AV} (h : a.beqP b = true) : a = b := by
  cases a <;> cases b <;> simp [AV.beqP] at h ⊢ <;> first | exact h | exact oAA_eq h | exact ⟨oAA_eq h.1.1, h.1.2, h.2⟩

theorem beqL_eq {f : AV → AV → Bool} (hf : ∀ a b, f a b = true → a = b) : ∀ {a b : List AV}, beqL f a b = true → a = b
  | [], [], _ => rfl
  | x :: xs, y :: ys, h => by
    simp [beqL] at h
    rw [hf _ _ h.1, beqL_eq hf h.2]
  | [], _ :: _, h => by simp [beqL] at h
  | _ :: _, [], h => by simp [beqL] at h

theorem AV.beq_eq {a b : AV} (h : a.beq b = true) : a = b := by
  unfold AV.beq at h
  split at h
  · rw [beqL_eq (fun _ _ => beqP_eq) h]
  · simp at h; rw [h.1, beqP_eq h.2]
  · simp at h; rw [h.1, beqL_eq (fun _ _ => beqP_eq) h.2]
  · exact beqP_eq h

theorem beqE_eq : ∀ {a b : List (AV × AV × Nat)}, beqE a b = true → a = b
  | [], [], _ => rfl
  | (a, b, n) :: xs, (c, d, m) :: ys, h => by
    simp [beqE] at h
    rw [AV.beq_eq h.1.1.1, AV.beq_eq h.1.1.2, h.1.2, beqE_eq h.2]
  | [], _ :: _, h => by simp [beqE] at h
  | _ :: _, [], h => by simp [beqE] at h

theorem AObj.beq_eq {a b : AObj} (h : a.beq b = true) : a = b := by
  unfold AObj.beq at h
  split at h
  · simp at h; rw [beqL_eq (fun _ _ => AV.beq_eq) h.1.1, h.1.2, h.2]
  · rw [beqL_eq (fun _ _ => AV.beq_eq) h]
  · simp at h; rw [h.1.1, beqE_eq h.1.2, h.2]
  · simp at h; rw [h.1, h.2]
  · simp at h

theorem sameAt_eq {h h' : Heap} {b : Nat} (hs : sameAt h h' b = true) : h[b]? = h'[b]? := by
  unfold sameAt at hs
  split at hs
  · rename_i x y hx hy
    rw [hx, hy, AObj.beq_eq hs]
  · simp at hs

theorem astepT_step {F : CallF} {op : Op} {s : St} {v : AV} {h : Heap} {t : Touch} (hs : astepT P F op s = some (v, h, t)) :
    astep P F op s = some (v, h) ∧ ∀ b, t.same b = true → s.h[b]? = h[b]? := by
  unfold astepT at hs
  unfold astep
  cases hc : callOf (evalA s.ρ) op with
  | some x =>
    cases x with
    | none => simp [hc] at hs
    | some ga =>
      obtain ⟨g, args⟩ := ga
      simp only [hc] at hs ⊢
      split at hs
      · rename_i hF
        simp at hs
        obtain ⟨rfl, rfl, rfl⟩ := hs
        exact ⟨hF, fun b hb => sameAt_eq hb⟩
      · simp at hs
  | none =>
    simp only [hc] at hs ⊢
    split at hs
    · rename_i v' d hop
      simp at hs
      obtain ⟨rfl, rfl, rfl⟩ := hs
      refine ⟨rfl, fun b hb => ?_⟩
      cases d with
      | no => rfl
      | new o =>
        simp [touchD, Touch.same] at hb
        simp only [Heap.apply, List.getElem?_append]
        split
        · rfl
        · rw [List.getElem?_eq_none (by omega)]
          rw [List.getElem?_eq_none (by simp; omega)]
      | set c o =>
        simp [touchD, Touch.same] at hb
        simp [Heap.apply, List.getElem?_set, Ne.symm hb]
    · simp at hs

/-! ### kinds -/

inductive Cl where
  | pure | read | alloc | eff | call
  deriving DecidableEq

def clOf (P : Program) : Op → Cl
  | .alloc _ | .box .. | .buildSlice .. | .makeMap .. | .makeSlice .. | .range .. => .alloc
  | .load .. | .lookup .. => .read
  | .convert s d _ => match tk P s, tk P d with
    | .slice _, .str => .read
    | .str, .slice _ => .alloc
    | .slice _, _ => .eff
    | _, _ => .pure
  | .move _ | .assign _ | .pick .. | .build .. | .nilCheck _ | .binOp .. | .unOp .. | .makeInterface .. | .makeFunc .. | .slice .. | .fieldAddr .. | .field .. | .indexAddr .. | .index .. | .extract .. => .pure
  | .call c => match c.callee with
    | .builtin .len => .read
    | .builtin .min | .builtin .max => .pure
    | .value _ => .call
    | _ => .eff
  | _ => .eff

def Cl.still : Cl → Bool
  | .pure | .read => true
  | _ => false

def Cl.strong : Cl → Bool
  | .eff | .call => true
  | _ => false

theorem aconv_cl {L : Look} {next : Nat} {s d : TypeId} {x : AV} {v : AV} {δ : Delta} (h : aconv P L next s d x = some (v, δ)) :
    ((∀ e, tk P s ≠ .slice e) ∧ (∀ e, tk P d ≠ .slice e) → δ = .no ∧ blkOf (some x) = []) ∧ (tk P d = .str → δ = .no) ∧
    (∀ e, tk P s = .str → tk P d = .slice e → (∃ o, δ = .new o) ∧ blkOf (some x) = []) ∧ (∀ e, tk P d = .slice e → tk P s = .str ∨ ∃ e, tk P s = .slice e) := by
  unfold aconv at h
  split at h
  · rename_i h1 h2
    simp at h; obtain ⟨rfl, rfl⟩ := h
    exact ⟨fun _ => ⟨rfl, rfl⟩, fun _ => rfl, fun e hs => by simp [h1] at hs, fun e hs => by simp [h2] at hs⟩
  · rename_i h1 h2
    simp at h; obtain ⟨rfl, rfl⟩ := h
    exact ⟨fun _ => ⟨rfl, rfl⟩, fun _ => rfl, fun e hs => by simp [h1] at hs, fun e hs => by simp [h2] at hs⟩
  · rename_i h1 h2
    simp at h; obtain ⟨rfl, rfl⟩ := h
    exact ⟨fun _ => ⟨rfl, rfl⟩, fun _ => rfl, fun e hs hd => by simp [h2] at hd, fun e hs => by simp [h2] at hs⟩
  · rename_i h1 h2
    split at h
    · simp at h; obtain ⟨rfl, rfl⟩ := h
      exact ⟨fun hh => absurd h2 (hh.2 _), fun hd => by simp [h2] at hd, fun e _ _ => ⟨⟨_, rfl⟩, rfl⟩, fun e hs => .inl h1⟩
    · simp at h
  · rename_i h1 h2
    split at h
    · split at h
      · simp at h; obtain ⟨rfl, rfl⟩ := h
        exact ⟨fun hh => absurd h1 (hh.1 _), fun hd => by simp [h2] at hd, fun e hs => by simp [h1] at hs, fun e _ => .inr ⟨_, h1⟩⟩
      · simp at h
    · simp at h
  · rename_i h1 h2
    split at h
    · simp at h; obtain ⟨rfl, rfl⟩ := h
      exact ⟨fun hh => absurd h1 (hh.1 _), fun hd => rfl, fun e hs => by simp [h1] at hs, fun e hs => by simp [h2] at hs⟩
    · simp at h
  · rename_i h1 h2
    split at h
    · split at h
      · rename_i cs _
        cases hb : cellBytes cs <;> simp [hb] at h
        obtain ⟨rfl, rfl⟩ := h
        exact ⟨fun hh => absurd h1 (hh.1 _), fun hd => rfl, fun e hs => by simp [h1] at hs, fun e hs => by simp [h2] at hs⟩
      · simp at h
    · simp at h
  · simp at h

theorem aop_cl {ev : Ev} {L : Look} {next : Nat} {op : Op} {v : AV} {δ : Delta} (h : aop P ev L next op = some (v, δ)) :
    match clOf P op with
    | .pure => δ = .no ∧ areads ev op = []
    | .read => δ = .no
    | .alloc => (∃ o, δ = .new o) ∧ areads ev op = []
    | .eff => True
    | .call => False := by
  have opt : ∀ {α : Type} {f : α → AV} {x : Option α} {v : AV} {δ : Delta}, x.map (fun a => (f a, Delta.no)) = some (v, δ) → δ = .no := by
    intro α f x v δ h
    cases x <;> simp at h
    exact h.2.symm
  cases op <;> simp only [aop] at h <;> simp only [clOf, areads]
  case convert s d x =>
    split at h
    · rename_i a ha
      obtain ⟨h1, h2, h3, h4⟩ := aconv_cl h
      simp only [ha]
      cases hs : tk P s <;> cases hd : tk P d <;> simp only [] <;> first
        | trivial
        | exact h2 hd
        | exact h3 _ hs hd
        | (simp [hs, hd] at h4; done)
        | exact h1 ⟨fun e he => by simp [hs] at he, fun e he => by simp [hd] at he⟩
    · simp at h
  case call c =>
    obtain ⟨callee, args, argTypes⟩ := c
    cases callee with
    | value f => simp at h
    | invoke r m => trivial
    | builtin b =>
      cases b <;> simp only [] at h ⊢ <;> try trivial
      · split at h
        · exact opt h
        · simp at h
      all_goals
        split at h
        · exact ⟨opt h, trivial⟩
        · simp at h
  case buildSlice t n parts =>
    split at h
    · unfold abuildSlice at h
      repeat' (split at h)
      all_goals simp at h
      exact ⟨⟨_, h.2.symm⟩, trivial⟩
    · simp at h
  case makeSlice t l c =>
    split at h
    · unfold amakeSlice at h
      repeat' (split at h)
      all_goals simp at h
      exact ⟨⟨_, h.2.symm⟩, trivial⟩
    · simp at h
  all_goals first
    | trivial
    | ((repeat' (split at h)) <;> first | (simp at h; done) | exact opt h | exact ⟨opt h, trivial⟩ | exact ⟨by simp at h; exact h.2.symm, trivial⟩ | exact ⟨⟨_, by simp at h; exact h.2.symm⟩, trivial⟩)

/-! ### the check -/

inductive Reach (ops : Array Oper) : Nat → Nat → Prop
  | one {i : Nat} {o : Oper} {e : Edge} : ops[i]? = some o → e ∈ o.after → Region.binds .any e = true → Reach ops i e.on
  | more {i j : Nat} {o : Oper} {e : Edge} : ops[i]? = some o → e ∈ o.after → Region.binds .any e = true → Reach ops e.on j → Reach ops i j

/-- Two operations that may come in either order; the second one stands ahead of the first in the text. -/
structure Loose (P : Program) (ops : Array Oper) (pairs : List (Nat × Nat)) (i j : Nat) (o o' : Oper) : Prop where
  slot : ∀ t, o'.dst = some t → t ∉ o.looksAt ops
  slot' : ∀ t, o.dst = some t → t ∉ o'.looksAt ops
  strong : (clOf P o.op).strong = true → (clOf P o'.op).still = true
  reads : clOf P o.op = .read → (clOf P o'.op).still = false → (i, j) ∈ pairs
  reads' : clOf P o'.op = .read → (clOf P o.op).strong = true → (j, i) ∈ pairs

structure OKd (P : Program) (ops : Array Oper) (pairs : List (Nat × Nat)) (N : Nat) : Prop where
  edge : ∀ (i : Nat) (o : Oper), ops[i]? = some o → ∀ e ∈ o.after, Region.binds .any e = true → e.on < i
  dst : ∀ (i : Nat) (o : Oper) (t : Nat), ops[i]? = some o → o.dst = some t → t < N
  uniq : ∀ (i j : Nat) (o o' : Oper) (t : Nat), ops[i]? = some o → ops[j]? = some o' → o.dst = some t → o'.dst = some t → i = j
  ord : ∀ (i j : Nat) (o o' : Oper), j < i → ops[i]? = some o → ops[j]? = some o' → Reach ops i j ∨ Loose P ops pairs i j o o'

/-! ### the run in the text's order -/

structure Tr (P : Program) (F : CallF) (ops : Array Oper) (pairs : List (Nat × Nat)) (s s' : St) where
  ρ : Nat → Env
  h : Nat → Heap
  v : Nat → AV
  ran : Nat → Bool
  ρ0 : ρ 0 = s.ρ
  h0 : h 0 = s.h
  last : s' = ⟨ρ ops.size, h ops.size⟩
  want : ∀ (i : Nat) (o : Oper), ops[i]? = some o → awanted (ρ i) (slim ops o) = some (ran i)
  next : ∀ (i : Nat) (o : Oper), ops[i]? = some o → ρ (i + 1) = (ρ i).put o.dst (v i)
  run : ∀ (i : Nat) (o : Oper), ops[i]? = some o → ran i = true → astep P F o.op ⟨ρ i, h i⟩ = some (v i, h (i + 1))
  skip : ∀ (i : Nat) (o : Oper), ops[i]? = some o → ran i = false → v i = .tup [] ∧ h (i + 1) = h i
  pair : ∀ (r i : Nat) (o : Oper), (r, i) ∈ pairs → r ≠ i → ops[r]? = some o → i < ops.size → ran r = true → ran i = true → ∀ b ∈ areads (evalA (ρ r)) o.op, (h i)[b]? = (h (i + 1))[b]?

theorem okPairs_spec {j : Nat} {R : List Nat} {t : Touch} {g : Log} : ∀ {ps : List (Nat × Nat)}, okPairs j R t g ps = true → ∀ p ∈ ps,
    (p.1 = j → ∀ t', alook p.2 g.turns = some t' → ∀ b ∈ R, t'.same b = true) ∧ (p.1 ≠ j → p.2 = j → ∀ R', alook p.1 g.reads = some R' → ∀ b ∈ R', t.same b = true)
  | [], _, p, hp => by simp at hp
  | (r, i) :: ps, h, p, hp => by
    simp only [okPairs, Bool.and_eq_true] at h
    rcases List.mem_cons.1 hp with rfl | hp
    · refine ⟨fun hr t' ht b hb => ?_, fun hr hi R' hR b hb => ?_⟩
      · simp only at hr ht
        have h1 := h.1
        rw [if_pos hr, ht] at h1
        exact List.all_eq_true.1 h1 b hb
      · simp only at hr hi hR
        have h1 := h.1
        rw [if_neg hr, if_pos hi, hR] at h1
        exact List.all_eq_true.1 h1 b hb
    · exact okPairs_spec h.2 p hp

/-- What the checked run says of its part from 'k' on, when it has come there with what 'g' says. -/
theorem aopsT_trace {F : CallF} {ops : Array Oper} {pairs : List (Nat × Nat)} : ∀ (os : List Oper) (k : Nat) (s s' : St) (g : Log), k + os.length = ops.size → (∀ i o, os[i]? = some o → ops[k + i]? = some o) →
    aopsT P F pairs k (slimL ops os) s g = some s' →
    ∃ (ρ : Nat → Env) (h : Nat → Heap) (v : Nat → AV) (ran : Nat → Bool), ρ k = s.ρ ∧ h k = s.h ∧ s' = ⟨ρ ops.size, h ops.size⟩ ∧
      (∀ (i : Nat) (o : Oper), k ≤ i → ops[i]? = some o → awanted (ρ i) (slim ops o) = some (ran i) ∧ ρ (i + 1) = (ρ i).put o.dst (v i) ∧
        (ran i = true → astep P F o.op ⟨ρ i, h i⟩ = some (v i, h (i + 1))) ∧ (ran i = false → v i = .tup [] ∧ h (i + 1) = h i)) ∧
      (∀ (r i : Nat) (o : Oper), (r, i) ∈ pairs → r ≠ i → ops[r]? = some o → i < ops.size → k ≤ r → k ≤ i → ran r = true → ran i = true → ∀ b ∈ areads (evalA (ρ r)) o.op, (h i)[b]? = (h (i + 1))[b]?) ∧
      (∀ (r i : Nat) (o : Oper) (t : Touch), (r, i) ∈ pairs → ops[r]? = some o → k ≤ r → i < k → ran r = true → alook i g.turns = some t → ∀ b ∈ areads (evalA (ρ r)) o.op, t.same b = true) ∧
      (∀ (r i : Nat) (R : List Nat), (r, i) ∈ pairs → r < k → k ≤ i → i < ops.size → ran i = true → alook r g.reads = some R → ∀ b ∈ R, (h i)[b]? = (h (i + 1))[b]?)
  | [], k, s, s', g, hk, hos, h => by
    simp [slimL, aopsT] at h
    subst h
    simp at hk
    subst hk
    refine ⟨fun _ => s.ρ, fun _ => s.h, fun _ => .tup [], fun _ => false, rfl, rfl, rfl, ?_, ?_, ?_, ?_⟩
    · intro i o hi ho
      have := (Array.getElem?_eq_some_iff.1 ho).1
      omega
    · intro r i o _ _ ho _ hr
      have := (Array.getElem?_eq_some_iff.1 ho).1
      omega
    · intro r i o t _ ho hr
      have := (Array.getElem?_eq_some_iff.1 ho).1
      omega
    · intro r i R _ _ h1 h2
      omega
  | o :: os, k, s, s', g, hk, hos, h => by
    have ho : ops[k]? = some o := by simpa using hos 0 o rfl
    have hos' : ∀ i o', os[i]? = some o' → ops[k + 1 + i]? = some o' := fun i o' hi => by
      have := hos (i + 1) o' (by simpa using hi)
      rwa [show k + (i + 1) = k + 1 + i by omega] at this
    have hk' : k + 1 + os.length = ops.size := by simp at hk; omega
    have hkn : k < ops.size := by omega
    simp only [slimL, aopsT] at h
    have hsd : (slim ops o).dst = o.dst := rfl
    have hso : (slim ops o).op = o.op := rfl
    split at h
    · rename_i hw
      split at h
      · rename_i v1 h1 t1 hst
        rw [hso] at hst h
        rw [hsd] at h
        obtain ⟨hstep, hsame⟩ := astepT_step hst
        split at h
        · rename_i hok
          have hok := okPairs_spec hok
          obtain ⟨ρ, hh, v, ran, e1, e2, e3, e4, e5, e6, e7⟩ := aopsT_trace os (k + 1) _ s' _ hk' hos' h
          simp only at e1 e2
          have ne : ∀ i, k + 1 ≤ i → i ≠ k := fun i hi => by omega
          refine ⟨fun i => if i = k then s.ρ else ρ i, fun i => if i = k then s.h else hh i, fun i => if i = k then v1 else v i, fun i => if i = k then true else ran i,
            by simp, by simp, by simp only [Nat.ne_of_gt hkn, if_false]; exact e3, ?_, ?_, ?_, ?_⟩
          · intro i o' hi hio
            by_cases hik : i = k
            · subst hik
              rw [ho] at hio; cases hio
              have : i + 1 ≠ i := by omega
              simp only [this, if_true, if_false]
              exact ⟨hw, e1, fun _ => by rw [e2]; exact hstep, fun hc => by simp at hc⟩
            · have h2 : i + 1 ≠ k := by omega
              simp only [hik, h2, if_false]
              exact e4 i o' (by omega) hio
          · intro r i o' hp hne hro hin hr hi
            by_cases hrk : r = k
            · subst hrk
              have hik : i ≠ r := Ne.symm hne
              have h2 : i + 1 ≠ r := by omega
              rw [ho] at hro; cases hro
              simp only [hik, h2, if_true, if_false]
              intro _ hran b hb
              exact e7 r i _ hp (by omega) (by omega) hin hran (by simp [alook]) b hb
            · by_cases hik : i = k
              · subst hik
                have h2 : i + 1 ≠ i := by omega
                simp only [hrk, h2, if_true, if_false]
                intro hran _ b hb
                rw [e2]
                exact hsame b (e6 r i o' t1 hp hro (by omega) (by omega) hran (by simp [alook]) b hb)
              · have h2 : i + 1 ≠ k := by omega
                simp only [hrk, hik, h2, if_false]
                exact e5 r i o' hp hne hro hin (by omega) (by omega)
          · intro r i o' t hp hro hr hi
            by_cases hrk : r = k
            · subst hrk
              rw [ho] at hro; cases hro
              simp only [if_true]
              intro _ ht b hb
              exact (hok (r, i) hp).1 rfl t ht b hb
            · simp only [hrk, if_false]
              intro hran ht
              refine e6 r i o' t hp hro (by omega) (by omega) hran ?_
              have : ¬ k = i := by omega
              simp [alook, this, ht]
          · intro r i R hp hr hi hin
            by_cases hik : i = k
            · subst hik
              have h2 : i + 1 ≠ i := by omega
              simp only [h2, if_true, if_false]
              intro _ hR b hb
              rw [e2]
              exact hsame b ((hok (r, i) hp).2 (by simp only; omega) rfl R hR b hb)
            · have h2 : i + 1 ≠ k := by omega
              simp only [hik, h2, if_false]
              intro hran hR
              refine e7 r i R hp (by omega) (by omega) hin hran ?_
              have : ¬ k = r := by omega
              simp [alook, this, hR]
        · simp at h
      · simp at h
    · rename_i hw
      obtain ⟨ρ, hh, v, ran, e1, e2, e3, e4, e5, e6, e7⟩ := aopsT_trace os (k + 1) _ s' _ hk' hos' h
      simp only at e1 e2
      rw [hsd] at e1
      refine ⟨fun i => if i = k then s.ρ else ρ i, fun i => if i = k then s.h else hh i, fun i => if i = k then .tup [] else v i, fun i => if i = k then false else ran i,
        by simp, by simp, by simp only [Nat.ne_of_gt hkn, if_false]; exact e3, ?_, ?_, ?_, ?_⟩
      · intro i o' hi hio
        by_cases hik : i = k
        · subst hik
          rw [ho] at hio; cases hio
          have : i + 1 ≠ i := by omega
          simp only [this, if_true, if_false]
          exact ⟨hw, e1, fun hc => by simp at hc, fun _ => ⟨trivial, e2⟩⟩
        · have h2 : i + 1 ≠ k := by omega
          simp only [hik, h2, if_false]
          exact e4 i o' (by omega) hio
      · intro r i o' hp hne hro hin hr hi
        by_cases hrk : r = k
        · simp [hrk]
        · by_cases hik : i = k
          · simp [hik]
          · have h2 : i + 1 ≠ k := by omega
            simp only [hrk, hik, h2, if_false]
            exact e5 r i o' hp hne hro hin (by omega) (by omega)
      · intro r i o' t hp hro hr hi
        by_cases hrk : r = k
        · simp [hrk]
        · simp only [hrk, if_false]
          exact fun hran ht => e6 r i o' t hp hro (by omega) (by omega) hran ht
      · intro r i R hp hr hi hin
        by_cases hik : i = k
        · simp [hik]
        · have h2 : i + 1 ≠ k := by omega
          simp only [hik, h2, if_false]
          exact fun hran hR => e7 r i R hp (by omega) (by omega) hin hran hR
    · simp at h

theorem Tr.of_run {F : CallF} {ops : Array Oper} {pairs : List (Nat × Nat)} {s s' : St} (h : aopsT P F pairs 0 (slimL ops ops.toList) s ⟨[], []⟩ = some s') : Nonempty (Tr P F ops pairs s s') := by
  obtain ⟨ρ, hh, v, ran, e1, e2, e3, e4, e5, _, _⟩ := aopsT_trace ops.toList 0 s s' ⟨[], []⟩ (by simp) (fun i o hi => by simpa using hi) h
  exact ⟨⟨ρ, hh, v, ran, e1, e2, e3, fun i o ho => (e4 i o (Nat.zero_le _) ho).1, fun i o ho => (e4 i o (Nat.zero_le _) ho).2.1, fun i o ho => (e4 i o (Nat.zero_le _) ho).2.2.1,
    fun i o ho => (e4 i o (Nat.zero_le _) ho).2.2.2, fun r i o hp hne ho hi => e5 r i o hp hne ho hi (Nat.zero_le _) (Nat.zero_le _)⟩⟩

end Go.AM
