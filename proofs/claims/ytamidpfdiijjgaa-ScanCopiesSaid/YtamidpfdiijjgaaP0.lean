/-
  Small laws for the runs: maps, slices, the bounds of numbers.
-/
import Derived.Test.YtamidpfdiijjgaaK
namespace Go.AM
open Go Go.Proofs
set_option linter.unusedVariables false
set_option linter.unusedSimpArgs false
set_option maxRecDepth 100000

theorem D_eq {f : FuncId} {args : List AV} {h : Heap} {r₀ : AV} {h₀ : Heap} (hx : ∃ r h', D cfg f args h = some (r, h') ∧ (r = r₀ ∧ h' = h₀)) : D cfg f args h = some (r₀, h₀) := by
  obtain ⟨r, h', h1, rfl, rfl⟩ := hx
  exact h1

theorem lt_of_at {h : Heap} {b : Nat} {o : AObj} (hb : h[b]? = some o) : b < h.length := (List.getElem?_eq_some_iff.1 hb).1

theorem at_set {h : Heap} {b c : Nat} {o : AObj} : (h.set c o)[b]? = if c = b then (if b < h.length then some o else none) else h[b]? := by
  rw [List.getElem?_set]
  split
  · rename_i e; subst e; rfl
  · rfl

/-- What a call may turn: certain blocks, and new ones. -/
def Only (fp : Nat → Prop) (h h' : Heap) : Prop := h.length ≤ h'.length ∧ ∀ b, b < h.length → ¬ fp b → h'[b]? = h[b]?

theorem Only.refl {fp : Nat → Prop} {h : Heap} : Only fp h h := ⟨Nat.le_refl _, fun _ _ _ => rfl⟩
theorem Only.trans {fp : Nat → Prop} {h h' h'' : Heap} (a : Only fp h h') (b : Only fp h' h'') : Only fp h h'' :=
  ⟨Nat.le_trans a.1 b.1, fun c hc hn => by rw [b.2 c (Nat.lt_of_lt_of_le hc a.1) hn, a.2 c hc hn]⟩
theorem Only.mono {fp fp' : Nat → Prop} {h h' : Heap} (a : Only fp h h') (hs : ∀ b, b < h.length → fp b → fp' b) : Only fp' h h' :=
  ⟨a.1, fun c hc hn => a.2 c hc fun hm => hn (hs c hc hm)⟩
theorem Only.at {fp : Nat → Prop} {h h' : Heap} (a : Only fp h h') {b : Nat} {o : AObj} (hb : h[b]? = some o) (hn : ¬ fp b) : h'[b]? = some o := by
  rw [a.2 b (lt_of_at hb) hn, hb]
theorem Only.app {fp : Nat → Prop} {h l : Heap} : Only fp h (h ++ l) := ⟨by simp, fun b hb _ => List.getElem?_append_left hb⟩
theorem Only.set {fp : Nat → Prop} {h : Heap} {b : Nat} {o : AObj} (hb : fp b) : Only fp h (h.set b o) :=
  ⟨by simp, fun c hc hn => by rw [List.getElem?_set_ne]; intro e; subst e; exact hn hb⟩

/-! ### maps whose keys are a number and a byte -/

def ekey (s b : Int) : AV := .agg [.int .i64 s, .int .u8 b]

theorem keq_ekey {s b s' b' : Int} : keq (ekey s b) (ekey s' b') = some (decide (s = s' ∧ b = b')) := by
  simp only [ekey, keq, ikeys, ikey, if_true]
  by_cases h1 : s = s' <;> by_cases h2 : b = b' <;> simp [h1, h2]

/-- All keys are pairs. -/
def EKeys (es : List (AV × AV × Nat)) : Prop := ∀ x ∈ es, ∃ s b, x.1 = ekey s b

theorem mfind_mput {s b s' b' : Int} {v : AV} {c : Nat} : ∀ {es : List (AV × AV × Nat)}, EKeys es →
    mfind (ekey s b) (mput (ekey s' b') v c es) = if s = s' ∧ b = b' then some v else mfind (ekey s b) es
  | [], _ => by
    simp only [mput, mfind, keq_ekey]
    by_cases h : s = s' ∧ b = b' <;> simp [h]
  | (k, w, n) :: r, hk => by
    obtain ⟨s₁, b₁, hk₁⟩ := hk (k, w, n) (List.mem_cons_self ..)
    simp only at hk₁
    subst hk₁
    have ih := mfind_mput (s := s) (b := b) (s' := s') (b' := b') (v := v) (c := c) fun x hx => hk x (List.mem_cons_of_mem _ hx)
    simp only [mput, keq_ekey]
    by_cases h1 : s' = s₁ ∧ b' = b₁
    · obtain ⟨rfl, rfl⟩ := h1
      simp only [and_self, decide_true, if_true, mfind, keq_ekey]
      by_cases h : s = s' ∧ b = b' <;> simp [h]
    · have h1' : ¬ (some (decide (s' = s₁ ∧ b' = b₁)) = some true) := by simp [h1]
      rw [if_neg h1']
      simp only [mfind, keq_ekey]
      rw [ih]
      by_cases h2 : s = s₁ ∧ b = b₁
      · obtain ⟨rfl, rfl⟩ := h2
        have : ¬ (s = s' ∧ b = b') := fun h => h1 ⟨h.1.symm, h.2.symm⟩
        simp [this]
      · simp [h2]

theorem EKeys.put {s b : Int} {v : AV} {c : Nat} : ∀ {es : List (AV × AV × Nat)}, EKeys es → EKeys (mput (ekey s b) v c es)
  | [], _ => by
    intro x hx
    simp [mput] at hx
    subst hx
    exact ⟨s, b, rfl⟩
  | (k, w, n) :: r, hk => by
    intro x hx
    simp only [mput] at hx
    split at hx
    · rcases List.mem_cons.1 hx with rfl | hx
      · exact ⟨s, b, rfl⟩
      · exact hk x (List.mem_cons_of_mem _ hx)
    · rcases List.mem_cons.1 hx with rfl | hx
      · exact hk _ (List.mem_cons_self ..)
      · exact EKeys.put (fun y hy => hk y (List.mem_cons_of_mem _ hy)) x hx

end Go.AM
