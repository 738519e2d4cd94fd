/-
  Plain: signs by numbers; bytes in any writing.
-/
import Derived.Test.YtamidpfdiijjgaaDoorF1
namespace Go.AM
open Go Go.Proofs
set_option linter.unusedVariables false
set_option linter.unusedSimpArgs false
set_option maxRecDepth 100000

/-! ### signs -/

def all14 : List Txt := [[40], [41], [59], [58], [44], [47], [91], [93], [33], [45], [46], [61], [45, 62], [60, 62]]

/-- A sign as it is written. -/
def piece (blank : Bool) (w : Txt) : Txt := if blank || decide (w = [45]) then w ++ [32] else w
def pieces (blank : Bool) (ws : List Txt) : Txt := ws.flatMap (piece blank)

theorem piece_len {blank : Bool} {w : Txt} : (piece blank w).length ≤ w.length + 1 := by unfold piece; split <;> simp

theorem sign_next {w : Txt} (hw : w ∈ all14) {x : Txt} (hx : w = [45] → x.head? ≠ some 62) {line : Int} {l : List Tok} : nextM ⟨w ++ x, line, l⟩ = some ⟨x, line, l ++ [⟨4, w, 0, line⟩]⟩ := by
  have small : ∀ c : UInt8, c.toNat < 128 → ∀ y : Txt, fst (c :: y) = c.toNat := fun c hc y => fst_small hc
  simp [all14] at hw
  have q : ∀ c : UInt8, isB c.toNat = false → c.toNat ≠ 10 → c.toNat ≠ 35 → bL c = false → bD c = false → c.toNat ≠ 36 → c.toNat ≠ 34 → ∀ y, nextM ⟨c :: y, line, l⟩ = signM ⟨c :: y, line, l⟩ := by
    intro c h1 h2 h3 h4 h5 h6 h7 y
    simp [nextM_cons, h1, h2, h3, h4, h5, h6, h7]
  have one : ∀ c : UInt8, c.toNat < 128 → hasR signs c.toNat = true → c ≠ 60 → (c = 45 → x.head? ≠ some 62) → signM ⟨c :: x, line, l⟩ = some ⟨x, line, l ++ [⟨4, [c], 0, line⟩]⟩ := by
    intro c h1 h2 h3 h4
    have b1 : begins (c :: x) [45, 62] = false := by
      cases x with
      | nil => simp [begins]
      | cons d x =>
        simp [begins]
        intro e1 e2
        exact h4 e1 (by simp [e2])
    have b2 : begins (c :: x) [60, 62] = false := by
      cases x with
      | nil => simp [begins]
      | cons d x => simp [begins, h3]
    simp [signM, b1, b2, small c h1, h2]
  have ne : ∀ c : UInt8, c ≠ 45 → (c = 45 → x.head? ≠ some 62) := fun c h e => (h e).elim
  rcases hw with rfl | rfl | rfl | rfl | rfl | rfl | rfl | rfl | rfl | rfl | rfl | rfl | rfl | rfl
  · rw [List.singleton_append, q _ (by decide) (by decide) (by decide) (by decide) (by decide) (by decide) (by decide)]; exact one _ (by decide) (by decide) (by decide) (ne _ (by decide))
  · rw [List.singleton_append, q _ (by decide) (by decide) (by decide) (by decide) (by decide) (by decide) (by decide)]; exact one _ (by decide) (by decide) (by decide) (ne _ (by decide))
  · rw [List.singleton_append, q _ (by decide) (by decide) (by decide) (by decide) (by decide) (by decide) (by decide)]; exact one _ (by decide) (by decide) (by decide) (ne _ (by decide))
  · rw [List.singleton_append, q _ (by decide) (by decide) (by decide) (by decide) (by decide) (by decide) (by decide)]; exact one _ (by decide) (by decide) (by decide) (ne _ (by decide))
  · rw [List.singleton_append, q _ (by decide) (by decide) (by decide) (by decide) (by decide) (by decide) (by decide)]; exact one _ (by decide) (by decide) (by decide) (ne _ (by decide))
  · rw [List.singleton_append, q _ (by decide) (by decide) (by decide) (by decide) (by decide) (by decide) (by decide)]; exact one _ (by decide) (by decide) (by decide) (ne _ (by decide))
  · rw [List.singleton_append, q _ (by decide) (by decide) (by decide) (by decide) (by decide) (by decide) (by decide)]; exact one _ (by decide) (by decide) (by decide) (ne _ (by decide))
  · rw [List.singleton_append, q _ (by decide) (by decide) (by decide) (by decide) (by decide) (by decide) (by decide)]; exact one _ (by decide) (by decide) (by decide) (ne _ (by decide))
  · rw [List.singleton_append, q _ (by decide) (by decide) (by decide) (by decide) (by decide) (by decide) (by decide)]; exact one _ (by decide) (by decide) (by decide) (ne _ (by decide))
  · rw [List.singleton_append, q _ (by decide) (by decide) (by decide) (by decide) (by decide) (by decide) (by decide)]; exact one _ (by decide) (by decide) (by decide) (fun _ => hx rfl)
  · rw [List.singleton_append, q _ (by decide) (by decide) (by decide) (by decide) (by decide) (by decide) (by decide)]; exact one _ (by decide) (by decide) (by decide) (ne _ (by decide))
  · rw [List.singleton_append, q _ (by decide) (by decide) (by decide) (by decide) (by decide) (by decide) (by decide)]; exact one _ (by decide) (by decide) (by decide) (ne _ (by decide))
  · rw [show ([45, 62] : Txt) ++ x = 45 :: 62 :: x from rfl, q _ (by decide) (by decide) (by decide) (by decide) (by decide) (by decide) (by decide)]
    simp [signM, begins]
  · rw [show ([60, 62] : Txt) ++ x = 60 :: 62 :: x from rfl, q _ (by decide) (by decide) (by decide) (by decide) (by decide) (by decide) (by decide)]
    simp [signM, begins]

theorem all14_len {w : Txt} (hw : w ∈ all14) : 1 ≤ w.length ∧ w.length ≤ 2 := by
  simp [all14] at hw
  rcases hw with rfl | rfl | rfl | rfl | rfl | rfl | rfl | rfl | rfl | rfl | rfl | rfl | rfl | rfl <;> simp

theorem allM_signs {blank : Bool} : ∀ {ws : List Txt} {l : List Tok} {n : Nat}, (∀ w ∈ ws, w ∈ all14) → (pieces blank ws).length < n → allM n ⟨pieces blank ws, 1, l⟩ = (some (l ++ ws.map fun w => ⟨4, w, 0, 1⟩), 0)
  | [], l, n, _, hn => by
    obtain ⟨n, rfl⟩ : ∃ k, n = k + 1 := ⟨n - 1, by omega⟩
    simp [pieces, allM]
  | w :: ws, l, n, hw, hn => by
    have hw0 := hw w (List.mem_cons_self ..)
    have ih := fun l => allM_signs (blank := blank) (ws := ws) (l := l) (n := n) fun x hx => hw x (List.mem_cons_of_mem _ hx)
    have e : pieces blank (w :: ws) = piece blank w ++ pieces blank ws := rfl
    rw [e] at hn ⊢
    simp only [List.length_append] at hn
    unfold piece at hn ⊢
    by_cases hb : (blank || decide (w = [45])) = true
    · rw [if_pos hb] at hn ⊢
      simp only [List.length_append, List.length_cons, List.length_nil] at hn
      rw [List.append_assoc, allM_step (sign_next hw0 (fun _ => by simp)) (by simp; omega), List.singleton_append, allM_step (blank_next (by decide)) (by simp; omega), ih _ (by omega)]
      simp
    · rw [if_neg hb] at hn ⊢
      have hne : ¬ w = [45] := fun e => hb (by simp [e])
      rw [allM_step (sign_next hw0 (fun e => (hne e).elim)) (by simp; omega), ih _ (by omega)]
      simp

theorem pieces_len {blank : Bool} : ∀ {ws : List Txt}, (∀ w ∈ ws, w ∈ all14) → (pieces blank ws).length ≤ 3 * ws.length
  | [], _ => by simp [pieces]
  | w :: ws, h => by
    have h1 := all14_len (h w (List.mem_cons_self ..))
    have h2 := pieces_len (blank := blank) (ws := ws) fun x hx => h x (List.mem_cons_of_mem _ hx)
    have h3 := piece_len (blank := blank) (w := w)
    have e : pieces blank (w :: ws) = piece blank w ++ pieces blank ws := rfl
    rw [e]; simp; omega

theorem signs_lex {blank : Bool} {ws : List Txt} (hw : ∀ w ∈ ws, w ∈ all14) (hl : ws.length ≤ 40) : lexM (pieces blank ws) = (some (ws.map fun w => ⟨4, w, 0, 1⟩), 0, 0) := by
  have := pieces_len (blank := blank) hw
  unfold lexM
  rw [if_neg (by omega), allM_signs hw (by omega)]
  rfl

/-! ### bytes -/

def hexT (low : Bool) (n : Nat) : UInt8 := UInt8.ofNat (if n < 10 then 48 + n else (if low then 87 else 55) + n)
/-- A byte's writing (k: 0 .. 3). -/
def encB (k : Nat) (c : UInt8) : Txt :=
  if 2 ≤ k ∧ 32 ≤ c.toNat ∧ c.toNat ≤ 126 ∧ c ≠ 34 ∧ c ≠ 124 ∧ c ≠ 92 then [c]
  else if 2 ≤ k ∧ (c = 34 ∨ c = 124 ∨ c = 92) then [92, c]
  else [124, 32, hexT (k % 2 == 1) (c.toNat / 16), hexT (k % 2 == 1) (c.toNat % 16), 32, 124]

theorem hexT_ok : ∀ low : Bool, ∀ n, n < 16 → hexR (hexT low n).toNat = n ∧ (hexT low n).toNat ≠ 124 ∧ (hexT low n).toNat ≠ 32 := by decide

theorem pair_ok {low : Bool} {c : UInt8} {x b : Txt} : pairsM (32 :: hexT low (c.toNat / 16) :: hexT low (c.toNat % 16) :: 32 :: 124 :: x) b (-1) false = some (x, b ++ [c]) := by
  have hc := c.toNat_lt
  obtain ⟨h1, h2, h3⟩ := hexT_ok low (c.toNat / 16) (by omega)
  obtain ⟨g1, g2, g3⟩ := hexT_ok low (c.toNat % 16) (by omega)
  have e1 : ¬ ((hexT low (c.toNat / 16)).toNat : Int) = 124 := by omega
  have e2 : ¬ ((hexT low (c.toNat / 16)).toNat : Int) = 32 := by omega
  have e3 : ¬ ((hexT low (c.toNat % 16)).toNat : Int) = 124 := by omega
  have e4 : ¬ ((hexT low (c.toNat % 16)).toNat : Int) = 32 := by omega
  have e5 : ¬ (((c.toNat / 16 : Nat) : Int) < 0) := by omega
  have e6 : ¬ (((c.toNat % 16 : Nat) : Int) < 0) := by omega
  have e7 : UInt8.ofNat (((c.toNat / 16 : Nat) : Int) * 16 + ((c.toNat % 16 : Nat) : Int)).toNat = c := by
    have : (((c.toNat / 16 : Nat) : Int) * 16 + ((c.toNat % 16 : Nat) : Int)).toNat = c.toNat := by omega
    rw [this]; simp
  have n32 : ((32 : UInt8).toNat : Int) = 32 := rfl
  have n124 : ((124 : UInt8).toNat : Int) = 124 := rfl
  simp only [pairsM, n32, n124, e1, e2, e3, e4, h1, g1, e5, e6, e7, if_false, if_true, false_and, and_self, true_and, show ¬ ((32 : Int) = 124) from by omega, show (-1 : Int) < 0 from by omega, show ¬ ((124 : Int) = 32) from by omega]

theorem bytesM_enc {k : Nat} {c : UInt8} {x b : Txt} {n : Nat} (hn : (encB k c ++ x).length < n) : bytesM n (encB k c ++ x) b = bytesM n x (b ++ [c]) := by
  obtain ⟨n, rfl⟩ : ∃ m, n = m + 1 := ⟨n - 1, by omega⟩
  unfold encB at hn ⊢
  split
  · rename_i h
    rw [if_pos h] at hn
    simp only [List.length_append, List.length_cons, List.length_nil] at hn
    have e1 := h.2.2.2.1; have e2 := h.2.2.2.2.1; have e3 := h.2.2.2.2.2; have e4 := h.2.1; have e5 := h.2.2.1
    have e : bytesM (n + 1) ([c] ++ x) b = bytesM n x (b ++ [c]) := by simp [bytesM, e1, e2, e3, e4, e5]
    rw [e]
    exact bytesM_fuel _ _ _ _ (by omega) (by omega)
  · rename_i h
    rw [if_neg h] at hn
    split
    · rename_i h2
      rw [if_pos h2] at hn
      simp only [List.length_append, List.length_cons, List.length_nil] at hn
      simp only [List.cons_append, List.nil_append, bytesM, h2.2, if_true]
      rw [if_neg (by decide), if_neg (by decide)]
      exact bytesM_fuel _ _ _ _ (by omega) (by omega)
    · rename_i h2
      rw [if_neg h2] at hn
      simp only [List.length_append, List.length_cons, List.length_nil] at hn
      simp only [List.cons_append, List.nil_append, bytesM]
      rw [if_neg (by decide), if_pos trivial, pair_ok]
      exact bytesM_fuel _ _ _ _ (by omega) (by omega)

/-- Bytes' writing, one behind the other. -/
def encL (ks : Nat → Nat) : Nat → Txt → Txt
  | _, [] => []
  | i, c :: b => encB (ks i) c ++ encL ks (i + 1) b

theorem encB_len {k : Nat} {c : UInt8} : (encB k c).length ≤ 6 := by unfold encB; split <;> (try split) <;> simp
theorem encL_len {ks : Nat → Nat} : ∀ {i : Nat} {b : Txt}, (encL ks i b).length ≤ 6 * b.length
  | i, [] => by simp [encL]
  | i, c :: b => by
    have h1 := encB_len (k := ks i) (c := c)
    have h2 := encL_len (ks := ks) (i := i + 1) (b := b)
    simp [encL]; omega
theorem encL_snoc {ks : Nat → Nat} {c : UInt8} : ∀ {i : Nat} {b : Txt}, encL ks i (b ++ [c]) = encL ks i b ++ encB (ks (i + b.length)) c
  | i, [] => by simp [encL]
  | i, d :: b => by
    simp only [List.cons_append, encL, List.append_assoc, List.length_cons]
    rw [encL_snoc (i := i + 1) (b := b), show i + 1 + b.length = i + (b.length + 1) by omega]

theorem bytesM_encL {ks : Nat → Nat} : ∀ {i : Nat} {b x acc : Txt} {n : Nat}, (encL ks i b ++ x).length < n → bytesM n (encL ks i b ++ x) acc = bytesM n x (acc ++ b)
  | i, [], x, acc, n, h => by simp [encL]
  | i, c :: b, x, acc, n, h => by
    simp only [encL, List.append_assoc] at h ⊢
    rw [bytesM_enc h, bytesM_encL (by simp at h ⊢; omega)]
    simp

theorem bytes_lex {ks : Nat → Nat} {b : Txt} (hb : b.length ≤ 60) :
    lexM ([120] ++ ([34] ++ encL ks 0 b) ++ [34, 59]) = (some [⟨1, [120], 0, 1⟩, ⟨3, b, 0, 1⟩, ⟨4, [59], 0, 1⟩], 0, 0) ∧ lexM ([10] ++ ([34] ++ encL ks 0 b)) = (none, 2, 6) := by
  have hlen := encL_len (ks := ks) (i := 0) (b := b)
  constructor
  · have e : ([120] ++ ([34] ++ encL ks 0 b) ++ [34, 59] : Txt) = 120 :: 34 :: (encL ks 0 b ++ [34, 59]) := by simp
    rw [e]
    unfold lexM
    rw [if_neg (by simp; omega)]
    obtain ⟨N, hN⟩ : ∃ N, N = (120 :: 34 :: (encL ks 0 b ++ [34, 59])).length + 1 := ⟨_, rfl⟩
    rw [← hN]
    simp only [List.length_cons, List.length_append, List.length_nil] at hN
    have s1 : nextM ⟨120 :: 34 :: (encL ks 0 b ++ [34, 59]), 1, []⟩ = some ⟨34 :: (encL ks 0 b ++ [34, 59]), 1, [⟨1, [120], 0, 1⟩]⟩ := by
      have q1 : isB 120 = false := by decide
      have q2 : bL 120 = true := by decide
      have q3 : bE 120 = true := by decide
      have q4 : bE 34 = false := by decide
      have q5 : lowA [120] = [120] := by decide
      simp [nextM_cons, q1, q2, wordM, fstL, q3, q4, q5]
    have s2 : nextM ⟨34 :: (encL ks 0 b ++ [34, 59]), 1, [⟨1, [120], 0, 1⟩]⟩ = some ⟨[59], 1, [⟨1, [120], 0, 1⟩, ⟨3, b, 0, 1⟩]⟩ := by
      have q1 : isB 34 = false := by decide
      have q2 : bL 34 = false := by decide
      have q3 : bD 34 = false := by decide
      have q4 : bytesM ((encL ks 0 b ++ [34, 59]).length + 1) (encL ks 0 b ++ [34, 59]) [] = some ([59], b) := by
        rw [bytesM_encL (by omega)]
        simp [bytesM]
      simp only [nextM_cons]
      simp [q1, q2, q3, strM, -List.length_append, q4, strOf]
    have s3 : nextM ⟨[59], 1, [⟨1, [120], 0, 1⟩, ⟨3, b, 0, 1⟩]⟩ = some ⟨[], 1, [⟨1, [120], 0, 1⟩, ⟨3, b, 0, 1⟩, ⟨4, [59], 0, 1⟩]⟩ :=
      sign_next (w := [59]) (x := []) (by simp [all14]) (by simp)
    rw [allM_step s1 (by simp; omega), allM_step s2 (by simp; omega), allM_step s3 (by simp; omega)]
    obtain ⟨N, rfl⟩ : ∃ k, N = k + 1 := ⟨N - 1, by omega⟩
    rfl
  · have e : ([10] ++ ([34] ++ encL ks 0 b) : Txt) = 10 :: 34 :: encL ks 0 b := by simp
    rw [e]
    unfold lexM
    rw [if_neg (by simp; omega)]
    obtain ⟨N, hN⟩ : ∃ N, N = (10 :: 34 :: encL ks 0 b).length + 1 := ⟨_, rfl⟩
    rw [← hN]
    simp only [List.length_cons] at hN
    have s2 : nextM ⟨34 :: encL ks 0 b, 2, []⟩ = none := by
      have q1 : isB 34 = false := by decide
      have q2 : bL 34 = false := by decide
      have q3 : bD 34 = false := by decide
      have q4 : bytesM ((encL ks 0 b).length + 1) (encL ks 0 b) [] = none := by
        have := bytesM_encL (ks := ks) (i := 0) (b := b) (x := []) (acc := []) (n := (encL ks 0 b).length + 1) (by simp)
        rw [List.append_nil] at this
        rw [this]
        simp [bytesM]
      simp [nextM_cons, q1, q2, q3, strM, q4, strOf]
    rw [allM_step line_next (by simp; omega)]
    obtain ⟨N, rfl⟩ : ∃ k, N = k + 1 := ⟨N - 1, by omega⟩
    have hne : ¬ (34 :: encL ks 0 b = ([] : Txt)) := by simp
    simp only [allM, hne, if_false]
    rw [show (1 : Int) + 1 = 2 from rfl, s2]
    rfl

end Go.AM
