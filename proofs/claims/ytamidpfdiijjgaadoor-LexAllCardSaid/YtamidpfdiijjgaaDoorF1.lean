/-
  Plain: lines ahead of a text, behind it.
-/
import Derived.Test.YtamidpfdiijjgaaDoorE10
namespace Go.AM
open Go Go.Proofs
set_option linter.unusedVariables false
set_option linter.unusedSimpArgs false
set_option maxRecDepth 100000

/-! ### a text goes on -/

def LS.app (t : LS) (v : Txt) : LS := ⟨t.s ++ v, t.line, t.l⟩

theorem tw_app {q : UInt8 → Bool} {v : Txt} (hv : q 10 = false) : ∀ {s : Txt}, ((s ++ 10 :: v).takeWhile q) = s.takeWhile q
  | [] => by simp [hv]
  | c :: s => by
    simp only [List.cons_append, List.takeWhile_cons]
    split
    · rw [tw_app hv]
    · rfl

theorem fstL_app {s v : Txt} (h : s ≠ []) : fstL (s ++ v) = fstL s := by
  cases s with
  | nil => exact (h rfl).elim
  | cons c s => rfl

theorem drop_tw_app {q : UInt8 → Bool} {s v : Txt} : (s ++ v).drop (s.takeWhile q).length = s.drop (s.takeWhile q).length ++ v := List.drop_append_of_le_length tw_le

theorem wordM_app {k : Int} {t : LS} {v : Txt} (h : t.s ≠ []) : wordM k (t.app (10 :: v)) = (wordM k t).map (·.app (10 :: v)) := by
  unfold wordM
  simp only [LS.app, fstL_app h, tw_app (q := bE) (by decide)]
  split
  · split
    · rw [drop_tw_app]; rfl
    · rfl
  · rfl

theorem wordM_app0 {k : Int} {line : Int} {l : List Tok} {v : Txt} : wordM k ⟨10 :: v, line, l⟩ = none := by
  have h10 : bL 10 = false := by decide
  simp [wordM, fstL, h10]

theorem numM_app {t : LS} {v : Txt} : numM (t.app (10 :: v)) = (numM t).map (·.app (10 :: v)) := by
  unfold numM
  have hf : fstL (t.s.drop (t.s.takeWhile bD).length ++ 10 :: v) = fstL (t.s.drop (t.s.takeWhile bD).length) := by
    by_cases h : t.s.drop (t.s.takeWhile bD).length = []
    · rw [h, List.nil_append]; rfl
    · exact fstL_app h
  simp only [LS.app, tw_app (q := bD) (by decide), drop_tw_app, hf]
  split
  · rfl
  · rfl

theorem pairsM_app {v : Txt} : ∀ {s b : Txt} {hi : Int} {sm : Bool}, pairsM (s ++ 10 :: v) b hi sm = (pairsM s b hi sm).map fun x => (x.1 ++ 10 :: v, x.2)
  | [], b, hi, sm => by
    have h1 : hexR 10 < 0 := by decide
    simp [pairsM, h1]
  | c :: s, b, hi, sm => by
    simp only [List.cons_append, pairsM]
    split
    · split <;> rfl
    · split
      · exact pairsM_app
      · split
        · rfl
        · split
          · exact pairsM_app
          · exact pairsM_app

theorem bytesM_app {v : Txt} : ∀ (n m : Nat) {s b : Txt}, s.length < n → (s ++ 10 :: v).length < m → bytesM m (s ++ 10 :: v) b = (bytesM n s b).map fun x => (x.1 ++ 10 :: v, x.2)
  | 0, m, s, b, h, _ => by omega
  | n + 1, 0, s, b, _, h => by omega
  | n + 1, m + 1, [], b, h1, h2 => by simp [bytesM]
  | n + 1, m + 1, c :: s, b, h1, h2 => by
    simp only [List.length_cons, List.length_append] at h1 h2
    simp only [List.cons_append, bytesM]
    split
    · rfl
    · split
      · rw [pairsM_app]
        cases hp : pairsM s b (-1) false with
        | none => rfl
        | some x =>
          obtain ⟨r, b'⟩ := x
          have := pairsM_len hp
          exact bytesM_app n m (by simp at *; omega) (by simp at *; omega)
      · split
        · cases s with
          | nil => simp
          | cons d r =>
            simp only [List.cons_append]
            split
            · exact bytesM_app n m (by simp at *; omega) (by simp at *; omega)
            · rfl
        · split
          · exact bytesM_app n m (by simp at *; omega) (by simp at *; omega)
          · rfl

theorem strM_app {t : LS} {v : Txt} : strM (t.app (10 :: v)) = (strM t).map (·.app (10 :: v)) := by
  unfold strM
  simp only [LS.app]
  rw [bytesM_app (t.s.length + 1) _ (by omega) (by omega)]
  cases bytesM (t.s.length + 1) t.s [] with
  | none => rfl
  | some x => obtain ⟨r, b⟩ := x; rfl

theorem begins_app {s v p : Txt} (h : s ≠ []) (hp : p.length = 2) (hp10 : p[1]? ≠ some 10) : begins (s ++ 10 :: v) p = begins s p := by
  match s, p, h, hp with
  | [c], [x, y], _, _ =>
    have : y ≠ 10 := fun e => hp10 (by simp [e])
    simp [begins]
    intro _ e
    exact this e.symm
  | c :: d :: s, [x, y], _, _ => simp [begins]

theorem hasR_app {c : UInt8} {s v : Txt} : hasR signs (fst (c :: s ++ v)) = hasR signs (fst (c :: s)) := by
  by_cases h : c.toNat < 128
  · rw [List.cons_append, fst_small h, fst_small h]
  · have h1 := fst_high (s := s ++ v) (Nat.le_of_not_lt h)
    have h2 := fst_high (s := s) (Nat.le_of_not_lt h)
    rw [List.cons_append]
    have e1 : hasR signs (fst (c :: (s ++ v))) = false := by simp [hasR]; omega
    have e2 : hasR signs (fst (c :: s)) = false := by simp [hasR]; omega
    rw [e1, e2]

theorem begins_two {s p : Txt} (h : begins s p = true) (hp : p.length = 2) : 2 ≤ s.length := by
  have := (begins_take h).2
  omega

theorem signM_app {t : LS} {v : Txt} (h : t.s ≠ []) : signM (t.app (10 :: v)) = (signM t).map (·.app (10 :: v)) := by
  have b1 := begins_app (v := v) (p := [45, 62]) h rfl (by simp)
  have b2 := begins_app (v := v) (p := [60, 62]) h rfl (by simp)
  have e : signM (t.app (10 :: v)) = if begins (t.s ++ 10 :: v) [45, 62] = true then some ⟨(t.s ++ 10 :: v).drop 2, t.line, t.l ++ [⟨4, [45, 62], 0, t.line⟩]⟩
      else if begins (t.s ++ 10 :: v) [60, 62] = true then some ⟨(t.s ++ 10 :: v).drop 2, t.line, t.l ++ [⟨4, [60, 62], 0, t.line⟩]⟩
      else if hasR signs (fst (t.s ++ 10 :: v)) = true then some ⟨(t.s ++ 10 :: v).drop 1, t.line, t.l ++ [⟨4, (t.s ++ 10 :: v).take 1, 0, t.line⟩]⟩
      else none := rfl
  rw [e, signM]
  simp only [b1, b2]
  split
  · rename_i hb
    rw [List.drop_append_of_le_length (begins_two hb rfl)]; rfl
  · split
    · rename_i hb
      rw [List.drop_append_of_le_length (begins_two hb rfl)]; rfl
    · cases hs : t.s with
      | nil => exact (h hs).elim
      | cons c s =>
        rw [hasR_app]
        split
        · simp [LS.app, hs]
        · rfl

theorem nextM_app {t : LS} {v : Txt} (h : t.s ≠ []) : nextM (t.app (10 :: v)) = (nextM t).map (·.app (10 :: v)) := by
  obtain ⟨s, line, l⟩ := t
  cases s with
  | nil => exact (h rfl).elim
  | cons c r =>
    have e : (LS.mk (c :: r) line l).app (10 :: v) = ⟨c :: (r ++ 10 :: v), line, l⟩ := rfl
    rw [e, nextM_cons, nextM_cons]
    split
    · rfl
    · split
      · rfl
      · split
        · have := tw_app (q := bN) (v := v) (by decide) (s := c :: r)
          rw [List.cons_append] at this
          rw [this, ← List.cons_append, drop_tw_app]; rfl
        · split
          · exact wordM_app (t := ⟨c :: r, line, l⟩) (by simp)
          · split
            · exact numM_app (t := ⟨c :: r, line, l⟩)
            · split
              · cases r with
                | nil =>
                  rw [List.nil_append, wordM_app0]
                  simp [wordM, fstL]
                | cons d r => exact wordM_app (t := ⟨d :: r, line, l⟩) (by simp)
              · split
                · exact strM_app (t := ⟨r, line, l⟩)
                · exact signM_app (t := ⟨c :: r, line, l⟩) (by simp)

/-- All of a text, and of what is behind it, if that tells nothing. -/
theorem allM_app {v : Txt} (hv : ∀ n line l, (10 :: v).length < n → allM n ⟨10 :: v, line, l⟩ = (some l, 0)) : ∀ (n m : Nat) (t : LS), t.s.length < n → (t.s ++ 10 :: v).length < m → allM m (t.app (10 :: v)) = allM n t
  | 0, m, t, h, _ => by omega
  | n + 1, 0, t, _, h => by omega
  | n + 1, m + 1, ⟨s, line, l⟩, h1, h2 => by
    by_cases hs : s = []
    · subst hs
      have e : (LS.mk [] line l).app (10 :: v) = ⟨10 :: v, line, l⟩ := rfl
      rw [e, hv _ _ _ (by simpa using h2)]
      rfl
    · have hne : ¬ (s ++ 10 :: v = []) := by simp
      have e1 : allM (m + 1) ((LS.mk s line l).app (10 :: v)) = match nextM ((LS.mk s line l).app (10 :: v)) with
        | some t' => allM m t'
        | none => (none, line) := by simp only [allM, LS.app, hne, if_false]; rfl
      have e2 : allM (n + 1) ⟨s, line, l⟩ = match nextM ⟨s, line, l⟩ with
        | some t' => allM n t'
        | none => (none, line) := by simp only [allM, hs, if_false]; rfl
      rw [e1, e2, nextM_app hs]
      cases hn : nextM ⟨s, line, l⟩ with
      | none => rfl
      | some t' =>
        have hg := (nextM_goes hn).s
        simp only [List.length_append, List.length_cons] at h1 h2 hg
        exact allM_app hv n m t' (by omega) (by simp; omega)

/-! ### a text further down -/

def shT (n : Int) (t : Tok) : Tok := ⟨t.kind, t.s, t.n, t.line + n⟩
def LS.sh (n : Int) (t : LS) : LS := ⟨t.s, t.line + n, t.l.map (shT n)⟩

theorem nextM_sh {n : Int} {t : LS} : nextM (t.sh n) = (nextM t).map (·.sh n) := by
  obtain ⟨s, line, l⟩ := t
  have hw : ∀ k (u : LS), wordM k (u.sh n) = (wordM k u).map (·.sh n) := fun k u => by
    by_cases h1 : fstL u.s = true <;> by_cases h2 : (u.s.takeWhile bE).length ≤ 20 <;> simp [wordM, LS.sh, shT, h1, h2]
  cases s with
  | nil => rfl
  | cons c r =>
    have e : (LS.mk (c :: r) line l).sh n = ⟨c :: r, line + n, l.map (shT n)⟩ := rfl
    rw [e, nextM_cons, nextM_cons]
    split
    · rfl
    · split
      · simp only [Option.map_some, LS.sh]; congr 2; omega
      · split
        · rfl
        · split
          · exact hw 1 ⟨c :: r, line, l⟩
          · split
            · unfold numM
              simp only
              split
              · simp [LS.sh, shT]
              · rfl
            · split
              · exact hw 5 ⟨r, line, l⟩
              · split
                · unfold strM
                  simp only
                  cases bytesM (r.length + 1) r [] with
                  | none => rfl
                  | some x => obtain ⟨r', b⟩ := x; simp [strOf, LS.sh, shT]
                · unfold signM
                  simp only
                  split
                  · simp [LS.sh, shT]
                  · split
                    · simp [LS.sh, shT]
                    · split
                      · simp [LS.sh, shT]
                      · rfl

theorem allM_sh {n : Int} : ∀ (k : Nat) (t : LS), t.s.length < k → allM k (t.sh n) = match allM k t with
    | (some l, _) => (some (l.map (shT n)), 0)
    | (none, line) => (none, line + n)
  | 0, t, h => by omega
  | k + 1, ⟨s, line, l⟩, h => by
    by_cases hs : s = []
    · subst hs; rfl
    · have e1 : allM (k + 1) ((LS.mk s line l).sh n) = match nextM ((LS.mk s line l).sh n) with
        | some t' => allM k t'
        | none => (none, line + n) := by simp only [allM, LS.sh, hs, if_false]; rfl
      have e2 : allM (k + 1) ⟨s, line, l⟩ = match nextM ⟨s, line, l⟩ with
        | some t' => allM k t'
        | none => (none, line) := by simp only [allM, hs, if_false]; rfl
      rw [e1, e2, nextM_sh]
      cases hn : nextM ⟨s, line, l⟩ with
      | none => rfl
      | some t' =>
        have hg := (nextM_goes hn).s
        simp only at hg h
        exact allM_sh k t' (by omega)

/-! ### lines that tell nothing -/

def mores : List Txt := [[10], [32, 13, 10], [35, 32, 119, 111, 114, 100, 115, 32, 34, 32, 36, 10]]
def many (m : Txt) : Nat → Txt
  | 0 => []
  | n + 1 => m ++ many m n

theorem many_len {m : Txt} (hm : m.length ≤ 12) : ∀ {n : Nat}, (many m n).length ≤ 12 * n
  | 0 => by simp [many]
  | n + 1 => by have := many_len hm (n := n); simp [many]; omega
theorem many_snoc {m : Txt} : ∀ {n : Nat}, many m n ++ m = many m (n + 1)
  | 0 => by simp [many]
  | n + 1 => by
    have := many_snoc (m := m) (n := n)
    simp only [many, List.append_assoc] at this ⊢
    rw [this]

theorem allM_step {n : Nat} {t t' : LS} (h : nextM t = some t') (hn : t.s.length < n) : allM n t = allM n t' := by
  obtain ⟨n, rfl⟩ : ∃ k, n = k + 1 := ⟨n - 1, by omega⟩
  have hg := (nextM_goes h).s
  have hs : ¬ t.s = [] := by intro e; rw [e] at hg; simp at hg
  rw [allM, if_neg hs, h]
  exact allM_fuel _ _ _ (by omega) (by omega)

theorem line_next {x : Txt} {line : Int} {l : List Tok} : nextM ⟨10 :: x, line, l⟩ = some ⟨x, line + 1, l⟩ := by
  have h : isB 10 = false := by decide
  simp [nextM_cons, h]
theorem blank_next {c : UInt8} {x : Txt} {line : Int} {l : List Tok} (h : isB c.toNat = true) : nextM ⟨c :: x, line, l⟩ = some ⟨x, line, l⟩ := by
  simp [nextM_cons, h]

theorem allM_more {m : Txt} (hm : m ∈ mores) {x : Txt} {line : Int} {l : List Tok} {n : Nat} (hn : (m ++ x).length < n) : allM n ⟨m ++ x, line, l⟩ = allM n ⟨x, line + 1, l⟩ := by
  simp [mores] at hm
  rcases hm with rfl | rfl | rfl
  · exact allM_step line_next hn
  · simp only [List.length_append, List.length_cons, List.length_nil] at hn
    rw [show [32, 13, 10] ++ x = 32 :: 13 :: 10 :: x from rfl, allM_step (blank_next (by decide)) (by simp; omega), allM_step (blank_next (by decide)) (by simp; omega), allM_step line_next (by simp; omega)]
  · have e : nextM ⟨[35, 32, 119, 111, 114, 100, 115, 32, 34, 32, 36, 10] ++ x, line, l⟩ = some ⟨10 :: x, line, l⟩ := by
      have h : isB 35 = false := by decide
      have q : ∀ c : UInt8, bN c = decide (c ≠ 10) := fun c => rfl
      simp [nextM_cons, h, q]
    simp only [List.length_append, List.length_cons, List.length_nil] at hn
    rw [allM_step e (by simp; omega), allM_step line_next (by simp; omega)]

theorem allM_many {m : Txt} (hm : m ∈ mores) : ∀ {k : Nat} {x : Txt} {line : Int} {l : List Tok} {n : Nat}, (many m k ++ x).length < n → allM n ⟨many m k ++ x, line, l⟩ = allM n ⟨x, line + k, l⟩
  | 0, x, line, l, n, _ => by simp [many]
  | k + 1, x, line, l, n, hn => by
    simp only [many, List.append_assoc] at hn ⊢
    rw [allM_more hm hn, allM_many hm (by simp at hn ⊢; omega)]
    congr 2
    push_cast
    omega

theorem allM_tail {m : Txt} (hm : m ∈ mores) {k : Nat} (n : Nat) (line : Int) (l : List Tok) (hn : (10 :: (many m k ++ [35])).length < n) : allM n ⟨10 :: (many m k ++ [35]), line, l⟩ = (some l, 0) := by
  rw [allM_step line_next hn, allM_many hm (by simp at hn ⊢; omega)]
  have e : ∀ line, nextM ⟨[35], line, l⟩ = some ⟨[], line, l⟩ := fun line => by
    have h : isB 35 = false := by decide
    have q : bN 35 = true := by decide
    simp [nextM_cons, h, q]
  rw [allM_step (e _) (by simp at hn ⊢; omega)]
  obtain ⟨n, rfl⟩ : ∃ k, n = k + 1 := ⟨n - 1, by omega⟩
  rfl

/-- The law, in plain words. -/
theorem blanks_lex {m s : Txt} (hm : m ∈ mores) {k : Nat} (hk : k < 5) (hs : s.length ≤ 3000) :
    lexM (many m k ++ s ++ [10] ++ many m k ++ [35]) = match lexM s with
      | (some l, _, _) => (some (l.map (shT k)), 0, 0)
      | (none, line, _) => (none, line + k, 6) := by
  have hml : m.length ≤ 12 := by simp [mores] at hm; rcases hm with rfl | rfl | rfl <;> simp
  have hmk := many_len hml (n := k)
  have e : many m k ++ s ++ [10] ++ many m k ++ [35] = many m k ++ (s ++ 10 :: (many m k ++ [35])) := by simp
  rw [e]
  unfold lexM
  rw [if_neg (by simp; omega), if_neg (by omega)]
  obtain ⟨N, hN⟩ : ∃ N, N = (many m k ++ (s ++ 10 :: (many m k ++ [35]))).length + 1 := ⟨_, rfl⟩
  rw [← hN, allM_many hm (by omega)]
  have h1 := allM_app (v := many m k ++ [35]) (fun n line l h => allM_tail hm n line l h) (s.length + 1) N ⟨s, 1 + k, []⟩ (by simp) (by rw [hN]; simp; omega)
  have h2 := allM_sh (n := k) (s.length + 1) ⟨s, 1, []⟩ (by simp)
  have e1 : (LS.mk s (1 + k) []).app (10 :: (many m k ++ [35])) = ⟨s ++ 10 :: (many m k ++ [35]), 1 + k, []⟩ := rfl
  have e2 : (LS.mk s 1 []).sh k = ⟨s, 1 + k, []⟩ := rfl
  rw [e1] at h1
  rw [e2] at h2
  rw [h1, h2]
  cases allM (s.length + 1) ⟨s, 1, []⟩ with
  | mk a b => cases a <;> rfl

end Go.AM
