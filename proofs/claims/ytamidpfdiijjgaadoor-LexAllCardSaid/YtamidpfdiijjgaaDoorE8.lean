/-
  The next thing (13); a text's tokens (8).
-/
import Derived.Test.YtamidpfdiijjgaaDoorE7
namespace Go.AM
open Go Go.Proofs
set_option linter.unusedVariables false
set_option linter.unusedSimpArgs false
set_option maxRecDepth 100000

def nextM (t : LS) : Option LS := match t.s with
  | [] => none
  | c :: r =>
    if isB c.toNat then some ⟨r, t.line, t.l⟩
    else if c.toNat = 10 then some ⟨r, t.line + 1, t.l⟩
    else if c.toNat = 35 then some ⟨t.s.drop (t.s.takeWhile bN).length, t.line, t.l⟩
    else if bL c then wordM 1 t
    else if bD c then numM t
    else if c.toNat = 36 then wordM 5 ⟨r, t.line, t.l⟩
    else if c.toNat = 34 then strM ⟨r, t.line, t.l⟩
    else signM t

theorem nextM_cons {c : UInt8} {r : Txt} {line : Int} {l : List Tok} : nextM ⟨c :: r, line, l⟩ =
    if isB c.toNat then some ⟨r, line, l⟩
    else if c.toNat = 10 then some ⟨r, line + 1, l⟩
    else if c.toNat = 35 then some ⟨(c :: r).drop ((c :: r).takeWhile bN).length, line, l⟩
    else if bL c then wordM 1 ⟨c :: r, line, l⟩
    else if bD c then numM ⟨c :: r, line, l⟩
    else if c.toNat = 36 then wordM 5 ⟨r, line, l⟩
    else if c.toNat = 34 then strM ⟨r, line, l⟩
    else signM ⟨c :: r, line, l⟩ := rfl

structure Goes (t t' : LS) : Prop where
  s : t'.s.length < t.s.length
  l : t'.l.length ≤ t.l.length + 1
  lo : t.line ≤ t'.line
  hi : t'.line ≤ t.line + 1

theorem bytesM_len : ∀ {n : Nat} {s b r b' : Txt}, bytesM n s b = some (r, b') → r.length < s.length
  | 0, s, b, r, b', h => by simp [bytesM] at h
  | n + 1, [], b, r, b', h => by simp [bytesM] at h
  | n + 1, c :: s, b, r, b', h => by
    unfold bytesM at h
    split at h
    · simp at h; obtain ⟨rfl, rfl⟩ := h; simp
    · split at h
      · split at h
        · rename_i hp
          have h1 := pairsM_len hp
          have h2 := bytesM_len h
          simp; omega
        · simp at h
      · split at h
        · split at h
          · simp at h
          · split at h
            · have h2 := bytesM_len h
              simp at h2 ⊢; omega
            · simp at h
        · split at h
          · have h2 := bytesM_len h
            simp at h2 ⊢; omega
          · simp at h

theorem wordM_goes {k : Int} {t t' : LS} (h : wordM k t = some t') : Goes t t' := by
  unfold wordM at h
  split at h
  · rename_i hf
    split at h
    · simp at h; subst h
      cases hs : t.s with
      | nil => rw [hs] at hf; simp [fstL] at hf
      | cons c r =>
        have hE : bE c = true := by
          rw [hs] at hf
          simp only [fstL] at hf
          simp [bE, isE, bL] at hf ⊢
          exact .inl hf
        refine ⟨?_, by simp, Int.le_refl _, by simp; omega⟩
        simp [hs, hE]; omega
    · simp at h
  · simp at h

theorem nextM_goes {t t' : LS} (h : nextM t = some t') : Goes t t' := by
  unfold nextM at h
  split at h
  · simp at h
  · rename_i c r hs
    have hl : t.s.length = r.length + 1 := by rw [hs]; rfl
    split at h
    · simp at h; subst h; exact ⟨by simp; omega, by simp, Int.le_refl _, by simp; omega⟩
    · split at h
      · simp at h; subst h; exact ⟨by simp; omega, by simp, by simp; omega, by simp⟩
      · split at h
        · rename_i h35
          simp at h; subst h
          have hN : bN c = true := by simp [bN, ← UInt8.toNat_inj]; omega
          refine ⟨?_, by simp, Int.le_refl _, by simp; omega⟩
          simp [hs, hN]; omega
        · split at h
          · exact wordM_goes h
          · split at h
            · rename_i hd
              unfold numM at h
              split at h
              · simp at h; subst h
                refine ⟨?_, by simp, Int.le_refl _, by simp; omega⟩
                simp [hs, hd]; omega
              · simp at h
            · split at h
              · have := wordM_goes h
                have h1 := this.s; have h2 := this.l; have h3 := this.lo; have h4 := this.hi
                exact ⟨by simp at h1 h2 h3 h4 ⊢; omega, h2, h3, h4⟩
              · split at h
                · unfold strM strOf at h
                  split at h
                  · rename_i hb
                    have := bytesM_len hb
                    simp at h; subst h
                    exact ⟨by simp at this ⊢; omega, by simp, Int.le_refl _, by simp; omega⟩
                  · simp at h
                · unfold signM at h
                  have hpos : 0 < t.s.length := by omega
                  split at h
                  · simp at h; subst h; exact ⟨by simp; omega, by simp, Int.le_refl _, by simp; omega⟩
                  · split at h
                    · simp at h; subst h; exact ⟨by simp; omega, by simp, Int.le_refl _, by simp; omega⟩
                    · split at h
                      · simp at h; subst h; exact ⟨by simp; omega, by simp, Int.le_refl _, by simp; omega⟩
                      · simp at h

section
variable {n0 b B Bt : Nat} {h : Heap} {s : Txt} {line : Int} {l : List Tok}

theorem Res.pre {h h1 h' : Heap} {line : Int} {x : Option LS} {r : AV} (o : Nw n0 h h1) (H : Res n0 h1 b line x r h') : Res n0 h b line x r h' := by
  cases x with
  | none => exact ⟨H.1, H.2.1, o.trans H.2.2⟩
  | some t => exact ⟨H.1, H.2.1, o.trans H.2.2⟩

theorem Res.bool {h h' : Heap} {line : Int} {x : Option LS} {r : AV} (H : Res n0 h b line x r h') : ∃ v, r = .bool v := by
  cases x with
  | none => exact ⟨_, H.1⟩
  | some t => exact ⟨_, H.1⟩

theorem isB_iff {c : UInt8} : isB c.toNat = true ↔ c.toNat = 32 ∨ c.toNat = 9 ∨ c.toNat = 13 := by
  simp [isB]; omega

theorem next13 {c : UInt8} {r : Txt} (H : TextAt n0 h b Bt (c :: r) line l) (hl : l.length ≤ 100000) (hs : r.length ≤ 9999) (hn0 : n0 ≤ h.length) (hline : 0 ≤ line ∧ line ≤ 100000) :
    ∃ v h', D cfg 13 [tp b] h = some (v, h') ∧ Res n0 h b line (nextM ⟨c :: r, line, l⟩) v h' := by
  refine call13 (R := fun v h' => Res n0 h b line (nextM ⟨c :: r, line, l⟩) v h') (args := [tp b]) (h := h) (by simp) ?_
  obtain ⟨h1, e1, o1⟩ := first16 (s := c :: r) (h := h)
  have H1 := H.same o1
  have hn1 : n0 ≤ h1.length := Nat.le_trans hn0 o1.1
  obtain ⟨x, hx⟩ : ∃ x, x = fst (c :: r) := ⟨_, rfl⟩
  rw [← hx] at e1
  have small : c.toNat < 128 → x = c.toNat := fun hc => by rw [hx]; exact fst_small hc
  have high : 128 ≤ c.toNat → 128 ≤ x := fun hc => by rw [hx]; exact fst_high hc
  have eB : isB x = isB c.toNat := by
    by_cases hc : c.toNat < 128
    · rw [small hc]
    · have := high (by omega)
      have a1 : isB x = false := by simp [isB]; omega
      have a2 : isB c.toNat = false := by simp [isB]; omega
      rw [a1, a2]
  have eL : isL x = bL c := by
    by_cases hc : c.toNat < 128
    · rw [small hc]; rfl
    · have := high (by omega)
      have a1 : isL x = false := by simp [isL]; omega
      have a2 : bL c = false := by simp [bL, isL]; omega
      rw [a1, a2]
  have eD : isD x = bD c := by
    by_cases hc : c.toNat < 128
    · rw [small hc]; rfl
    · have := high (by omega)
      have a1 : isD x = false := by simp [isD]; omega
      have a2 : bD c = false := by simp [bD, isD]; omega
      rw [a1, a2]
  have ex : ∀ k : Nat, k < 128 → (x = (k : Int) ↔ c.toNat = k) := fun k hk => by
    by_cases hc : c.toNat < 128
    · rw [small hc]; omega
    · have := high (by omega); omega
  obtain ⟨h2, e2, H2, o2⟩ := take18 H1 (n := 1) (by simp)
  have e2' : D cfg 18 [tp b, .int .i64 1] h1 = some (.str [c], h2) := by simpa using e2
  have H2' : TextAt n0 h2 b Bt r line l := by simpa using H2
  have o12 : Nw n0 h h2 := o1.nw.trans o2
  have hn2 : n0 ≤ h2.length := Nat.le_trans hn0 o12.1
  rw [nextM_cons]
  by_cases hB : isB c.toNat = true
  · have hB' : isB x = true := by rw [eB]; exact hB
    simp [c13, c13_r0, c13_r1, c13_r3, c13_r4, c13_r20, fieldA, H.ldS, e1, bla17, hB', e2', hB, Res]
    exact ⟨⟨Bt, H2'⟩, o12⟩
  · have hB' : isB x = false := by rw [eB]; simpa using hB
    rw [if_neg hB]
    by_cases h10 : c.toNat = 10
    · have x10 : x = 10 := (ex 10 (by omega)).2 h10
      have w1 : IntKind.wrap .i64 (line + 1) = line + 1 := wrap_i64 (by omega) (by omega)
      rw [if_pos h10]
      have hb2 := H2'.obj
      have hlt := lt_of_at hb2
      have H3 : TextAt n0 (h2.set b (.cells [.str r, .int .i64 (line + 1), toksSl Bt l] 47 false)) b Bt r (line + 1) l := by
        refine ⟨H2'.lo, at_same hlt, fun hl => ⟨(H2'.sl hl).1, ?_⟩⟩
        rw [at_other, (H2'.sl hl).2]
        rintro rfl
        have q := (H2'.sl hl).2
        rw [H2'.obj] at q; simp at q
      subst x10
      simp [c13, c13_r0, c13_r1, c13_r3, c13_r5, c13_r6, c13_r7, c13_r20, fieldA, H.ldS, e1, bla17, hB', e2', H2'.ldN, w1, astore, look_at, hb2, Res]
      exact ⟨⟨Bt, H3⟩, o12.trans (.set H.lo)⟩
    · have x10 : ¬ x = 10 := fun e => h10 ((ex 10 (by omega)).1 e)
      rw [if_neg h10]
      by_cases h35 : c.toNat = 35
      · have x35 : x = 35 := (ex 35 (by omega)).2 h35
        rw [if_pos h35]
        subst x35
        obtain ⟨h3, e3, o3⟩ := span19 pqN (fun r h => nl20 (r := r) (h := h)) (s := c :: r) (h := h1)
        obtain ⟨h4, e4, H4, o4⟩ := take18 (H1.same o3) (n := ((c :: r).takeWhile bN).length) tw_le
        simp [c13, c13_r0, c13_r1, c13_r3, c13_r5, c13_r8, c13_r9, c13_r20, fieldA, H.ldS, H1.ldS, e1, bla17, hB', e3, e4, Res]
        exact ⟨⟨Bt, H4⟩, (o1.nw.trans o3.nw).trans o4⟩
      · have x35 : ¬ x = 35 := fun e => h35 ((ex 35 (by omega)).1 e)
        rw [if_neg h35]
        by_cases hL : bL c = true
        · have hL' : isL x = true := by rw [eL]; exact hL
          rw [if_pos hL]
          obtain ⟨v, h3, e3, R3⟩ := word22 H1 hl (by simp; omega) hn1 (k := 1)
          obtain ⟨t, rfl⟩ := R3.bool
          simp [c13, c13_r0, c13_r1, c13_r3, c13_r5, c13_r8, c13_r10, c13_r11, fieldA, H.ldS, e1, bla17, let21, hB', x10, x35, hL', e3]
          exact R3.pre o1.nw
        · have hL' : isL x = false := by rw [eL]; simpa using hL
          rw [if_neg hL]
          by_cases hD : bD c = true
          · have hD' : isD x = true := by rw [eD]; exact hD
            rw [if_pos hD]
            obtain ⟨v, h3, e3, R3⟩ := num24 H1 hl hn1
            obtain ⟨t, rfl⟩ := R3.bool
            simp [c13, c13_r0, c13_r1, c13_r3, c13_r5, c13_r8, c13_r10, c13_r12, c13_r13, fieldA, H.ldS, e1, bla17, let21, dig23, hB', x10, x35, hL', hD', e3]
            exact R3.pre o1.nw
          · have hD' : isD x = false := by rw [eD]; simpa using hD
            rw [if_neg hD]
            by_cases h36 : c.toNat = 36
            · have x36 : x = 36 := (ex 36 (by omega)).2 h36
              rw [if_pos h36]
              subst x36
              obtain ⟨v, h3, e3, R3⟩ := word22 H2' hl (by omega) hn2 (k := 5)
              obtain ⟨t, rfl⟩ := R3.bool
              simp [c13, c13_r0, c13_r1, c13_r3, c13_r5, c13_r8, c13_r10, c13_r12, c13_r14, c13_r15, c13_r16, fieldA, H.ldS, e1, bla17, let21, dig23, hB', hL', hD', e2', e3]
              exact R3.pre o12
            · have x36 : ¬ x = 36 := fun e => h36 ((ex 36 (by omega)).1 e)
              rw [if_neg h36]
              by_cases h34 : c.toNat = 34
              · have x34 : x = 34 := (ex 34 (by omega)).2 h34
                rw [if_pos h34]
                subst x34
                obtain ⟨v, h3, e3, R3⟩ := bytes25 H2' hl (by omega) hn2
                obtain ⟨t, rfl⟩ := R3.bool
                simp [c13, c13_r0, c13_r1, c13_r3, c13_r5, c13_r8, c13_r10, c13_r12, c13_r14, c13_r17, c13_r18, c13_r19, fieldA, H.ldS, e1, bla17, let21, dig23, hB', hL', hD', e2', e3]
                exact R3.pre o12
              · have x34 : ¬ x = 34 := fun e => h34 ((ex 34 (by omega)).1 e)
                rw [if_neg h34]
                obtain ⟨v, h3, e3, R3⟩ := sign26 H1 hl hn1
                obtain ⟨t, rfl⟩ := R3.bool
                simp [c13, c13_r0, c13_r1, c13_r2, c13_r3, c13_r5, c13_r8, c13_r10, c13_r12, c13_r14, c13_r17, fieldA, H.ldS, e1, bla17, let21, dig23, hB', x10, x35, hL', hD', x36, x34, e3]
                exact R3.pre o1.nw
end

/-! ### all tokens -/

def allM : Nat → LS → Option (List Tok) × Int
  | 0, t => (none, t.line)
  | n + 1, t => if t.s = [] then (some t.l, 0) else match nextM t with
    | some t' => allM n t'
    | none => (none, t.line)

theorem allM_fuel : ∀ (n m : Nat) (t : LS), t.s.length < n → t.s.length < m → allM n t = allM m t
  | 0, m, t, h, _ => by omega
  | n + 1, 0, t, _, h => by omega
  | n + 1, m + 1, t, h1, h2 => by
    unfold allM
    split
    · rfl
    · cases hn : nextM t with
      | none => rfl
      | some t' =>
        have := (nextM_goes hn).s
        exact allM_fuel n m t' (by omega) (by omega)

/-- A text's tokens, the line of the fault, its number. -/
def lexOf : Option (List Tok) × Int → Option (List Tok) × Int × Int
  | (some l, _) => (some l, 0, 0)
  | (none, line) => (none, line, 6)
def lexM (s : Txt) : Option (List Tok) × Int × Int := if 8192 < s.length then (none, 0, 5) else lexOf (allM (s.length + 1) ⟨s, 1, []⟩)

/-- The slice of tokens that came out. -/
def Out8 (h h' : Heap) (x : Option (List Tok)) (v : AV) : Prop := match x with
  | none => v = .sl none 0 0
  | some l => ∃ B, v = toksSl B l ∧ (l.length ≠ 0 → h.length ≤ B ∧ h'[B]? = some (.cells (toksC l) 30 true))

def In8 (h₀ : Heap) (s : Txt) (m : Nat) (st : St) : Prop := ∃ (h : Heap) (B : Nat) (t : LS), m = t.s.length ∧ st = ⟨[(5, tp h₀.length)], h⟩ ∧ TextAt h₀.length h h₀.length B t.s t.line t.l ∧ Nw h₀.length h₀ h ∧
  t.l.length + t.s.length ≤ s.length ∧ 1 ≤ t.line ∧ t.line + (t.s.length : Int) ≤ (s.length : Int) + 1 ∧ allM (t.s.length + 1) t = allM (s.length + 1) ⟨s, 1, []⟩

theorem Nw.only {h h' : Heap} (o : Nw h.length h h') : Only (fun _ => False) h h' := ⟨o.1, fun c hc _ => o.2 c hc (by omega)⟩

theorem toksSl_nil {B : Nat} : toksSl B [] = .sl none 0 0 := rfl

theorem all8 {h : Heap} {s : Txt} : ∃ v h', D cfg 8 [.str s] h = some (.tup [v, .int .i64 (lexM s).2.1, .int .i64 (lexM s).2.2], h') ∧ Out8 h h' (lexM s).1 v ∧ Only (fun _ => False) h h' := by
  have key : ∃ r h', D cfg 8 [.str s] h = some (r, h') ∧ ∃ v, r = .tup [v, .int .i64 (lexM s).2.1, .int .i64 (lexM s).2.2] ∧ Out8 h h' (lexM s).1 v ∧ Only (fun _ => False) h h' := by
    refine call8 (R := fun r h' => ∃ v, r = .tup [v, .int .i64 (lexM s).2.1, .int .i64 (lexM s).2.2] ∧ Out8 h h' (lexM s).1 v ∧ Only (fun _ => False) h h') (args := [.str s]) (h := h) (by simp) ?_
    by_cases hbig : 8192 < s.length
    · have hb' : (8192 : Int) < s.length := by omega
      simp [c8, c8_r0, c8_r1, c8_r2, len1, alen, hb', lexM, hbig, Out8]
      exact .refl
    · have hb' : ¬ (8192 : Int) < s.length := by omega
      obtain ⟨res, hres⟩ : ∃ res, res = allM (s.length + 1) ⟨s, 1, []⟩ := ⟨_, rfl⟩
      have hlex : lexM s = lexOf res := by rw [lexM, if_neg hbig, hres]
      rw [hlex]
      simp [c8, c8_r0, c8_r1, c8_r3, len1, alen, hb', abuild, afill, splice]
      have H0 : TextAt h.length (h ++ [AObj.cells [.str s, .int .i64 1, .sl none 0 0] 47 false]) h.length 0 s 1 [] := ⟨Nat.le_refl _, by simp [toksSl_nil], fun h => (h rfl).elim⟩
      have o0 : Nw h.length h (h ++ [AObj.cells [.str s, .int .i64 1, .sl none 0 0] 47 false]) := .app
      refine Wt.loop (In8 h s) (m := s.length) ⟨_, 0, ⟨s, 1, []⟩, rfl, rfl, H0, o0, by simp, by simp, by simp; omega, rfl⟩ ?_
      rintro m st ⟨h1, B1, ⟨s1, line, l⟩, rfl, rfl, H1, o1, hl, hlo, hhi, he⟩
      simp only at H1 hl hlo hhi he
      have hcut : cut (some [5]) [(5, tp h.length)] = [(5, tp h.length)] := by simp
      simp only [hcut]
      rw [← hres] at he
      cases s1 with
      | nil =>
        have : allM 1 ⟨[], line, l⟩ = (some l, 0) := rfl
        simp only [List.length_nil, Nat.zero_add, this] at he
        simp [-AV.cells, -AV.one, -AV.notTup, c8_l4, c8_r4, c8_r7, fieldA, H1.ldS, H1.ldL, toksSl_tup, tup_int]
        rw [← he]
        exact ⟨_, ⟨rfl, rfl, rfl⟩, ⟨B1, rfl, fun hne => H1.sl hne⟩, Nw.only o1⟩
      | cons c r =>
        simp only [List.length_cons] at hl hhi he
        have hne : ¬ (c :: r = ([] : Txt)) := by simp
        obtain ⟨v, h2, e2, R2⟩ := next13 H1 (by omega) (by omega) o1.1 ⟨by omega, by omega⟩
        unfold allM at he
        rw [if_neg hne] at he
        cases hn : nextM ⟨c :: r, line, l⟩ with
        | none =>
          rw [hn] at he R2
          obtain ⟨rfl, q1, q2⟩ := R2
          simp [-AV.cells, -AV.one, -AV.notTup, c8_l4, c8_r4, c8_r5, c8_r6, fieldA, H1.ldS, hne, e2, q1, tup_int, tup_sl]
          rw [← he]
          exact ⟨_, ⟨rfl, rfl, rfl⟩, rfl, Nw.only (o1.trans q2)⟩
        | some t =>
          have hg := nextM_goes hn
          rw [hn] at he R2
          obtain ⟨rfl, ⟨B2, q1⟩, q2⟩ := R2
          have g1 := hg.s; have g2 := hg.l; have g3 := hg.lo; have g4 := hg.hi
          simp only [List.length_cons] at g1 g2 g3 g4
          have hnext : In8 h s t.s.length ⟨[(5, tp h.length)], h2⟩ := ⟨h2, B2, t, rfl, rfl, q1, o1.trans q2, by omega, by omega, by omega, by rw [← hres, ← he]; exact allM_fuel _ _ _ (by omega) (by omega)⟩
          simp [-AV.cells, -AV.one, -AV.notTup, c8_l4, c8_r4, c8_r5, fieldA, H1.ldS, hne, e2]
          exact ⟨_, by omega, hnext⟩
  obtain ⟨r, h', h1, v, rfl, h2, h3⟩ := key
  exact ⟨v, h', h1, h2, h3⟩

end Go.AM
