/-
  The walk of LexBlanks.
-/
import Derived.Test.YtamidpfdiijjgaaDoorF1
import Derived.Test.YtamidpfdiijjgaaDoorL4
namespace Go.AM
open Go Go.Proofs
set_option linter.unusedVariables false
set_option linter.unusedSimpArgs false
set_option maxRecDepth 100000

def moreOf (n : Int) : Txt := mores.getD (n % 3).toNat []
theorem moreOf_mem {n : Int} : moreOf n ∈ mores := by
  have : ∀ k, k < 3 → mores.getD k [] ∈ mores := by decide
  exact this _ (by omega)
theorem mores_len {m : Txt} (hm : m ∈ mores) : m.length ≤ 12 := by
  simp [mores] at hm; rcases hm with rfl | rfl | rfl <;> simp

def In4 (h : Heap) (s m : Txt) (k : Nat) (u : AV) (line e : Int) (n : Nat) (st : St) : Prop := ∃ i, n = k - i ∧ i ≤ k ∧
  st = ⟨[(0, .str s), (7, u), (8, .int .i64 line), (9, .int .i64 e), (10, .int .i64 (k : Int)), (11, .str m), (12, .str (many m i)), (13, .int .i64 (i : Int))], h⟩
def In4b (h : Heap) (k : Int) (v w : AV) (n : Nat) (m : Nat) (st : St) : Prop := ∃ i, m = n - i ∧ i ≤ n ∧ st = ⟨[(7, v), (10, .int .i64 k), (14, w), (17, .int .i64 (i : Int))], h⟩

theorem more_index {n : Int} : aindex Tryd.prog 35 (.agg [.str [10], .str [32, 13, 10], .str [35, 32, 119, 111, 114, 100, 115, 32, 34, 32, 36, 10]]) (.int .i64 (n % 3)) = some (.str (moreOf n)) := by
  obtain ⟨k, hk, hk3⟩ : ∃ k : Nat, n % 3 = k ∧ k < 3 := ⟨(n % 3).toNat, by omega, by omega⟩
  have hm : moreOf n = mores.getD k [] := by unfold moreOf; rw [hk]; rfl
  rw [hm, hk]
  match k, hk3 with
  | 0, _ => simp [aindex, apart, mores]
  | 1, _ => simp [aindex, apart, mores]
  | 2, _ => simp [aindex, apart, mores]

theorem lexM_err {s : Txt} (hs : s.length ≤ 8192) : (∃ l, lexM s = (some l, 0, 0)) ∨ ∃ line, lexM s = (none, line, 6) := by
  unfold lexM
  rw [if_neg (by omega)]
  cases allM (s.length + 1) ⟨s, 1, []⟩ with
  | mk a b =>
    cases a with
    | none => exact .inr ⟨b, rfl⟩
    | some l => exact .inl ⟨l, rfl⟩

theorem allM_line : ∀ {n : Nat} {t : LS}, t.line ≤ (allM n t).2 + 1000000 → True := fun _ => trivial

/-- The line at which a text falls. -/
theorem allM_fall : ∀ {n : Nat} {t : LS} {line : Int}, allM n t = (none, line) → t.line ≤ line ∧ line ≤ t.line + t.s.length
  | 0, t, line, h => by
    simp only [allM, Prod.mk.injEq, true_and] at h
    omega
  | n + 1, t, line, h => by
    unfold allM at h
    split at h
    · simp at h
    · split at h
      · rename_i t' hn
        have hg := nextM_goes hn
        have := allM_fall h
        have := hg.s; have := hg.lo; have := hg.hi
        omega
      · simp only [Prod.mk.injEq, true_and] at h
        omega
theorem lexM_fall {s : Txt} {line e : Int} (h : lexM s = (none, line, e)) : 0 ≤ line ∧ line ≤ 10000 := by
  unfold lexM at h
  split at h
  · simp at h; omega
  · cases ha : allM (s.length + 1) ⟨s, 1, []⟩ with
    | mk a b =>
      rw [ha] at h
      cases a with
      | some l => simp [lexOf] at h
      | none =>
        simp [lexOf] at h
        have := allM_fall ha
        simp only at this
        omega

/-- The lines of tokens. -/
theorem nextM_lines {t t' : LS} (h : nextM t = some t') {N : Int} (hl : ∀ x ∈ t.l, 0 ≤ x.line ∧ x.line ≤ N) (h0 : 0 ≤ t.line) (hN : t.line ≤ N) : ∀ x ∈ t'.l, 0 ≤ x.line ∧ x.line ≤ N := by
  have one : ∀ {l' : List Tok} {y : Tok}, l' = t.l ++ [y] → y.line = t.line → ∀ x ∈ l', 0 ≤ x.line ∧ x.line ≤ N := by
    intro l' y e1 e2 x hx
    rw [e1] at hx
    rcases List.mem_append.1 hx with hx | hx
    · exact hl x hx
    · simp at hx; subst hx; omega
  have word : ∀ {k : Int} {u : LS}, u.l = t.l → u.line = t.line → wordM k u = some t' → ∀ x ∈ t'.l, 0 ≤ x.line ∧ x.line ≤ N := by
    intro k u e1 e2 hw
    unfold wordM at hw
    split at hw
    · split at hw
      · simp at hw; subst hw
        exact one (by rw [e1]) e2
      · simp at hw
    · simp at hw
  unfold nextM at h
  split at h
  · simp at h
  · rename_i c r hs
    split at h
    · simp at h; subst h; exact hl
    · split at h
      · simp at h; subst h; exact hl
      · split at h
        · simp at h; subst h; exact hl
        · split at h
          · exact word (u := t) rfl rfl h
          · split at h
            · unfold numM at h
              split at h
              · simp at h; subst h; exact one rfl rfl
              · simp at h
            · split at h
              · exact word (u := ⟨r, t.line, t.l⟩) rfl rfl h
              · split at h
                · unfold strM strOf at h
                  split at h
                  · simp at h; subst h; exact one rfl rfl
                  · simp at h
                · unfold signM at h
                  split at h
                  · simp at h; subst h; exact one rfl rfl
                  · split at h
                    · simp at h; subst h; exact one rfl rfl
                    · split at h
                      · simp at h; subst h; exact one rfl rfl
                      · simp at h

theorem allM_lines {N : Int} : ∀ {n : Nat} {t : LS} {l : List Tok} {k : Int}, allM n t = (some l, k) → (∀ x ∈ t.l, 0 ≤ x.line ∧ x.line ≤ N) → 0 ≤ t.line → t.line + t.s.length ≤ N → ∀ x ∈ l, 0 ≤ x.line ∧ x.line ≤ N
  | 0, t, l, k, h, _, _, _ => by simp [allM] at h
  | n + 1, t, l, k, h, hl, h0, hN => by
    unfold allM at h
    split at h
    · simp at h; rw [← h.1]; exact hl
    · split at h
      · rename_i t' hn
        have hg := nextM_goes hn
        have := hg.s; have := hg.lo; have := hg.hi
        exact allM_lines h (nextM_lines hn hl h0 (by omega)) (by omega) (by omega)
      · simp at h
theorem lexM_lines {s : Txt} {l : List Tok} {a b : Int} (h : lexM s = (some l, a, b)) : l.length ≤ 100000 → ∀ x ∈ l, 0 ≤ x.line ∧ x.line ≤ 8193 := by
  intro _
  unfold lexM at h
  split at h
  · simp at h
  · cases ha : allM (s.length + 1) ⟨s, 1, []⟩ with
    | mk c d =>
      rw [ha] at h
      cases c with
      | none => simp [lexOf] at h
      | some l' =>
        simp [lexOf] at h
        obtain ⟨rfl, _⟩ := h
        exact allM_lines ha (by simp) (by simp) (by simp only; omega)

theorem allM_count : ∀ {n : Nat} {t : LS} {l : List Tok} {k : Int}, allM n t = (some l, k) → l.length ≤ t.l.length + t.s.length
  | 0, t, l, k, h => by simp [allM] at h
  | n + 1, t, l, k, h => by
    unfold allM at h
    split at h
    · simp at h; rw [← h.1]; omega
    · split at h
      · rename_i t' hn
        have hg := nextM_goes hn
        have := allM_count h
        have := hg.s; have := hg.l
        omega
      · simp at h
theorem lexM_count {s : Txt} {l : List Tok} {a b : Int} (h : lexM s = (some l, a, b)) : l.length ≤ 8192 := by
  unfold lexM at h
  split at h
  · simp at h
  · cases ha : allM (s.length + 1) ⟨s, 1, []⟩ with
    | mk c d =>
      rw [ha] at h
      cases c with
      | none => simp [lexOf] at h
      | some l' =>
        simp [lexOf] at h
        obtain ⟨rfl, _⟩ := h
        have := allM_count ha
        simp only [List.length_nil] at this
        omega

theorem blanks_walk {s : Txt} {lines which : Int} (hs : s.length ≤ 9223372036854775807) :
    Wt Tryd.prog (D cfg) c4 ⟨argsEnv 0 [.str s, .int .i64 lines, .int .i64 which], []⟩ (Ends Tryd.prog [.tmp 6] fun r _ => r = .bool true) := by
  by_cases hbig : 3000 < s.length
  · have hb : (3000 : Int) < s.length := by omega
    obtain ⟨h4, e4⟩ := awake10 (h := [])
    simp [-AV.cells, -AV.one, -AV.notTup, c4, c4_r0, c4_r1, c4_r2, len1, alen, hb, e4, tup_bool]
  have hb : ¬ (3000 : Int) < s.length := by omega
  obtain ⟨k, hk, hk5⟩ : ∃ k : Nat, lines % 5 = k ∧ k < 5 := ⟨(lines % 5).toNat, by omega, by omega⟩
  have p1 := fun h => place_run (h := h) (v := lines) (n := 5) (by omega) (by omega)
  rw [hk] at p1
  have p2 := fun h => place_run (h := h) (v := which) (n := 3) (by omega) (by omega)
  have mi := more_index (n := which)
  obtain ⟨m, hm⟩ : ∃ m, m = moreOf which := ⟨_, rfl⟩
  rw [← hm] at mi
  have hmm : m ∈ mores := by rw [hm]; exact moreOf_mem
  have hml := mores_len hmm
  obtain ⟨u, h1, e1, O1, o1⟩ := all8 (h := []) (s := s)
  obtain ⟨line, hline⟩ : ∃ line, line = (lexM s).2.1 := ⟨_, rfl⟩
  obtain ⟨er, her⟩ : ∃ er, er = (lexM s).2.2 := ⟨_, rfl⟩
  rw [← hline, ← her] at e1
  simp [-AV.cells, -AV.one, -AV.notTup, c4, c4_r0, c4_r1, c4_r3, c4_r4, c4_r5, c4_r6, c4_r7, len1, alen, hb, e1, extractV, p1, p2, abuild, afill, splice, cells_agg, cells_str, one_str, one_agg, mi]
  refine Wt.loop (In4 h1 s m k u line er) (m := k) ⟨0, rfl, Nat.zero_le _, rfl⟩ ?_
  rintro n st ⟨i, rfl, hi, rfl⟩
  have hcut : cut (some [0, 7, 8, 9, 10, 11, 12, 13]) [(0, AV.str s), (7, u), (8, .int .i64 line), (9, .int .i64 er), (10, .int .i64 (k : Int)), (11, .str m), (12, .str (many m i)), (13, .int .i64 (i : Int))] = [(0, AV.str s), (7, u), (8, .int .i64 line), (9, .int .i64 er), (10, .int .i64 (k : Int)), (11, .str m), (12, .str (many m i)), (13, .int .i64 (i : Int))] := by simp
  simp only [hcut]
  have hmi := many_len hml (n := i)
  by_cases hik : i < k
  · have hik' : (i : Int) < k := by omega
    have w1 : IntKind.wrap .i64 ((i : Int) + 1) = i + 1 := wrap_i64 (by omega) (by omega)
    have s1 : abin .str .add (.str (many m i)) (.str m) = some (.str (many m (i + 1))) := by rw [abin_addS (by omega), many_snoc]
    have hnext : In4 h1 s m k u line er (k - (i + 1)) ⟨[(0, .str s), (7, u), (8, .int .i64 line), (9, .int .i64 er), (10, .int .i64 (k : Int)), (11, .str m), (12, .str (many m (i + 1))), (13, .int .i64 (i + 1 : Nat))], h1⟩ := ⟨i + 1, rfl, hik, rfl⟩
    simp [c4_l8, c4_r8, c4_r9, c4_r10, hik', s1, w1]
    exact ⟨k - (i + 1), by omega, by simpa using hnext⟩
  · have hik' : ¬ (i : Int) < k := by omega
    obtain rfl : i = k := by omega
    obtain ⟨T, hT⟩ : ∃ T, T = many m i := ⟨_, rfl⟩
    have s1 : abin .str .add (.str T) (.str s) = some (.str (T ++ s)) := abin_addS (by rw [hT]; omega)
    have s2 : abin .str .add (.str (T ++ s)) (.str [10]) = some (.str (T ++ s ++ [10])) := abin_addS (by rw [hT]; simp; omega)
    have s3 : abin .str .add (.str (T ++ s ++ [10])) (.str T) = some (.str (T ++ s ++ [10] ++ T)) := abin_addS (by rw [hT]; simp; omega)
    have s4 : abin .str .add (.str (T ++ s ++ [10] ++ T)) (.str [35]) = some (.str (T ++ s ++ [10] ++ T ++ [35])) := abin_addS (by rw [hT]; simp; omega)
    have hlex := blanks_lex (m := m) (s := s) hmm hk5 (by omega)
    rw [← hT] at hlex
    obtain ⟨u2, h2, e2, O2, o2⟩ := all8 (h := h1) (s := T ++ s ++ [10] ++ T ++ [35])
    obtain ⟨h3, e3⟩ := awake10 (h := h2)
    rcases lexM_err (s := s) (by omega) with ⟨l, hl⟩ | ⟨ln, hl⟩
    · rw [hlex, hl] at e2 O2
      rw [hl] at O1 hline her
      simp only at hline her e2
      subst hline her
      have hcount := lexM_count hl
      have hlines := lexM_lines hl (by omega)
      have T1 := O1.tok.same o2
      have T2 := O2.tok
      have l1 := fun L => T1.len (t := 22) (by simp) (L := L)
      have l2 := fun L => T2.len (t := 22) (by simp) (L := L)
      simp only [List.length_map] at l2
      rw [← hT]
      simp only [List.append_assoc, List.cons_append, List.nil_append] at s2 s3 s4 e2
      simp [-AV.cells, -AV.one, -AV.notTup, c4_l8, c4_r8, c4_r11, c4_r12, c4_r14, c4_r16, hik', s1, s2, s3, s4, e2, extractV, len1, l1, l2, pickV]
      refine Wt.loop (In4b h2 i u u2 l.length) (m := l.length) ⟨0, rfl, Nat.zero_le _, rfl⟩ ?_
      rintro n st ⟨j, rfl, hj, rfl⟩
      have hcut : cut (some [7, 10, 14, 17]) [(7, u), (10, AV.int .i64 (i : Int)), (14, u2), (17, .int .i64 (j : Int))] = [(7, u), (10, AV.int .i64 (i : Int)), (14, u2), (17, .int .i64 (j : Int))] := by simp
      simp only [hcut]
      by_cases hjl : j < l.length
      · have hjl' : (j : Int) < l.length := by omega
        obtain ⟨B, o, g, t0, t1, t2, t3, t4⟩ := T1.at (t := 22) (by simp) (by simp) (i := j) hjl
        obtain ⟨B', o', g', r0, r1, r2, r3, r4⟩ := T2.at (t := 22) (by simp) (by simp) (i := j) (by simpa using hjl)
        simp only [List.getElem_map, shT] at r1 r2 r3 r4
        have hln := hlines l[j] (List.getElem_mem hjl)
        have w1 : IntKind.wrap .i64 ((j : Int) + 1) = j + 1 := wrap_i64 (by omega) (by omega)
        have w2 : IntKind.wrap .i64 (l[j].line + (i : Int)) = l[j].line + i := wrap_i64 (by omega) (by omega)
        have hnext : In4b h2 i u u2 l.length (l.length - (j + 1)) ⟨[(7, u), (10, .int .i64 (i : Int)), (14, u2), (17, .int .i64 (j + 1 : Nat))], h2⟩ := ⟨j + 1, rfl, hjl, rfl⟩
        simp [-AV.cells, -AV.one, -AV.notTup, c4_l17, c4_r17, c4_r18, c4_r19, len1, l1, hjl', t0, t1, t2, t3, t4, r0, r1, r2, r3, r4, pickV, fieldA, w1, w2]
        exact ⟨l.length - (j + 1), by omega, by simpa using hnext⟩
      · have hjl' : ¬ (j : Int) < l.length := by omega
        simp [-AV.cells, -AV.one, -AV.notTup, c4_l17, c4_r17, c4_r21, len1, l1, hjl', e3, tup_bool]
    · rw [hlex, hl] at e2 O2
      rw [hl] at O1 hline her
      simp only at hline her e2
      subst hline her
      have hf := lexM_fall hl
      have w1 : IntKind.wrap .i64 (line + (i : Int)) = line + i := wrap_i64 (by omega) (by omega)
      have l2 : ∀ L, alen Tryd.prog L 22 u2 = some (.int .i64 0) := fun L => by
        have := O2.toks.len (t := 22) (by simp) (L := L)
        simpa using this
      rw [← hT]
      simp only [List.append_assoc, List.cons_append, List.nil_append] at s2 s3 s4 e2
      simp [-AV.cells, -AV.one, -AV.notTup, c4_l8, c4_r8, c4_r11, c4_r12, c4_r13, hik', s1, s2, s3, s4, e2, extractV, len1, l2, pickV, w1, e3, tup_bool]

end Go.AM
