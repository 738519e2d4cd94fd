/-
  The document's lexer: one token (14).
-/
import Derived.Test.YtamidpfdiijjgaaDoorR2
namespace Go.AM
open Go Go.Proofs
set_option linter.unusedVariables false
set_option linter.unusedSimpArgs false
set_option maxRecDepth 100000

/-- What 14 says. -/
def ResO (s : Txt) (line : Int) (l : List Tok) (o : Option LS) (v : AV) : Prop := ∃ k w n y ok, v = .tup [.agg [.int .i64 k, .str w, .int .i64 n, .int .i64 0], .int .i64 y, .bool ok] ∧
  match o with
  | some t => ok = true ∧ ∃ j : Nat, y = j ∧ j ≤ s.length ∧ t = ⟨s.drop j, line, l ++ [⟨k, w, n, line⟩]⟩
  | none => ok = false

theorem result_cell {s : St} {a : Nat} {t : TypeId} {rs : List ResultVar} : aresultL Tryd.prog s (.cell a t :: rs) = bindO (s.ρ.get a) fun p => bindO (aload Tryd.prog (look s.h) t p) fun v => bindO (aresultL Tryd.prog s rs) fun vs => some (v :: vs) := by
  simp only [aresultL, aresult]
  cases s.ρ.get a with
  | none => rfl
  | some p =>
    simp only [bindO]
    show (match aload Tryd.prog (look s.h) t p, aresultL Tryd.prog s rs with | some v, some vs => some (v :: vs) | _, _ => none) = _
    cases aload Tryd.prog (look s.h) t p <;> cases aresultL Tryd.prog s rs <;> rfl

section
variable {s : Txt} {i : Nat} {h : Heap} {line : Int} {l : List Tok}

theorem wordW_le {t : Txt} : (wordW t).length ≤ t.length := by
  unfold wordW
  split
  · exact tw_le
  · simp

theorem wordM_eq {k : Int} : wordM k ⟨s.drop i, line, l⟩ = if wordT (wordW (s.drop i)) = [] then none else some ⟨s.drop (i + (wordW (s.drop i)).length), line, l ++ [⟨k, wordT (wordW (s.drop i)), 0, line⟩]⟩ := by
  unfold wordM
  by_cases hf : fstL (s.drop i) = true
  · have hW : wordW (s.drop i) = (s.drop i).takeWhile bE := by rw [wordW, if_pos hf]
    have hne : (s.drop i).takeWhile bE ≠ [] := by
      cases hs : s.drop i with
      | nil => rw [hs] at hf; simp [fstL] at hf
      | cons c r =>
        have hE : bE c = true := by
          rw [hs] at hf
          simp only [fstL] at hf
          simp [bE, isE, bL] at hf ⊢
          exact .inl hf
        rw [List.takeWhile_cons, if_pos hE]
        simp
    rw [if_pos hf, hW]
    by_cases h20 : ((s.drop i).takeWhile bE).length ≤ 20
    · have hT : wordT ((s.drop i).takeWhile bE) = lowA ((s.drop i).takeWhile bE) := by rw [wordT, if_pos h20]
      have hl : lowA ((s.drop i).takeWhile bE) ≠ [] := fun e => hne (List.length_eq_zero_iff.1 (by rw [← lowA_len, e]; rfl))
      rw [if_pos h20, hT, if_neg hl]
      simp
    · have hT : wordT ((s.drop i).takeWhile bE) = [] := by rw [wordT, if_neg h20]
      rw [if_neg h20, hT, if_pos rfl]
  · have hW : wordW (s.drop i) = [] := by rw [wordW, if_neg hf]
    rw [if_neg hf, hW]
    rfl

theorem numM_eq : numM ⟨s.drop i, line, l⟩ = if (decide (numR ((s.drop i).takeWhile bD) 0 ≤ 999999999999) && !fstL (s.drop (i + ((s.drop i).takeWhile bD).length))) = true
    then some ⟨s.drop (i + ((s.drop i).takeWhile bD).length), line, l ++ [⟨2, [], numR ((s.drop i).takeWhile bD) 0, line⟩]⟩ else none := by
  have h1 := numR_min (w := (s.drop i).takeWhile bD) (n := 0) (fun c hc => tw_all hc) (by omega)
  have h2 : min (0 : Int) 1000000000000 = 0 := by omega
  rw [h2] at h1
  obtain ⟨V, hV⟩ : ∃ V, V = numR ((s.drop i).takeWhile bD) 0 := ⟨_, rfl⟩
  rw [← hV] at h1 ⊢
  unfold numM
  simp only [h1.2, List.drop_drop]
  by_cases hm : V ≤ 999999999999
  · have e1 : min V 1000000000000 = V := by omega
    rw [e1]
    by_cases hf : fstL (s.drop (i + ((s.drop i).takeWhile bD).length)) = true <;> simp [hm, hf]
  · have e1 : ¬ min V 1000000000000 ≤ 999999999999 := by omega
    simp [hm, e1]

theorem strM_eq {t : Txt} : strM ⟨t, line, l⟩ = strOf line l (bytesM (t.length + 1) t []) := rfl

theorem begins_len {t p : Txt} (h : begins t p = true) : p.length ≤ t.length := (begins_take h).2

theorem signM_eq {c : UInt8} {r : Txt} : signM ⟨c :: r, line, l⟩ = if signW (c :: r) = [] then none else some ⟨(c :: r).drop (signW (c :: r)).length, line, l ++ [⟨4, signW (c :: r), 0, line⟩]⟩ := by
  unfold signM signW
  split
  · rfl
  · split
    · rfl
    · split
      · rfl
      · rfl

theorem signW_le {t : Txt} : (signW t).length ≤ t.length := by
  unfold signW
  split
  · rename_i h; exact begins_len h
  · split
    · rename_i h; exact begins_len h
    · split
      · simp; omega
      · simp

theorem one14 {c : UInt8} (hi : i < s.length) (hc : s[i]? = some c) (hs : s.length ≤ 10000) (hB : isB c.toNat = false) (h10 : c.toNat ≠ 10) (h35 : c.toNat ≠ 35) :
    ∃ v h', D cfg 14 [.str s, .int .i64 i] h = some (v, h') ∧ ResO s line l (nextM ⟨s.drop i, line, l⟩) v ∧ Only (fun _ => False) h h' := by
  obtain ⟨o, ho⟩ : ∃ o, o = nextM ⟨s.drop i, line, l⟩ := ⟨_, rfl⟩
  rw [← ho]
  refine call14 (R := fun v h' => ResO s line l o v ∧ Only (fun _ => False) h h') (args := [.str s, .int .i64 i]) (h := h) (by simp) ?_
  have hd : s.drop i = c :: s.drop (i + 1) := by
    obtain ⟨c', q1, q2⟩ := dropC hi
    rw [hc] at q1
    cases q1
    exact q2
  rw [hd, nextM_cons, hB, if_neg (by simp), if_neg h10, if_neg h35] at ho
  obtain ⟨h0, hh0⟩ : ∃ h0, h ++ [AObj.cells [.int .i64 0, .str [], .int .i64 0, .int .i64 0] 31 false] = h0 := ⟨_, rfl⟩
  have hb0 : h0[h.length]? = some (.cells [.int .i64 0, .str [], .int .i64 0, .int .i64 0] 31 false) := by rw [← hh0]; simp
  have hs0 : ∀ o, (h0.set h.length o)[h.length]? = some o := fun o => at_same (lt_of_at hb0)
  have o0 : Nw h.length h h0 := by rw [← hh0]; exact .app
  have done : ∀ {h2 : Heap} {o2 : AObj}, Only (fun _ => False) h0 h2 → Only (fun _ => False) h (h2.set h.length o2) := fun o1 => Nw.only ((o0.trans o1.nw).trans (.set (Nat.le_refl _)))
  have eL := fun h => let27 (s := s) (i := i) (h := h)
  have eD := fun h => dig29 (s := s) (i := i) (h := h)
  have w1 : IntKind.wrap .i64 ((i : Int) + 1) = i + 1 := wrap_i64 (by omega) (by omega)
  have hl1 : fstL (s.drop i) = bL c := by rw [hd]; rfl
  have hd1 : fstD (s.drop i) = bD c := by rw [hd]; rfl
  rw [hl1] at eL
  rw [hd1] at eD
  by_cases hL : bL c = true
  · rw [if_pos hL, ← hd, wordM_eq] at ho
    obtain ⟨h2, e2, o2⟩ := word28 (s := s) (i := i) (h := h0) (by omega) hs
    have hwl := wordW_le (t := s.drop i)
    rw [List.length_drop] at hwl
    obtain ⟨W, hW⟩ : ∃ W, W = wordW (s.drop i) := ⟨_, rfl⟩
    rw [← hW] at ho e2 hwl
    have hb2 := o2.at hb0 id
    have hs2 : ∀ o, (h2.set h.length o)[h.length]? = some o := fun o => at_same (lt_of_at hb2)
    by_cases hT : wordT W = []
    · rw [if_pos hT] at ho
      simp [c14, c14_r0, c14_r1, c14_r2, c14_r3, hh0, eL, hL, e2, hT, extractV, abuild, afill, splice, astore, look_at, hb2, hs2, result_cell, aload, row]
      exact ⟨⟨_, _, _, _, _, rfl, by rw [ho]⟩, done o2⟩
    · rw [if_neg hT] at ho
      simp [c14, c14_r0, c14_r1, c14_r2, c14_r3, hh0, eL, hL, e2, hT, extractV, abuild, afill, splice, astore, look_at, hb2, hs2, result_cell, aload, row]
      exact ⟨⟨_, _, _, _, _, rfl, by rw [ho]; exact ⟨rfl, i + W.length, rfl, by omega, rfl⟩⟩, done o2⟩
  · rw [if_neg hL] at ho
    have hL' : bL c = false := by simpa using hL
    by_cases hD : bD c = true
    · rw [if_pos hD, ← hd, numM_eq] at ho
      have e2 := num30 (s := s) (i := i) (h := h0) (by omega) hs
      have hwl := tw_le (q := bD) (s := s.drop i)
      rw [List.length_drop] at hwl
      obtain ⟨g, hg⟩ : ∃ g, g = (decide (numR ((s.drop i).takeWhile bD) 0 ≤ 999999999999) && !fstL (s.drop (i + ((s.drop i).takeWhile bD).length))) := ⟨_, rfl⟩
      rw [← hg] at ho e2
      obtain ⟨V, hV⟩ : ∃ V, V = numR ((s.drop i).takeWhile bD) 0 := ⟨_, rfl⟩
      obtain ⟨J, hJ⟩ : ∃ J, J = i + ((s.drop i).takeWhile bD).length := ⟨_, rfl⟩
      rw [← hV, ← hJ] at ho e2
      simp [c14, c14_r0, c14_r1, c14_r4, c14_r5, c14_r6, hh0, eL, hL', eD, hD, e2, extractV, abuild, afill, splice, astore, look_at, hb0, hs0, result_cell, aload, row]
      refine ⟨⟨2, [], V, J, g, rfl, ?_⟩, done .refl⟩
      rw [ho]
      cases g with
      | true => exact ⟨rfl, J, rfl, by omega, rfl⟩
      | false => rfl
    · rw [if_neg hD] at ho
      have hD' : bD c = false := by simpa using hD
      obtain ⟨r, hr⟩ : ∃ r, r = (c.toNat : Int) := ⟨_, rfl⟩
      have hidx : aindex Tryd.prog 9 (.str s) (.int .i64 i) = some (.int .u8 r) := by simp [aindex, hc, hr]
      by_cases h36 : c.toNat = 36
      · have r36 : r = 36 := by omega
        subst r36
        rw [if_pos h36, wordM_eq] at ho
        obtain ⟨h2, e2, o2⟩ := word28 (s := s) (i := i + 1) (h := h0) hi hs
        have hwl := wordW_le (t := s.drop (i + 1))
        rw [List.length_drop] at hwl
        obtain ⟨W, hW⟩ : ∃ W, W = wordW (s.drop (i + 1)) := ⟨_, rfl⟩
        rw [← hW] at ho e2 hwl
        have e2' : D cfg 28 [.str s, .int .i64 ((i : Int) + 1)] h0 = some (.tup [.str (wordT W), .int .i64 ((i + 1 + W.length : Nat) : Int)], h2) := by simpa using e2
        have hb2 := o2.at hb0 id
        have hs2 : ∀ o, (h2.set h.length o)[h.length]? = some o := fun o => at_same (lt_of_at hb2)
        by_cases hT : wordT W = []
        · rw [if_pos hT] at ho
          simp [c14, c14_r0, c14_r1, c14_r4, c14_r7, c14_r8, c14_r9, hh0, eL, hL', eD, hD', hidx, w1, e2', hT, extractV, abuild, afill, splice, astore, look_at, hb2, hs2, result_cell, aload, row]
          exact ⟨⟨_, _, _, _, _, rfl, by rw [ho]⟩, done o2⟩
        · rw [if_neg hT] at ho
          simp [c14, c14_r0, c14_r1, c14_r4, c14_r7, c14_r8, c14_r9, hh0, eL, hL', eD, hD', hidx, w1, e2', hT, extractV, abuild, afill, splice, astore, look_at, hb2, hs2, result_cell, aload, row]
          exact ⟨⟨_, _, _, _, _, rfl, by rw [ho]; exact ⟨rfl, i + 1 + W.length, rfl, by omega, rfl⟩⟩, done o2⟩
      · rw [if_neg h36] at ho
        have q36 : ¬ r = 36 := by omega
        by_cases h34 : c.toNat = 34
        · have r34 : r = 34 := by omega
          subst r34
          rw [if_pos h34, strM_eq] at ho
          obtain ⟨v, h2, e2, R2, o2⟩ := bytes31 (s := s) (i := i + 1) (h := h0) hi hs
          have e2' : D cfg 31 [.str s, .int .i64 ((i : Int) + 1)] h0 = some (v, h2) := by simpa using e2
          have hb2 := o2.at hb0 id
          have hs2 : ∀ o, (h2.set h.length o)[h.length]? = some o := fun o => at_same (lt_of_at hb2)
          cases hp : bytesM ((s.drop (i + 1)).length + 1) (s.drop (i + 1)) [] with
          | none =>
            rw [hp] at ho R2
            obtain ⟨x, y, rfl⟩ := R2
            simp [c14, c14_r0, c14_r1, c14_r4, c14_r7, c14_r10, c14_r11, c14_r12, hh0, eL, hL', eD, hD', hidx, w1, e2', extractV, abuild, afill, splice, astore, look_at, hb2, hs2, result_cell, aload, row]
            exact ⟨⟨_, _, _, _, _, rfl, by rw [ho]; rfl⟩, done o2⟩
          | some x =>
            obtain ⟨r', b'⟩ := x
            rw [hp] at ho R2
            obtain ⟨j, hj, rfl, rfl⟩ := R2
            simp [c14, c14_r0, c14_r1, c14_r4, c14_r7, c14_r10, c14_r11, c14_r12, hh0, eL, hL', eD, hD', hidx, w1, e2', extractV, abuild, afill, splice, astore, look_at, hb2, hs2, result_cell, aload, row]
            exact ⟨⟨_, _, _, _, _, rfl, by rw [ho]; exact ⟨rfl, j, rfl, hj, rfl⟩⟩, done o2⟩
        · rw [if_neg h34] at ho
          have q34 : ¬ r = 34 := by omega
          rw [signM_eq, ← hd] at ho
          have e2 := sign32 (s := s) (i := i) (h := h0) hi hs
          have hwl := signW_le (t := s.drop i)
          rw [List.length_drop] at hwl
          obtain ⟨W, hW⟩ : ∃ W, W = signW (s.drop i) := ⟨_, rfl⟩
          rw [← hW] at ho e2 hwl
          have w2 : IntKind.wrap .i64 ((i : Int) + (W.length : Int)) = i + W.length := wrap_i64 (by omega) (by omega)
          by_cases hT : W = []
          · rw [if_pos hT] at ho
            simp [c14, c14_r0, c14_r1, c14_r4, c14_r7, c14_r10, c14_r13, c14_r14, hh0, eL, hL', eD, hD', hidx, q36, q34, w1, w2, e2, hT, len1, alen, extractV, abuild, afill, splice, astore, look_at, hb0, hs0, result_cell, aload, row]
            exact ⟨⟨_, _, _, _, _, rfl, by rw [ho]⟩, done .refl⟩
          · rw [if_neg hT] at ho
            simp [c14, c14_r0, c14_r1, c14_r4, c14_r7, c14_r10, c14_r13, c14_r14, hh0, eL, hL', eD, hD', hidx, q36, q34, w1, w2, e2, hT, len1, alen, extractV, abuild, afill, splice, astore, look_at, hb0, hs0, result_cell, aload, row]
            exact ⟨⟨_, _, _, _, _, rfl, by rw [ho]; exact ⟨rfl, i + W.length, by simp, by omega, by simp⟩⟩, done .refl⟩
end

end Go.AM
