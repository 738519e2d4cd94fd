/-
  The law LexAll: the run.
-/
import Derived.Test.YtamidpfdiijjgaaDoorR4
import Derived.Test.YtamidpfdiijjgaaDoorL3
namespace Go.AM
open Go Go.Proofs
set_option linter.unusedVariables false
set_option linter.unusedSimpArgs false
set_option maxRecDepth 100000

theorem allM_len : ∀ {n : Nat} {t : LS} {l : List Tok} {x : Int}, allM n t = (some l, x) → l.length ≤ t.l.length + t.s.length
  | 0, t, l, x, h => by simp [allM] at h
  | n + 1, t, l, x, h => by
    unfold allM at h
    split at h
    · simp at h; rw [h.1]; omega
    · cases hn : nextM t with
      | none => rw [hn] at h; simp at h
      | some t' =>
        rw [hn] at h
        have g := nextM_goes hn
        have h1 := allM_len h
        have := g.s; have := g.l
        omega

theorem lexM_len {s : Txt} : ((lexM s).1.getD []).length ≤ 8192 := by
  unfold lexM
  split
  · simp
  · obtain ⟨r, hr⟩ : ∃ r, r = allM (s.length + 1) ⟨s, 1, []⟩ := ⟨_, rfl⟩
    rw [← hr]
    match r, hr with
    | (none, x), _ => simp [lexOf]
    | (some l, x), hr =>
      have := allM_len hr.symm
      simp [lexOf] at this ⊢
      omega

def In3 (h : Heap) (v1 v2 : AV) (n : Nat) (m : Nat) (st : St) : Prop := ∃ i : Nat, m = n - i ∧ i ≤ n ∧ st = ⟨[(3, v1), (6, v2), (9, .int .i64 i)], h⟩

theorem lex_walk {s : Txt} : Wt Tryd.prog (D cfg) c3 ⟨argsEnv 0 [.str s], []⟩ (Ends Tryd.prog [.tmp 2] fun r _ => r = .bool true) := by
  obtain ⟨v1, h1, e1, O1, o1⟩ := all8 (h := []) (s := s)
  obtain ⟨v2, h2, e2, O2, o2⟩ := all9 (h := h1) (s := s)
  have T1 := (O1.toks).same o2
  have T2 := O2.toks
  obtain ⟨l, hl⟩ : ∃ l, l = (lexM s).1.getD [] := ⟨_, rfl⟩
  obtain ⟨x, hx⟩ : ∃ x, x = (lexM s).2.1 := ⟨_, rfl⟩
  obtain ⟨y, hy⟩ : ∃ y, y = (lexM s).2.2 := ⟨_, rfl⟩
  rw [← hl] at T1 T2
  have hlen : l.length ≤ 8192 := by rw [hl]; exact lexM_len
  rw [← hx, ← hy] at e1 e2
  have t1 := fun L => T1.len (t := 22) (by simp) (L := L)
  have t2 := fun L => T2.len (t := 26) (by simp) (L := L)
  simp [-AV.cells, -AV.one, -AV.notTup, c3, c3_r0, c3_r1, c3_r2, c3_r3, c3_r5, e1, e2, extractV, len1, t1, t2, pickV]
  refine Wt.loop (In3 h2 v1 v2 l.length) (m := l.length) ⟨0, rfl, Nat.zero_le _, rfl⟩ ?_
  rintro m st ⟨i, rfl, hi, rfl⟩
  have hcut : cut (some [3, 6, 9]) [(3, v1), (6, v2), (9, AV.int .i64 (i : Int))] = [(3, v1), (6, v2), (9, AV.int .i64 (i : Int))] := by simp
  simp only [hcut]
  by_cases hil : i < l.length
  · have hil' : (i : Int) < l.length := by omega
    obtain ⟨B, o, g, a0, a1, a2, a3, a4⟩ := T1.at (t := 22) (by simp) (by simp) hil
    obtain ⟨B', o', g', b0, b1, b2, b3, b4⟩ := T2.at (t := 26) (by simp) (by simp) hil
    have w1 : IntKind.wrap .i64 ((i : Int) + 1) = i + 1 := wrap_i64 (by omega) (by omega)
    obtain ⟨t, ht⟩ : ∃ t, t = l[i] := ⟨_, rfl⟩
    rw [← ht] at a1 a2 a3 a4 b1 b2 b3 b4
    have hnext : In3 h2 v1 v2 l.length (l.length - (i + 1)) ⟨[(3, v1), (6, v2), (9, .int .i64 ((i : Int) + 1))], h2⟩ := ⟨i + 1, rfl, hil, by simp⟩
    simp [-AV.cells, -AV.one, -AV.notTup, c3_l6, c3_r6, c3_r7, c3_r8, len1, t2, hil, a0, a1, a2, a3, a4, b0, b1, b2, b3, b4, fieldA, pickV, w1]
    exact ⟨_, by omega, hnext⟩
  · obtain ⟨h4, e4⟩ := awake10 (h := h2)
    simp [-AV.cells, -AV.one, -AV.notTup, c3_l6, c3_r6, c3_r10, len1, t2, hil, e4, tup_bool]

end Go.AM
