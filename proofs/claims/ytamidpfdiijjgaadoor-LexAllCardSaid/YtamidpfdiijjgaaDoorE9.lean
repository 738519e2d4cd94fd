/-
  Tokens that are read; the laws' example (10).
-/
import Derived.Test.YtamidpfdiijjgaaDoorE8
namespace Go.AM
open Go Go.Proofs
set_option linter.unusedVariables false
set_option linter.unusedSimpArgs false
set_option maxRecDepth 100000

/-- A slice of tokens (elements of type e), as it lies. -/
def TokSl (e : TypeId) (h : Heap) (v : AV) (l : List Tok) : Prop := ∃ B, v = toksSl B l ∧ (l.length ≠ 0 → h[B]? = some (.cells (toksC l) e true))

theorem TokSl.same {e : TypeId} {h h' : Heap} {v : AV} {l : List Tok} (H : TokSl e h v l) (ho : Only (fun _ => False) h h') : TokSl e h' v l := by
  obtain ⟨B, h1, h2⟩ := H
  exact ⟨B, h1, fun hl => ho.at (h2 hl) id⟩

theorem Out8.tok {h h' : Heap} {l : List Tok} {v : AV} (H : Out8 h h' (some l) v) : TokSl 30 h' v l := by
  obtain ⟨B, h1, h2⟩ := H
  exact ⟨B, h1, fun hl => (h2 hl).2⟩
theorem Out8.toks {h h' : Heap} {x : Option (List Tok)} {v : AV} (H : Out8 h h' x v) : TokSl 30 h' v (x.getD []) := by
  cases x with
  | none => exact ⟨0, H, fun hl => (hl rfl).elim⟩
  | some l => exact H.tok

theorem TokSl.len {e : TypeId} {h : Heap} {v : AV} {l : List Tok} (H : TokSl e h v l) {t : TypeId} (ht : tk Tryd.prog t = .slice e) {L : Look} : alen Tryd.prog L t v = some (.int .i64 l.length) := by
  obtain ⟨B, rfl, _⟩ := H
  unfold toksSl bufSl
  by_cases hl : l.length = 0
  · rw [if_pos hl]; simp [alen, ht, hl]
  · rw [if_neg hl]; simp [alen, ht]

theorem toksC_at : ∀ {l : List Tok} {i : Nat} (h : i < l.length), (toksC l)[i * 4]? = some (.int .i64 l[i].kind) ∧ (toksC l)[i * 4 + 1]? = some (.str l[i].s) ∧ (toksC l)[i * 4 + 2]? = some (.int .i64 l[i].n) ∧ (toksC l)[i * 4 + 3]? = some (.int .i64 l[i].line)
  | [], i, h => by simp at h
  | t :: l, 0, h => ⟨rfl, rfl, rfl, rfl⟩
  | t :: l, i + 1, h => by
    have ih := toksC_at (l := l) (i := i) (by simpa using h)
    have e : toksC (t :: l) = tokC t ++ toksC l := rfl
    have hl : (tokC t).length = 4 := rfl
    have shift : ∀ k, (toksC (t :: l))[(i + 1) * 4 + k]? = (toksC l)[i * 4 + k]? := fun k => by
      rw [e, List.getElem?_append_right (by omega), hl]
      congr 1
      omega
    refine ⟨?_, ?_, ?_, ?_⟩
    · have := shift 0; simp only [Nat.add_zero] at this; rw [this]; exact ih.1
    · rw [shift 1]; exact ih.2.1
    · rw [shift 2]; exact ih.2.2.1
    · rw [shift 3]; exact ih.2.2.2

theorem TokSl.at {e : TypeId} {h : Heap} {v : AV} {l : List Tok} (H : TokSl e h v l) {t : TypeId} (ht : tk Tryd.prog t = .slice e) (he : tsz Tryd.prog e = 4) {i : Nat} (hi : i < l.length) :
    ∃ B o g, aindexAddr Tryd.prog t v (.int .i64 i) = some (.ptr (some ⟨B, o, g⟩)) ∧ aload Tryd.prog (look h) 3 (.ptr (some ⟨B, o, g⟩)) = some (.int .i64 l[i].kind) ∧ aload Tryd.prog (look h) 9 (.ptr (some ⟨B, o + 1, g⟩)) = some (.str l[i].s) ∧
      aload Tryd.prog (look h) 3 (.ptr (some ⟨B, o + 2, g⟩)) = some (.int .i64 l[i].n) ∧ aload Tryd.prog (look h) 3 (.ptr (some ⟨B, o + 3, g⟩)) = some (.int .i64 l[i].line) := by
  obtain ⟨B, rfl, h2⟩ := H
  have hl : l.length ≠ 0 := by omega
  obtain ⟨q0, q1, q2, q3⟩ := toksC_at hi
  have hB := h2 hl
  have hi' : (i : Int) < l.length := by omega
  refine ⟨B, i * 4, (toksC l).length, ?_, ?_, ?_, ?_, ?_⟩
  · unfold toksSl bufSl
    rw [if_neg hl]
    simp [aindexAddr, ht, he, hi']
  · simp [aload, row, look_at, hB, q0]
  · simp [aload, row, look_at, hB, q1]
  · simp [aload, row, look_at, hB, q2]
  · simp [aload, row, look_at, hB, q3]

theorem TokSl.notTup {e : TypeId} {h : Heap} {v : AV} {l : List Tok} (H : TokSl e h v l) : v.notTup = true := by
  obtain ⟨B, rfl, _⟩ := H
  exact toksSl_tup

theorem awakeM : lexM [34, 97, 124, 48, 100, 32, 48, 65, 124, 98, 34] = (some [⟨3, [97, 13, 10, 98], 0, 1⟩], 0, 0) := by
  rfl

theorem awake10 {h : Heap} : ∃ h', D cfg 10 [] h = some (.bool true, h') := by
  have key : ∃ r h', D cfg 10 [] h = some (r, h') ∧ r = .bool true := by
    refine call10 (R := fun r h' => r = .bool true) (args := []) (h := h) (by simp) ?_
    obtain ⟨v, h1, e1, O1, o1⟩ := all8 (h := h) (s := [34, 97, 124, 48, 100, 32, 48, 65, 124, 98, 34])
    rw [awakeM] at e1 O1
    have T := O1.tok
    have hlen := fun L => T.len (t := 22) (by simp) (L := L)
    obtain ⟨B, o, g, a0, a1, a2, _, _⟩ := T.at (t := 22) (by simp) (by simp) (i := 0) (by simp)
    simp at hlen a0 a1 a2 e1
    simp [c10, c10_r0, c10_r1, c10_r2, e1, extractV, len1, hlen, a0, a1, a2, fieldA, pickV]
  obtain ⟨r, h', h1, rfl⟩ := key
  exact ⟨h', h1⟩

end Go.AM
