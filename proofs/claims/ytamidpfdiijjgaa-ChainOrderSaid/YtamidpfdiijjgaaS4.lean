/-
  What follows one of places; where each content ends.
-/
import Derived.Test.YtamidpfdiijjgaaS3
namespace Go.AM
open Go Go.Proofs
set_option linter.unusedVariables false
set_option linter.unusedSimpArgs false
set_option maxRecDepth 100000

/-- A content that lies in a block: its fields. -/
theorem contLoads {h : Heap} {b : Nat} {c : Cont} {g : Bool} (hb : h[b]? = some (.cells (contCell c) 52 g)) :
    aload Try.prog (look h) 9 (.ptr (some ⟨b, 0, 8⟩)) = some (.str c.bytes) ∧ aload Try.prog (look h) 4 (.ptr (some ⟨b, 1, 8⟩)) = some (.bool c.nocase) ∧ aload Try.prog (look h) 4 (.ptr (some ⟨b, 2, 8⟩)) = some (.bool c.not) ∧
    aload Try.prog (look h) 3 (.ptr (some ⟨b, 3, 8⟩)) = some (.int .i64 c.offset) ∧ aload Try.prog (look h) 3 (.ptr (some ⟨b, 4, 8⟩)) = some (.int .i64 c.depth) ∧ aload Try.prog (look h) 4 (.ptr (some ⟨b, 5, 8⟩)) = some (.bool c.rel) ∧
    aload Try.prog (look h) 3 (.ptr (some ⟨b, 6, 8⟩)) = some (.int .i64 c.distance) ∧ aload Try.prog (look h) 3 (.ptr (some ⟨b, 7, 8⟩)) = some (.int .i64 c.within) ∧ aload Try.prog (look h) 52 (.ptr (some ⟨b, 0, 8⟩)) = some c.av := by
  simp [aload, AM.row, hb]

def behindB (c : Cont) (e : Int) (l : List Int) : Bool := l.any fun p => followsB c p e

def In95 (h₀ : Heap) (v : AV) (c : Cont) (e : Nat) (l : List Int) (m : Nat) (st : St) : Prop := ∃ i : Nat, m = l.length - i ∧ i ≤ l.length ∧ behindB c e (l.take i) = false ∧
  st = ⟨[(1, .int .i64 e), (3, .ptr (some ⟨h₀.length, 0, 8⟩)), (10, v), (11, .int .i64 l.length), (12, .int .i64 i)], h₀ ++ [.cells (contCell c) 52 false]⟩

theorem behind_chain {h : Heap} {c : Cont} (hc : c.small) {e : Nat} {v : AV} {l : List Int} (hv : Sl1 h v (intCells l)) (hl : ∀ p ∈ l, 0 ≤ p ∧ p ≤ 2000000) (he : e ≤ 2000000) (hn : l.length ≤ 9000000) :
    ∃ h', D cfg 95 [c.av, .int .i64 e, v] h = some (.bool (behindB c e l), h') ∧ Only (fun _ => False) h h' := by
  have key : ∃ r h', D cfg 95 [c.av, .int .i64 e, v] h = some (r, h') ∧ (r = .bool (behindB c e l) ∧ Only (fun _ => False) h h') := by
    refine call95 (R := fun r h' => r = .bool (behindB c e l) ∧ Only (fun _ => False) h h') (args := [c.av, .int .i64 e, v]) (h := h) (by simp) ?_
    have hcd := hc.di
    have hcw := hc.w
    have hcb := hc.b
    have ho : Only (fun _ => False) h (h ++ [.cells (contCell c) 52 false]) := .app
    have cl := contLoads (h := h ++ [.cells (contCell c) 52 false]) (b := h.length) (c := c) (g := false) (by simp)
    have hlen := fun L => hv.len (t := 30) (e := 3) (by simp) (L := L)
    simp only [intCells_len] at hlen
    simp [c95, c95_r0, c95_r1, len1, hlen]
    refine Wt.loop (In95 h v c e l) (m := l.length) ⟨0, rfl, Nat.zero_le _, rfl, rfl⟩ ?_
    rintro m st ⟨i, rfl, hi, hno, rfl⟩
    have hcut : cut (some [1, 3, 10, 11, 12]) [(1, .int .i64 (e : Int)), (3, .ptr (some ⟨h.length, 0, 8⟩)), (10, v), (11, .int .i64 (l.length : Int)), (12, .int .i64 (i : Nat))] = [(1, .int .i64 (e : Int)), (3, .ptr (some ⟨h.length, 0, 8⟩)), (10, v), (11, .int .i64 (l.length : Int)), (12, .int .i64 (i : Nat))] := by simp
    simp only [hcut]
    by_cases hil : i < l.length
    · have hp := hl l[i] (List.getElem_mem hil)
      have a1 := hv.at (t := 30) (e := 3) (by simp) (by simp) (i := i) (by rw [intCells_len]; exact hil)
      have b1 := (hv.same ho).load (e := 3) (by simp) (i := i) (by rw [intCells_len]; exact hil)
      rw [intCells_get] at b1
      have hwr : IntKind.wrap .i64 ((i : Int) + 1) = i + 1 := wrap_i64 (by omega) (by omega)
      have hw1 : IntKind.wrap .i64 (l[i] + c.distance) = l[i] + c.distance := wrap_i64 (by omega) (by omega)
      have hw2 : IntKind.wrap .i64 ((e : Int) - c.bytes.length) = (e : Int) - c.bytes.length := wrap_i64 (by omega) (by omega)
      have hw3 : IntKind.wrap .i64 (l[i] + c.distance + c.within) = l[i] + c.distance + c.within := wrap_i64 (by omega) (by omega)
      have hstep : behindB c e (l.take (i + 1)) = followsB c l[i] e := by
        simp only [behindB] at hno ⊢
        rw [List.take_succ_eq_append_getElem hil, List.any_append, hno]
        simp
      have hnext : followsB c l[i] e = false → In95 h v c e l (l.length - (i + 1)) ⟨[(1, .int .i64 e), (3, .ptr (some ⟨h.length, 0, 8⟩)), (10, v), (11, .int .i64 l.length), (12, .int .i64 (i + 1 : Nat))], h ++ [.cells (contCell c) 52 false]⟩ :=
        fun hf => ⟨i + 1, rfl, hil, by rw [hstep, hf], rfl⟩
      have hyes : followsB c l[i] e = true → behindB c e l = true := fun hf => by
        simp only [behindB, List.any_eq_true]
        exact ⟨l[i], List.getElem_mem hil, hf⟩
      have fin : ∀ x, followsB c l[i] e = x → x = false → (∃ m', m' < l.length - i ∧ In95 h v c e l m' ⟨[(1, .int .i64 e), (3, .ptr (some ⟨h.length, 0, 8⟩)), (10, v), (11, .int .i64 l.length), (12, .int .i64 (i + 1 : Nat))], h ++ [.cells (contCell c) 52 false]⟩) :=
        fun x hx hf => ⟨l.length - (i + 1), by omega, hnext (hx.trans hf)⟩
      by_cases h1 : l[i] ≤ e
      · by_cases h2 : l[i] + c.distance ≤ e - c.bytes.length
        · by_cases h3 : c.within ≤ 0
          · have hf : followsB c l[i] e = true := by simp [followsB, h1, h2, h3]
            simp [c95_l2, c95_r2, c95_r3, c95_r4, c95_r5, c95_r6, hil, a1, b1, fieldA, cl, len1, alenS, hw1, hw2, hw3, h1, h2, h3, hyes hf]
            exact ho
          · by_cases h4 : (e : Int) ≤ l[i] + c.distance + c.within
            · have hf : followsB c l[i] e = true := by simp [followsB, h1, h2, h3, h4]
              simp [c95_l2, c95_r2, c95_r3, c95_r4, c95_r5, c95_r6, hil, a1, b1, fieldA, cl, len1, alenS, hw1, hw2, hw3, h1, h2, h3, h4, hyes hf]
              exact ho
            · have hf : followsB c l[i] e = false := by simp [followsB, h1, h2, h3, h4]
              simp [c95_l2, c95_r2, c95_r3, c95_r4, c95_r5, c95_r6, c95_r7, hil, a1, b1, fieldA, cl, len1, alenS, hw1, hw2, hw3, h1, h2, h3, h4, hwr]
              simpa using fin _ rfl hf
        · have hf : followsB c l[i] e = false := by simp [followsB, h1, h2]
          simp [c95_l2, c95_r2, c95_r3, c95_r4, c95_r5, c95_r6, c95_r7, hil, a1, b1, fieldA, cl, len1, alenS, hw1, hw2, hw3, h1, h2, hwr]
          simpa using fin _ rfl hf
      · have hf : followsB c l[i] e = false := by simp [followsB, h1]
        simp [c95_l2, c95_r2, c95_r3, c95_r4, c95_r5, c95_r6, c95_r7, hil, a1, b1, fieldA, cl, len1, alenS, hw1, hw2, hw3, h1, hwr]
        simpa using fin _ rfl hf
    · have : i = l.length := by omega
      subst this
      rw [List.take_length] at hno
      simp [c95_l2, c95_r2, c95_r8, hno]
      exact ho
  obtain ⟨r, h', h1, rfl, h2⟩ := key
  exact ⟨h', h1, h2⟩

end Go.AM
