/-
  The chain's small functions, and the document's.
-/
import Derived.Test.YtamidpfdiijjgaaS2
namespace Go.AM
open Go Go.Proofs
set_option linter.unusedVariables false
set_option linter.unusedSimpArgs false
set_option maxRecDepth 100000

theorem patAt_fold {p s : Txt} {e : Nat} : patAt p true s e = (decide (p.length ≤ e) && decide (e ≤ s.length) && decide (((fold s).drop (e - p.length)).take p.length = fold p)) := by
  rw [fold_drop, fold_take]
  simp only [patAt, Bool.true_and]
  by_cases h : List.take p.length (List.drop (e - p.length) s) = p
  · simp [h]
  · simp [h]

theorem patAt_plain {p s : Txt} {e : Nat} : patAt p false s e = (decide (p.length ≤ e) && decide (e ≤ s.length) && decide ((s.drop (e - p.length)).take p.length = p)) := by
  simp [patAt]

/-- 'ends' of the document. -/
theorem ends_ref {h : Heap} {c : Cont} (hc : c.small) {s : Txt} {e : Nat} (hs : s.length ≤ 1000000) (he : e ≤ 2000000) : ∃ h', D cfg 96 [c.av, .str s, .int .i64 e] h = some (.bool (endsAt c s e), h') ∧ Only (fun _ => False) h h' := by
  have key : ∃ r h', D cfg 96 [c.av, .str s, .int .i64 e] h = some (r, h') ∧ (r = .bool (endsAt c s e) ∧ Only (fun _ => False) h h') := by
    refine call96 (R := fun r h' => r = .bool (endsAt c s e) ∧ Only (fun _ => False) h h') (args := [c.av, .str s, .int .i64 e]) (h := h) (by simp) ?_
    obtain ⟨h2, e2, o2⟩ := at_ref (h := h ++ [.cells (contCell c) 52 false]) (p := c.bytes) (nc := c.nocase) (s := s) (e := e) hc.b hs
    have ho : Only (fun _ => False) h h2 := Only.app.trans o2
    have hb : h2[h.length]? = some (.cells (contCell c) 52 false) := o2.at (by simp) id
    have hcd := hc.d
    have hco := hc.o
    have hcb := hc.b
    cases hpat : patAt c.bytes c.nocase s e with
    | false =>
      rw [hpat] at e2
      simp [c96, c96_r0, c96_r1, c96_r2, fieldA, aload, AM.row, e2, endsAt, hpat]
      exact ho
    | true =>
      rw [hpat] at e2
      have hw1 : IntKind.wrap .i64 ((e : Int) - c.bytes.length) = (e : Int) - c.bytes.length := wrap_i64 (by omega) (by omega)
      have hw2 : IntKind.wrap .i64 ((e : Int) - c.offset) = (e : Int) - c.offset := wrap_i64 (by omega) (by omega)
      have hd1 : ((e : Int) - c.offset ≤ c.depth) = ((e : Int) ≤ c.offset + c.depth) := by apply propext; constructor <;> intro h <;> omega
      cases hr : c.rel with
      | true =>
        simp [c96, c96_r0, c96_r1, c96_r2, c96_r3, fieldA, aload, AM.row, e2, endsAt, hpat, hb, placed, hr]
        exact ho
      | false =>
        by_cases h3 : c.offset ≤ (e : Int) - c.bytes.length
        · by_cases h4 : c.depth ≤ 0
          · simp [c96, c96_r0, c96_r1, c96_r2, c96_r3, fieldA, aload, AM.row, e2, endsAt, hpat, hb, placed, hr, len1, alenS, hw1, hw2, h3, h4]
            exact ho
          · simp [c96, c96_r0, c96_r1, c96_r2, c96_r3, fieldA, aload, AM.row, e2, endsAt, hpat, hb, placed, hr, len1, alenS, hw1, hw2, h3, h4, hd1]
            exact ho
        · simp [c96, c96_r0, c96_r1, c96_r2, c96_r3, fieldA, aload, AM.row, e2, endsAt, hpat, hb, placed, hr, len1, alenS, hw1, hw2, h3]
          exact ho
  obtain ⟨r, h', h1, rfl, h2⟩ := key
  exact ⟨h', h1, h2⟩

/-- 'follows' of the document. -/
theorem follows_ref {h : Heap} {c : Cont} (hc : c.small) {p e : Nat} (hp : p ≤ 2000000) (he : e ≤ 2000000) : ∃ h', D cfg 97 [c.av, .int .i64 p, .int .i64 e] h = some (.bool (followsB c p e), h') ∧ Only (fun _ => False) h h' := by
  have key : ∃ r h', D cfg 97 [c.av, .int .i64 p, .int .i64 e] h = some (r, h') ∧ (r = .bool (followsB c p e) ∧ Only (fun _ => False) h h') := by
    refine call97 (R := fun r h' => r = .bool (followsB c p e) ∧ Only (fun _ => False) h h') (args := [c.av, .int .i64 p, .int .i64 e]) (h := h) (by simp) ?_
    have hcd := hc.di
    have hcw := hc.w
    have hcb := hc.b
    have ho : Only (fun _ => False) h (h ++ [.cells (contCell c) 52 false]) := .app
    have hw1 : IntKind.wrap .i64 ((e : Int) - c.bytes.length) = (e : Int) - c.bytes.length := wrap_i64 (by omega) (by omega)
    have hw2 : IntKind.wrap .i64 ((e : Int) - c.bytes.length - p) = (e : Int) - c.bytes.length - p := wrap_i64 (by omega) (by omega)
    have hw3 : IntKind.wrap .i64 ((e : Int) - p) = (e : Int) - p := wrap_i64 (by omega) (by omega)
    have hw4 : IntKind.wrap .i64 ((e : Int) - p - c.distance) = (e : Int) - p - c.distance := wrap_i64 (by omega) (by omega)
    have hd1 : (c.distance ≤ (e : Int) - c.bytes.length - p) = ((p : Int) + c.distance ≤ e - c.bytes.length) := by apply propext; constructor <;> intro h <;> omega
    have hd2 : ((e : Int) - p - c.distance ≤ c.within) = ((e : Int) ≤ p + c.distance + c.within) := by apply propext; constructor <;> intro h <;> omega
    by_cases h1 : p ≤ e
    · by_cases h2 : (p : Int) + c.distance ≤ e - c.bytes.length
      · by_cases h3 : c.within ≤ 0
        · simp [c97, c97_r0, c97_r1, fieldA, aload, AM.row, len1, alenS, hw1, hw2, hw3, hw4, hd1, hd2, h1, h2, h3, followsB]
          exact ho
        · simp [c97, c97_r0, c97_r1, fieldA, aload, AM.row, len1, alenS, hw1, hw2, hw3, hw4, hd1, hd2, h1, h2, h3, followsB]
          exact ho
      · simp [c97, c97_r0, c97_r1, fieldA, aload, AM.row, len1, alenS, hw1, hw2, hw3, hw4, hd1, hd2, h1, h2, followsB]
        exact ho
    · simp [c97, c97_r0, c97_r1, fieldA, aload, AM.row, h1, followsB]
      exact ho
  obtain ⟨r, h', h1, rfl, h2⟩ := key
  exact ⟨h', h1, h2⟩

def c94_tail : SC := (.seq (.reg c94_r4 none (some [2, 4, 7, 8, 9])) (.seq (.seq (.reg c94_r5 none (some [2, 4, 9, 39])) (.cond (.tmp 39) (.seq (.reg c94_r6 none (some [6])) .ret) .skip (some [2, 4, 9]))) (.seq (.reg c94_r7 none (some [6])) .ret)))
theorem c94_split : c94 = (.seq (.reg c94_r0 none (some [2, 3, 4])) (.seq (.reg c94_r1 none (some [2, 3, 4, 7, 8])) (.seq (.seq (.reg c94_r2 none (some [2, 3, 4, 7, 8, 15])) (.cond (.tmp 15) (.reg c94_r3 (some [(1, 3)]) (some [2, 4, 7, 8])) .skip (some [2, 4, 7, 8]))) c94_tail))) := rfl

def patIn (p s : Txt) (e : Nat) : Bool := decide (p.length ≤ e) && decide (e ≤ s.length) && decide ((s.drop (e - p.length)).take p.length = p)

theorem at_tail {h₀ h : Heap} {c : Cont} (hc : c.small) {s p : Txt} {e b : Nat} (hs : s.length ≤ 1000000) (hpl : p.length = c.bytes.length) (he : e ≤ 2000000) (hb : h[b]? = some (.cells (contCell c) 52 false)) (ho : Only (fun _ => False) h₀ h) :
    Wt Try.prog (D cfg) c94_tail ⟨[(2, .int .i64 e), (4, .ptr (some ⟨b, 0, 8⟩)), (7, .str s), (8, .str p)], h⟩ (Ends Try.prog [.tmp 6] fun r h' => r = .bool (patIn p s e && placed c e) ∧ Only (fun _ => False) h₀ h') := by
  have hcd := hc.d
  have hco := hc.o
  have hcb := hc.b
  have hw1 : IntKind.wrap .i64 ((e : Int) - p.length) = (e : Int) - p.length := wrap_i64 (by omega) (by omega)
  have hw2 : IntKind.wrap .i64 (c.offset + c.depth) = c.offset + c.depth := wrap_i64 (by omega) (by omega)
  by_cases hlt : e < p.length
  · have hlt' : (e : Int) - p.length < 0 := by omega
    have hpat : patIn p s e = false := by simp [patIn]; omega
    simp [c94_tail, c94_r4, c94_r5, c94_r6, len1, alenS, hw1, hlt', hpat]
    exact ho
  · have hlt' : ¬ ((e : Int) - p.length < 0) := by omega
    by_cases hgt : s.length < e
    · have hpat : patIn p s e = false := by simp [patIn]; omega
      simp [c94_tail, c94_r4, c94_r5, c94_r6, len1, alenS, hw1, hlt', hgt, hpat]
      exact ho
    · have hb1 : p.length ≤ e := by omega
      have hb2 : (e : Int) - p.length ≤ s.length := by omega
      have hb3 : ((e : Int) - p.length).toNat = e - p.length := by omega
      have hb4 : List.take (s.length - (e - p.length)) (s.drop (e - p.length)) = s.drop (e - p.length) := List.take_of_length_le (by simp)
      have hpre : begins (s.drop (e - p.length)) p = patIn p s e := by
        have h1 : p.length ≤ e := by omega
        have h2 : e ≤ s.length := by omega
        have h3 : p.length ≤ s.length - (e - p.length) := by omega
        simp [begins, patIn, h1, h2, h3]
      cases hpat : patIn p s e with
      | false =>
        rw [hpat] at hpre
        simp [c94_tail, c94_r4, c94_r5, c94_r6, len1, alenS, hw1, hlt', hgt, aslice, bound, hb1, hb2, hb3, hb4, prefix119, hpre]
        exact ho
      | true =>
        rw [hpat] at hpre
        cases hr : c.rel with
        | true =>
          simp [c94_tail, c94_r4, c94_r5, c94_r6, c94_r7, len1, alenS, hw1, hlt', hgt, aslice, bound, hb1, hb2, hb3, hb4, prefix119, hpre, fieldA, aload, AM.row, hb, hr, placed]
          exact ho
        | false =>
          rw [hpl] at hw1 hlt' hb1 hb2 hb3 hb4 hpre
          by_cases h3 : c.offset ≤ (e : Int) - c.bytes.length
          · by_cases h4 : c.depth ≤ 0
            · simp [c94_tail, c94_r4, c94_r5, c94_r6, c94_r7, len1, alenS, hpl, hw1, hlt', hgt, aslice, bound, hb1, hb2, hb3, hb4, prefix119, hpre, fieldA, aload, AM.row, hb, hr, placed, h3, h4]
              exact ho
            · simp [c94_tail, c94_r4, c94_r5, c94_r6, c94_r7, len1, alenS, hpl, hw1, hw2, hlt', hgt, aslice, bound, hb1, hb2, hb3, hb4, prefix119, hpre, fieldA, aload, AM.row, hb, hr, placed, h3, h4]
              exact ho
          · simp [c94_tail, c94_r4, c94_r5, c94_r6, c94_r7, len1, alenS, hpl, hw1, hlt', hgt, aslice, bound, hb1, hb2, hb3, hb4, prefix119, hpre, fieldA, aload, AM.row, hb, hr, placed, h3]
            exact ho

/-- 'at' of the chain. -/
theorem at_chain {h : Heap} {c : Cont} (hc : c.small) {s : Txt} {e : Nat} (hs : s.length ≤ 1000000) (he : e ≤ 2000000) : ∃ h', D cfg 94 [.agg [.str s, .str (fold s)], c.av, .int .i64 e] h = some (.bool (endsAt c s e), h') ∧ Only (fun _ => False) h h' := by
  have key : ∃ r h', D cfg 94 [.agg [.str s, .str (fold s)], c.av, .int .i64 e] h = some (r, h') ∧ (r = .bool (endsAt c s e) ∧ Only (fun _ => False) h h') := by
    refine call94 (R := fun r h' => r = .bool (endsAt c s e) ∧ Only (fun _ => False) h h') (args := [.agg [.str s, .str (fold s)], c.av, .int .i64 e]) (h := h) (by simp) ?_
    have hcb := hc.b
    obtain ⟨h1, hh1⟩ : ∃ h1, h1 = h ++ [.cells [.str s, .str (fold s)] 122 false] ++ [.cells (contCell c) 52 false] := ⟨_, rfl⟩
    have hb1 : h1[h.length]? = some (.cells [.str s, .str (fold s)] 122 false) := by rw [hh1]; simp
    have hb2 : h1[h.length + 1]? = some (.cells (contCell c) 52 false) := by rw [hh1]; simp
    have ho1 : Only (fun _ => False) h h1 := by rw [hh1]; exact Only.app.trans .app
    obtain ⟨h2, e2, o2⟩ := fold_auto (h := h1) (s := c.bytes) (by omega)
    have hb3 := o2.at hb2 id
    have ho2 := ho1.trans o2
    have hsame : sameAt h1 h2 h.length = true := by
      unfold sameAt
      rw [hb1, o2.at hb1 id]
      simp [AObj.beq, beqL, AV.beq, AV.beqP]
    rw [List.append_assoc] at hh1
    simp only [List.cons_append, List.nil_append] at hh1
    rw [c94_split]
    cases hnc : c.nocase with
    | false =>
      have ht := at_tail hc (p := c.bytes) hs rfl he hb2 ho1
      have he2 : patIn c.bytes s e = patAt c.bytes false s e := by rw [patAt_plain]; rfl
      rw [he2, ← hnc] at ht
      simp [c94_r0, c94_r1, c94_r2, fieldA, aload, AM.row, hnc, ← hh1, hb1, hb2]
      simpa [endsAt, hnc] using ht
    | true =>
      have ht := at_tail hc (s := fold s) (p := fold c.bytes) (by rw [fold_len]; exact hs) fold_len he hb3 ho2
      have he2 : patIn (fold c.bytes) (fold s) e = patAt c.bytes true s e := by rw [patAt_fold, patIn, fold_len, fold_len]
      rw [he2, ← hnc] at ht
      simp [c94_r0, c94_r1, c94_r2, c94_r3, fieldA, aload, AM.row, hnc, ← hh1, hb1, hb2, e2, hsame]
      simpa [endsAt, hnc] using ht
  obtain ⟨r, h', h1, rfl, h2⟩ := key
  exact ⟨h', h1, h2⟩

end Go.AM
