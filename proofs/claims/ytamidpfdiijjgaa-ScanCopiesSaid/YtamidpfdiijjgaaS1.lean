/-
  Folding, beginnings of texts.
-/
import Derived.Test.YtamidpfdiijjgaaP9
namespace Go.AM
open Go Go.Proofs
set_option linter.unusedVariables false
set_option linter.unusedSimpArgs false
set_option maxRecDepth 100000

def lowB (b : UInt8) : UInt8 := if 65 ≤ b.toNat ∧ b.toNat ≤ 90 then UInt8.ofNat (b.toNat + 32) else b
def fold (s : Txt) : Txt := s.map lowB

theorem fold_len {s : Txt} : (fold s).length = s.length := by simp [fold]
theorem byteCells_len {l : List UInt8} : (byteCells l).length = l.length := by simp [byteCells]

/-- How far the fold has come. -/
def foldTo (s : Txt) (i : Nat) : Txt := (s.take i).map lowB ++ s.drop i
theorem foldTo_len {s : Txt} {i : Nat} : (foldTo s i).length = s.length := by simp [foldTo]; omega
theorem foldTo_at {s : Txt} {i : Nat} (h : i < s.length) : (foldTo s i)[i]? = some s[i] := by
  unfold foldTo
  rw [List.getElem?_append_right (by simp; omega)]
  simp
  rw [Nat.min_eq_left (by omega)]
  simp [List.getElem?_eq_getElem h]
theorem foldTo_step {s : Txt} {i : Nat} (h : i < s.length) : foldTo s (i + 1) = (foldTo s i).set i (lowB s[i]) := by
  unfold foldTo
  have hl : ((s.take i).map lowB).length = i := by simp; omega
  rw [List.take_succ_eq_append_getElem h, List.map_append, List.set_append_right _ _ (by omega), hl, Nat.sub_self, List.drop_eq_getElem_cons h]
  simp only [List.map_cons, List.map_nil, List.append_assoc, List.singleton_append, List.set_cons_zero]
theorem foldTo_same {s : Txt} {i : Nat} (h : i < s.length) (hb : lowB s[i] = s[i]) : foldTo s (i + 1) = foldTo s i := by
  rw [foldTo_step h, hb]
  apply List.ext_getElem?
  intro j
  by_cases hj : j = i
  · subst hj
    rw [List.getElem?_set_self (by rw [foldTo_len]; exact h), foldTo_at h]
  · rw [List.getElem?_set_ne (Ne.symm hj)]
theorem byteCells_set {s : Txt} {i : Nat} {b : UInt8} : (byteCells s).set i (.int .u8 b.toNat) = byteCells (s.set i b) := by
  simp [byteCells, List.map_set]

theorem cellBytes_all {l : List UInt8} : cellBytes (byteCells l) = some l := by
  induction l with
  | nil => rfl
  | cons c l ih =>
    simp only [byteCells, List.map_cons, cellBytes] at ih ⊢
    rw [ih]
    simp

/-- A slice of bytes that takes a whole block. -/
abbrev byteSl (b n : Nat) : AV := .sl (some ⟨b, 0, n⟩) n n

def In59 (h₀ : Heap) (s : Txt) (m : Nat) (st : St) : Prop := ∃ i h, m = s.length - i ∧ i ≤ s.length ∧ st = ⟨[(3, byteSl h₀.length s.length), (8, byteSl h₀.length s.length), (9, .int .i64 s.length), (10, .int .i64 (i : Nat))], h⟩ ∧
  h[h₀.length]? = some (.cells (byteCells (foldTo s i)) 5 true) ∧ Only (fun _ => False) h₀ h

theorem fold_auto {h : Heap} {s : Txt} (hs : s.length ≤ 9223372036854775800) : ∃ h', D cfg 59 [.str s] h = some (.str (fold s), h') ∧ Only (fun _ => False) h h' := by
  have key : ∃ r h', D cfg 59 [.str s] h = some (r, h') ∧ (r = .str (fold s) ∧ Only (fun _ => False) h h') := by
    refine call59 (R := fun r h' => r = .str (fold s) ∧ Only (fun _ => False) h h') (args := [.str s]) (h := h) (by simp) ?_
    simp [c59, c59_r0, c59_r1, c59_r2, aconv, len1, alen]
    refine Wt.loop (In59 h s) (m := s.length) ⟨0, h ++ [.cells (byteCells s) 5 true], rfl, Nat.zero_le _, rfl, by simp [foldTo], .app⟩ ?_
    rintro m st ⟨i, h1, rfl, hi, rfl, hb, ho⟩
    have hcut : cut (some [3, 8, 9, 10]) [(3, byteSl h.length s.length), (8, byteSl h.length s.length), (9, .int .i64 (s.length : Nat)), (10, .int .i64 (i : Nat))] = [(3, byteSl h.length s.length), (8, byteSl h.length s.length), (9, .int .i64 s.length), (10, .int .i64 (i : Nat))] := by simp
    simp only [hcut]
    have hbl : (byteCells (foldTo s i)).length = s.length := by rw [byteCells_len, foldTo_len]
    by_cases his : i < s.length
    · have his' : (i : Int) < s.length := by omega
      have hwr : IntKind.wrap .i64 ((i : Int) + 1) = i + 1 := wrap_i64 (by omega) (by omega)
      have hcell : (byteCells (foldTo s i))[i]? = some (.int .u8 s[i].toNat) := by
        simp only [byteCells, List.getElem?_map, foldTo_at his]
        rfl
      have hu := s[i].toNat_lt
      have hget : ∀ hlt, (foldTo s i)[i]'hlt = s[i] := fun hlt => by
        have := foldTo_at his
        rw [List.getElem?_eq_getElem hlt] at this
        simpa using this
      by_cases hup : 65 ≤ s[i].toNat ∧ s[i].toNat ≤ 90
      · have hw1 : IntKind.wrap .u8 ((s[i].toNat : Int) - 65) = s[i].toNat - 65 := wrap_u8 (by omega) (by omega)
        have hw2 : IntKind.wrap .u8 ((s[i].toNat : Int) - 65 + 97) = s[i].toNat + 32 := by rw [wrap_u8 (by omega) (by omega)]; omega
        have hset : ((byteCells (foldTo s i)).set i (.int .u8 ((s[i].toNat : Int) + 32))) = byteCells (foldTo s (i + 1)) := by
          rw [foldTo_step his, ← byteCells_set]
          congr 2
          simp only [lowB, if_pos hup]
          simp
          omega
        have hu1 : (65 : Int) ≤ s[i].toNat := by omega
        have hu2 : (s[i].toNat : Int) ≤ 90 := by omega
        have hne : ∀ x, ((byteCells (foldTo s i)).set i x).length = s.length := by intro x; simp [hbl]
        have hnext : In59 h s (s.length - (i + 1)) ⟨[(3, byteSl h.length s.length), (8, byteSl h.length s.length), (9, .int .i64 s.length), (10, .int .i64 (i + 1 : Nat))], h1.set h.length (.cells (byteCells (foldTo s (i + 1))) 5 true)⟩ := by
          have hl := lt_of_at hb
          refine ⟨i + 1, _, rfl, his, rfl, by rw [List.getElem?_set_self hl], ⟨by simp; exact ho.1, fun c hc hn => ?_⟩⟩
          rw [List.getElem?_set_ne (by omega)]
          exact ho.2 c hc hn
        have hil : i + 1 ≤ s.length := his
        simp [c59_l3, c59_r3, c59_r4, c59_r5, c59_r6, c59_r7, his, his', aindexAddr, aload, AM.row, hb, hbl, hcell, hget, hu1, hu2, hup, hw1, hw2, astore, hset, hwr, hil]
        exact ⟨s.length - (i + 1), by omega, by simpa using hnext⟩
      · have hlow : lowB s[i] = s[i] := by simp only [lowB, if_neg hup]
        have hnext : In59 h s (s.length - (i + 1)) ⟨[(3, byteSl h.length s.length), (8, byteSl h.length s.length), (9, .int .i64 s.length), (10, .int .i64 (i + 1 : Nat))], h1⟩ :=
          ⟨i + 1, _, rfl, his, rfl, by rw [foldTo_same his hlow]; exact hb, ho⟩
        by_cases h65 : 65 ≤ s[i].toNat
        · have h90 : ¬ (s[i].toNat ≤ 90) := fun h => hup ⟨h65, h⟩
          have hu1 : (65 : Int) ≤ s[i].toNat := by omega
          have hu2 : ¬ ((s[i].toNat : Int) ≤ 90) := by omega
          simp [c59_l3, c59_r3, c59_r4, c59_r5, c59_r6, c59_r7, his, his', aindexAddr, aload, AM.row, hb, hbl, hcell, hget, hu1, hu2, h65, h90, hwr]
          exact ⟨s.length - (i + 1), by omega, by simpa using hnext⟩
        · have hu1 : ¬ ((65 : Int) ≤ s[i].toNat) := by omega
          simp [c59_l3, c59_r3, c59_r4, c59_r5, c59_r6, c59_r7, his, his', aindexAddr, aload, AM.row, hb, hbl, hcell, hget, hu1, h65, hwr]
          exact ⟨s.length - (i + 1), by omega, by simpa using hnext⟩
    · have : i = s.length := by omega
      subst this
      have hfull : foldTo s s.length = fold s := by simp [foldTo, fold]
      rw [hfull] at hb hbl
      have ht : List.take s.length (byteCells (fold s)) = byteCells (fold s) := List.take_of_length_le (by omega)
      simp [c59_l3, c59_r3, c59_r8, aconv, slCells, AM.row, hb, hbl, ht, cellBytes_all]
      exact ho
  obtain ⟨r, h', h1, rfl, h2⟩ := key
  exact ⟨h', h1, h2⟩

/-- Does a text begin with another one? -/
def begins (s p : Txt) : Bool := decide (p.length ≤ s.length) && decide (s.take p.length = p)

theorem prefix127 {h : Heap} {s p : Txt} : D cfg 127 [.str s, .str p] h = some (.bool (begins s p), h) := by
  refine D_eq (call127 (R := fun r h' => r = _ ∧ h' = _) (by simp) ?_)
  by_cases hl : p.length ≤ s.length
  · simp [c127, c127_r0, c127_r1, len1, alen, hl, aslice, bound, begins]
  · simp [c127, c127_r0, c127_r1, len1, alen, hl, aslice, bound, begins]
theorem prefix119 {h : Heap} {s p : Txt} : D cfg 119 [.str s, .str p] h = some (.bool (begins s p), h) := by
  refine D_eq (call119 (R := fun r h' => r = _ ∧ h' = _) (by simp) ?_)
  simp [c119, c119_r0, c119_r1, prefix127]

end Go.AM
