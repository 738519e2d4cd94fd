/-
  The document's count of states: how it runs.
-/
import Derived.Test.YtamidpfdiijjgaaP6
namespace Go.AM
open Go Go.Proofs
set_option linter.unusedVariables false
set_option linter.unusedSimpArgs false
set_option maxRecDepth 100000

def strCells (l : List Txt) : List AV := l.map .str
theorem strCells_len {l : List Txt} : (strCells l).length = l.length := by simp [strCells]
@[simp] theorem strCells_get {l : List Txt} {i : Nat} (h : i < (strCells l).length) : (strCells l)[i] = .str (l[i]'(by simpa [strCells] using h)) := by simp [strCells]

def txt (l : List Txt) (i : Nat) : Txt := (l[i]?).getD []
theorem txt_eq {l : List Txt} {i : Nat} (h : i < l.length) : l[i] = txt l i := by simp [txt, List.getElem?_eq_getElem h]

/-- Is a text's beginning one of an earlier one's? -/
def seenB (l : List Txt) (i k : Nat) : Nat → Bool
  | 0 => false
  | j + 1 => seenB l i k j || (decide (k ≤ (txt l j).length) && decide ((txt l j).take k = (txt l i).take k))
def cntK (l : List Txt) (i : Nat) : Nat → Nat
  | 0 => 0
  | k + 1 => cntK l i k + if seenB l i (k + 1) i then 0 else 1
def cntI (l : List Txt) : Nat → Nat
  | 0 => 1
  | i + 1 => cntI l i + cntK l i (txt l i).length

theorem cntK_le {l : List Txt} {i : Nat} : ∀ k, cntK l i k ≤ k
  | 0 => Nat.le_refl _
  | k + 1 => by have := cntK_le (l := l) (i := i) k; simp only [cntK]; split <;> omega

theorem cntI_le {l : List Txt} (hl : ∀ p ∈ l, p.length ≤ 1000) : ∀ i, cntI l i ≤ 1 + 1000 * i
  | 0 => by simp [cntI]
  | i + 1 => by
    have := cntI_le hl i
    have h2 := cntK_le (l := l) (i := i) (txt l i).length
    have h3 : (txt l i).length ≤ 1000 := by
      by_cases h : i < l.length
      · rw [← txt_eq h]; exact hl _ (List.getElem_mem h)
      · simp [txt, List.getElem?_eq_none (Nat.le_of_not_lt h)]
    simp only [cntI]
    omega

section
variable {h : Heap} {v : AV} {l : List Txt} (hv : Sl1 h v (strCells l)) (hn : l.length ≤ 1000) (hl : ∀ p ∈ l, p.length ≤ 1000)

def In39 (h : Heap) (v : AV) (l : List Txt) (n i k : Nat) (m : Nat) (s : St) : Prop := ∃ j : Nat, m = i - j ∧ j ≤ i ∧ s = ⟨[(0, v), (3, .int .i64 n), (4, .int .i64 i), (5, .int .i64 k), (6, .bool (seenB l i k j)), (7, .int .i64 j)], h⟩

include hv hn hl in
theorem seen_loop {n i k : Nat} (hi : i < l.length) (hk : k ≤ (txt l i).length) {Q : AExit → St → Prop}
    (hq : Q (.exit 4) ⟨[(0, v), (3, .int .i64 n), (4, .int .i64 i), (5, .int .i64 k), (6, .bool (seenB l i k i)), (7, .int .i64 i), (25, .bool false)], h⟩) :
    Wt Try.prog (D cfg) (.loop c39_l10 (some [0, 3, 4, 5, 6, 7])) ⟨[(0, v), (3, .int .i64 n), (4, .int .i64 i), (5, .int .i64 k), (6, .bool false), (7, .int .i64 0)], h⟩ Q := by
  refine Wt.loop (In39 h v l n i k) (m := i) ⟨0, rfl, Nat.zero_le _, rfl⟩ ?_
  rintro m s ⟨j, rfl, hj, rfl⟩
  have hcut : cut (some [0, 3, 4, 5, 6, 7]) [(0, v), (3, .int .i64 (n : Int)), (4, .int .i64 (i : Int)), (5, .int .i64 (k : Int)), (6, .bool (seenB l i k j)), (7, .int .i64 (j : Nat))] = [(0, v), (3, .int .i64 n), (4, .int .i64 i), (5, .int .i64 k), (6, .bool (seenB l i k j)), (7, .int .i64 (j : Nat))] := by simp
  simp only [hcut]
  have hlk : (txt l i).length ≤ 1000 := by rw [← txt_eq hi]; exact hl _ (List.getElem_mem hi)
  by_cases hji : j < i
  · have hjl : j < l.length := by omega
    have a1 := hv.at (t := 38) (e := 9) (by simp) (by simp) (i := i) (by rw [strCells_len]; exact hi)
    have a2 := hv.at (t := 38) (e := 9) (by simp) (by simp) (i := j) (by rw [strCells_len]; exact hjl)
    have b1 := hv.load (e := 9) (by simp) (i := i) (by rw [strCells_len]; exact hi)
    have b2 := hv.load (e := 9) (by simp) (i := j) (by rw [strCells_len]; exact hjl)
    rw [strCells_get, txt_eq] at b1 b2
    have hwr : IntKind.wrap .i64 ((j : Int) + 1) = j + 1 := wrap_i64 (by omega) (by omega)
    have hnext : In39 h v l n i k (i - (j + 1)) ⟨[(0, v), (3, .int .i64 n), (4, .int .i64 i), (5, .int .i64 k), (6, .bool (seenB l i k (j + 1))), (7, .int .i64 (j + 1 : Nat))], h⟩ := ⟨j + 1, rfl, hji, rfl⟩
    simp only [seenB] at hnext
    by_cases hs : seenB l i k j
    · simp [c39_l10, c39_r10, c39_r11, c39_r12, hji, hs, hwr]
      refine ⟨i - (j + 1), by omega, ?_⟩
      simpa [hs] using hnext
    · by_cases hkl : k ≤ (txt l j).length
      · simp [c39_l10, c39_r10, c39_r11, c39_r12, hji, hs, hwr, a1, a2, b1, b2, len1, alen, hkl, hk, aslice, bound]
        refine ⟨i - (j + 1), by omega, ?_⟩
        simpa [hs, hkl] using hnext
      · simp [c39_l10, c39_r10, c39_r11, c39_r12, hji, hs, hwr, a1, a2, b1, b2, len1, alen, hkl, hk, aslice, bound]
        refine ⟨i - (j + 1), by omega, ?_⟩
        simpa [hs, hkl] using hnext
  · have : j = i := by omega
    subst this
    simp [c39_l10, c39_r10]
    simpa using hq

def Mid39 (h : Heap) (v : AV) (l : List Txt) (i : Nat) (m : Nat) (s : St) : Prop := ∃ k : Nat, m = (txt l i).length - k ∧ k ≤ (txt l i).length ∧ s = ⟨[(0, v), (3, .int .i64 (cntI l i + cntK l i k : Nat)), (4, .int .i64 i), (5, .int .i64 (k + 1 : Nat))], h⟩

include hv hn hl in
theorem cnt_loop {i : Nat} (hi : i < l.length) {Q : AExit → St → Prop}
    (hq : Q (.exit 2) ⟨[(0, v), (3, .int .i64 (cntI l (i + 1))), (4, .int .i64 i), (5, .int .i64 ((txt l i).length + 1 : Nat)), (20, .bool false)], h⟩) :
    Wt Try.prog (D cfg) (.loop c39_l6 (some [0, 3, 4, 5])) ⟨[(0, v), (3, .int .i64 (cntI l i)), (4, .int .i64 i), (5, .int .i64 1)], h⟩ Q := by
  refine Wt.loop (Mid39 h v l i) (m := (txt l i).length) ⟨0, rfl, Nat.zero_le _, by simp [cntK]⟩ ?_
  rintro m s ⟨k, rfl, hk, rfl⟩
  have hcut : cut (some [0, 3, 4, 5]) [(0, v), (3, .int .i64 (cntI l i + cntK l i k : Nat)), (4, .int .i64 (i : Int)), (5, .int .i64 (k + 1 : Nat))] = [(0, v), (3, .int .i64 (cntI l i + cntK l i k : Nat)), (4, .int .i64 i), (5, .int .i64 (k + 1 : Nat))] := by simp
  simp only [hcut]
  have hlk : (txt l i).length ≤ 1000 := by rw [← txt_eq hi]; exact hl _ (List.getElem_mem hi)
  have a1 := hv.at (t := 38) (e := 9) (by simp) (by simp) (i := i) (by rw [strCells_len]; exact hi)
  have b1 := hv.load (e := 9) (by simp) (i := i) (by rw [strCells_len]; exact hi)
  rw [strCells_get, txt_eq] at b1
  by_cases hkk : k < (txt l i).length
  · have hkk' : (k : Int) + 1 ≤ (txt l i).length := by omega
    have hc1 := cntI_le hl i
    have hc2 := cntK_le (l := l) (i := i) k
    have hwr : IntKind.wrap .i64 ((k : Int) + 1 + 1) = k + 1 + 1 := wrap_i64 (by omega) (by omega)
    have hwr2 : IntKind.wrap .i64 ((cntI l i : Int) + (cntK l i k) + 1) = cntI l i + cntK l i k + 1 := wrap_i64 (by omega) (by omega)
    have hnext : Mid39 h v l i ((txt l i).length - (k + 1)) ⟨[(0, v), (3, .int .i64 (cntI l i + cntK l i (k + 1) : Nat)), (4, .int .i64 i), (5, .int .i64 (k + 1 + 1 : Nat))], h⟩ := ⟨k + 1, rfl, hkk, rfl⟩
    simp only [cntK] at hnext
    have hin := fun Q hq => seen_loop (Q := Q) hv hn hl (n := cntI l i + cntK l i k) (k := k + 1) hi (by omega) hq
    simp at hin
    simp [c39_l6, c39_r6, c39_r8, c39_r9, a1, b1, len1, alen, hkk']
    refine hin _ ?_
    by_cases hs : seenB l i (k + 1) i
    · simp [c39_r13, c39_r14, c39_r7, hs, hwr]
      refine ⟨(txt l i).length - (k + 1), by omega, ?_⟩
      simpa [hs] using hnext
    · simp [c39_r13, c39_r14, c39_r7, hs, hwr, hwr2]
      refine ⟨(txt l i).length - (k + 1), by omega, ?_⟩
      simpa [hs, Int.add_assoc] using hnext
  · have : k = (txt l i).length := by omega
    subst this
    simp only [cntI] at hq
    have hkk' : ¬ (((txt l i).length : Int) + 1 ≤ (txt l i).length) := by omega
    simp [c39_l6, c39_r6, a1, b1, len1, alen, hkk']
    simpa using hq

def Out39 (h : Heap) (v : AV) (l : List Txt) (m : Nat) (s : St) : Prop := ∃ i : Nat, m = l.length - i ∧ i ≤ l.length ∧ s = ⟨[(0, v), (3, .int .i64 (cntI l i)), (4, .int .i64 i)], h⟩

include hv hn hl in
/-- 'States'. -/
theorem ref_states : D cfg 39 [v] h = some (.int .i64 (cntI l l.length), h) := by
  refine D_eq (call39 (R := fun r h' => r = _ ∧ h' = _) (by simp) ?_)
  simp [c39, c39_r0, c39_r1, c39_r2]
  refine Wt.loop (Out39 h v l) (m := l.length) ⟨0, rfl, Nat.zero_le _, by simp [cntI]⟩ ?_
  rintro m s ⟨i, rfl, hi, rfl⟩
  have hcut : cut (some [0, 3, 4]) [(0, v), (3, .int .i64 (cntI l i : Nat)), (4, .int .i64 (i : Int))] = [(0, v), (3, .int .i64 (cntI l i)), (4, .int .i64 i)] := by simp
  simp only [hcut]
  have hlen := fun L => hv.len (t := 38) (e := 9) (by simp) (L := L)
  simp only [strCells_len] at hlen
  by_cases hil : i < l.length
  · have hwr : IntKind.wrap .i64 ((i : Int) + 1) = i + 1 := wrap_i64 (by omega) (by omega)
    have hnext : Out39 h v l (l.length - (i + 1)) ⟨[(0, v), (3, .int .i64 (cntI l (i + 1))), (4, .int .i64 (i + 1 : Nat))], h⟩ := ⟨i + 1, rfl, hil, rfl⟩
    simp [c39_l3, c39_r3, c39_r5, len1, hlen, hil]
    refine cnt_loop hv hn hl hil ?_
    simp [c39_r4, hwr]
    exact ⟨l.length - (i + 1), by omega, hnext⟩
  · have : i = l.length := by omega
    subst this
    simp [c39_l3, c39_r3, c39_r15, len1, hlen]

end
end Go.AM
