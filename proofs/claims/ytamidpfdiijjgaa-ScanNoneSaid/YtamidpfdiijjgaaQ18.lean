/-
  The law ScanNone returns true.
-/
import Derived.Test.YtamidpfdiijjgaaN6
import Derived.Test.YtamidpfdiijjgaaL18
namespace Go.AM
open Go Go.Proofs
set_option linter.unusedVariables false
set_option linter.unusedSimpArgs false
set_option maxRecDepth 100000

noncomputable abbrev F18 : CallF := mixed [62] (D cfg)
theorem awake18 {h : Heap} : F18 62 [] h = some (.bool true, h) := awake15c rfl
theorem F18_D {f : FuncId} (hf : f ≠ 62) {args : List AV} {h : Heap} : F18 f args h = D cfg f args h := mixed_D (by simp [hf])

theorem hitsTo_none {nc : List Bool} {t q : Txt} (hq : t.length < q.length) : ∀ {n : Nat}, hitsTo nc t [q] n = []
  | 0 => rfl
  | n + 1 => by
    rw [hitsTo_succ, hitsTo_none hq]
    have : hits nc (t.take (n + 1)) [q] 0 = [] := by
      simp only [hits]
      rw [if_neg]
      intro h
      have := (hitB_fold h).length_le
      simp only [fold_len, List.length_take] at this
      omega
    rw [this]; rfl
theorem hitsTo_nil {nc : List Bool} {t : Txt} : ∀ {n : Nat}, hitsTo nc t [] n = []
  | 0 => rfl
  | n + 1 => by rw [hitsTo_succ, hitsTo_nil]; rfl

theorem none_walk {h₀ : Heap} {t : Txt} {n : Int} : Wt Try.prog F18 c18 ⟨argsEnv 0 [.str t, .int .i64 n], h₀⟩ (Ends Try.prog [.tmp 4] fun r _ => r = .bool true) := by
  by_cases h100 : 100 < t.length
  · have h100' : (100 : Int) < t.length := by omega
    simp [c18, c18_r0, c18_r1, c18_r2, F18_D, len1, alen9, h100, h100', awake18]
  · have h100' : ¬ ((100 : Int) < t.length) := by omega
    have p1 := place_run (h := h₀) (v := n) (n := 17) (by decide) (by decide)
    obtain ⟨k, hk⟩ : ∃ k : Nat, n % 17 = k := ⟨(n % 17).toNat, by omega⟩
    rw [hk] at p1
    have hk17 : k ≤ 17 := by omega
    have hk17' : (k : Int) ≤ 17 := by omega
    have hadd1 : ∀ k, abin k .add (.str t) (.str [120]) = some (.str (t ++ [120])) := fun k => abin_addS (by simp; omega)
    obtain ⟨p, hp⟩ : ∃ p, t ++ [120] = p := ⟨_, rfl⟩
    rw [hp] at hadd1
    have hpl : p.length = t.length + 1 := by rw [← hp]; simp
    obtain ⟨b1, h1, e1, o1, _⟩ := scan_all (h := h₀) (v := .sl none 0 0) (u := .sl none 0 0) (l := []) (nc := []) (t := t) .nil .nil (by simp) rfl (by simp) (by simp) (by omega)
    rw [hitsTo_nil] at e1
    have e1' : D cfg 64 [.sl none 0 0, .sl none 0 0, .str t] h₀ = some (.sl none 0 0, h1) := e1
    have hv2 : Sl1 (h1 ++ [.cells (strCells [[]]) 9 true]) (.sl (some ⟨h1.length, 0, 1⟩) 1 1) (strCells [[]]) := Sl1.cells (b := h1.length) (e := 9) (s := true) (xs := strCells [[]]) (by simp)
    obtain ⟨h2, e2, o2⟩ := scan_all_bad (u := .sl none 0 0) (t := t) hv2 (by simp) (by simp) rfl
    have e2' : D cfg 64 [.sl (some ⟨h1.length, 0, 1⟩) 1 1, .sl none 0 0, .str t] (h1 ++ [.cells [.str []] 9 true]) = some (.sl none 0 0, h2) := e2
    obtain ⟨m, hm⟩ : ∃ m : Nat, m = min p.length 16 := ⟨_, rfl⟩
    have hmin : (if (16 : Int) < (p.length : Int) then (16 : Int) else (p.length : Int)) = (m : Int) := by rw [hm]; split <;> omega
    have hmp : (m : Int) ≤ p.length := by omega
    have hmp' : m ≤ p.length := by omega
    obtain ⟨q1, hq1⟩ : ∃ q1, List.take m p = q1 := ⟨_, rfl⟩
    obtain ⟨q2, hq2⟩ : ∃ q2, List.take k ([48, 49, 50, 51, 52, 53, 54, 55, 56, 57, 97, 98, 99, 100, 101, 102, 103] : Txt) = q2 := ⟨_, rfl⟩
    have hq1l : q1.length = m := by rw [← hq1]; simp; omega
    have hq2l : q2.length = k := by rw [← hq2]; simp; omega
    have hadd2 : ∀ k, abin k .add (.str q1) (.str q2) = some (.str (q1 ++ q2)) := fun k => abin_addS (by omega)
    have hadd3 : ∀ k, abin k .add (.str (q1 ++ q2)) (.str [122]) = some (.str (q1 ++ q2 ++ [122])) := fun k => abin_addS (by simp; omega)
    obtain ⟨q, hq⟩ : ∃ q, q1 ++ q2 ++ [122] = q := ⟨_, rfl⟩
    rw [hq] at hadd3
    have hql : q.length = m + k + 1 := by rw [← hq]; simp; omega
    have hv3 : Sl1 (h2 ++ [.cells (strCells [q]) 9 true]) (.sl (some ⟨h2.length, 0, 1⟩) 1 1) (strCells [q]) := Sl1.cells (b := h2.length) (e := 9) (s := true) (xs := strCells [q]) (by simp)
    have e3 : ∃ h3, D cfg 64 [.sl (some ⟨h2.length, 0, 1⟩) 1 1, .sl none 0 0, .str t] (h2 ++ [.cells [.str q] 9 true]) = some (.sl none 0 0, h3) := by
      by_cases hb : q.length ≤ 16
      · obtain ⟨b3, h3, e3, _, _⟩ := scan_all (u := .sl none 0 0) (nc := []) (t := t) hv3 .nil (by simp) (by simp [bgood, hb]; omega) (by simp) (by simp; omega) (by omega)
        rw [hitsTo_none (by omega)] at e3
        exact ⟨h3, e3⟩
      · obtain ⟨h3, e3, _⟩ := scan_all_bad (u := .sl none 0 0) (t := t) hv3 (by simp; omega) (by simp) (by simp [bgood]; omega)
        exact ⟨h3, e3⟩
    obtain ⟨h3, e3⟩ := e3
    have hl0 : ∀ L, alen Try.prog L 71 (.sl none 0 0) = some (.int .i64 0) := fun L => by simp [alen]
    simp [c18, c18_r0, c18_r1, c18_r3, c18_r4, c18_r5, c18_r6, c18_r7, c18_r8, F18_D, len1, alen9, h100, h100', p1, hadd1, e1', abuildSlice, afill, zeros, e2', amin, amin1, hmin, aslice, bound, hmp, hmp', hk17, hk17', hq1, hq2, hadd2, hadd3, e3, hl0, awake18]

end Go.AM
