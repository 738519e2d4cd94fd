/-
  The walk of LexWords.
-/
import Derived.Test.YtamidpfdiijjgaaDoorE10
import Derived.Test.YtamidpfdiijjgaaDoorL7
namespace Go.AM
open Go Go.Proofs
set_option linter.unusedVariables false
set_option linter.unusedSimpArgs false
set_option maxRecDepth 100000

def allW : Txt := [97, 66, 99, 68, 101, 70, 103, 72, 105, 74, 48, 49, 50, 51, 52, 53, 54, 55, 56, 57, 107, 76, 109, 78]
def lowW : Txt := [97, 98, 99, 100, 101, 102, 103, 104, 105, 106, 48, 49, 50, 51, 52, 53, 54, 55, 56, 57, 107, 108, 109, 110]

theorem words_lex : ∀ k, k < 24 → lexM ([36] ++ allW.take (k + 1) ++ [32] ++ allW.take (k + 1)) = if k + 1 ≤ 20 then (some [⟨5, lowW.take (k + 1), 0, 1⟩, ⟨1, lowW.take (k + 1), 0, 1⟩], 0, 0) else (none, 1, 6) := by decide
theorem nums_lex : ∀ j, j < 20 → lexM ([48, 48] ++ decF 18 (999999999990 + j) ++ [59]) = if j ≤ 9 then (some [⟨2, [], 999999999990 + j, 1⟩, ⟨4, [59], 0, 1⟩], 0, 0) else (none, 1, 6) := by decide
theorem bad_lex : lexM [53, 120] = (none, 1, 6) := by decide

abbrev tail7 : SC := (.seq (.reg c7_r8 none (some [10])) (.seq (.reg c7_r9 none (some [10, 11, 13])) (.seq (.reg c7_r10 none (some [10, 11, 13, 16])) (.seq (.reg c7_r11 none (some [4])) .ret))))

theorem words_tail {v : Int} {h1 : Heap} : Wt Tryd.prog (D cfg) tail7 ⟨[(1, .int .i64 v)], h1⟩ (Ends Tryd.prog [.tmp 4] fun r _ => r = .bool true) := by
  obtain ⟨j, hj, hj20⟩ : ∃ j : Nat, v % 20 = j ∧ j < 20 := ⟨(v % 20).toNat, by omega, by omega⟩
  have p2 := fun h => place_run (h := h) (v := v) (n := 20) (by omega) (by omega)
  rw [hj] at p2
  have w2 : IntKind.wrap .i64 (999999999990 + (j : Int)) = 999999999990 + j := wrap_i64 (by omega) (by omega)
  have d1 := fun h => digits12 (x := 999999999990 + j) (h := h) (by omega)
  obtain ⟨X, hX⟩ : ∃ X, X = decF 18 (999999999990 + j) := ⟨_, rfl⟩
  have hXl : X.length ≤ 18 := by rw [hX]; exact decF_len
  have hnum := nums_lex j hj20
  rw [← hX] at hnum d1
  have d1' : ∀ h, D cfg 12 [.int .i64 (999999999990 + (j : Int))] h = some (.str X, h) := fun h => by simpa using d1 h
  have a4 : abin .str .add (.str [48, 48]) (.str X) = some (.str (48 :: 48 :: X)) := by rw [abin_addS (by simp; omega)]; rfl
  have a5 : abin .str .add (.str (48 :: 48 :: X)) (.str [59]) = some (.str (48 :: 48 :: (X ++ [59]))) := by rw [abin_addS (by simp; omega)]; rfl
  obtain ⟨u2, h2, e2, O2, o2⟩ := all8 (h := h1) (s := [48, 48] ++ X ++ [59])
  obtain ⟨u3, h3, e3, O3, o3⟩ := all8 (h := h2) (s := [53, 120])
  rw [bad_lex] at e3
  simp only at e3
  obtain ⟨h4, e4⟩ := awake10 (h := h3)
  by_cases hj9 : j ≤ 9
  · rw [hnum, if_pos hj9] at e2 O2
    have e2' : D cfg 8 [.str (48 :: 48 :: (X ++ [59]))] h1 = some (.tup [u2, .int .i64 0, .int .i64 0], h2) := by simpa using e2
    have T := O2.tok.same o3
    have hlen := fun L => T.len (t := 22) (by simp) (L := L)
    obtain ⟨B, o, g, t0, t1, t2, t3, _⟩ := T.at (t := 22) (by simp) (by simp) (i := 0) (by simp)
    simp only [List.getElem_cons_zero] at t1 t2 t3
    have t0' : aindexAddr Tryd.prog 22 u2 (.int .i64 0) = _ := t0
    have hlen' : ∀ L, alen Tryd.prog L 22 u2 = some (.int .i64 2) := hlen
    have hx : 999999999990 + (j : Int) ≤ 999999999999 := by omega
    simp [c7_r8, c7_r9, c7_r10, c7_r11, p2, w2, d1', a4, a5, e2', extractV, e3, hx, pickV, len1, hlen', t0', t3, fieldA, e4]
  · rw [hnum, if_neg hj9] at e2 O2
    have e2' : D cfg 8 [.str (48 :: 48 :: (X ++ [59]))] h1 = some (.tup [u2, .int .i64 1, .int .i64 6], h2) := by simpa using e2
    have hx : ¬ 999999999990 + (j : Int) ≤ 999999999999 := by omega
    simp [c7_r8, c7_r9, c7_r10, c7_r11, p2, w2, d1', a4, a5, e2', extractV, e3, hx, pickV, fieldA, e4]

theorem words_walk {n v : Int} : Wt Tryd.prog (D cfg) c7 ⟨argsEnv 0 [.int .i64 n, .int .i64 v], []⟩ (Ends Tryd.prog [.tmp 4] fun r _ => r = .bool true) := by
  obtain ⟨k, hk, hk24⟩ : ∃ k : Nat, n % 24 = k ∧ k < 24 := ⟨(n % 24).toNat, by omega, by omega⟩
  have p1 := fun h => place_run (h := h) (v := n) (n := 24) (by omega) (by omega)
  rw [hk] at p1
  have w1 : IntKind.wrap .i64 (1 + (k : Int)) = 1 + k := wrap_i64 (by omega) (by omega)
  have b1 : (1 : Int) + k ≤ 24 := by omega
  have b2 : (0 : Int) ≤ 1 + (k : Int) := by omega
  have b3 : ((1 : Int) + k).toNat = k + 1 := by omega
  obtain ⟨W, hW⟩ : ∃ W, W = allW.take (k + 1) := ⟨_, rfl⟩
  have hWl : W.length = k + 1 := by rw [hW]; simp [allW]; omega
  obtain ⟨u, h1, e1, O1, o1⟩ := all8 (h := []) (s := [36] ++ W ++ [32] ++ W)
  have hlex := words_lex k hk24
  rw [← hW] at hlex
  have a1 : abin .str .add (.str [36]) (.str W) = some (.str (36 :: W)) := by rw [abin_addS (by simp; omega)]; rfl
  have a2 : abin .str .add (.str (36 :: W)) (.str [32]) = some (.str (36 :: (W ++ [32]))) := by rw [abin_addS (by simp; omega)]; rfl
  have a3 : abin .str .add (.str (36 :: (W ++ [32]))) (.str W) = some (.str (36 :: (W ++ 32 :: W))) := by rw [abin_addS (by simp; omega)]; simp
  have hsl : aslice Tryd.prog 9 (.str allW) none (some (.int .i64 (1 + (k : Int)))) none = some (.str W) := by
    rw [hW]
    simp [aslice, bound, b1, b2, b3, allW]
  have hsl' : aslice Tryd.prog 9 (.str [97, 66, 99, 68, 101, 70, 103, 72, 105, 74, 48, 49, 50, 51, 52, 53, 54, 55, 56, 57, 107, 76, 109, 78]) none (some (.int .i64 (1 + (k : Int)))) none = some (.str W) := hsl
  have ht := words_tail (v := v) (h1 := h1)
  simp only [Wt_seq] at ht
  by_cases h20 : k + 1 ≤ 20
  · rw [hlex, if_pos h20] at e1 O1
    have h20' : (1 : Int) + k ≤ 20 := by omega
    have e1' : D cfg 8 [.str (36 :: (W ++ 32 :: W))] [] = some (.tup [u, .int .i64 0, .int .i64 0], h1) := by simpa using e1
    have T := O1.tok
    have hlen := fun L => T.len (t := 22) (by simp) (L := L)
    obtain ⟨B, o, g, t0, t1, t2, _, _⟩ := T.at (t := 22) (by simp) (by simp) (i := 0) (by simp)
    obtain ⟨B', o', g', s0, s1, s2, _, _⟩ := T.at (t := 22) (by simp) (by simp) (i := 1) (by simp)
    simp only [List.getElem_cons_zero, List.getElem_cons_succ] at t1 t2 s1 s2
    have t0' : aindexAddr Tryd.prog 22 u (.int .i64 0) = _ := t0
    have s0' : aindexAddr Tryd.prog 22 u (.int .i64 1) = _ := s0
    have hlen' : ∀ L, alen Tryd.prog L 22 u = some (.int .i64 2) := hlen
    obtain ⟨L, hL⟩ : ∃ L, L = lowW.take (k + 1) := ⟨_, rfl⟩
    rw [← hL] at t2 s2
    have hLl : L.length = k + 1 := by rw [hL]; simp [lowW]; omega
    have hL0 : L[0]? = some 97 := by rw [hL]; simp [lowW]
    have hi0 : aindex Tryd.prog 9 (.str L) (.int .i64 0) = some (.int .u8 97) := by
      simp [aindex, hL0]
    have hlenS : ∀ X, alen Tryd.prog X 9 (.str L) = some (.int .i64 (1 + (k : Int))) := fun X => by
      simp only [alen, tk_9, hLl]; congr 2; omega
    by_cases hk1 : 1 ≤ k
    · have hL1 : L[1]? = some 98 := by
        rw [hL, List.getElem?_take, if_pos (by omega)]; rfl
      have hi1 : aindex Tryd.prog 9 (.str L) (.int .i64 1) = some (.int .u8 98) := by
        simp [aindex, hL1]
      have hk1' : (1 : Int) < 1 + k := by omega
      have hk0 : 0 < k := hk1
      simp [c7, c7_r0, c7_r1, c7_r2, c7_r3, c7_r4, c7_r6, p1, w1, hsl', a1, a2, a3, e1', extractV, h20', len1, hlen', t0', s0', t1, t2, s1, s2, fieldA, pickV, hi0, hlenS, hi1, hk1', hk0]
      simpa using ht
    · have hk1' : ¬ (1 : Int) < 1 + k := by omega
      have hk0 : ¬ 0 < k := hk1
      simp [c7, c7_r0, c7_r1, c7_r2, c7_r3, c7_r4, c7_r6, p1, w1, hsl', a1, a2, a3, e1', extractV, h20', len1, hlen', t0', s0', t1, t2, s1, s2, fieldA, pickV, hi0, hlenS, hk1', hk0]
      simpa using ht
  · rw [hlex, if_neg h20] at e1 O1
    have h20' : ¬ (1 : Int) + k ≤ 20 := by omega
    have e1' : D cfg 8 [.str (36 :: (W ++ 32 :: W))] [] = some (.tup [u, .int .i64 1, .int .i64 6], h1) := by simpa using e1
    simp [c7, c7_r0, c7_r1, c7_r2, c7_r3, c7_r4, c7_r6, p1, w1, hsl', a1, a2, a3, e1', extractV, h20', pickV]
    simpa using ht

end Go.AM
