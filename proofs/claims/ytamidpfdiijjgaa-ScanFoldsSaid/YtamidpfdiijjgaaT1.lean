/-
  Texts by numbers.
-/
import Derived.Test.YtamidpfdiijjgaaS2
namespace Go.AM
open Go Go.Proofs
set_option linter.unusedVariables false
set_option linter.unusedSimpArgs false
set_option maxRecDepth 100000

def In50 (h₀ : Heap) (v : AV) (n : Nat) (m : Nat) (st : St) : Prop := ∃ (i : Nat) (s : Txt) (b : Nat) (h : Heap), m = n - i ∧ i ≤ n ∧ s.length = i ∧ st = ⟨[(0, v), (1, .int .i64 n), (5, bufSl b s.length (byteCells s)), (6, .int .i64 i)], h⟩ ∧
  (s.length ≠ 0 → h[b]? = some (.cells (byteCells s) 5 true) ∧ h₀.length ≤ b) ∧ Only (fun _ => False) h₀ h

theorem tmod_nat {a b : Nat} : ((a : Int)).tmod b = ((a % b : Nat) : Int) := by
  rw [Int.tmod_eq_emod_of_nonneg (by omega)]; omega

theorem end50 {h₀ h : Heap} {v : AV} {n i : Nat} {s : Txt} {b : Nat} (hb : s.length ≠ 0 → h[b]? = some (.cells (byteCells s) 5 true) ∧ h₀.length ≤ b) (ho : Only (fun _ => False) h₀ h) (hs : s.length ≤ n) {ρ : Env} (h5 : ρ.get 5 = some (bufSl b s.length (byteCells s))) :
    Wt Try.prog (D cfg) (.seq (.reg c50_r6 none (some [4])) .ret) ⟨ρ, h⟩ (Ends Try.prog [.tmp 4] fun r h' => ∃ s : Txt, r = .str s ∧ s.length ≤ n ∧ Only (fun _ => False) h₀ h') := by
  by_cases h0 : s.length = 0
  · have : s = [] := List.length_eq_zero_iff.1 h0
    subst this
    rw [List.length_nil, bufSl_zero] at h5
    have hfin : ∃ s : Txt, (.str [] : AV) = .str s ∧ s.length ≤ n ∧ Only (fun _ => False) h₀ h := ⟨[], rfl, by simp, ho⟩
    simp [c50_r6, h5, aconv]
    simpa using hfin
  · obtain ⟨hb1, _⟩ := hb h0
    have ht : List.take s.length (byteCells s) = byteCells s := List.take_of_length_le (by rw [byteCells_len]; omega)
    have h0' : 0 < s.length := by omega
    have hfin : ∃ s' : Txt, (.str s : AV) = .str s' ∧ s'.length ≤ n ∧ Only (fun _ => False) h₀ h := ⟨s, rfl, hs, ho⟩
    simp only [bufSl, if_neg h0, byteCells_len] at h5
    simp [c50_r6, h5, aconv, slCells, AM.row, hb1, byteCells_len, ht, cellBytes_all]
    simpa using hfin

theorem letters {h : Heap} {v : AV} {l : List Int} (hv : Sl1 h v (intCells l)) {n : Nat} (hn : n ≤ 1000) (hl : l.length ≤ 9223372036854775807) :
    ∃ (s : Txt) (h' : Heap), D cfg 50 [v, .int .i64 n] h = some (.str s, h') ∧ s.length ≤ n ∧ Only (fun _ => False) h h' := by
  have key : ∃ r h', D cfg 50 [v, .int .i64 n] h = some (r, h') ∧ (∃ s : Txt, r = .str s ∧ s.length ≤ n ∧ Only (fun _ => False) h h') := by
    refine call50 (R := fun r h' => ∃ s : Txt, r = .str s ∧ s.length ≤ n ∧ Only (fun _ => False) h h') (args := [v, .int .i64 n]) (h := h) (by simp) ?_
    have hlen := fun L => hv.len (t := 30) (e := 3) (by simp) (L := L)
    simp only [intCells_len] at hlen
    simp [c50, c50_r0, c50_r1, c50_r2]
    refine Wt.loop (In50 h v n) (m := n) ⟨0, [], 0, h, rfl, Nat.zero_le _, rfl, by simp [bufSl], by simp, .refl⟩ ?_
    rintro m st ⟨i, s, b, h1, rfl, hi, hsi, rfl, hb, ho⟩
    have hcut : cut (some [0, 1, 5, 6]) [(0, v), (1, .int .i64 (n : Int)), (5, bufSl b s.length (byteCells s)), (6, .int .i64 (i : Nat))] = [(0, v), (1, .int .i64 n), (5, bufSl b s.length (byteCells s)), (6, .int .i64 (i : Nat))] := by simp
    simp only [hcut]
    have hend := fun ρ h5 => end50 (v := v) (n := n) (i := i) hb ho (by omega) (ρ := ρ) h5
    by_cases hin : i < n
    · have hin' : (i : Int) < n := by omega
      by_cases hl0 : l.length = 0
      · simp only [hl0] at hlen
        simp [c50_l3, c50_r3, hin, hin', len1, hlen]
        have := hend [(0, v), (1, .int .i64 n), (5, bufSl b s.length (byteCells s)), (6, .int .i64 i), (14, .bool false)] (by simp)
        simpa using this
      · have hlp : 0 < l.length := by omega
        have hlp' : (0 : Int) < l.length := by omega
        have hne : (l.length : Int) ≠ 0 := by omega
        have hwr : IntKind.wrap .i64 ((i : Int) + 1) = i + 1 := wrap_i64 (by omega) (by omega)
        have hmod := tmod_nat (a := i) (b := l.length)
        have hml : i % l.length < l.length := Nat.mod_lt _ hlp
        obtain ⟨k, hk⟩ : ∃ k, k = i % l.length := ⟨_, rfl⟩
        rw [← hk] at hmod hml
        have a1 := hv.at (t := 30) (e := 3) (by simp) (by simp) (i := k) (by rw [intCells_len]; exact hml)
        have b1 := (hv.same ho).load (e := 3) (by simp) (i := k) (by rw [intCells_len]; exact hml)
        rw [intCells_get] at b1
        obtain ⟨x, hx⟩ : ∃ x, x = l[k] := ⟨_, rfl⟩
        rw [← hx] at b1
        have p1 := place_run (h := h1) (v := x) (n := 1073741824) (by decide) (by decide)
        obtain ⟨y, hy⟩ : ∃ y, y = x % 1073741824 := ⟨_, rfl⟩
        rw [← hy] at p1
        have hy0 : 0 ≤ y ∧ y < 1073741824 := by omega
        have hii : (i : Int) * i ≤ 1000 * 1000 := Int.mul_le_mul (by omega) (by omega) (by omega) (by omega)
        have hii0 : (0 : Int) ≤ (i : Int) * i := Int.mul_nonneg (by omega) (by omega)
        have hw1 : IntKind.wrap .i64 ((i : Int) * i) = (i : Int) * i := wrap_i64 (by omega) (by omega)
        obtain ⟨q, hq⟩ : ∃ q, q = ((i : Int) * i).tdiv 3 := ⟨_, rfl⟩
        have hq0 : 0 ≤ q ∧ q ≤ 1000000 := by
          rw [hq, Int.tdiv_eq_ediv_of_nonneg hii0]
          omega
        have hw2 : IntKind.wrap .i64 q = q := wrap_i64 (by omega) (by omega)
        have hw3 : IntKind.wrap .i64 (y + q) = y + q := wrap_i64 (by omega) (by omega)
        have p2 := place_run (h := h1) (v := y + q) (n := 4) (by decide) (by decide)
        obtain ⟨z, hz⟩ : ∃ z : Nat, (y + q) % 4 = z := ⟨((y + q) % 4).toNat, by omega⟩
        have hz4 : z < 4 := by omega
        rw [hz] at p2
        obtain ⟨c, hc⟩ : ∃ c : UInt8, ([97, 98, 99, 65] : List UInt8)[z]? = some c := ⟨_, List.getElem?_eq_getElem (by simpa using hz4)⟩
        obtain ⟨δ, h2, e2, e3, e4, o4⟩ := append_byte (h := h1) (b := b) (l := s) (x := c) (fun hne => (hb hne).1) (by omega)
        have hnext : In50 h v n (n - (i + 1)) ⟨[(0, v), (1, .int .i64 n), (5, bufSl (if s.length = 0 then h1.length + 1 else b) (s ++ [c]).length (byteCells (s ++ [c]))), (6, .int .i64 (i + 1 : Nat))], h2⟩ := by
          refine ⟨i + 1, s ++ [c], _, h2, rfl, hin, by simp [hsi], rfl, fun _ => ⟨e4, ?_⟩, ho.fresh o4 fun d e => by rw [e.1]; exact (hb e.2).2⟩
          have := ho.1
          split
          · omega
          · rename_i hne; exact (hb hne).2
        have h3n : (3 : Int) ≠ 0 := by decide
        simp only [List.length_append, List.length_singleton] at e2 hnext
        simp [c50_l3, c50_r3, c50_r4, c50_r5, hin, hin', len1, hlen, hlp, hlp', abin_rem, hne, hl0, hmod, a1, b1, p1, hw1, abin_quo, ← hq, hw2, hw3, p2, aindex, hc, abuildSlice, afill, zeros, e2, e3, hwr]
        exact ⟨n - (i + 1), by omega, by simpa using hnext⟩
    · have hin' : ¬ ((i : Int) < n) := by omega
      simp [c50_l3, c50_r3, hin, hin']
      have := hend [(0, v), (1, .int .i64 n), (5, bufSl b s.length (byteCells s)), (6, .int .i64 i), (14, .bool false)] (by simp)
      simpa using this
  obtain ⟨r, h', h1, s, rfl, h2⟩ := key
  exact ⟨s, h', h1, h2⟩

end Go.AM
