/-
  Numbers by numbers (11); digits (12, 15).
-/
import Derived.Test.YtamidpfdiijjgaaDoorE9
namespace Go.AM
open Go Go.Proofs
set_option linter.unusedVariables false
set_option linter.unusedSimpArgs false
set_option maxRecDepth 100000

theorem tmod_fix {v n : Int} (hn : 0 < n) : (if v.tmod n < 0 then v.tmod n + n else v.tmod n) = v % n := by
  have h1 : 0 ≤ v % n := Int.emod_nonneg _ (by omega)
  have h2 : v % n < n := Int.emod_lt_of_pos _ hn
  have h3 : v.tmod n = v % n ∨ v.tmod n = v % n - n := by
    rw [Int.tmod_eq_emod]
    split
    · simp
    · right; rw [Int.natAbs_of_nonneg (by omega)]
  have h4 : v.tmod n = v % n - n → v.tmod n < 0 := by omega
  split <;> rcases h3 with h | h
  · omega
  · omega
  · omega
  · omega

theorem place_run {h : Heap} {v n : Int} (hn : 0 < n) (hs : n ≤ 4611686018427387904) : D cfg 11 [.int .i64 v, .int .i64 n] h = some (.int .i64 (v % n), h) := by
  refine D_eq (call11 (R := fun r h' => r = _ ∧ h' = _) (by simp) ?_)
  have hn0 : n ≠ 0 := by omega
  have h1 : 0 ≤ v % n := Int.emod_nonneg _ (by omega)
  have h2 : v % n < n := Int.emod_lt_of_pos _ hn
  have h3 := tmod_fix (v := v) hn
  have h4 : n + v.tmod n = v.tmod n + n := by omega
  by_cases hv : v.tmod n < 0
  · have hw : IntKind.wrap .i64 (v.tmod n + n) = v.tmod n + n := by rw [if_pos hv] at h3; exact wrap_i64 (by omega) (by omega)
    rw [if_pos hv] at h3
    rw [← h3]
    simp [abin_rem, c11, c11_r0, c11_r1, c11_r2, c11_r3, c11_r4, hn0, hv, hw]
  · rw [if_neg hv] at h3
    rw [← h3]
    simp [abin_rem, c11, c11_r0, c11_r1, c11_r2, c11_r3, c11_r4, hn0, hv]


/-- A number's digits. -/
def decF : Nat → Nat → Txt
  | 0, _ => []
  | n + 1, x => if x < 10 then [UInt8.ofNat (48 + x)] else decF n (x / 10) ++ [UInt8.ofNat (48 + x % 10)]

theorem decF_small {n x : Nat} (h : x < 10) : decF (n + 1) x = [UInt8.ofNat (48 + x)] := by simp [decF, h]
theorem decF_big {n x : Nat} (h : ¬ x < 10) : decF (n + 1) x = decF n (x / 10) ++ [UInt8.ofNat (48 + x % 10)] := by simp [decF, h]
theorem decF_len : ∀ {n x : Nat}, (decF n x).length ≤ n
  | 0, x => by simp [decF]
  | n + 1, x => by
    unfold decF
    split
    · simp
    · have := decF_len (n := n) (x := x / 10)
      simp; omega

theorem one_digit {x : Nat} (h : x < 10) : (([48, 49, 50, 51, 52, 53, 54, 55, 56, 57] : Txt).drop x).take 1 = [UInt8.ofNat (48 + x)] := by
  have : ∀ x, x < 10 → (([48, 49, 50, 51, 52, 53, 54, 55, 56, 57] : Txt).drop x).take 1 = [UInt8.ofNat (48 + x)] := by decide
  exact this x h

theorem dec15 : ∀ {n x : Nat} {h : Heap}, x < 10 ^ n → 0 < n → n ≤ 18 → D cfg 15 [.int .i64 x] h = some (.str (decF n x), h)
  | 0, x, h, _, h0, _ => by omega
  | n + 1, x, h, hx, _, hn => by
    refine D_eq (call15 (R := fun r h' => r = _ ∧ h' = _) (by simp) ?_)
    have h18 : (10 : Nat) ^ (n + 1) ≤ 10 ^ 18 := Nat.pow_le_pow_right (by omega) hn
    by_cases hs : x < 10
    · rw [decF_small hs]
      have hs' : (x : Int) < 10 := by omega
      have w1 : IntKind.wrap .i64 ((x : Int) + 1) = x + 1 := wrap_i64 (by omega) (by omega)
      have b1 : (x : Int) + 1 ≤ 10 := by omega
      have b2 : (0 : Int) ≤ (x : Int) + 1 := by omega
      have b3 : ((x : Int) + 1).toNat = x + 1 := by omega
      have b4 : (x : Int) ≤ (x : Int) + 1 := by omega
      have b5 : x + 1 - x = 1 := by omega
      simp [c15, c15_r0, c15_r1, c15_r2, hs', hs, w1, aslice, bound, b1, b2, b3, b4, b5, one_digit hs]
    · rw [decF_big hs]
      have hs' : ¬ (x : Int) < 10 := by omega
      have hn0 : 0 < n := by
        rcases Nat.eq_zero_or_pos n with h0 | h0
        · subst h0; simp at hx; omega
        · exact h0
      have ih := dec15 (n := n) (x := x / 10) (h := h) (by rw [Nat.pow_succ] at hx; omega) hn0 (by omega)
      have q1 : (x : Int).tdiv 10 = ((x / 10 : Nat) : Int) := by rw [Int.tdiv_eq_ediv_of_nonneg (by omega)]; omega
      have q2 : (x : Int).tmod 10 = ((x % 10 : Nat) : Int) := by rw [Int.tmod_eq_emod_of_nonneg (by omega)]; omega
      have w0 : IntKind.wrap .i64 ((x / 10 : Nat) : Int) = ((x / 10 : Nat) : Int) := wrap_i64 (by omega) (by omega)
      have w1 : IntKind.wrap .i64 (((x % 10 : Nat) : Int) + 1) = ((x % 10 : Nat) : Int) + 1 := wrap_i64 (by omega) (by omega)
      obtain ⟨y, hy⟩ : ∃ y, y = x % 10 := ⟨_, rfl⟩
      obtain ⟨z, hz⟩ : ∃ z, z = x / 10 := ⟨_, rfl⟩
      rw [← hy] at q2 w1
      rw [← hz] at q1 w0 ih
      have hy10 : y < 10 := by omega
      have b1 : (y : Int) + 1 ≤ 10 := by omega
      have b2 : (0 : Int) ≤ (y : Int) + 1 := by omega
      have b3 : ((y : Int) + 1).toNat = y + 1 := by omega
      have b5 : y + 1 - y = 1 := by omega
      have b6 : (y : Int) ≤ (y : Int) + 1 := by omega
      have hlen := decF_len (n := n) (x := z)
      have hsum : (decF n z).length + 1 ≤ 9223372036854775807 := by omega
      simp [c15, c15_r0, c15_r1, c15_r3, hs', hs, abin_quo, abin_rem, q1, q2, w0, ih, w1, aslice, bound, b1, b2, b3, b5, b6, one_digit hy10, abin_addS, hsum, ← hy, ← hz]

theorem digits12 {x : Nat} (hx : x < 10 ^ 18) {h : Heap} : D cfg 12 [.int .i64 x] h = some (.str (decF 18 x), h) := by
  refine D_eq (call12 (R := fun r h' => r = _ ∧ h' = _) (by simp) ?_)
  have := dec15 (n := 18) (x := x) (h := h) hx (by omega) (by omega)
  simp [c12, c12_r0, c12_r1, this]

end Go.AM
