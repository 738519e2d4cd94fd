/-
  The law AutoBudget returns true.
-/
import Derived.Test.YtamidpfdiijjgaaA9
import Derived.Test.YtamidpfdiijjgaaL14
namespace Go.AM
open Go Go.Proofs
set_option linter.unusedVariables false
set_option linter.unusedSimpArgs false
set_option maxRecDepth 100000

noncomputable abbrev F14 : CallF := mixed [51] (D cfg)
theorem awake14F {h : Heap} : F14 51 [] h = some (.bool true, h) := awake14c rfl
theorem F14_D {f : FuncId} (hf : f ≠ 51) {args : List AV} {h : Heap} : F14 f args h = D cfg f args h := mixed_D (by simp [hf])

theorem budget_walk {h₀ : Heap} {v : AV} {l : List Txt} {less ask : Int} (hv : Sl1 h₀ v (strCells l)) (hvb : ∀ b, slB v = some b → b < h₀.length) (hl : l.length ≤ 9223372036854775807) :
    Wt Try.prog F14 c14 ⟨argsEnv 0 [v, .int .i64 less, .int .i64 ask], h₀⟩ (Ends Try.prog [.tmp 6] fun r _ => r = .bool true) := by
  have e1 := few_run hv hl
  cases hf : fewB 20 l with
  | false =>
    rw [hf] at e1
    simp [c14, c14_r0, c14_r1, c14_r2, F14_D, e1, awake14F]
  | true =>
    rw [hf] at e1
    simp only [fewB, Bool.and_eq_true, decide_eq_true_eq] at hf
    obtain ⟨hl20, hg⟩ := hf
    have hgp := fun q hq => (bgood_at (l := l) hg (p := q) hq).2
    have e2 := ref_states hv (by omega) (fun q hq => by have := hgp q hq; omega)
    rw [cnt_begs] at e2
    have hb := bgood_begs hg
    obtain ⟨n, hn⟩ : ∃ n : Nat, (begs l).length = n := ⟨_, rfl⟩
    have hn0 : 0 < n := by
      rw [← hn]
      exact List.length_pos_iff.2 (fun e => by have := (mem_begs (ps := l) (x := [])).2 (.inl rfl); rw [e] at this; simp at this)
    obtain ⟨B, tab, fl, ob, ou, h1, e3, o1, A, _⟩ := build_ok (bud := (n : Int)) hv hvb (by omega) hg (by omega) (by omega)
    rw [hn] at e2
    have p1 := place_run (h := h1) (v := less) (n := (n : Int)) (by omega) (by omega)
    obtain ⟨k, hk⟩ : ∃ k : Nat, less % (n : Int) = k := ⟨(less % (n : Int)).toNat, by have := Int.emod_nonneg less (b := (n : Int)) (by omega); omega⟩
    have hkn : (k : Int) < n := by rw [← hk]; exact Int.emod_lt_of_pos _ (by omega)
    rw [hk] at p1
    obtain ⟨K, hK⟩ : ∃ K : Int, K = 1 + k := ⟨_, rfl⟩
    have hw1 : IntKind.wrap .i64 (1 + (k : Int)) = K := by rw [hK]; exact wrap_i64 (by omega) (by omega)
    obtain ⟨M, hM⟩ : ∃ M : Int, M = n - K := ⟨_, rfl⟩
    have hw2 : IntKind.wrap .i64 ((n : Int) - K) = M := by rw [hM]; exact wrap_i64 (by omega) (by omega)
    obtain ⟨h2, e4, o2⟩ := build_many (bud := M) (hv.same o1) (fun b hb => by have := hvb b hb; have := o1.1; omega) (by omega) hg (by omega)
    have A2 := A.same o2
    have e5 := ax_states A2
    rw [hn] at e5
    have p2 := place_run (h := h2) (v := ask) (n := 100) (by decide) (by decide)
    obtain ⟨j, hj⟩ : ∃ j : Nat, ask % 100 = j := ⟨(ask % 100).toNat, by omega⟩
    rw [hj] at p2
    obtain ⟨S, hS⟩ : ∃ S : Int, S = n + j := ⟨_, rfl⟩
    have hw3 : IntKind.wrap .i64 ((n : Int) + j) = S := by rw [hS]; exact wrap_i64 (by omega) (by omega)
    have hS1 : S < 0 ∨ ((begs l).length : Int) ≤ S := .inr (by omega)
    have hS2 : -1 - S < 0 ∨ ((begs l).length : Int) ≤ -1 - S := .inl (by omega)
    have hw4 : IntKind.wrap .i64 (-1 - S) = -1 - S := wrap_i64 (by omega) (by omega)
    have f1 := auto_next_off A2.at_ hS1 (b := 97)
    have f2 := auto_fail_off A2.at_ hS1
    have f3 := auto_out_off A2.at_ hS1
    have f4 := auto_next_off A2.at_ hS2 (b := 97)
    have f5 := auto_out_off A2.at_ hS2
    have f6 := ax_fail A2 (x := []) A2.mem0
    have hs0 : st (begs l) [] = 0 := st_nil A2.nodup A2.zero
    have hf0 : fsuf (begs l) [] = [] := rfl
    rw [hf0, hs0] at f6
    have f6' : D cfg 58 [B.ptr, .int .i64 0] h2 = some (.int .i64 0, h2) := f6
    have hl30 : ∀ L, alen Try.prog L 30 (.sl none 0 0) = some (.int .i64 0) := fun L => by simp [alen]
    simp [c14, c14_r0, c14_r1, c14_r3, c14_r4, c14_r5, c14_r6, c14_r7, c14_r9, c14_r10, F14_D, e1, e2, e3, extractV, p1, hw1, hw2, e4, e5, p2, hw3, f1, f2, f3, f4, f5, f6', hw4, len1, hl30, awake14F]

end Go.AM
