/-
  The law TrieDepths returns true.
-/
import Derived.Test.YtamidpfdiijjgaaP5
import Derived.Test.YtamidpfdiijjgaaL4
namespace Go.AM
open Go Go.Proofs
set_option linter.unusedVariables false
set_option linter.unusedSimpArgs false
set_option maxRecDepth 100000

/-- What all of whose beginnings are there adds none. -/
theorem addFrom_in : ∀ {r : Txt} {X : List Txt} {x : Txt}, (∀ j, j ≤ r.length → x ++ r.take j ∈ X) → addFrom X x r = X
  | [], X, x, _ => rfl
  | b :: r, X, x, h => by
    have h1 := h 1 (by simp)
    simp at h1
    rw [addFrom, if_pos h1]
    refine addFrom_in fun j hj => ?_
    have := h (j + 1) (by simp; omega)
    simpa using this

/-- One text's beginnings. -/
theorem one_text {q : Txt} : (addFrom [[]] [] q).length = 1 + q.length ∧ ∀ j, j ≤ q.length → (addFrom [[]] [] q)[j]? = some (q.take j) := by
  cases q with
  | nil => exact ⟨by simp [addFrom], fun j hj => by simp at hj; subst hj; simp [addFrom]⟩
  | cons b r =>
    rw [addFrom_fresh (by simp)]
    refine ⟨by simp; omega, fun j hj => ?_⟩
    cases j with
    | zero => simp
    | succ j =>
      simp at hj
      simp [List.getElem?_range (show j < r.length + 1 by omega)]

theorem b2i_run {h : Heap} {b : Bool} : D cfg 38 [.bool b] h = some (.int .i64 (if b then 1 else 0), h) := by
  refine D_eq (call38 (R := fun r h' => r = _ ∧ h' = _) (by simp) ?_)
  cases b <;> simp [c38, c38_r0, c38_r1, c38_r2, c38_r3]

noncomputable abbrev F4 : CallF := mixed [36] (D cfg)
theorem awake4a : saysTrue (acall cfg 40 36 [] []) = true := by kernel_rfl
theorem awake4 {h : Heap} : F4 36 [] h = some (.bool true, h) := awake_of awake4a rfl
theorem F4_D {f : FuncId} (hf : f ≠ 36) {args : List AV} {h : Heap} : F4 f args h = D cfg f args h := mixed_D (by simp [hf])

def alpha : Txt := [97, 98, 99, 100, 101, 102, 103, 104, 105, 106, 107, 108, 109, 110, 111, 112, 113, 114, 115, 116, 117, 118, 119, 120, 121, 122, 48, 49, 50, 51, 52, 53, 54, 55, 56, 57, 65, 66, 67, 68, 69, 70]

theorem places_two {q : Txt} {c : Nat} (hc : c ≤ q.length) : places (q.take c) [q, q.take c] 0 = if c = q.length then [0, 1] else [1] := by
  have h : q = q.take c ↔ c = q.length := by
    constructor
    · intro h
      have := congrArg List.length h
      simp at this
      omega
    · rintro rfl; simp
  simp only [places]
  by_cases hq : c = q.length
  · rw [if_pos (h.2 hq), if_pos hq]; simp
  · rw [if_neg (fun e => hq (h.1 e)), if_neg hq]; simp

theorem depths_walk {n ct : Int} : Wt Try.prog F4 c4 ⟨argsEnv 0 [.int .i64 n, .int .i64 ct], []⟩ (Ends Try.prog [.tmp 4] fun r _ => r = .bool true) := by
  have p1 := place_run (h := []) (v := n) (n := 40) (by decide) (by decide)
  obtain ⟨k, hk⟩ : ∃ k : Nat, n % 40 = k := ⟨(n % 40).toNat, by omega⟩
  have hk1 : k < 40 := by omega
  have hal : alpha.length = 42 := by decide
  obtain ⟨p, hp⟩ : ∃ p, p = alpha.take k := ⟨_, rfl⟩
  have hpl : p.length = k := by rw [hp]; simp [hal]; omega
  obtain ⟨q, hq⟩ : ∃ q, q = p.take 16 := ⟨_, rfl⟩
  obtain ⟨m, hm⟩ : ∃ m, m = q.length := ⟨_, rfl⟩
  have hm1 : m = min k 16 := by rw [hm, hq, List.length_take, hpl]; omega
  obtain ⟨B, h1, e1, H, _, _⟩ := tr_new (h := [])
  obtain ⟨B2, T2, h2, e2, g2, H2, _, _⟩ := tr_add H (by simp) (by simp) (p := p) (by omega)
  rw [← hq] at H2
  simp only [List.nil_append, List.length_nil] at H2 e2
  obtain ⟨L, hX⟩ := one_text (q := q)
  have e3 := tr_states H2
  have hXm := hX m (by omega)
  rw [hm, List.take_length] at hXm
  have e4 := tr_depth H2 hXm
  obtain ⟨c, hc⟩ : ∃ c : Nat, ct % ((m : Int) + 1) = c := ⟨(ct % ((m : Int) + 1)).toNat, by have := Int.emod_nonneg ct (b := (m : Int) + 1) (by omega); omega⟩
  have hc1 : c ≤ m := by have := Int.emod_lt_of_pos ct (b := (m : Int) + 1) (by omega); omega
  have p2 := place_run (h := h2) (v := ct) (n := (m : Int) + 1) (by omega) (by omega)
  have hpc : (p.take c).take 16 = q.take c := by rw [hq, List.take_take, List.take_take]; congr 1; omega
  obtain ⟨B5, T5, h5, e5, g5, H5, _, _⟩ := tr_add H2 (by rw [L]; omega) (by simp) (p := p.take c) (by simp; omega)
  rw [hpc, addFrom_in (fun j hj => by
    simp at hj
    have := hX j (by omega)
    rw [List.take_take, Nat.min_eq_left (by omega)]
    exact List.mem_of_getElem? this)] at H5
  have e6 := tr_states H5
  obtain ⟨b7, h7, e7, o7, d7⟩ := tr_ends H5 (by simp) (hX c (by omega))
  simp only [List.cons_append, List.nil_append] at e7 d7
  rw [places_two (by omega)] at e7 d7
  have hg : B5.ptr = B.ptr := by rw [g5, g2]
  rw [g2] at e3 e4 e5
  rw [hg] at e6 e7
  rw [L, ← hm] at e3 e6
  rw [← hm] at e4 e7 d7
  rw [hc] at p2
  simp at e2 e3 e4 e5 e6 e7 p2
  have hkk : (k : Int) ≤ 42 := by omega
  have hw1 : IntKind.wrap .i64 ((m : Int) + 1) = m + 1 := wrap_i64 (by omega) (by omega)
  have hw2 : IntKind.wrap .i64 (1 + (m : Int)) = 1 + m := wrap_i64 (by omega) (by omega)
  have hmin : (if (k : Int) ≤ 16 then (k : Int) else 16) = m := by split <;> omega
  have hmin' : (if (16 : Int) < k then (16 : Int) else k) = m := by split <;> omega
  have hsl : alpha.take k = p := hp.symm
  simp only [alpha] at hsl
  have hck : c ≤ k := by omega
  have H7 := H5.same o7
  have k0 : IntKind.wrap .i64 0 = 0 := wrap_i64 (by decide) (by decide)
  have k1 : IntKind.wrap .i64 1 = 1 := wrap_i64 (by decide) (by decide)
  have k2 : IntKind.wrap .i64 2 = 2 := wrap_i64 (by decide) (by decide)
  simp [c4, c4_r0, c4_r1, c4_r2, c4_r3, c4_r4, c4_r5, c4_r6, c4_r7, c4_r8, c4_r9, c4_r10, c4_r11, c4_r12, F4_D, p1, p2, hk, e1, e2, e3, e4, e5, e6, e7, aslice, bound, hkk, hsl, hpl, hw1, hw2, amin, amin1, hmin, hmin', hck]
  by_cases hm0 : m = 0
  · have hc0 : c = 0 := by omega
    obtain ⟨h8, e8, o8⟩ := tr_parent_off H7 (s := 0) (by omega)
    rw [hg] at e8
    rw [if_pos (by omega)] at e7 d7 ⊢
    obtain ⟨d8, d9⟩ := d7 (by simp)
    have d10 := o8.at d9 id
    simp [c4_r13, c4_r14, F4_D, e8, extractV, len1, alen, b2i_run, aindexAddr, aload, row, d10, awake4, intCells, hm0, hc0, k0, k1, k2, intSl]
  · obtain ⟨x, b, hqx⟩ : ∃ x b, q = x ++ [b] := by
      rcases List.eq_nil_or_concat q with h | ⟨x, b, h⟩
      · rw [h] at hm; simp at hm; exact absurd hm hm0
      · exact ⟨x, b, by simpa using h⟩
    have hxl : x.length = m - 1 := by rw [hqx] at hm; simp at hm; omega
    have hxt : q.take (m - 1) = x := by rw [hqx, ← hxl]; simp
    rw [← hm] at hXm
    have hXm' := hXm
    rw [hqx] at hXm'
    obtain ⟨s', h8, e8, hs', o8⟩ := tr_parent H7 (s := q.length) (x := x) (b := b) (by rw [hqx]; rw [hm, hqx] at hXm'; exact hXm')
    have hX1 := hX (m - 1) (by omega)
    rw [hxt] at hX1
    have hu := idx_unique H7.model.nodup hs' hX1
    rw [hg, ← hm, hu] at e8
    have hpb : p[m - 1]? = some b := by
      rw [← List.take_append_drop 16 p, ← hq, hqx, ← hxl]
      simp
    have hcast : ((m - 1 : Nat) : Int) = (m : Int) - 1 := by omega
    rw [hcast] at e8
    have hw3 : IntKind.wrap .i64 ((m : Int) - 1) = m - 1 := wrap_i64 (by omega) (by omega)
    have hle : (1 : Int) ≤ m := by omega
    have hmpos : 0 < m := by omega
    have htn : ((m : Int) - 1).toNat = m - 1 := by omega
    by_cases hcm : c = m
    · rw [if_pos hcm] at e7 d7
      obtain ⟨d8, d9⟩ := d7 (by simp)
      have d10 := o8.at d9 id
      simp [c4_r13, c4_r14, F4_D, e8, extractV, len1, alen, b2i_run, aindexAddr, aindex, aload, row, d10, awake4, intCells, hm0, hcm, k0, k1, k2, intSl, hw3, hle, hmpos, htn, hpb]
    · rw [if_neg hcm] at e7 d7
      have hcm' : ¬ ((c : Int) = m) := by omega
      obtain ⟨d8, d9⟩ := d7 (by simp)
      have d10 := o8.at d9 id
      simp [c4_r13, c4_r14, F4_D, e8, extractV, len1, alen, b2i_run, aindexAddr, aindex, aload, row, d10, awake4, intCells, hm0, hcm, hcm', k0, k1, k2, intSl, hw3, hle, hmpos, htn, hpb]

end Go.AM
