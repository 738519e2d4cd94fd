/-
  The law AutoFails returns true.
-/
import Derived.Test.YtamidpfdiijjgaaA9
import Derived.Test.YtamidpfdiijjgaaL15
namespace Go.AM
open Go Go.Proofs
set_option linter.unusedVariables false
set_option linter.unusedSimpArgs false
set_option maxRecDepth 100000

noncomputable abbrev F15 : CallF := mixed [51] (D cfg)
theorem awake15 {h : Heap} : F15 51 [] h = some (.bool true, h) := awake14c rfl
theorem F15_D {f : FuncId} (hf : f ≠ 51) {args : List AV} {h : Heap} : F15 f args h = D cfg f args h := mixed_D (by simp [hf])

def runA (k : Nat) : Txt := List.replicate k 97
def patA (k : Nat) : List Txt := [runA k, [98]]

/-- All that the law asks of the plain automaton: so many cases, each closed. -/
def factsA (k : Nat) : Bool :=
  let X := begs (patA k)
  decide (X.length = k + 2) && bgood (patA k) && (List.range 41).all fun i =>
    decide (st X (lsuf X (runA i)) = min i k) && decide (i = 0 ∨ st X (fsuf X (lsuf X (runA i))) + 1 = min i k) && decide ((outs (runA i) (patA k) 0).length = if k ≤ i then 1 else 0)
      && decide (st X (lsuf X (runA i ++ [98])) = k + 1) && decide (st X (fsuf X (lsuf X (runA i ++ [98]))) = 0) && decide (st X (lsuf X (runA i ++ [99])) = 0) && decide (outs (runA i ++ [98]) (patA k) 0 = [1])

theorem facts_all : (List.range 16).all (fun k => factsA (k + 1)) = true := by kernel_rfl

theorem facts_at {k : Nat} (h1 : 1 ≤ k) (h2 : k ≤ 16) : factsA k = true := by
  have := List.all_eq_true.1 facts_all (k - 1) (by simp; omega)
  rwa [show k - 1 + 1 = k by omega] at this

theorem facts_i {k i : Nat} (h : factsA k = true) (hi : i ≤ 40) : st (begs (patA k)) (lsuf (begs (patA k)) (runA i)) = min i k ∧ (i = 0 ∨ st (begs (patA k)) (fsuf (begs (patA k)) (lsuf (begs (patA k)) (runA i))) + 1 = min i k) ∧ (outs (runA i) (patA k) 0).length = (if k ≤ i then 1 else 0) ∧
    st (begs (patA k)) (lsuf (begs (patA k)) (runA i ++ [98])) = k + 1 ∧ st (begs (patA k)) (fsuf (begs (patA k)) (lsuf (begs (patA k)) (runA i ++ [98]))) = 0 ∧ st (begs (patA k)) (lsuf (begs (patA k)) (runA i ++ [99])) = 0 ∧ outs (runA i ++ [98]) (patA k) 0 = [1] := by
  simp only [factsA, Bool.and_eq_true, List.all_eq_true, decide_eq_true_eq] at h
  have := h.2 i (by simp; omega)
  obtain ⟨⟨⟨⟨⟨⟨h1, h2⟩, h3⟩, h4⟩, h5⟩, h6⟩, h7⟩ := this
  exact ⟨h1, h2, h3, h4, h5, h6, h7⟩

abbrev env15 (K : Nat) (P : AV) (s : Nat) (m i : Nat) : Env := [(5, .int .i64 K), (7, P), (9, .int .i64 s), (10, .int .i64 m), (11, .int .i64 i)]

def Lp15 (h₀ : Heap) (k : Nat) (P : AV) (n : Nat) (m : Nat) (σ : St) : Prop :=
  ∃ i h, m = n - i ∧ i ≤ n ∧ σ = ⟨env15 k P (min i k) n (i + 1), h⟩ ∧ Only (fun _ => False) h₀ h

theorem runA_succ {i : Nat} : runA i ++ [97] = runA (i + 1) := by simp [runA, List.replicate_succ']

theorem fails_walk {n steps : Int} : Wt Try.prog F15 c15 ⟨argsEnv 0 [.int .i64 n, .int .i64 steps], []⟩ (Ends Try.prog [.tmp 4] fun r _ => r = .bool true) := by
  have p1 := place_run (h := []) (v := n) (n := 16) (by decide) (by decide)
  obtain ⟨k0, hk0⟩ : ∃ k : Nat, n % 16 = k := ⟨(n % 16).toNat, by omega⟩
  rw [hk0] at p1
  obtain ⟨k, hk⟩ : ∃ k, k = k0 + 1 := ⟨_, rfl⟩
  have hw1 : IntKind.wrap .i64 (1 + (k0 : Int)) = (k : Int) := by rw [wrap_i64 (by omega) (by omega)]; omega
  have hk1 : 1 ≤ k := by omega
  have hk16 : k ≤ 16 := by omega
  have hF := facts_at hk1 hk16
  have hk16' : (k : Int) ≤ 16 := by omega
  have hlen : (begs (patA k)).length = k + 2 := by
    simp only [factsA, Bool.and_eq_true, decide_eq_true_eq] at hF; exact hF.1.1
  have hg : bgood (patA k) = true := by
    simp only [factsA, Bool.and_eq_true, decide_eq_true_eq] at hF; exact hF.1.2
  have hv : Sl1 [.cells (strCells (patA k)) 9 true] (.sl (some ⟨0, 0, 2⟩) 2 2) (strCells (patA k)) := Sl1.cells (b := 0) (e := 9) (s := true) (xs := strCells (patA k)) rfl
  obtain ⟨B, tab, fl, ob, ou, h1, e1, o1, A, _⟩ := build_ok (bud := 100) hv (by intro b hb; simp [slB] at hb; subst hb; simp) (by simp [patA]) hg (by omega) (by omega)
  have e1' : D cfg 52 [.sl (some ⟨0, 0, 2⟩) 2 2, .int .i64 100] [.cells [.str (runA k), .str [98]] 9 true] = some (.tup [B.ptr, .int .i64 0], h1) := e1
  have htk : List.take k [97, 97, 97, 97, 97, 97, 97, 97, 97, 97, 97, 97, 97, 97, 97, 97] = runA k := by
    have : ([97, 97, 97, 97, 97, 97, 97, 97, 97, 97, 97, 97, 97, 97, 97, 97] : Txt) = List.replicate 16 97 := rfl
    rw [this, List.take_replicate, Nat.min_eq_left hk16]; rfl
  have e2 := ax_states A
  obtain ⟨K2, hK2⟩ : ∃ K2 : Int, K2 = k + 2 := ⟨_, rfl⟩
  have hw2 : IntKind.wrap .i64 ((k : Int) + 2) = K2 := by rw [hK2]; exact wrap_i64 (by omega) (by omega)
  rw [hlen] at e2
  have e2' : D cfg 56 [B.ptr] h1 = some (.int .i64 K2, h1) := by rw [e2, hK2]; simp
  have p2 := place_run (h := h1) (v := steps) (n := 40) (by decide) (by decide)
  obtain ⟨m, hm⟩ : ∃ m : Nat, steps % 40 = m := ⟨(steps % 40).toNat, by omega⟩
  rw [hm] at p2
  have hm40 : m < 40 := by omega
  simp [c15, c15_r0, c15_r1, c15_r2, c15_r3, c15_r4, c15_r6, c15_r7, c15_r8, F15_D, p1, hw1, aslice, bound, hk16, hk16', htk, abuildSlice, afill, zeros, e1', extractV, e2', hw2, p2]
  refine Wt.loop (Lp15 h1 k B.ptr m) (m := m) ⟨0, h1, rfl, Nat.zero_le _, by simp, .refl⟩ ?_
  rintro q σ ⟨i, h2, rfl, hi, rfl, o2⟩
  have hcut : cut (some [5, 7, 9, 10, 11]) (env15 k B.ptr (min i k) m (i + 1)) = env15 k B.ptr (min i k) m (i + 1) := by simp
  simp only [hcut]
  have A2 := A.same o2
  obtain ⟨f1, f2, f3, f4, f5, f6, f7⟩ := facts_i (i := i) hF (by omega)
  by_cases him : i < m
  · have him' : ((i : Int) + 1) ≤ m := by omega
    obtain ⟨g1, g2, g3, _, _, _, _⟩ := facts_i (i := i + 1) hF (by omega)
    have e3 := ax_next A2 (w := runA i) (b := 97)
    rw [f1, runA_succ, g1] at e3
    obtain ⟨s, hs⟩ : ∃ s : Nat, s = min (i + 1) k := ⟨_, rfl⟩
    rw [← hs] at e3 g1 g2
    have e3' : D cfg 53 [B.ptr, .int .i64 ((min i k : Nat) : Int), .int .u8 97] h2 = some (.int .i64 s, h2) := e3
    have e4 := ax_fail A2 (x := lsuf (begs (patA k)) (runA (i + 1))) A2.lmem
    rw [g1] at e4
    obtain ⟨s', hs'⟩ : ∃ s' : Nat, s' = st (begs (patA k)) (fsuf (begs (patA k)) (lsuf (begs (patA k)) (runA (i + 1)))) := ⟨_, rfl⟩
    rw [← hs'] at e4 g2
    have hw5 : IntKind.wrap .i64 ((s : Int) - 1) = (s' : Int) := by rw [wrap_i64 (by omega) (by omega)]; omega
    obtain ⟨b, h3, e5, o3, _⟩ := ax_out A2 (w := runA (i + 1))
    rw [g1] at e5
    obtain ⟨O, hO⟩ : ∃ O, outs (runA (i + 1)) (patA k) 0 = O := ⟨_, rfl⟩
    rw [hO] at e5 g3
    have hol := fun L => intSl_lenA (L := L) (b := b) (l := O)
    have hmin : (if (k : Int) < (i : Int) + 1 then (k : Int) else (i : Int) + 1) = (s : Int) := by rw [hs]; split <;> omega
    have hwr : IntKind.wrap .i64 ((i : Int) + 1 + 1) = i + 1 + 1 := wrap_i64 (by omega) (by omega)
    have hnext : Lp15 h1 k B.ptr m (m - (i + 1)) ⟨env15 k B.ptr (min (i + 1) k) m (i + 1 + 1), h3⟩ := ⟨i + 1, h3, rfl, him, rfl, o2.trans o3⟩
    rw [← hs] at hnext
    have hcmp : (decide ((O.length : Int) = 1) == decide ((k : Int) ≤ (i : Int) + 1)) = true := by
      rw [beq_iff_eq, Bool.eq_iff_iff, decide_eq_true_eq, decide_eq_true_eq, g3]
      split <;> omega
    simp [c15_l9, c15_r9, c15_r10, c15_r11, c15_r12, him', F15_D, e3', amin, amin1, hmin, e4, hw5, e5, len1, hol, hwr, hcmp]
    exact ⟨m - (i + 1), by omega, by simpa [env15] using hnext⟩
  · have : i = m := by omega
    subst this
    obtain ⟨s, hs⟩ : ∃ s : Nat, s = min i k := ⟨_, rfl⟩
    rw [← hs] at f1
    have e3 := ax_next A2 (w := runA i) (b := 98)
    obtain ⟨K1, hK1⟩ : ∃ K1 : Int, K1 = k + 1 := ⟨_, rfl⟩
    have hw3 : IntKind.wrap .i64 ((k : Int) + 1) = K1 := by rw [hK1]; exact wrap_i64 (by omega) (by omega)
    have hcast : ((k + 1 : Nat) : Int) = K1 := by omega
    rw [f1, f4, hcast] at e3
    have e3' : D cfg 53 [B.ptr, .int .i64 (s : Int), .int .u8 98] h2 = some (.int .i64 K1, h2) := e3
    have e4 := ax_fail A2 (x := lsuf (begs (patA k)) (runA i ++ [98])) A2.lmem
    rw [f4, f5, hcast] at e4
    have e4' : D cfg 58 [B.ptr, .int .i64 K1] h2 = some (.int .i64 0, h2) := e4
    have e5 := ax_next A2 (w := runA i) (b := 99)
    rw [f1, f6] at e5
    have e5' : D cfg 53 [B.ptr, .int .i64 (s : Int), .int .u8 99] h2 = some (.int .i64 0, h2) := e5
    obtain ⟨b3, h3, e6, o3, d3⟩ := ax_out A2 (w := runA i ++ [98])
    rw [f4, f7, hcast] at e6
    obtain ⟨b4, h4, e7, o4, d4⟩ := ax_out (A2.same o3) (w := runA i ++ [98])
    rw [f7] at d4
    rw [f4, f7, hcast] at e7
    have hd := (d4 (by simp)).1
    have hi1 : ∀ b, intSl b [1] = .sl (some ⟨b, 0, 1⟩) 1 1 := fun b => by simp [intSl]
    simp only [hi1] at e6 e7
    simp only [env15, ← hs]
    have hii : ¬ ((i : Int) + 1 ≤ i) := by omega
    simp [hii, c15_l9, c15_r9, c15_r14, c15_r15, F15_D, e3', hw3, e4', e5', e6, e7, len1, alen, aindexAddr, aload, row, hd, intCells, awake15]

end Go.AM
