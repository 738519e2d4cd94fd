/-
  The automaton as it lies in the heap; its readers.
-/
import Derived.Test.YtamidpfdiijjgaaA1
import Derived.Test.YtamidpfdiijjgaaP9
namespace Go.AM
open Go Go.Proofs
set_option linter.unusedVariables false
set_option linter.unusedSimpArgs false
set_option maxRecDepth 100000

def grid (n : Nat) (tab : Nat → Nat → Nat) : List AV := (List.range (n * 256)).map fun k => .int .u16 ((tab (k / 256) (k % 256) : Nat) : Int)
def nums (n : Nat) (fl : Nat → Nat) : List AV := (List.range n).map fun s => .int .i64 ((fl s : Nat) : Int)
def outC (n : Nat) (ob : Nat → Nat) (ou : Nat → List Int) : List AV := (List.range n).map fun s => intSl (ob s) (ou s)

theorem grid_len {n : Nat} {tab : Nat → Nat → Nat} : (grid n tab).length = n * 256 := by simp [grid]
theorem nums_len {n : Nat} {fl : Nat → Nat} : (nums n fl).length = n := by simp [nums]
theorem outC_len {n : Nat} {ob : Nat → Nat} {ou : Nat → List Int} : (outC n ob ou).length = n := by simp [outC]
theorem grid_at {n : Nat} {tab : Nat → Nat → Nat} {s b : Nat} (hs : s < n) (hb : b < 256) : (grid n tab)[s * 256 + b]? = some (.int .u16 ((tab s b : Nat) : Int)) := by
  have h1 : s * 256 + b < n * 256 := by omega
  have h2 : (s * 256 + b) / 256 = s := by omega
  have h3 : (s * 256 + b) % 256 = b := by omega
  simp [grid, h1, h2, h3]
theorem nums_at {n : Nat} {fl : Nat → Nat} {s : Nat} (hs : s < n) : (nums n fl)[s]? = some (.int .i64 ((fl s : Nat) : Int)) := by simp [nums, hs]
theorem outC_at {n : Nat} {ob : Nat → Nat} {ou : Nat → List Int} {s : Nat} (hs : s < n) : (outC n ob ou)[s]? = some (intSl (ob s) (ou s)) := by simp [outC, hs]

theorem nums_get {n : Nat} {fl : Nat → Nat} {s : Nat} (h : s < (nums n fl).length) : (nums n fl)[s] = .int .i64 ((fl s : Nat) : Int) := by simp [nums]
theorem outC_get {n : Nat} {ob : Nat → Nat} {ou : Nat → List Int} {s : Nat} (h : s < (outC n ob ou).length) : (outC n ob ou)[s] = intSl (ob s) (ou s) := by simp [outC]
theorem grid_get' {n : Nat} {tab : Nat → Nat → Nat} {k : Nat} (h : k < (grid n tab).length) : (grid n tab)[k] = .int .u16 ((tab (k / 256) (k % 256) : Nat) : Int) := by simp [grid]

/-- The blocks of an automaton. -/
structure AB where
  a : Nat
  nx : Nat
  fl : Nat
  ou : Nat

structure AutoAt (h : Heap) (B : AB) (n : Nat) (tab : Nat → Nat → Nat) (fl : Nat → Nat) (ob : Nat → Nat) (ou : Nat → List Int) : Prop where
  hdr : h[B.a]? = some (.cells [.sl (some ⟨B.nx, 0, n * 256⟩) n n, .sl (some ⟨B.fl, 0, n⟩) n n, .sl (some ⟨B.ou, 0, n⟩) n n] 129 false)
  nx : h[B.nx]? = some (.cells (grid n tab) 132 true)
  fls : h[B.fl]? = some (.cells (nums n fl) 3 true)
  outs : h[B.ou]? = some (.cells (outC n ob ou) 30 true)
  inn : ∀ s, s < n → ou s ≠ [] → h[ob s]? = some (.cells (intCells (ou s)) 3 true) ∧ ob s ∉ [B.a, B.nx, B.fl, B.ou]
  nodup : [B.a, B.nx, B.fl, B.ou].Nodup
  small : n ≤ 60000
  le : ∀ s b, tab s b ≤ 65535
  lens : ∀ s, s < n → (ou s).length ≤ 9000000000000

abbrev AB.ptr (B : AB) : AV := .ptr (some ⟨B.a, 0, 3⟩)
def AB.foot (B : AB) (n : Nat) (ob : Nat → Nat) (ou : Nat → List Int) (b : Nat) : Prop := b ∈ [B.a, B.nx, B.fl, B.ou] ∨ ∃ s, s < n ∧ ou s ≠ [] ∧ b = ob s

section
variable {h : Heap} {B : AB} {n : Nat} {tab : Nat → Nat → Nat} {fl : Nat → Nat} {ob : Nat → Nat} {ou : Nat → List Int}

theorem AutoAt.keep {h' : Heap} {fp : Nat → Prop} (H : AutoAt h B n tab fl ob ou) (ho : Only fp h h') (hf : ∀ b, B.foot n ob ou b → ¬ fp b) : AutoAt h' B n tab fl ob ou :=
  ⟨ho.at H.hdr (hf _ (.inl (by simp))), ho.at H.nx (hf _ (.inl (by simp))), ho.at H.fls (hf _ (.inl (by simp))), ho.at H.outs (hf _ (.inl (by simp))),
    fun s hs hne => ⟨ho.at (H.inn s hs hne).1 (hf _ (.inr ⟨s, hs, hne, rfl⟩)), (H.inn s hs hne).2⟩, H.nodup, H.small, H.le, H.lens⟩
theorem AutoAt.same {h' : Heap} (H : AutoAt h B n tab fl ob ou) (ho : Only (fun _ => False) h h') : AutoAt h' B n tab fl ob ou := H.keep ho fun _ _ => id
theorem AutoAt.foot_lt (H : AutoAt h B n tab fl ob ou) {b : Nat} (hb : B.foot n ob ou b) : b < h.length := by
  rcases hb with hb | ⟨s, hs, hne, rfl⟩
  · simp at hb
    rcases hb with rfl | rfl | rfl | rfl
    · exact lt_of_at H.hdr
    · exact lt_of_at H.nx
    · exact lt_of_at H.fls
    · exact lt_of_at H.outs
  · exact lt_of_at (H.inn s hs hne).1

theorem auto_none (H : AutoAt h B n tab fl ob ou) {s : Int} : D cfg 101 [B.ptr, .int .i64 s] h = some (.bool (decide (s < 0 ∨ (n : Int) ≤ s)), h) := by
  refine D_eq (call101 (R := fun r h' => r = _ ∧ h' = _) (by simp) ?_)
  have h1 := H.hdr
  by_cases hs : s < 0
  · simp [c101, c101_r0, c101_r1, fieldA, aload, row, h1, len1, alen, hs]
  · simp [c101, c101_r0, c101_r1, fieldA, aload, row, h1, len1, alen, hs]

theorem auto_in (H : AutoAt h B n tab fl ob ou) {s : Nat} (hs : s < n) : D cfg 101 [B.ptr, .int .i64 s] h = some (.bool false, h) := by
  rw [auto_none H]
  have : ¬ ((s : Int) < 0 ∨ (n : Int) ≤ s) := by omega
  rw [decide_eq_false this]
theorem auto_off (H : AutoAt h B n tab fl ob ou) {s : Int} (hs : s < 0 ∨ (n : Int) ≤ s) : D cfg 101 [B.ptr, .int .i64 s] h = some (.bool true, h) := by
  rw [auto_none H]
  simp [hs]

theorem auto_states (H : AutoAt h B n tab fl ob ou) : D cfg 56 [B.ptr] h = some (.int .i64 n, h) := by
  refine D_eq (call56 (R := fun r h' => r = _ ∧ h' = _) (by simp) ?_)
  have h1 := H.hdr
  simp [c56, c56_r0, c56_r1, fieldA, aload, row, h1, len1, alen]

theorem auto_fail (H : AutoAt h B n tab fl ob ou) {s : Nat} (hs : s < n) : D cfg 58 [B.ptr, .int .i64 s] h = some (.int .i64 (fl s), h) := by
  refine D_eq (call58 (R := fun r h' => r = _ ∧ h' = _) (by simp) ?_)
  have h1 := H.hdr
  have h2 := H.fls
  have h3 := auto_in H hs
  have h4 : (s : Int) < n := by omega
  simp [c58, c58_r0, c58_r1, c58_r2, c58_r3, h3, h4, fieldA, aload, row, h1, h2, aindexAddr, nums_len, nums_get, hs]

theorem auto_fail_off (H : AutoAt h B n tab fl ob ou) {s : Int} (hs : s < 0 ∨ (n : Int) ≤ s) : D cfg 58 [B.ptr, .int .i64 s] h = some (.int .i64 0, h) := by
  refine D_eq (call58 (R := fun r h' => r = _ ∧ h' = _) (by simp) ?_)
  simp [c58, c58_r0, c58_r1, c58_r2, c58_r3, auto_off H hs]

theorem auto_next (H : AutoAt h B n tab fl ob ou) {s : Nat} (hs : s < n) {b : UInt8} : D cfg 53 [B.ptr, .int .i64 s, .int .u8 b.toNat] h = some (.int .i64 (tab s b.toNat), h) := by
  refine D_eq (call53 (R := fun r h' => r = _ ∧ h' = _) (by simp) ?_)
  have h1 := H.hdr
  have h2 := H.nx
  have h3 := auto_in H hs
  have h4 : (s : Int) < n := by omega
  have hb := b.toNat_lt
  have h5 := grid_at (tab := tab) hs hb
  have h6 := H.le s b.toNat
  have h7 : (b.toNat : Int) < 256 := by omega
  have hw : IntKind.wrap .i64 (tab s b.toNat : Int) = tab s b.toNat := wrap_i64 (by omega) (by omega)
  simp [c53, c53_r0, c53_r1, c53_r2, c53_r3, h3, h4, fieldA, aload, row, h1, h2, aindexAddr, grid_len, h5, hs, hb, h7, aconv, hw]

theorem auto_next_off (H : AutoAt h B n tab fl ob ou) {s : Int} (hs : s < 0 ∨ (n : Int) ≤ s) {b : Int} : D cfg 53 [B.ptr, .int .i64 s, .int .u8 b] h = some (.int .i64 0, h) := by
  refine D_eq (call53 (R := fun r h' => r = _ ∧ h' = _) (by simp) ?_)
  simp [c53, c53_r0, c53_r1, c53_r2, c53_r3, auto_off H hs]

theorem auto_out (H : AutoAt h B n tab fl ob ou) {s : Nat} (hs : s < n) : ∃ b h', D cfg 54 [B.ptr, .int .i64 s] h = some (intSl b (ou s), h') ∧ Only (fun _ => False) h h' ∧ (ou s ≠ [] → h'[b]? = some (.cells (intCells (ou s)) 3 true) ∧ h.length ≤ b) := by
  have h1 := H.hdr
  have h2 := H.outs
  have h3 := auto_in H hs
  have h4 : (s : Int) < n := by omega
  have h5 := outC_at (ob := ob) (ou := ou) hs
  have hc := clone_run (h := h) (b := ob s) (l := ou s) (fun hne => (H.inn s hs hne).1) (H.lens s hs)
  refine ⟨h.length, if ou s = [] then h else h ++ [.cells (intCells (ou s)) 3 true], D_eq (call54 (R := fun r h' => r = _ ∧ h' = _) (by simp) ?_), ?_, fun hne => ⟨?_, Nat.le_refl _⟩⟩
  · simp [c54, c54_r0, c54_r1, c54_r2, c54_r3, h3, h4, fieldA, aload, row, h1, h2, aindexAddr, outC_len, outC_get, hs, hc]
    by_cases hne : ou s = [] <;> simp [intSl, hne]
  · split
    · exact .refl
    · exact .app
  · rw [if_neg hne]; simp

theorem auto_out_off (H : AutoAt h B n tab fl ob ou) {s : Int} (hs : s < 0 ∨ (n : Int) ≤ s) : D cfg 54 [B.ptr, .int .i64 s] h = some (.sl none 0 0, h) := by
  refine D_eq (call54 (R := fun r h' => r = _ ∧ h' = _) (by simp) ?_)
  simp [c54, c54_r0, c54_r1, c54_r2, c54_r3, auto_off H hs]

end
end Go.AM
