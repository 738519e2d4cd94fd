/-
  Printed by program (wip/tools/print.sh): the table of functions.
-/
import Derived.Test.YtamidpfdiijjgaaDoorC0
import Derived.Test.YtamidpfdiijjgaaDoorC1
import Derived.Test.YtamidpfdiijjgaaDoorX1
namespace Go.AM
open Go Go.Proofs
set_option maxRecDepth 100000
def hints : List (Nat × Hint) := [(8, H8), (9, H9), (10, H10), (11, H11), (12, H12), (13, H13), (14, H14), (15, H15), (16, H16), (17, H17), (18, H18), (19, H19), (20, H20), (21, H21), (22, H22), (23, H23), (24, H24), (25, H25), (26, H26), (27, H27), (28, H28), (29, H29), (30, H30), (31, H31), (32, H32), (33, H33), (34, H34), (36, H36), (37, H37), (38, H38), (39, H39), (46, H46), (47, H47), (48, H48), (49, H49), (58, H58)]
def cover : List Nat := [8, 9, 10, 11, 12, 13, 14, 15, 16, 17, 18, 19, 20, 21, 22, 23, 24, 25, 26, 27, 28, 29, 30, 31, 32, 33, 34, 36, 37, 38, 39, 46, 47, 48, 49, 58]
def hintT (f : FuncId) : Hint := (alook f hints).getD ⟨[], []⟩
def extT (f : FuncId) : Option (List AV → Heap → Option (AV × Heap)) := if cover.contains f then none else if (extLib f).isSome then extLib f else some fun _ _ => none
noncomputable def cfg : Cfg := { P := Tryd.prog, hint := hintT, ext := extT }
theorem own_all : ∀ f ∈ cover, ∀ fn, Tryd.prog.funcs[f]? = some fn → fnB Tryd.prog (hintT f) fn = true :=
  List.forall_mem_cons.2 ⟨fun fn h => by rw [c8_fn] at h; cases h; exact c8_ok, List.forall_mem_cons.2 ⟨fun fn h => by rw [c9_fn] at h; cases h; exact c9_ok, List.forall_mem_cons.2 ⟨fun fn h => by rw [c10_fn] at h; cases h; exact c10_ok, List.forall_mem_cons.2 ⟨fun fn h => by rw [c11_fn] at h; cases h; exact c11_ok, List.forall_mem_cons.2 ⟨fun fn h => by rw [c12_fn] at h; cases h; exact c12_ok, List.forall_mem_cons.2 ⟨fun fn h => by rw [c13_fn] at h; cases h; exact c13_ok, List.forall_mem_cons.2 ⟨fun fn h => by rw [c14_fn] at h; cases h; exact c14_ok, List.forall_mem_cons.2 ⟨fun fn h => by rw [c15_fn] at h; cases h; exact c15_ok, List.forall_mem_cons.2 ⟨fun fn h => by rw [c16_fn] at h; cases h; exact c16_ok, List.forall_mem_cons.2 ⟨fun fn h => by rw [c17_fn] at h; cases h; exact c17_ok, List.forall_mem_cons.2 ⟨fun fn h => by rw [c18_fn] at h; cases h; exact c18_ok, List.forall_mem_cons.2 ⟨fun fn h => by rw [c19_fn] at h; cases h; exact c19_ok, List.forall_mem_cons.2 ⟨fun fn h => by rw [c20_fn] at h; cases h; exact c20_ok, List.forall_mem_cons.2 ⟨fun fn h => by rw [c21_fn] at h; cases h; exact c21_ok, List.forall_mem_cons.2 ⟨fun fn h => by rw [c22_fn] at h; cases h; exact c22_ok, List.forall_mem_cons.2 ⟨fun fn h => by rw [c23_fn] at h; cases h; exact c23_ok, List.forall_mem_cons.2 ⟨fun fn h => by rw [c24_fn] at h; cases h; exact c24_ok, List.forall_mem_cons.2 ⟨fun fn h => by rw [c25_fn] at h; cases h; exact c25_ok, List.forall_mem_cons.2 ⟨fun fn h => by rw [c26_fn] at h; cases h; exact c26_ok, List.forall_mem_cons.2 ⟨fun fn h => by rw [c27_fn] at h; cases h; exact c27_ok, List.forall_mem_cons.2 ⟨fun fn h => by rw [c28_fn] at h; cases h; exact c28_ok, List.forall_mem_cons.2 ⟨fun fn h => by rw [c29_fn] at h; cases h; exact c29_ok, List.forall_mem_cons.2 ⟨fun fn h => by rw [c30_fn] at h; cases h; exact c30_ok, List.forall_mem_cons.2 ⟨fun fn h => by rw [c31_fn] at h; cases h; exact c31_ok, List.forall_mem_cons.2 ⟨fun fn h => by rw [c32_fn] at h; cases h; exact c32_ok, List.forall_mem_cons.2 ⟨fun fn h => by rw [c33_fn] at h; cases h; exact c33_ok, List.forall_mem_cons.2 ⟨fun fn h => by rw [c34_fn] at h; cases h; exact c34_ok, List.forall_mem_cons.2 ⟨fun fn h => by rw [c36_fn] at h; cases h; exact c36_ok, List.forall_mem_cons.2 ⟨fun fn h => by rw [c37_fn] at h; cases h; exact c37_ok, List.forall_mem_cons.2 ⟨fun fn h => by rw [c38_fn] at h; cases h; exact c38_ok, List.forall_mem_cons.2 ⟨fun fn h => by rw [c39_fn] at h; cases h; exact c39_ok, List.forall_mem_cons.2 ⟨fun fn h => by rw [c46_fn] at h; cases h; exact c46_ok, List.forall_mem_cons.2 ⟨fun fn h => by rw [c47_fn] at h; cases h; exact c47_ok, List.forall_mem_cons.2 ⟨fun fn h => by rw [c48_fn] at h; cases h; exact c48_ok, List.forall_mem_cons.2 ⟨fun fn h => by rw [c49_fn] at h; cases h; exact c49_ok, List.forall_mem_cons.2 ⟨fun fn h => by rw [c58_fn] at h; cases h; exact c58_ok, fun _ h => absurd h (List.not_mem_nil)⟩⟩⟩⟩⟩⟩⟩⟩⟩⟩⟩⟩⟩⟩⟩⟩⟩⟩⟩⟩⟩⟩⟩⟩⟩⟩⟩⟩⟩⟩⟩⟩⟩⟩⟩⟩
theorem cfg_ok : CfgOK cfg where
  mixed := by kernel_rfl
  own := fun f fn hx hf => own_all f (by
    by_cases h : cover.contains f = true
    · simpa using h
    · simp only [cfg, extT, if_neg h] at hx
      split at hx
      · rename_i hs
        rw [hx] at hs
        simp at hs
      · cases hx) fn hf
  ext := fun f g hx args h r h' hr => by
    simp only [cfg, extT] at hx
    split at hx
    · cases hx
    · split at hx
      · exact extLib_ok hx hr
      · simp at hx
        subst hx
        simp at hr
end Go.AM
