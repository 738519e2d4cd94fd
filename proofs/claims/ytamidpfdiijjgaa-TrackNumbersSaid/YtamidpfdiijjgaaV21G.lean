/-
  Printed by program (wip/tools/print.sh): the table of functions.
-/
import Derived.Test.YtamidpfdiijjgaaV21Ca
import Derived.Test.YtamidpfdiijjgaaX1
namespace Go.AM
open Go Go.Proofs
set_option maxRecDepth 100000
def hints : List (Nat × Hint) := [(29,H29),(30,H30),(31,H31),(32,H32),(33,H33),(34,H34),(40,H40),(44,H44),(48,H48),(49,H49),(50,H50),(52,H52),(53,H53),(54,H54),(57,H57),(59,H59),(60,H60),(64,H64),(65,H65),(66,H66),(68,H68),(69,H69),(70,H70),(71,H71),(72,H72),(73,H73),(74,H74),(75,H75),(76,H76),(92,H92),(93,H93),(96,H96),(97,H97),(99,H99),(100,H100),(101,H101),(102,H102),(103,H103),(104,H104),(105,H105),(106,H106),(107,H107),(108,H108),(109,H109),(110,H110),(111,H111),(121,H121),(122,H122)]
def cover : List Nat := [29,30,31,32,33,34,40,44,48,49,50,52,53,54,57,59,60,64,65,66,68,69,70,71,72,73,74,75,76,92,93,96,97,99,100,101,102,103,104,105,106,107,108,109,110,111,121,122]
def hintT (f : FuncId) : Hint := (alook f hints).getD ⟨[], []⟩
def extT (f : FuncId) : Option (List AV → Heap → Option (AV × Heap)) := if cover.contains f then none else if f = 120 then some extSort else some fun _ _ => none
noncomputable def cfg : Cfg := { P := Try.prog, hint := hintT, ext := extT }
theorem own_all : ∀ f ∈ cover, ∀ fn, Try.prog.funcs[f]? = some fn → fnB Try.prog (hintT f) fn = true :=
  List.forall_mem_cons.2 ⟨fun fn h => by rw [c29_fn] at h; cases h; exact c29_ok, List.forall_mem_cons.2 ⟨fun fn h => by rw [c30_fn] at h; cases h; exact c30_ok, List.forall_mem_cons.2 ⟨fun fn h => by rw [c31_fn] at h; cases h; exact c31_ok, List.forall_mem_cons.2 ⟨fun fn h => by rw [c32_fn] at h; cases h; exact c32_ok, List.forall_mem_cons.2 ⟨fun fn h => by rw [c33_fn] at h; cases h; exact c33_ok, List.forall_mem_cons.2 ⟨fun fn h => by rw [c34_fn] at h; cases h; exact c34_ok, List.forall_mem_cons.2 ⟨fun fn h => by rw [c40_fn] at h; cases h; exact c40_ok, List.forall_mem_cons.2 ⟨fun fn h => by rw [c44_fn] at h; cases h; exact c44_ok, List.forall_mem_cons.2 ⟨fun fn h => by rw [c48_fn] at h; cases h; exact c48_ok, List.forall_mem_cons.2 ⟨fun fn h => by rw [c49_fn] at h; cases h; exact c49_ok, List.forall_mem_cons.2 ⟨fun fn h => by rw [c50_fn] at h; cases h; exact c50_ok, List.forall_mem_cons.2 ⟨fun fn h => by rw [c52_fn] at h; cases h; exact c52_ok, List.forall_mem_cons.2 ⟨fun fn h => by rw [c53_fn] at h; cases h; exact c53_ok, List.forall_mem_cons.2 ⟨fun fn h => by rw [c54_fn] at h; cases h; exact c54_ok, List.forall_mem_cons.2 ⟨fun fn h => by rw [c57_fn] at h; cases h; exact c57_ok, List.forall_mem_cons.2 ⟨fun fn h => by rw [c59_fn] at h; cases h; exact c59_ok, List.forall_mem_cons.2 ⟨fun fn h => by rw [c60_fn] at h; cases h; exact c60_ok, List.forall_mem_cons.2 ⟨fun fn h => by rw [c64_fn] at h; cases h; exact c64_ok, List.forall_mem_cons.2 ⟨fun fn h => by rw [c65_fn] at h; cases h; exact c65_ok, List.forall_mem_cons.2 ⟨fun fn h => by rw [c66_fn] at h; cases h; exact c66_ok, List.forall_mem_cons.2 ⟨fun fn h => by rw [c68_fn] at h; cases h; exact c68_ok, List.forall_mem_cons.2 ⟨fun fn h => by rw [c69_fn] at h; cases h; exact c69_ok, List.forall_mem_cons.2 ⟨fun fn h => by rw [c70_fn] at h; cases h; exact c70_ok, List.forall_mem_cons.2 ⟨fun fn h => by rw [c71_fn] at h; cases h; exact c71_ok, List.forall_mem_cons.2 ⟨fun fn h => by rw [c72_fn] at h; cases h; exact c72_ok, List.forall_mem_cons.2 ⟨fun fn h => by rw [c73_fn] at h; cases h; exact c73_ok, List.forall_mem_cons.2 ⟨fun fn h => by rw [c74_fn] at h; cases h; exact c74_ok, List.forall_mem_cons.2 ⟨fun fn h => by rw [c75_fn] at h; cases h; exact c75_ok, List.forall_mem_cons.2 ⟨fun fn h => by rw [c76_fn] at h; cases h; exact c76_ok, List.forall_mem_cons.2 ⟨fun fn h => by rw [c92_fn] at h; cases h; exact c92_ok, List.forall_mem_cons.2 ⟨fun fn h => by rw [c93_fn] at h; cases h; exact c93_ok, List.forall_mem_cons.2 ⟨fun fn h => by rw [c96_fn] at h; cases h; exact c96_ok, List.forall_mem_cons.2 ⟨fun fn h => by rw [c97_fn] at h; cases h; exact c97_ok, List.forall_mem_cons.2 ⟨fun fn h => by rw [c99_fn] at h; cases h; exact c99_ok, List.forall_mem_cons.2 ⟨fun fn h => by rw [c100_fn] at h; cases h; exact c100_ok, List.forall_mem_cons.2 ⟨fun fn h => by rw [c101_fn] at h; cases h; exact c101_ok, List.forall_mem_cons.2 ⟨fun fn h => by rw [c102_fn] at h; cases h; exact c102_ok, List.forall_mem_cons.2 ⟨fun fn h => by rw [c103_fn] at h; cases h; exact c103_ok, List.forall_mem_cons.2 ⟨fun fn h => by rw [c104_fn] at h; cases h; exact c104_ok, List.forall_mem_cons.2 ⟨fun fn h => by rw [c105_fn] at h; cases h; exact c105_ok, List.forall_mem_cons.2 ⟨fun fn h => by rw [c106_fn] at h; cases h; exact c106_ok, List.forall_mem_cons.2 ⟨fun fn h => by rw [c107_fn] at h; cases h; exact c107_ok, List.forall_mem_cons.2 ⟨fun fn h => by rw [c108_fn] at h; cases h; exact c108_ok, List.forall_mem_cons.2 ⟨fun fn h => by rw [c109_fn] at h; cases h; exact c109_ok, List.forall_mem_cons.2 ⟨fun fn h => by rw [c110_fn] at h; cases h; exact c110_ok, List.forall_mem_cons.2 ⟨fun fn h => by rw [c111_fn] at h; cases h; exact c111_ok, List.forall_mem_cons.2 ⟨fun fn h => by rw [c121_fn] at h; cases h; exact c121_ok, List.forall_mem_cons.2 ⟨fun fn h => by rw [c122_fn] at h; cases h; exact c122_ok, fun _ h => absurd h (List.not_mem_nil)⟩⟩⟩⟩⟩⟩⟩⟩⟩⟩⟩⟩⟩⟩⟩⟩⟩⟩⟩⟩⟩⟩⟩⟩⟩⟩⟩⟩⟩⟩⟩⟩⟩⟩⟩⟩⟩⟩⟩⟩⟩⟩⟩⟩⟩⟩⟩⟩
theorem cfg_ok : CfgOK cfg where
  mixed := by kernel_rfl
  own := fun f fn hx hf => own_all f (by
    by_cases h : cover.contains f = true
    · simpa using h
    · simp only [cfg, extT, if_neg h] at hx
      split at hx <;> cases hx) fn hf
  ext := fun f g hx args h r h' hr => by
    simp only [cfg, extT] at hx
    split at hx
    · cases hx
    · split at hx
      · rename_i e
        simp at hx
        subst hx e
        exact extSort_ok hr
      · simp at hx
        subst hx
        simp at hr
end Go.AM
