/-
  Printed by program (wip/tools/print.sh): the table of functions.
-/
import Derived.Test.YtamidpfdiijjgaaPV27Ca
import Derived.Test.YtamidpfdiijjgaaPV27Cb
import Derived.Test.YtamidpfdiijjgaaP27X1
namespace Go.AM
open Go Go.Proofs
set_option maxRecDepth 100000
def hints:List (Nat×Hint):=[(29,H29),(30,H30),(31,H31),(32,H32),(33,H33),(34,H34),(44,H44),(48,H48),(49,H49),(50,H50),(52,H52),(53,H53),(54,H54),(57,H57),(59,H59),(60,H60),(65,H65),(72,H72),(73,H73),(74,H74),(75,H75),(76,H76),(78,H78),(79,H79),(80,H80),(81,H81),(82,H82),(83,H83),(84,H84),(86,H86),(87,H87),(88,H88),(89,H89),(90,H90),(91,H91),(92,H92),(93,H93),(96,H96),(97,H97),(99,H99),(100,H100),(101,H101),(102,H102),(103,H103),(104,H104),(106,H106),(107,H107),(108,H108),(109,H109),(110,H110),(111,H111),(112,H112),(114,H114),(115,H115),(116,H116),(117,H117),(118,H118),(121,H121),(122,H122),(123,H123),(124,H124),(125,H125),(126,H126),(130,H130)]
def cover:List Nat:=[29,30,31,32,33,34,44,48,49,50,52,53,54,57,59,60,65,72,73,74,75,76,78,79,80,81,82,83,84,86,87,88,89,90,91,92,93,96,97,99,100,101,102,103,104,106,107,108,109,110,111,112,114,115,116,117,118,121,122,123,124,125,126,130]
def hintT(f:FuncId):Hint:=(alook f hints).getD ⟨[],[]⟩
def extT(f:FuncId):Option (List AV->Heap->Option (AV×Heap)):=if cover.contains f then none else if f=120 then some extSort else some fun _ _=>none
noncomputable def cfg:Cfg:={ P:=Try.prog,hint:=hintT,ext:=extT }
theorem own_all:∀f∈cover,∀fn,Try.prog.funcs[f]?=some fn->fnB Try.prog (hintT f) fn=true:=
  List.forall_mem_cons.2 ⟨fun fn h=>by rw[c29_fn] at h;cases h;exact c29_ok,List.forall_mem_cons.2 ⟨fun fn h=>by rw[c30_fn] at h;cases h;exact c30_ok,List.forall_mem_cons.2 ⟨fun fn h=>by rw[c31_fn] at h;cases h;exact c31_ok,List.forall_mem_cons.2 ⟨fun fn h=>by rw[c32_fn] at h;cases h;exact c32_ok,List.forall_mem_cons.2 ⟨fun fn h=>by rw[c33_fn] at h;cases h;exact c33_ok,List.forall_mem_cons.2 ⟨fun fn h=>by rw[c34_fn] at h;cases h;exact c34_ok,List.forall_mem_cons.2 ⟨fun fn h=>by rw[c44_fn] at h;cases h;exact c44_ok,List.forall_mem_cons.2 ⟨fun fn h=>by rw[c48_fn] at h;cases h;exact c48_ok,List.forall_mem_cons.2 ⟨fun fn h=>by rw[c49_fn] at h;cases h;exact c49_ok,List.forall_mem_cons.2 ⟨fun fn h=>by rw[c50_fn] at h;cases h;exact c50_ok,List.forall_mem_cons.2 ⟨fun fn h=>by rw[c52_fn] at h;cases h;exact c52_ok,List.forall_mem_cons.2 ⟨fun fn h=>by rw[c53_fn] at h;cases h;exact c53_ok,List.forall_mem_cons.2 ⟨fun fn h=>by rw[c54_fn] at h;cases h;exact c54_ok,List.forall_mem_cons.2 ⟨fun fn h=>by rw[c57_fn] at h;cases h;exact c57_ok,List.forall_mem_cons.2 ⟨fun fn h=>by rw[c59_fn] at h;cases h;exact c59_ok,List.forall_mem_cons.2 ⟨fun fn h=>by rw[c60_fn] at h;cases h;exact c60_ok,List.forall_mem_cons.2 ⟨fun fn h=>by rw[c65_fn] at h;cases h;exact c65_ok,List.forall_mem_cons.2 ⟨fun fn h=>by rw[c72_fn] at h;cases h;exact c72_ok,List.forall_mem_cons.2 ⟨fun fn h=>by rw[c73_fn] at h;cases h;exact c73_ok,List.forall_mem_cons.2 ⟨fun fn h=>by rw[c74_fn] at h;cases h;exact c74_ok,List.forall_mem_cons.2 ⟨fun fn h=>by rw[c75_fn] at h;cases h;exact c75_ok,List.forall_mem_cons.2 ⟨fun fn h=>by rw[c76_fn] at h;cases h;exact c76_ok,List.forall_mem_cons.2 ⟨fun fn h=>by rw[c78_fn] at h;cases h;exact c78_ok,List.forall_mem_cons.2 ⟨fun fn h=>by rw[c79_fn] at h;cases h;exact c79_ok,List.forall_mem_cons.2 ⟨fun fn h=>by rw[c80_fn] at h;cases h;exact c80_ok,List.forall_mem_cons.2 ⟨fun fn h=>by rw[c81_fn] at h;cases h;exact c81_ok,List.forall_mem_cons.2 ⟨fun fn h=>by rw[c82_fn] at h;cases h;exact c82_ok,List.forall_mem_cons.2 ⟨fun fn h=>by rw[c83_fn] at h;cases h;exact c83_ok,List.forall_mem_cons.2 ⟨fun fn h=>by rw[c84_fn] at h;cases h;exact c84_ok,List.forall_mem_cons.2 ⟨fun fn h=>by rw[c86_fn] at h;cases h;exact c86_ok,List.forall_mem_cons.2 ⟨fun fn h=>by rw[c87_fn] at h;cases h;exact c87_ok,List.forall_mem_cons.2 ⟨fun fn h=>by rw[c88_fn] at h;cases h;exact c88_ok,List.forall_mem_cons.2 ⟨fun fn h=>by rw[c89_fn] at h;cases h;exact c89_ok,List.forall_mem_cons.2 ⟨fun fn h=>by rw[c90_fn] at h;cases h;exact c90_ok,List.forall_mem_cons.2 ⟨fun fn h=>by rw[c91_fn] at h;cases h;exact c91_ok,List.forall_mem_cons.2 ⟨fun fn h=>by rw[c92_fn] at h;cases h;exact c92_ok,List.forall_mem_cons.2 ⟨fun fn h=>by rw[c93_fn] at h;cases h;exact c93_ok,List.forall_mem_cons.2 ⟨fun fn h=>by rw[c96_fn] at h;cases h;exact c96_ok,List.forall_mem_cons.2 ⟨fun fn h=>by rw[c97_fn] at h;cases h;exact c97_ok,List.forall_mem_cons.2 ⟨fun fn h=>by rw[c99_fn] at h;cases h;exact c99_ok,List.forall_mem_cons.2 ⟨fun fn h=>by rw[c100_fn] at h;cases h;exact c100_ok,List.forall_mem_cons.2 ⟨fun fn h=>by rw[c101_fn] at h;cases h;exact c101_ok,List.forall_mem_cons.2 ⟨fun fn h=>by rw[c102_fn] at h;cases h;exact c102_ok,List.forall_mem_cons.2 ⟨fun fn h=>by rw[c103_fn] at h;cases h;exact c103_ok,List.forall_mem_cons.2 ⟨fun fn h=>by rw[c104_fn] at h;cases h;exact c104_ok,List.forall_mem_cons.2 ⟨fun fn h=>by rw[c106_fn] at h;cases h;exact c106_ok,List.forall_mem_cons.2 ⟨fun fn h=>by rw[c107_fn] at h;cases h;exact c107_ok,List.forall_mem_cons.2 ⟨fun fn h=>by rw[c108_fn] at h;cases h;exact c108_ok,List.forall_mem_cons.2 ⟨fun fn h=>by rw[c109_fn] at h;cases h;exact c109_ok,List.forall_mem_cons.2 ⟨fun fn h=>by rw[c110_fn] at h;cases h;exact c110_ok,List.forall_mem_cons.2 ⟨fun fn h=>by rw[c111_fn] at h;cases h;exact c111_ok,List.forall_mem_cons.2 ⟨fun fn h=>by rw[c112_fn] at h;cases h;exact c112_ok,List.forall_mem_cons.2 ⟨fun fn h=>by rw[c114_fn] at h;cases h;exact c114_ok,List.forall_mem_cons.2 ⟨fun fn h=>by rw[c115_fn] at h;cases h;exact c115_ok,List.forall_mem_cons.2 ⟨fun fn h=>by rw[c116_fn] at h;cases h;exact c116_ok,List.forall_mem_cons.2 ⟨fun fn h=>by rw[c117_fn] at h;cases h;exact c117_ok,List.forall_mem_cons.2 ⟨fun fn h=>by rw[c118_fn] at h;cases h;exact c118_ok,List.forall_mem_cons.2 ⟨fun fn h=>by rw[c121_fn] at h;cases h;exact c121_ok,List.forall_mem_cons.2 ⟨fun fn h=>by rw[c122_fn] at h;cases h;exact c122_ok,List.forall_mem_cons.2 ⟨fun fn h=>by rw[c123_fn] at h;cases h;exact c123_ok,List.forall_mem_cons.2 ⟨fun fn h=>by rw[c124_fn] at h;cases h;exact c124_ok,List.forall_mem_cons.2 ⟨fun fn h=>by rw[c125_fn] at h;cases h;exact c125_ok,List.forall_mem_cons.2 ⟨fun fn h=>by rw[c126_fn] at h;cases h;exact c126_ok,List.forall_mem_cons.2 ⟨fun fn h=>by rw[c130_fn] at h;cases h;exact c130_ok,fun _ h=>absurd h (List.not_mem_nil)⟩⟩⟩⟩⟩⟩⟩⟩⟩⟩⟩⟩⟩⟩⟩⟩⟩⟩⟩⟩⟩⟩⟩⟩⟩⟩⟩⟩⟩⟩⟩⟩⟩⟩⟩⟩⟩⟩⟩⟩⟩⟩⟩⟩⟩⟩⟩⟩⟩⟩⟩⟩⟩⟩⟩⟩⟩⟩⟩⟩⟩⟩⟩⟩
theorem cfg_ok:CfgOK cfg where
  mixed:=by kernel_rfl
  own:=fun f fn hx hf=>own_all f (by
    by_cases h:cover.contains f=true
    . simpa using h
    . simp only[cfg,extT,if_neg h] at hx
      split at hx<;>cases hx) fn hf
  ext:=fun f g hx args h r h' hr=>by
    simp only[cfg,extT] at hx
    split at hx
    . cases hx
    . split at hx
      . rename_i e
        simp at hx
        subst hx e
        exact extSort_ok hr
      . simp at hx
        subst hx
        simp at hr
end Go.AM
