/-
  Printed by program (wip/tools/print.sh): compiled code.
-/
import Derived.Test.YtamidpfdiijjgaaAMb
import Derived.Test.YtamidpfdiijjgaaProg
namespace Go.AM
open Go Go.Proofs
set_option maxRecDepth 100000
def H103 : Hint := ⟨[(3, [2]), (2, [2]), (2000008, [0]), (1, [0, 8]), (0, [0])], []⟩
def c103_r0 : List SOp := [⟨some 2,.assign (.const (.int .u8 0)),none⟩]
def c103_r1 : List SOp := [⟨some 3,.move (.tmp 0),none⟩,⟨some 4,.binOp .geq 5 (.tmp 3) (.const (.int .u8 65)) 5,none⟩,⟨some 5,.move (.tmp 4),none⟩,⟨some 6,.move (.tmp 0),some (some 5,true)⟩,⟨some 7,.binOp .leq 5 (.tmp 6) (.const (.int .u8 90)) 5,some (some 5,true)⟩,⟨some 8,.pick (.tmp 5) (.tmp 7) (.const (.bool false)),none⟩]
def c103_r2 : List SOp := [⟨some 9,.move (.tmp 0),none⟩,⟨some 10,.binOp .sub 5 (.tmp 9) (.const (.int .u8 65)) 5,none⟩,⟨some 11,.binOp .add 5 (.tmp 10) (.const (.int .u8 97)) 5,none⟩,⟨some 2,.assign (.tmp 11),none⟩]
def c103_r3 : List SOp := [⟨some 12,.move (.tmp 0),none⟩,⟨some 2,.assign (.tmp 12),none⟩]
def c103 : SC := (.seq (.reg c103_r0 none (some [0])) (.seq (.seq (.reg c103_r1 none (some [0,8])) (.cond (.tmp 8) (.seq (.reg c103_r2 none (some [2])) .ret) .skip (some [0]))) (.seq (.reg c103_r3 none (some [2])) .ret)))
theorem c103_eq : ∃ code, Try.f103.body = some code ∧ compile H103 code = c103 := ⟨_, rfl, by kernel_rfl⟩
theorem c103_fn : Try.prog.funcs[103]? = some Try.f103 := by kernel_rfl
theorem c103_rs : Try.f103.results.toList = [.tmp 2] := by kernel_rfl
theorem c103_ok : fnB Try.prog H103 Try.f103 = true := by kernel_rfl
theorem c103_nt : Try.f103.ntmps = 13 := by kernel_rfl

def H104 : Hint := ⟨[(7, [4]), (6, [0, 1, 7, 8]), (5, [4]), (2000029, [0, 1, 7, 8]), (4, [0, 1, 7, 8, 29]), (3, [0, 1, 5, 7, 8]), (2000009, [0, 1, 7, 8]), (2, [0, 1, 7, 8, 9]), (1000002, [0, 1, 7, 8]), (1, [0, 1, 7, 8]), (0, [0, 1])], []⟩
def c104_r0 : List SOp := [⟨some 4,.assign (.const (.bool false)),none⟩]
def c104_r1 : List SOp := [⟨some 6,.move (.tmp 1),none⟩,⟨some 7,.call ⟨.builtin .len, #[.tmp 6], #[9]⟩,none⟩,⟨some 8,.move (.const (.int .i64 0)),none⟩]
def c104_r2 : List SOp := [⟨some 9,.binOp .lss 3 (.tmp 8) (.tmp 7) 3,none⟩]
def c104_r3 : List SOp := [⟨some 10,.move (.tmp 8),none⟩,⟨some 5,.assign (.tmp 10),none⟩]
def c104_r4 : List SOp := [⟨some 11,.move (.tmp 0),none⟩,⟨some 12,.move (.tmp 0),none⟩,⟨some 13,.nilCheck (.tmp 12),none⟩,⟨some 14,.fieldAddr 136 (.tmp 13) 4,none⟩,⟨some 15,.load 3 (.tmp 14),none⟩,⟨some 16,.move (.tmp 1),none⟩,⟨some 17,.call ⟨.builtin .len, #[.tmp 16], #[9]⟩,none⟩,⟨some 18,.binOp .sub 3 (.tmp 15) (.tmp 17) 3,none⟩,⟨some 19,.move (.tmp 5),none⟩,⟨some 20,.binOp .add 3 (.tmp 18) (.tmp 19) 3,none⟩,⟨some 21,.binOp .rem 3 (.tmp 20) (.const (.int .i64 16)) 3,none⟩,⟨some 22,.nilCheck (.tmp 11),none⟩,⟨some 23,.fieldAddr 136 (.tmp 22) 5,none⟩,⟨some 24,.indexAddr 134 (.tmp 23) (.tmp 21),none⟩,⟨some 25,.load 5 (.tmp 24),none⟩,⟨some 26,.move (.tmp 1),none⟩,⟨some 27,.move (.tmp 5),none⟩,⟨some 28,.index 9 (.tmp 26) (.tmp 27),none⟩,⟨some 29,.binOp .neq 5 (.tmp 25) (.tmp 28) 5,none⟩]
def c104_r5 : List SOp := [⟨some 4,.assign (.const (.bool false)),none⟩]
def c104_r6 : List SOp := [⟨some 30,.binOp .add 3 (.tmp 8) (.const (.int .i64 1)) 3,none⟩,⟨some 8,.move (.tmp 30),none⟩]
def c104_l2 : SC := (.seq (.reg c104_r2 none (some [0,1,7,8,9])) (.seq (.cond (.tmp 9) .skip (.exit 0) (some [0,1,7,8])) (.seq (.block 1 (.seq (.reg c104_r3 none (some [0,1,5,7,8])) (.seq (.reg c104_r4 none (some [0,1,7,8,29])) (.cond (.tmp 29) (.seq (.reg c104_r5 none (some [4])) .ret) .skip (some [0,1,7,8]))))) (.reg c104_r6 none (some [0,1,7,8])))))
def c104_r7 : List SOp := [⟨some 4,.assign (.const (.bool true)),none⟩]
def c104 : SC := (.seq (.reg c104_r0 none (some [0,1])) (.seq (.seq (.reg c104_r1 none (some [0,1,7,8])) (.block 0 (.loop c104_l2 (some [0,1,7,8])))) (.seq (.reg c104_r7 none (some [4])) .ret)))
theorem c104_eq : ∃ code, Try.f104.body = some code ∧ compile H104 code = c104 := ⟨_, rfl, by kernel_rfl⟩
theorem c104_fn : Try.prog.funcs[104]? = some Try.f104 := by kernel_rfl
theorem c104_rs : Try.f104.results.toList = [.tmp 4] := by kernel_rfl
theorem c104_ok : fnB Try.prog H104 Try.f104 = true := by kernel_rfl
theorem c104_nt : Try.f104.ntmps = 31 := by kernel_rfl

def H105 : Hint := ⟨[(6, [6]), (4, [0, 1, 2, 7, 8]), (5, [0, 1, 2, 7, 8]), (2000012, [0, 1, 2, 7, 8]), (3, [0, 1, 2, 7, 8, 12]), (1000003, [0, 1, 2, 7, 8]), (2, [0, 1, 2, 7, 8]), (1, [0, 1, 2, 7]), (0, [0, 1, 2])], []⟩
def c105_r0 : List SOp := [⟨some 6,.assign (.const (.slice none 0 0)),none⟩]
def c105_r1 : List SOp := [⟨some 7,.assign (.const (.slice none 0 0)),none⟩]
def c105_r2 : List SOp := [⟨some 8,.assign (.const (.int .i64 0)),none⟩]
def c105_r3 : List SOp := [⟨some 9,.move (.tmp 8),none⟩,⟨some 10,.move (.tmp 0),none⟩,⟨some 11,.call ⟨.builtin .len, #[.tmp 10], #[42]⟩,none⟩,⟨some 12,.binOp .lss 3 (.tmp 9) (.tmp 11) 3,none⟩]
def c105_r5 : List SOp := [⟨some 15,.move (.tmp 7),none⟩,⟨some 16,.move (.tmp 0),none⟩,⟨some 17,.move (.tmp 8),none⟩,⟨some 18,.indexAddr 42 (.tmp 16) (.tmp 17),none⟩,⟨some 19,.fieldAddr 52 (.tmp 18) 0,none⟩,⟨some 20,.load 9 (.tmp 19),none⟩,⟨some 21,.move (.tmp 0),none⟩,⟨some 22,.move (.tmp 8),none⟩,⟨some 23,.indexAddr 42 (.tmp 21) (.tmp 22),none⟩,⟨some 24,.fieldAddr 52 (.tmp 23) 1,none⟩,⟨some 25,.load 4 (.tmp 24),none⟩,⟨some 26,.move (.tmp 1),none⟩,⟨some 27,.move (.tmp 2),none⟩,⟨some 28,.call ⟨.value (.func 57), #[.tmp 20,.tmp 25,.tmp 26,.tmp 27], #[9,4,9,3]⟩,none⟩,⟨some 29,.buildSlice 68 1 #[(0, (.tmp 28))],none⟩,⟨some 30,.call ⟨.builtin .append, #[.tmp 15,.tmp 29], #[68,68]⟩,none⟩,⟨some 7,.assign (.tmp 30),none⟩]
def c105_r4 : List SOp := [⟨some 13,.move (.tmp 8),none⟩,⟨some 14,.binOp .add 3 (.tmp 13) (.const (.int .i64 1)) 3,none⟩,⟨some 8,.assign (.tmp 14),none⟩]
def c105_l3 : SC := (.seq (.seq (.reg c105_r3 none (some [0,1,2,7,8,12])) (.cond (.tmp 12) .skip (.exit 0) (some [0,1,2,7,8]))) (.seq (.block 1 (.reg c105_r5 none (some [0,1,2,7,8]))) (.reg c105_r4 none (some [0,1,2,7,8]))))
def c105_r6 : List SOp := [⟨some 31,.move (.tmp 7),none⟩,⟨some 6,.assign (.tmp 31),none⟩]
def c105 : SC := (.seq (.reg c105_r0 none (some [0,1,2])) (.seq (.reg c105_r1 none (some [0,1,2,7])) (.seq (.seq (.reg c105_r2 none (some [0,1,2,7,8])) (.block 0 (.loop c105_l3 (some [0,1,2,7,8])))) (.seq (.reg c105_r6 none (some [6])) .ret))))
theorem c105_eq : ∃ code, Try.f105.body = some code ∧ compile H105 code = c105 := ⟨_, rfl, by kernel_rfl⟩
theorem c105_fn : Try.prog.funcs[105]? = some Try.f105 := by kernel_rfl
theorem c105_rs : Try.f105.results.toList = [.tmp 6] := by kernel_rfl
theorem c105_ok : fnB Try.prog H105 Try.f105 = true := by kernel_rfl
theorem c105_nt : Try.f105.ntmps = 32 := by kernel_rfl

def H106 : Hint := ⟨[(7, [6]), (4, [1, 7, 8]), (6, [6]), (2000023, [1, 7, 8]), (5, [1, 7, 8, 23]), (2000015, [1, 7, 8]), (3, [1, 7, 8, 15]), (1000003, [1, 7, 8]), (2, [1, 7, 8]), (1, [1, 7]), (0, [0, 1, 2])], []⟩
def c106_r0 : List SOp := [⟨some 6,.assign (.const (.bool false)),none⟩]
def c106_r1 : List SOp := [⟨some 9,.move (.tmp 0),none⟩,⟨some 10,.move (.tmp 2),none⟩,⟨some 11,.call ⟨.value (.func 107), #[.tmp 9,.tmp 10], #[42,9]⟩,none⟩,⟨some 7,.assign (.tmp 11),none⟩]
def c106_r2 : List SOp := [⟨some 8,.assign (.const (.int .i64 0)),none⟩]
def c106_r3 : List SOp := [⟨some 12,.move (.tmp 8),none⟩,⟨some 13,.move (.tmp 7),none⟩,⟨some 14,.call ⟨.builtin .len, #[.tmp 13], #[30]⟩,none⟩,⟨some 15,.binOp .lss 3 (.tmp 12) (.tmp 14) 3,none⟩]
def c106_r5 : List SOp := [⟨some 18,.move (.tmp 7),none⟩,⟨some 19,.move (.tmp 8),none⟩,⟨some 20,.indexAddr 30 (.tmp 18) (.tmp 19),none⟩,⟨some 21,.load 3 (.tmp 20),none⟩,⟨some 22,.move (.tmp 1),none⟩,⟨some 23,.binOp .gtr 3 (.tmp 21) (.tmp 22) 3,none⟩]
def c106_r6 : List SOp := [⟨some 6,.assign (.const (.bool true)),none⟩]
def c106_r4 : List SOp := [⟨some 16,.move (.tmp 8),none⟩,⟨some 17,.binOp .add 3 (.tmp 16) (.const (.int .i64 1)) 3,none⟩,⟨some 8,.assign (.tmp 17),none⟩]
def c106_l3 : SC := (.seq (.seq (.reg c106_r3 none (some [1,7,8,15])) (.cond (.tmp 15) .skip (.exit 0) (some [1,7,8]))) (.seq (.block 1 (.seq (.reg c106_r5 none (some [1,7,8,23])) (.cond (.tmp 23) (.seq (.reg c106_r6 none (some [6])) .ret) .skip (some [1,7,8])))) (.reg c106_r4 none (some [1,7,8]))))
def c106_r7 : List SOp := [⟨some 6,.assign (.const (.bool false)),none⟩]
def c106 : SC := (.seq (.reg c106_r0 none (some [0,1,2])) (.seq (.reg c106_r1 none (some [1,7])) (.seq (.seq (.reg c106_r2 none (some [1,7,8])) (.block 0 (.loop c106_l3 (some [1,7,8])))) (.seq (.reg c106_r7 none (some [6])) .ret))))
theorem c106_eq : ∃ code, Try.f106.body = some code ∧ compile H106 code = c106 := ⟨_, rfl, by kernel_rfl⟩
theorem c106_fn : Try.prog.funcs[106]? = some Try.f106 := by kernel_rfl
theorem c106_rs : Try.f106.results.toList = [.tmp 6] := by kernel_rfl
theorem c106_ok : fnB Try.prog H106 Try.f106 = true := by kernel_rfl
theorem c106_nt : Try.f106.ntmps = 24 := by kernel_rfl

def H107 : Hint := ⟨[(18, [4]), (5, [0, 1, 5, 6, 7]), (17, [0, 1, 5, 6, 7]), (14, [0, 1, 5, 6, 7, 8, 9, 10, 11]), (16, [0, 1, 5, 6, 7, 8, 9, 10, 11]), (2000078, [0, 1, 5, 6, 7, 8, 9, 10, 11]), (15, [0, 1, 5, 6, 7, 8, 9, 10, 11, 78]), (2000057, [0, 1, 5, 6, 7, 8, 9, 10, 11]), (13, [0, 1, 5, 6, 7, 8, 9, 10, 11, 57]), (1000013, [0, 1, 5, 6, 7, 8, 9, 10, 11]), (12, [0, 1, 5, 6, 7, 8, 9, 10, 11]), (11, [0, 1, 5, 6, 7, 8, 9, 10]), (2000053, [0, 1, 5, 6, 7, 10]), (10, [0, 1, 5, 6, 7, 8, 9, 10, 53]), (9, [0, 1, 5, 6, 7, 8, 9, 10]), (8, [0, 1, 5, 6, 7, 8, 9]), (7, [0, 1, 5, 6, 7, 8]), (2000025, [0, 1, 5, 6, 7]), (6, [0, 1, 5, 6, 7, 25]), (2000018, [0, 1, 5, 6, 7]), (4, [0, 1, 5, 6, 7, 18]), (1000004, [0, 1, 5, 6, 7]), (3, [0, 1, 5, 6, 7]), (2, [0, 1, 5, 6]), (1, [0, 1, 5]), (0, [0, 1])], []⟩
def c107_r0 : List SOp := [⟨some 4,.assign (.const (.slice none 0 0)),none⟩]
def c107_r1 : List SOp := [⟨some 12,.move (.tmp 0),none⟩,⟨some 13,.move (.tmp 1),none⟩,⟨some 14,.call ⟨.value (.func 44), #[.tmp 12,.tmp 13], #[42,9]⟩,none⟩,⟨some 5,.assign (.tmp 14),none⟩]
def c107_r2 : List SOp := [⟨some 6,.assign (.const (.slice none 0 0)),none⟩]
def c107_r3 : List SOp := [⟨some 7,.assign (.const (.int .i64 0)),none⟩]
def c107_r4 : List SOp := [⟨some 15,.move (.tmp 7),none⟩,⟨some 16,.move (.tmp 0),none⟩,⟨some 17,.call ⟨.builtin .len, #[.tmp 16], #[42]⟩,none⟩,⟨some 18,.binOp .lss 3 (.tmp 15) (.tmp 17) 3,none⟩]
def c107_r6 : List SOp := [⟨some 21,.move (.tmp 0),none⟩,⟨some 22,.move (.tmp 7),none⟩,⟨some 23,.indexAddr 42 (.tmp 21) (.tmp 22),none⟩,⟨some 24,.fieldAddr 52 (.tmp 23) 2,none⟩,⟨some 25,.load 4 (.tmp 24),none⟩]
def c107_r7 : List SOp := [⟨some 26,.move (.tmp 5),none⟩,⟨some 27,.move (.tmp 6),none⟩,⟨some 28,.call ⟨.builtin .len, #[.tmp 27], #[30]⟩,none⟩,⟨some 29,.indexAddr 44 (.tmp 26) (.tmp 28),none⟩,⟨some 30,.load 30 (.tmp 29),none⟩,⟨some 8,.assign (.tmp 30),none⟩]
def c107_r8 : List SOp := [⟨some 31,.move (.tmp 0),none⟩,⟨some 32,.move (.tmp 7),none⟩,⟨some 33,.call ⟨.value (.func 121), #[.tmp 31,.tmp 32], #[42,3]⟩,none⟩,⟨some 9,.assign (.tmp 33),none⟩]
def c107_r9 : List SOp := [⟨some 34,.move (.tmp 8),none⟩,⟨some 35,.call ⟨.builtin .len, #[.tmp 34], #[30]⟩,none⟩,⟨some 36,.call ⟨.builtin .min, #[(.tmp 35), (.const (.int .i64 1))], #[3,3]⟩,none⟩,⟨some 10,.assign (.tmp 36),none⟩]
def c107_r10 : List SOp := [⟨some 37,.move (.tmp 9),none⟩,⟨some 38,.binOp .geq 3 (.tmp 37) (.const (.int .i64 0)) 3,none⟩,⟨some 39,.move (.tmp 38),none⟩,⟨some 40,.move (.tmp 0),some (some 39,true)⟩,⟨some 41,.move (.tmp 9),some (some 39,true)⟩,⟨some 42,.indexAddr 42 (.tmp 40) (.tmp 41),some (some 39,true)⟩,⟨some 43,.fieldAddr 52 (.tmp 42) 5,some (some 39,true)⟩,⟨some 44,.load 4 (.tmp 43),some (some 39,true)⟩,⟨some 45,.pick (.tmp 39) (.tmp 44) (.const (.bool false)),none⟩,⟨some 46,.move (.tmp 45),none⟩,⟨some 47,.move (.tmp 0),some (some 46,true)⟩,⟨some 48,.move (.tmp 9),some (some 46,true)⟩,⟨some 49,.indexAddr 42 (.tmp 47) (.tmp 48),some (some 46,true)⟩,⟨some 50,.fieldAddr 52 (.tmp 49) 7,some (some 46,true)⟩,⟨some 51,.load 3 (.tmp 50),some (some 46,true)⟩,⟨some 52,.binOp .gtr 3 (.tmp 51) (.const (.int .i64 0)) 3,some (some 46,true)⟩,⟨some 53,.pick (.tmp 46) (.tmp 52) (.const (.bool false)),none⟩]
def c107_r11 : List SOp := [⟨some 10,.assign (.const (.int .i64 0)),none⟩]
def c107_r12 : List SOp := [⟨some 11,.assign (.const (.int .i64 0)),none⟩]
def c107_r13 : List SOp := [⟨some 54,.move (.tmp 11),none⟩,⟨some 55,.move (.tmp 8),none⟩,⟨some 56,.call ⟨.builtin .len, #[.tmp 55], #[30]⟩,none⟩,⟨some 57,.binOp .lss 3 (.tmp 54) (.tmp 56) 3,none⟩]
def c107_r15 : List SOp := [⟨some 60,.move (.tmp 8),none⟩,⟨some 61,.move (.tmp 11),none⟩,⟨some 62,.indexAddr 30 (.tmp 60) (.tmp 61),none⟩,⟨some 63,.load 3 (.tmp 62),none⟩,⟨some 64,.move (.tmp 0),none⟩,⟨some 65,.move (.tmp 9),none⟩,⟨some 66,.indexAddr 42 (.tmp 64) (.tmp 65),none⟩,⟨some 67,.fieldAddr 52 (.tmp 66) 6,none⟩,⟨some 68,.load 3 (.tmp 67),none⟩,⟨some 69,.binOp .add 3 (.tmp 63) (.tmp 68) 3,none⟩,⟨some 70,.move (.tmp 0),none⟩,⟨some 71,.move (.tmp 9),none⟩,⟨some 72,.indexAddr 42 (.tmp 70) (.tmp 71),none⟩,⟨some 73,.fieldAddr 52 (.tmp 72) 7,none⟩,⟨some 74,.load 3 (.tmp 73),none⟩,⟨some 75,.binOp .add 3 (.tmp 69) (.tmp 74) 3,none⟩,⟨some 76,.move (.tmp 1),none⟩,⟨some 77,.call ⟨.builtin .len, #[.tmp 76], #[9]⟩,none⟩,⟨some 78,.binOp .gtr 3 (.tmp 75) (.tmp 77) 3,none⟩]
def c107_r16 : List SOp := [⟨some 79,.move (.tmp 10),none⟩,⟨some 80,.binOp .add 3 (.tmp 79) (.const (.int .i64 1)) 3,none⟩,⟨some 10,.assign (.tmp 80),none⟩]
def c107_r14 : List SOp := [⟨some 58,.move (.tmp 11),none⟩,⟨some 59,.binOp .add 3 (.tmp 58) (.const (.int .i64 1)) 3,none⟩,⟨some 11,.assign (.tmp 59),none⟩]
def c107_l13 : SC := (.seq (.seq (.reg c107_r13 none (some [0,1,5,6,7,8,9,10,11,57])) (.cond (.tmp 57) .skip (.exit 2) (some [0,1,5,6,7,8,9,10,11]))) (.seq (.block 3 (.seq (.reg c107_r15 none (some [0,1,5,6,7,8,9,10,11,78])) (.cond (.tmp 78) (.reg c107_r16 none (some [0,1,5,6,7,8,9,10,11])) .skip (some [0,1,5,6,7,8,9,10,11])))) (.reg c107_r14 none (some [0,1,5,6,7,8,9,10,11]))))
def c107_r17 : List SOp := [⟨some 81,.move (.tmp 6),none⟩,⟨some 82,.move (.tmp 10),none⟩,⟨some 83,.buildSlice 30 1 #[(0, (.tmp 82))],none⟩,⟨some 84,.call ⟨.builtin .append, #[.tmp 81,.tmp 83], #[30,30]⟩,none⟩,⟨some 6,.assign (.tmp 84),none⟩]
def c107_r5 : List SOp := [⟨some 19,.move (.tmp 7),none⟩,⟨some 20,.binOp .add 3 (.tmp 19) (.const (.int .i64 1)) 3,none⟩,⟨some 7,.assign (.tmp 20),none⟩]
def c107_l4 : SC := (.seq (.seq (.reg c107_r4 none (some [0,1,5,6,7,18])) (.cond (.tmp 18) .skip (.exit 0) (some [0,1,5,6,7]))) (.seq (.block 1 (.seq (.seq (.reg c107_r6 none (some [0,1,5,6,7,25])) (.cond (.tmp 25) (.exit 1) .skip (some [0,1,5,6,7]))) (.seq (.reg c107_r7 none (some [0,1,5,6,7,8])) (.seq (.reg c107_r8 none (some [0,1,5,6,7,8,9])) (.seq (.reg c107_r9 none (some [0,1,5,6,7,8,9,10])) (.seq (.seq (.reg c107_r10 none (some [0,1,5,6,7,8,9,10,53])) (.cond (.tmp 53) (.seq (.reg c107_r11 none (some [0,1,5,6,7,8,9,10])) (.seq (.reg c107_r12 none (some [0,1,5,6,7,8,9,10,11])) (.block 2 (.loop c107_l13 (some [0,1,5,6,7,8,9,10,11]))))) .skip (some [0,1,5,6,7,10]))) (.reg c107_r17 none (some [0,1,5,6,7])))))))) (.reg c107_r5 none (some [0,1,5,6,7]))))
def c107_r18 : List SOp := [⟨some 85,.move (.tmp 6),none⟩,⟨some 4,.assign (.tmp 85),none⟩]
def c107 : SC := (.seq (.reg c107_r0 none (some [0,1])) (.seq (.reg c107_r1 none (some [0,1,5])) (.seq (.reg c107_r2 none (some [0,1,5,6])) (.seq (.seq (.reg c107_r3 none (some [0,1,5,6,7])) (.block 0 (.loop c107_l4 (some [0,1,5,6,7])))) (.seq (.reg c107_r18 none (some [4])) .ret)))))
theorem c107_eq : ∃ code, Try.f107.body = some code ∧ compile H107 code = c107 := ⟨_, rfl, by kernel_rfl⟩
theorem c107_fn : Try.prog.funcs[107]? = some Try.f107 := by kernel_rfl
theorem c107_rs : Try.f107.results.toList = [.tmp 4] := by kernel_rfl
theorem c107_ok : fnB Try.prog H107 Try.f107 = true := by kernel_rfl
theorem c107_nt : Try.f107.ntmps = 86 := by kernel_rfl

def H108 : Hint := ⟨[(1, [4]), (0, [0, 1, 2])], []⟩
def c108_r0 : List SOp := [⟨some 4,.assign (.const (.bool false)),none⟩]
def c108_r1 : List SOp := [⟨some 5,.move (.tmp 0),none⟩,⟨some 6,.nilCheck (.tmp 5),none⟩,⟨some 7,.fieldAddr 147 (.tmp 6) 1,none⟩,⟨some 8,.load 3 (.tmp 7),none⟩,⟨some 9,.load 68 (.tmp 1),none⟩,⟨some 10,.call ⟨.builtin .len, #[.tmp 9], #[68]⟩,none⟩,⟨some 11,.binOp .lss 3 (.tmp 8) (.tmp 10) 3,none⟩,⟨some 12,.move (.tmp 11),none⟩,⟨some 13,.load 68 (.tmp 1),some (some 12,true)⟩,⟨some 14,.move (.tmp 0),some (some 12,true)⟩,⟨some 15,.nilCheck (.tmp 14),some (some 12,true)⟩,⟨some 16,.fieldAddr 147 (.tmp 15) 1,some (some 12,true)⟩,⟨some 17,.load 3 (.tmp 16),some (some 12,true)⟩,⟨some 18,.indexAddr 68 (.tmp 13) (.tmp 17),some (some 12,true)⟩,⟨some 19,.load 4 (.tmp 18),some (some 12,true)⟩,⟨some 20,.pick (.tmp 12) (.tmp 19) (.const (.bool false)),none⟩,⟨some 21,.move (.tmp 20),none⟩,⟨some 22,.move (.tmp 0),some (some 21,true)⟩,⟨some 23,.nilCheck (.tmp 22),some (some 21,true)⟩,⟨some 24,.fieldAddr 147 (.tmp 23) 0,some (some 21,true)⟩,⟨some 25,.load 52 (.tmp 24),some (some 21,true)⟩,⟨some 26,.load 84 (.tmp 2),some (some 21,true)⟩,⟨some 27,.nilCheck (.tmp 26),some (some 21,true)⟩,⟨some 28,.fieldAddr 144 (.tmp 27) 1,some (some 21,true)⟩,⟨some 29,.load 3 (.tmp 28),some (some 21,true)⟩,⟨some 30,.call ⟨.value (.func 109), #[.tmp 25,.tmp 29], #[52,3]⟩,some (some 21,true)⟩,⟨some 31,.pick (.tmp 21) (.tmp 30) (.const (.bool false)),none⟩,⟨some 4,.assign (.tmp 31),none⟩]
def c108 : SC := (.seq (.reg c108_r0 none (some [0,1,2])) (.seq (.reg c108_r1 none (some [4])) .ret))
theorem c108_eq : ∃ code, Try.f108.body = some code ∧ compile H108 code = c108 := ⟨_, rfl, by kernel_rfl⟩
theorem c108_fn : Try.prog.funcs[108]? = some Try.f108 := by kernel_rfl
theorem c108_rs : Try.f108.results.toList = [.tmp 4] := by kernel_rfl
theorem c108_ok : fnB Try.prog H108 Try.f108 = true := by kernel_rfl
theorem c108_nt : Try.f108.ntmps = 32 := by kernel_rfl

def H109 : Hint := ⟨[(1, [4]), (0, [1, 2])], []⟩
def c109_r0 : List SOp := [⟨some 2,.box 52 (.tmp 0),none⟩,⟨some 4,.assign (.const (.bool false)),none⟩]
def c109_r1 : List SOp := [⟨some 5,.fieldAddr 52 (.tmp 2) 5,none⟩,⟨some 6,.load 4 (.tmp 5),none⟩,⟨some 7,.move (.tmp 6),none⟩,⟨some 8,.move (.tmp 1),some (some 7,false)⟩,⟨some 9,.fieldAddr 52 (.tmp 2) 0,some (some 7,false)⟩,⟨some 10,.load 9 (.tmp 9),some (some 7,false)⟩,⟨some 11,.call ⟨.builtin .len, #[.tmp 10], #[9]⟩,some (some 7,false)⟩,⟨some 12,.binOp .sub 3 (.tmp 8) (.tmp 11) 3,some (some 7,false)⟩,⟨some 13,.fieldAddr 52 (.tmp 2) 3,some (some 7,false)⟩,⟨some 14,.load 3 (.tmp 13),some (some 7,false)⟩,⟨some 15,.binOp .geq 3 (.tmp 12) (.tmp 14) 3,some (some 7,false)⟩,⟨some 16,.move (.tmp 15),some (some 7,false)⟩,⟨some 17,.fieldAddr 52 (.tmp 2) 4,some (some 16,true)⟩,⟨some 18,.load 3 (.tmp 17),some (some 16,true)⟩,⟨some 19,.binOp .leq 3 (.tmp 18) (.const (.int .i64 0)) 3,some (some 16,true)⟩,⟨some 20,.move (.tmp 19),some (some 16,true)⟩,⟨some 21,.move (.tmp 1),some (some 20,false)⟩,⟨some 22,.fieldAddr 52 (.tmp 2) 3,some (some 20,false)⟩,⟨some 23,.load 3 (.tmp 22),some (some 20,false)⟩,⟨some 24,.fieldAddr 52 (.tmp 2) 4,some (some 20,false)⟩,⟨some 25,.load 3 (.tmp 24),some (some 20,false)⟩,⟨some 26,.binOp .add 3 (.tmp 23) (.tmp 25) 3,some (some 20,false)⟩,⟨some 27,.binOp .leq 3 (.tmp 21) (.tmp 26) 3,some (some 20,false)⟩,⟨some 28,.pick (.tmp 20) (.const (.bool true)) (.tmp 27),some (some 16,true)⟩,⟨some 29,.pick (.tmp 16) (.tmp 28) (.const (.bool false)),some (some 7,false)⟩,⟨some 30,.pick (.tmp 7) (.const (.bool true)) (.tmp 29),none⟩,⟨some 4,.assign (.tmp 30),none⟩]
def c109 : SC := (.seq (.reg c109_r0 none (some [1,2])) (.seq (.reg c109_r1 none (some [4])) .ret))
theorem c109_eq : ∃ code, Try.f109.body = some code ∧ compile H109 code = c109 := ⟨_, rfl, by kernel_rfl⟩
theorem c109_fn : Try.prog.funcs[109]? = some Try.f109 := by kernel_rfl
theorem c109_rs : Try.f109.results.toList = [.tmp 4] := by kernel_rfl
theorem c109_ok : fnB Try.prog H109 Try.f109 = true := by kernel_rfl
theorem c109_nt : Try.f109.ntmps = 31 := by kernel_rfl

def H110 : Hint := ⟨[(8, [8]), (5, [0, 2, 3, 9]), (7, [8]), (2000031, [0, 2, 3, 9]), (6, [0, 2, 3, 9, 31]), (2000017, [0, 2, 3, 9]), (4, [0, 2, 3, 9, 17]), (1000004, [0, 2, 3, 9]), (3, [0, 2, 3, 9]), (2, [8]), (2000011, [0, 1, 2, 3]), (1, [0, 1, 2, 3, 11]), (0, [0, 1, 2, 3])], []⟩
def c110_r0 : List SOp := [⟨some 8,.assign (.const (.bool false)),none⟩]
def c110_r1 : List SOp := [⟨some 10,.move (.tmp 1),none⟩,⟨some 11,.binOp .eql 148 (.tmp 10) (.const (.pointer none)) 148,none⟩]
def c110_r2 : List SOp := [⟨some 8,.assign (.const (.bool false)),none⟩]
def c110_r3 : List SOp := [⟨some 12,.move (.tmp 1),none⟩,⟨some 13,.nilCheck (.tmp 12),none⟩,⟨some 14,.fieldAddr 147 (.tmp 13) 5,none⟩,⟨some 15,.load 145 (.tmp 14),none⟩,⟨some 9,.assign (.tmp 15),none⟩]
def c110_r4 : List SOp := [⟨some 16,.move (.tmp 9),none⟩,⟨some 17,.binOp .neq 145 (.tmp 16) (.const (.pointer none)) 145,none⟩]
def c110_r6 : List SOp := [⟨some 22,.move (.tmp 0),none⟩,⟨some 23,.nilCheck (.tmp 22),none⟩,⟨some 24,.fieldAddr 147 (.tmp 23) 0,none⟩,⟨some 25,.load 52 (.tmp 24),none⟩,⟨some 26,.move (.tmp 3),none⟩,⟨some 27,.move (.tmp 9),none⟩,⟨some 28,.nilCheck (.tmp 27),none⟩,⟨some 29,.fieldAddr 181 (.tmp 28) 0,none⟩,⟨some 30,.load 3 (.tmp 29),none⟩,⟨some 31,.call ⟨.value (.func 122), #[.tmp 25,.tmp 26,.tmp 30], #[52,3,3]⟩,none⟩]
def c110_r7 : List SOp := [⟨some 8,.assign (.const (.bool true)),none⟩]
def c110_r5 : List SOp := [⟨some 18,.move (.tmp 9),none⟩,⟨some 19,.nilCheck (.tmp 18),none⟩,⟨some 20,.fieldAddr 181 (.tmp 19) 1,none⟩,⟨some 21,.load 145 (.tmp 20),none⟩,⟨some 9,.assign (.tmp 21),none⟩]
def c110_l4 : SC := (.seq (.seq (.reg c110_r4 none (some [0,2,3,9,17])) (.cond (.tmp 17) .skip (.exit 0) (some [0,2,3,9]))) (.seq (.block 1 (.seq (.reg c110_r6 none (some [0,2,3,9,31])) (.cond (.tmp 31) (.seq (.reg c110_r7 none (some [8])) .ret) .skip (some [0,2,3,9])))) (.reg c110_r5 none (some [0,2,3,9]))))
def c110_r8 : List SOp := [⟨some 32,.move (.tmp 2),none⟩,⟨some 33,.move (.tmp 32),none⟩,⟨some 34,.move (.tmp 0),some (some 33,true)⟩,⟨some 35,.nilCheck (.tmp 34),some (some 33,true)⟩,⟨some 36,.fieldAddr 147 (.tmp 35) 0,some (some 33,true)⟩,⟨some 37,.load 52 (.tmp 36),some (some 33,true)⟩,⟨some 38,.move (.tmp 3),some (some 33,true)⟩,⟨some 39,.move (.tmp 3),some (some 33,true)⟩,⟨some 40,.call ⟨.value (.func 122), #[.tmp 37,.tmp 38,.tmp 39], #[52,3,3]⟩,some (some 33,true)⟩,⟨some 41,.pick (.tmp 33) (.tmp 40) (.const (.bool false)),none⟩,⟨some 8,.assign (.tmp 41),none⟩]
def c110 : SC := (.seq (.reg c110_r0 none (some [0,1,2,3])) (.seq (.seq (.reg c110_r1 none (some [0,1,2,3,11])) (.cond (.tmp 11) (.seq (.reg c110_r2 none (some [8])) .ret) .skip (some [0,1,2,3]))) (.seq (.seq (.reg c110_r3 none (some [0,2,3,9])) (.block 0 (.loop c110_l4 (some [0,2,3,9])))) (.seq (.reg c110_r8 none (some [8])) .ret))))
theorem c110_eq : ∃ code, Try.f110.body = some code ∧ compile H110 code = c110 := ⟨_, rfl, by kernel_rfl⟩
theorem c110_fn : Try.prog.funcs[110]? = some Try.f110 := by kernel_rfl
theorem c110_rs : Try.f110.results.toList = [.tmp 8] := by kernel_rfl
theorem c110_ok : fnB Try.prog H110 Try.f110 = true := by kernel_rfl
theorem c110_nt : Try.f110.ntmps = 42 := by kernel_rfl

def H111 : Hint := ⟨[(13, []), (12, [0]), (2000091, []), (11, [0, 1, 6, 91]), (9, [0, 1, 2, 6]), (8, [0, 1, 2, 6]), (10, [0, 1, 2, 6]), (2000060, [0, 1, 2, 6]), (7, [0, 1, 2, 6, 60]), (2000047, [0, 1, 2, 6]), (6, [0, 1, 2, 6, 47]), (1000006, [0, 1, 2, 6]), (5, [0, 1, 2, 6]), (4, [0, 1, 2, 6]), (3, []), (2000028, []), (2, [0, 1, 28]), (2000020, [0, 1, 2]), (1, [0, 1, 2, 20]), (0, [0, 1, 2])], []⟩
def c111_r0 : List SOp := [⟨some 7,.move (.tmp 0),none⟩,⟨some 8,.move (.tmp 0),none⟩,⟨some 9,.nilCheck (.tmp 8),none⟩,⟨some 10,.fieldAddr 147 (.tmp 9) 7,none⟩,⟨some 11,.load 4 (.tmp 10),none⟩,⟨some 12,.move (.tmp 11),none⟩,⟨some 13,.move (.tmp 2),some (some 12,false)⟩,⟨some 14,.pick (.tmp 12) (.const (.bool true)) (.tmp 13),none⟩,⟨some 15,.nilCheck (.tmp 7),none⟩,⟨some 16,.fieldAddr 147 (.tmp 15) 7,none⟩,⟨none,.store 4 (.tmp 16) (.tmp 14),none⟩]
def c111_r1 : List SOp := [⟨some 17,.move (.tmp 0),none⟩,⟨some 18,.nilCheck (.tmp 17),none⟩,⟨some 19,.fieldAddr 147 (.tmp 18) 4,none⟩,⟨some 20,.load 4 (.tmp 19),none⟩]
def c111_r2 : List SOp := [⟨some 21,.move (.tmp 2),none⟩,⟨some 22,.move (.tmp 21),none⟩,⟨some 23,.move (.tmp 0),some (some 22,true)⟩,⟨some 24,.nilCheck (.tmp 23),some (some 22,true)⟩,⟨some 25,.fieldAddr 147 (.tmp 24) 5,some (some 22,true)⟩,⟨some 26,.load 145 (.tmp 25),some (some 22,true)⟩,⟨some 27,.binOp .eql 145 (.tmp 26) (.const (.pointer none)) 145,some (some 22,true)⟩,⟨some 28,.pick (.tmp 22) (.tmp 27) (.const (.bool false)),none⟩]
def c111_r3 : List SOp := [⟨some 29,.move (.tmp 0),none⟩,⟨some 30,.move (.tmp 0),none⟩,⟨some 31,.move (.tmp 1),none⟩,⟨some 32,.build 181 #[(0, (.tmp 31))],none⟩,⟨some 33,.box 181 (.tmp 32),none⟩,⟨some 34,.nilCheck (.tmp 29),none⟩,⟨some 35,.fieldAddr 147 (.tmp 34) 5,none⟩,⟨none,.store 145 (.tmp 35) (.tmp 33),none⟩,⟨some 36,.nilCheck (.tmp 30),none⟩,⟨some 37,.fieldAddr 147 (.tmp 36) 6,none⟩,⟨none,.store 3 (.tmp 37) (.const (.int .i64 1)),none⟩]
def c111_r4 : List SOp := [⟨some 38,.move (.tmp 0),none⟩,⟨some 39,.nilCheck (.tmp 38),none⟩,⟨some 40,.fieldAddr 147 (.tmp 39) 5,none⟩,⟨some 6,.assign (.tmp 40),none⟩]
def c111_r5 : List SOp := [⟨some 41,.move (.tmp 0),none⟩,⟨some 42,.nilCheck (.tmp 41),none⟩,⟨some 43,.fieldAddr 147 (.tmp 42) 6,none⟩,⟨none,.store 3 (.tmp 43) (.const (.int .i64 0)),none⟩]
def c111_r6 : List SOp := [⟨some 44,.move (.tmp 6),none⟩,⟨some 45,.nilCheck (.tmp 44),none⟩,⟨some 46,.load 145 (.tmp 45),none⟩,⟨some 47,.binOp .neq 145 (.tmp 46) (.const (.pointer none)) 145,none⟩]
def c111_r7 : List SOp := [⟨some 48,.move (.tmp 6),none⟩,⟨some 49,.nilCheck (.tmp 48),none⟩,⟨some 50,.load 145 (.tmp 49),none⟩,⟨some 51,.nilCheck (.tmp 50),none⟩,⟨some 52,.fieldAddr 181 (.tmp 51) 0,none⟩,⟨some 53,.load 3 (.tmp 52),none⟩,⟨some 54,.move (.tmp 0),none⟩,⟨some 55,.nilCheck (.tmp 54),none⟩,⟨some 56,.fieldAddr 147 (.tmp 55) 3,none⟩,⟨some 57,.load 3 (.tmp 56),none⟩,⟨some 58,.binOp .add 3 (.tmp 53) (.tmp 57) 3,none⟩,⟨some 59,.move (.tmp 1),none⟩,⟨some 60,.binOp .gtr 3 (.tmp 58) (.tmp 59) 3,none⟩]
def c111_r8 : List SOp := [⟨some 61,.move (.tmp 6),none⟩,⟨some 62,.nilCheck (.tmp 61),none⟩,⟨some 63,.load 145 (.tmp 62),none⟩,⟨some 64,.nilCheck (.tmp 63),none⟩,⟨some 65,.fieldAddr 181 (.tmp 64) 1,none⟩,⟨some 6,.assign (.tmp 65),none⟩]
def c111_r9 : List SOp := [⟨some 66,.move (.tmp 0),none⟩,⟨some 67,.nilCheck (.tmp 66),none⟩,⟨some 68,.fieldAddr 147 (.tmp 67) 6,none⟩,⟨some 69,.load 3 (.tmp 68),none⟩,⟨some 70,.binOp .add 3 (.tmp 69) (.const (.int .i64 1)) 3,none⟩,⟨some 71,.nilCheck (.tmp 66),none⟩,⟨some 72,.fieldAddr 147 (.tmp 71) 6,none⟩,⟨none,.store 3 (.tmp 72) (.tmp 70),none⟩]
def c111_r10 : List SOp := [⟨some 73,.move (.tmp 6),none⟩,⟨some 74,.move (.tmp 6),none⟩,⟨some 75,.nilCheck (.tmp 74),none⟩,⟨some 76,.load 145 (.tmp 75),none⟩,⟨some 77,.nilCheck (.tmp 76),none⟩,⟨some 78,.fieldAddr 181 (.tmp 77) 1,none⟩,⟨some 79,.load 145 (.tmp 78),none⟩,⟨some 80,.nilCheck (.tmp 73),none⟩,⟨none,.store 145 (.tmp 80) (.tmp 79),none⟩]
def c111_l6 : SC := (.seq (.seq (.reg c111_r6 none (some [0,1,2,6,47])) (.cond (.tmp 47) .skip (.exit 0) (some [0,1,2,6]))) (.block 1 (.seq (.reg c111_r7 none (some [0,1,2,6,60])) (.cond (.tmp 60) (.seq (.reg c111_r8 none (some [0,1,2,6])) (.reg c111_r9 none (some [0,1,2,6]))) (.reg c111_r10 none (some [0,1,2,6])) (some [0,1,2,6])))))
def c111_r11 : List SOp := [⟨some 81,.move (.tmp 2),none⟩,⟨some 82,.move (.tmp 81),none⟩,⟨some 83,.move (.tmp 1),some (some 82,true)⟩,⟨some 84,.move (.tmp 0),some (some 82,true)⟩,⟨some 85,.nilCheck (.tmp 84),some (some 82,true)⟩,⟨some 86,.fieldAddr 147 (.tmp 85) 3,some (some 82,true)⟩,⟨some 87,.load 3 (.tmp 86),some (some 82,true)⟩,⟨some 88,.binOp .add 3 (.tmp 83) (.tmp 87) 3,some (some 82,true)⟩,⟨some 89,.move (.tmp 1),some (some 82,true)⟩,⟨some 90,.binOp .gtr 3 (.tmp 88) (.tmp 89) 3,some (some 82,true)⟩,⟨some 91,.pick (.tmp 82) (.tmp 90) (.const (.bool false)),none⟩]
def c111_r12 : List SOp := [⟨some 92,.move (.tmp 6),none⟩,⟨some 93,.move (.tmp 1),none⟩,⟨some 94,.build 181 #[(0, (.tmp 93))],none⟩,⟨some 95,.box 181 (.tmp 94),none⟩,⟨some 96,.nilCheck (.tmp 92),none⟩,⟨none,.store 145 (.tmp 96) (.tmp 95),none⟩]
def c111_r13 : List SOp := [⟨some 97,.move (.tmp 0),none⟩,⟨some 98,.nilCheck (.tmp 97),none⟩,⟨some 99,.fieldAddr 147 (.tmp 98) 6,none⟩,⟨some 100,.load 3 (.tmp 99),none⟩,⟨some 101,.binOp .add 3 (.tmp 100) (.const (.int .i64 1)) 3,none⟩,⟨some 102,.nilCheck (.tmp 97),none⟩,⟨some 103,.fieldAddr 147 (.tmp 102) 6,none⟩,⟨none,.store 3 (.tmp 103) (.tmp 101),none⟩]
def c111 : SC := (.seq (.reg c111_r0 none (some [0,1,2])) (.seq (.seq (.reg c111_r1 none (some [0,1,2,20])) (.cond (.tmp 20) (.seq (.seq (.reg c111_r2 none (some [0,1,28])) (.cond (.tmp 28) (.reg c111_r3 none (some [])) .skip (some []))) .ret) .skip (some [0,1,2]))) (.seq (.reg c111_r4 none (some [0,1,2,6])) (.seq (.reg c111_r5 none (some [0,1,2,6])) (.seq (.block 0 (.loop c111_l6 (some [0,1,2,6]))) (.seq (.reg c111_r11 none (some [0,1,6,91])) (.cond (.tmp 91) (.seq (.reg c111_r12 none (some [0])) (.reg c111_r13 none (some []))) .skip (some []))))))))
theorem c111_eq : ∃ code, Try.f111.body = some code ∧ compile H111 code = c111 := ⟨_, rfl, by kernel_rfl⟩
theorem c111_fn : Try.prog.funcs[111]? = some Try.f111 := by kernel_rfl
theorem c111_rs : Try.f111.results.toList = [] := by kernel_rfl
theorem c111_ok : fnB Try.prog H111 Try.f111 = true := by kernel_rfl
theorem c111_nt : Try.f111.ntmps = 104 := by kernel_rfl

def H112 : Hint := ⟨[(15, [2]), (6, [1, 2, 3, 4]), (14, [1, 2, 3, 4]), (2000082, [1, 2, 3, 4]), (13, [1, 2, 3, 4, 82]), (10, [1, 2, 3, 4, 5, 6]), (12, [1, 2, 3, 4, 5, 6]), (11, [1, 2, 3, 4, 5, 6, 7]), (2000026, [1, 2, 3, 4, 5, 6]), (9, [1, 2, 3, 4, 5, 6, 26]), (1000009, [1, 2, 3, 4, 5, 6]), (8, [1, 2, 3, 4, 5, 6]), (7, [1, 2, 3, 4, 5]), (2000019, [1, 2, 3, 4]), (5, [1, 2, 3, 4, 19]), (1000005, [1, 2, 3, 4]), (4, [1, 2, 3, 4]), (3, [1, 2, 3]), (2, [2]), (2000010, [1, 2]), (1, [1, 2, 10]), (0, [1, 2])], [(14, [(1, 14), (3, 14), (7, 14), (17, 14), (21, 14)])]⟩
def c112_r0 : List SOp := [⟨some 1,.box 102 (.tmp 0),none⟩,⟨some 2,.alloc 102,none⟩]
def c112_r1 : List SOp := [⟨some 8,.load 102 (.tmp 1),none⟩,⟨some 9,.call ⟨.value (.func 123), #[.tmp 8], #[102]⟩,none⟩,⟨some 10,.unOp .not 4 (.tmp 9),none⟩]
def c112_r2 : List SOp := [⟨some 11,.build 102 #[],none⟩,⟨none,.store 102 (.tmp 2) (.tmp 11),none⟩]
def c112_r3 : List SOp := [⟨some 12,.fieldAddr 102 (.tmp 1) 0,none⟩,⟨some 13,.load 4 (.tmp 12),none⟩,⟨some 14,.build 102 #[(0, (.tmp 13))],none⟩,⟨some 3,.alloc 102,none⟩,⟨none,.store 102 (.tmp 3) (.tmp 14),none⟩]
def c112_r4 : List SOp := [⟨some 4,.assign (.const (.int .i64 0)),none⟩]
def c112_r5 : List SOp := [⟨some 15,.move (.tmp 4),none⟩,⟨some 16,.fieldAddr 102 (.tmp 1) 1,none⟩,⟨some 17,.load 100 (.tmp 16),none⟩,⟨some 18,.call ⟨.builtin .len, #[.tmp 17], #[100]⟩,none⟩,⟨some 19,.binOp .lss 3 (.tmp 15) (.tmp 18) 3,none⟩]
def c112_r7 : List SOp := [⟨some 5,.assign (.const (.bool false)),none⟩]
def c112_r8 : List SOp := [⟨some 6,.assign (.const (.int .i64 0)),none⟩]
def c112_r9 : List SOp := [⟨some 22,.move (.tmp 6),none⟩,⟨some 23,.fieldAddr 102 (.tmp 1) 1,none⟩,⟨some 24,.load 100 (.tmp 23),none⟩,⟨some 25,.call ⟨.builtin .len, #[.tmp 24], #[100]⟩,none⟩,⟨some 26,.binOp .lss 3 (.tmp 22) (.tmp 25) 3,none⟩]
def c112_r11 : List SOp := [⟨some 29,.fieldAddr 102 (.tmp 1) 1,none⟩,⟨some 30,.load 100 (.tmp 29),none⟩,⟨some 31,.move (.tmp 4),none⟩,⟨some 32,.indexAddr 100 (.tmp 30) (.tmp 31),none⟩,⟨some 33,.load 158 (.tmp 32),none⟩,⟨some 34,.fieldAddr 102 (.tmp 1) 1,none⟩,⟨some 35,.load 100 (.tmp 34),none⟩,⟨some 36,.move (.tmp 6),none⟩,⟨some 37,.indexAddr 100 (.tmp 35) (.tmp 36),none⟩,⟨some 38,.load 158 (.tmp 37),none⟩,⟨some 39,.call ⟨.value (.func 124), #[.tmp 33,.tmp 38], #[158,158]⟩,none⟩,⟨some 40,.move (.tmp 39),none⟩,⟨some 41,.fieldAddr 102 (.tmp 1) 1,some (some 40,true)⟩,⟨some 42,.load 100 (.tmp 41),some (some 40,true)⟩,⟨some 43,.move (.tmp 6),some (some 40,true)⟩,⟨some 44,.indexAddr 100 (.tmp 42) (.tmp 43),some (some 40,true)⟩,⟨some 45,.load 158 (.tmp 44),some (some 40,true)⟩,⟨some 46,.fieldAddr 102 (.tmp 1) 1,some (some 40,true)⟩,⟨some 47,.load 100 (.tmp 46),some (some 40,true)⟩,⟨some 48,.move (.tmp 4),some (some 40,true)⟩,⟨some 49,.indexAddr 100 (.tmp 47) (.tmp 48),some (some 40,true)⟩,⟨some 50,.load 158 (.tmp 49),some (some 40,true)⟩,⟨some 51,.call ⟨.value (.func 124), #[.tmp 45,.tmp 50], #[158,158]⟩,some (some 40,true)⟩,⟨some 52,.pick (.tmp 40) (.tmp 51) (.const (.bool false)),none⟩,⟨some 7,.assign (.tmp 52),none⟩]
def c112_r12 : List SOp := [⟨some 53,.move (.tmp 5),none⟩,⟨some 54,.move (.tmp 53),none⟩,⟨some 55,.move (.tmp 6),some (some 54,false)⟩,⟨some 56,.move (.tmp 4),some (some 54,false)⟩,⟨some 57,.binOp .neq 3 (.tmp 55) (.tmp 56) 3,some (some 54,false)⟩,⟨some 58,.move (.tmp 57),some (some 54,false)⟩,⟨some 59,.fieldAddr 102 (.tmp 1) 1,some (some 58,true)⟩,⟨some 60,.load 100 (.tmp 59),some (some 58,true)⟩,⟨some 61,.move (.tmp 6),some (some 58,true)⟩,⟨some 62,.indexAddr 100 (.tmp 60) (.tmp 61),some (some 58,true)⟩,⟨some 63,.load 158 (.tmp 62),some (some 58,true)⟩,⟨some 64,.fieldAddr 102 (.tmp 1) 1,some (some 58,true)⟩,⟨some 65,.load 100 (.tmp 64),some (some 58,true)⟩,⟨some 66,.move (.tmp 4),some (some 58,true)⟩,⟨some 67,.indexAddr 100 (.tmp 65) (.tmp 66),some (some 58,true)⟩,⟨some 68,.load 158 (.tmp 67),some (some 58,true)⟩,⟨some 69,.call ⟨.value (.func 124), #[.tmp 63,.tmp 68], #[158,158]⟩,some (some 58,true)⟩,⟨some 70,.pick (.tmp 58) (.tmp 69) (.const (.bool false)),some (some 54,false)⟩,⟨some 71,.move (.tmp 70),some (some 54,false)⟩,⟨some 72,.move (.tmp 7),some (some 71,true)⟩,⟨some 73,.unOp .not 4 (.tmp 72),some (some 71,true)⟩,⟨some 74,.move (.tmp 73),some (some 71,true)⟩,⟨some 75,.move (.tmp 6),some (some 74,false)⟩,⟨some 76,.move (.tmp 4),some (some 74,false)⟩,⟨some 77,.binOp .lss 3 (.tmp 75) (.tmp 76) 3,some (some 74,false)⟩,⟨some 78,.pick (.tmp 74) (.const (.bool true)) (.tmp 77),some (some 71,true)⟩,⟨some 79,.pick (.tmp 71) (.tmp 78) (.const (.bool false)),some (some 54,false)⟩,⟨some 80,.pick (.tmp 54) (.const (.bool true)) (.tmp 79),none⟩,⟨some 5,.assign (.tmp 80),none⟩]
def c112_r10 : List SOp := [⟨some 27,.move (.tmp 6),none⟩,⟨some 28,.binOp .add 3 (.tmp 27) (.const (.int .i64 1)) 3,none⟩,⟨some 6,.assign (.tmp 28),none⟩]
def c112_l9 : SC := (.seq (.seq (.reg c112_r9 none (some [1,2,3,4,5,6,26])) (.cond (.tmp 26) .skip (.exit 2) (some [1,2,3,4,5,6]))) (.seq (.block 3 (.seq (.reg c112_r11 none (some [1,2,3,4,5,6,7])) (.reg c112_r12 none (some [1,2,3,4,5,6])))) (.reg c112_r10 none (some [1,2,3,4,5,6]))))
def c112_r13 : List SOp := [⟨some 81,.move (.tmp 5),none⟩,⟨some 82,.unOp .not 4 (.tmp 81),none⟩]
def c112_r14 : List SOp := [⟨some 83,.fieldAddr 102 (.tmp 3) 1,none⟩,⟨some 84,.load 100 (.tmp 83),none⟩,⟨some 85,.fieldAddr 102 (.tmp 1) 1,none⟩,⟨some 86,.load 100 (.tmp 85),none⟩,⟨some 87,.move (.tmp 4),none⟩,⟨some 88,.indexAddr 100 (.tmp 86) (.tmp 87),none⟩,⟨some 89,.fieldAddr 158 (.tmp 88) 0,none⟩,⟨some 90,.load 156 (.tmp 89),none⟩,⟨some 91,.fieldAddr 102 (.tmp 1) 1,none⟩,⟨some 92,.load 100 (.tmp 91),none⟩,⟨some 93,.move (.tmp 4),none⟩,⟨some 94,.indexAddr 100 (.tmp 92) (.tmp 93),none⟩,⟨some 95,.fieldAddr 158 (.tmp 94) 1,none⟩,⟨some 96,.load 3 (.tmp 95),none⟩,⟨some 97,.call ⟨.value (.func 125), #[.tmp 96], #[3]⟩,none⟩,⟨some 98,.binOp .and 156 (.tmp 90) (.tmp 97) 156,none⟩,⟨some 99,.fieldAddr 102 (.tmp 1) 1,none⟩,⟨some 100,.load 100 (.tmp 99),none⟩,⟨some 101,.move (.tmp 4),none⟩,⟨some 102,.indexAddr 100 (.tmp 100) (.tmp 101),none⟩,⟨some 103,.fieldAddr 158 (.tmp 102) 1,none⟩,⟨some 104,.load 3 (.tmp 103),none⟩,⟨some 105,.build 158 #[(0, (.tmp 98)), (1, (.tmp 104))],none⟩,⟨some 106,.buildSlice 100 1 #[(0, (.tmp 105))],none⟩,⟨some 107,.call ⟨.builtin .append, #[.tmp 84,.tmp 106], #[100,100]⟩,none⟩,⟨some 108,.fieldAddr 102 (.tmp 3) 1,none⟩,⟨none,.store 100 (.tmp 108) (.tmp 107),none⟩]
def c112_r6 : List SOp := [⟨some 20,.move (.tmp 4),none⟩,⟨some 21,.binOp .add 3 (.tmp 20) (.const (.int .i64 1)) 3,none⟩,⟨some 4,.assign (.tmp 21),none⟩]
def c112_l5 : SC := (.seq (.seq (.reg c112_r5 none (some [1,2,3,4,19])) (.cond (.tmp 19) .skip (.exit 0) (some [1,2,3,4]))) (.seq (.block 1 (.seq (.reg c112_r7 none (some [1,2,3,4,5])) (.seq (.seq (.reg c112_r8 none (some [1,2,3,4,5,6])) (.block 2 (.loop c112_l9 (some [1,2,3,4,5,6])))) (.seq (.reg c112_r13 none (some [1,2,3,4,82])) (.cond (.tmp 82) (.reg c112_r14 (some [(1, 14), (3, 14), (7, 14), (17, 14), (21, 14)]) (some [1,2,3,4])) .skip (some [1,2,3,4])))))) (.reg c112_r6 none (some [1,2,3,4]))))
def c112_r15 : List SOp := [⟨some 109,.load 102 (.tmp 3),none⟩,⟨none,.store 102 (.tmp 2) (.tmp 109),none⟩]
def c112 : SC := (.seq (.reg c112_r0 none (some [1,2])) (.seq (.seq (.reg c112_r1 none (some [1,2,10])) (.cond (.tmp 10) (.seq (.reg c112_r2 none (some [2])) .ret) .skip (some [1,2]))) (.seq (.reg c112_r3 none (some [1,2,3])) (.seq (.seq (.reg c112_r4 none (some [1,2,3,4])) (.block 0 (.loop c112_l5 (some [1,2,3,4])))) (.seq (.reg c112_r15 none (some [2])) .ret)))))
theorem c112_eq : ∃ code, Try.f112.body = some code ∧ compile H112 code = c112 := ⟨_, rfl, by kernel_rfl⟩
theorem c112_fn : Try.prog.funcs[112]? = some Try.f112 := by kernel_rfl
theorem c112_rs : Try.f112.results.toList = [.cell 2 102] := by kernel_rfl
theorem c112_ok : fnB Try.prog H112 Try.f112 = true := by kernel_rfl
theorem c112_nt : Try.f112.ntmps = 110 := by kernel_rfl

def H114 : Hint := ⟨[(1, [2]), (0, [0])], []⟩
def c114_r0 : List SOp := [⟨some 2,.assign (.const (.bool false)),none⟩]
def c114_r1 : List SOp := [⟨some 3,.move (.tmp 0),none⟩,⟨some 4,.nilCheck (.tmp 3),none⟩,⟨some 5,.fieldAddr 166 (.tmp 4) 1,none⟩,⟨some 6,.load 84 (.tmp 5),none⟩,⟨some 7,.call ⟨.value (.func 76), #[.tmp 6], #[84]⟩,none⟩,⟨some 2,.assign (.tmp 7),none⟩]
def c114 : SC := (.seq (.reg c114_r0 none (some [0])) (.seq (.reg c114_r1 none (some [2])) .ret))
theorem c114_eq : ∃ code, Try.f114.body = some code ∧ compile H114 code = c114 := ⟨_, rfl, by kernel_rfl⟩
theorem c114_fn : Try.prog.funcs[114]? = some Try.f114 := by kernel_rfl
theorem c114_rs : Try.f114.results.toList = [.tmp 2] := by kernel_rfl
theorem c114_ok : fnB Try.prog H114 Try.f114 = true := by kernel_rfl
theorem c114_nt : Try.f114.ntmps = 8 := by kernel_rfl

def H115 : Hint := ⟨[(8, [2]), (7, [3, 6, 7, 8]), (6, [3, 6, 7, 8]), (2000015, [3, 6, 7, 8]), (5, [3, 5, 6, 7, 8, 15]), (4, [3, 5, 6, 7, 8]), (2000009, [3, 6, 7, 8]), (3, [3, 6, 7, 8, 9]), (1000003, [3, 6, 7, 8]), (2, [3, 6, 7, 8]), (1, [0, 3]), (0, [0])], []⟩
def c115_r0 : List SOp := [⟨some 2,.assign (.const (.int .i64 0)),none⟩]
def c115_r1 : List SOp := [⟨some 3,.assign (.const (.int .i64 0)),none⟩]
def c115_r2 : List SOp := [⟨some 6,.move (.tmp 0),none⟩,⟨some 7,.call ⟨.builtin .len, #[.tmp 6], #[94]⟩,none⟩,⟨some 8,.move (.const (.int .i64 0)),none⟩]
def c115_r3 : List SOp := [⟨some 9,.binOp .lss 3 (.tmp 8) (.tmp 7) 3,none⟩]
def c115_r4 : List SOp := [⟨some 10,.indexAddr 94 (.tmp 6) (.tmp 8),none⟩,⟨some 11,.load 99 (.tmp 10),none⟩,⟨some 5,.alloc 99,none⟩,⟨none,.store 99 (.tmp 5) (.tmp 11),none⟩]
def c115_r5 : List SOp := [⟨some 12,.fieldAddr 99 (.tmp 5) 3,none⟩,⟨some 13,.load 3 (.tmp 12),none⟩,⟨some 14,.move (.tmp 3),none⟩,⟨some 15,.call ⟨.value (.func 78), #[.tmp 13,.tmp 14], #[3,3]⟩,none⟩]
def c115_r6 : List SOp := [⟨some 16,.fieldAddr 99 (.tmp 5) 3,none⟩,⟨some 17,.load 3 (.tmp 16),none⟩,⟨some 3,.assign (.tmp 17),none⟩]
def c115_r7 : List SOp := [⟨some 18,.binOp .add 3 (.tmp 8) (.const (.int .i64 1)) 3,none⟩,⟨some 8,.move (.tmp 18),none⟩]
def c115_l3 : SC := (.seq (.reg c115_r3 none (some [3,6,7,8,9])) (.seq (.cond (.tmp 9) .skip (.exit 0) (some [3,6,7,8])) (.seq (.block 1 (.seq (.reg c115_r4 none (some [3,5,6,7,8])) (.seq (.reg c115_r5 none (some [3,5,6,7,8,15])) (.cond (.tmp 15) (.reg c115_r6 none (some [3,6,7,8])) .skip (some [3,6,7,8]))))) (.reg c115_r7 none (some [3,6,7,8])))))
def c115_r8 : List SOp := [⟨some 19,.move (.tmp 3),none⟩,⟨some 2,.assign (.tmp 19),none⟩]
def c115 : SC := (.seq (.reg c115_r0 none (some [0])) (.seq (.reg c115_r1 none (some [0,3])) (.seq (.seq (.reg c115_r2 none (some [3,6,7,8])) (.block 0 (.loop c115_l3 (some [3,6,7,8])))) (.seq (.reg c115_r8 none (some [2])) .ret))))
theorem c115_eq : ∃ code, Try.f115.body = some code ∧ compile H115 code = c115 := ⟨_, rfl, by kernel_rfl⟩
theorem c115_fn : Try.prog.funcs[115]? = some Try.f115 := by kernel_rfl
theorem c115_rs : Try.f115.results.toList = [.tmp 2] := by kernel_rfl
theorem c115_ok : fnB Try.prog H115 Try.f115 = true := by kernel_rfl
theorem c115_nt : Try.f115.ntmps = 20 := by kernel_rfl

def H116 : Hint := ⟨[(2, [2]), (1, [0]), (0, [0])], []⟩
def c116_r0 : List SOp := [⟨some 2,.assign (.const (.bool false)),none⟩]
def c116_r1 : List SOp := [⟨some 3,.move (.tmp 0),none⟩,⟨some 4,.nilCheck (.tmp 3),none⟩,⟨some 5,.fieldAddr 166 (.tmp 4) 1,none⟩,⟨some 6,.load 84 (.tmp 5),none⟩,⟨some 7,.move (.tmp 0),none⟩,⟨some 8,.nilCheck (.tmp 7),none⟩,⟨some 9,.fieldAddr 166 (.tmp 8) 2,none⟩,⟨some 10,.load 68 (.tmp 9),none⟩,⟨some 11,.call ⟨.value (.func 73), #[.tmp 6,.tmp 10], #[84,68]⟩,none⟩]
def c116_r2 : List SOp := [⟨some 12,.move (.tmp 0),none⟩,⟨some 13,.nilCheck (.tmp 12),none⟩,⟨some 14,.fieldAddr 166 (.tmp 13) 1,none⟩,⟨some 15,.load 84 (.tmp 14),none⟩,⟨some 16,.call ⟨.value (.func 76), #[.tmp 15], #[84]⟩,none⟩,⟨some 2,.assign (.tmp 16),none⟩]
def c116 : SC := (.seq (.reg c116_r0 none (some [0])) (.seq (.reg c116_r1 none (some [0])) (.seq (.reg c116_r2 none (some [2])) .ret)))
theorem c116_eq : ∃ code, Try.f116.body = some code ∧ compile H116 code = c116 := ⟨_, rfl, by kernel_rfl⟩
theorem c116_fn : Try.prog.funcs[116]? = some Try.f116 := by kernel_rfl
theorem c116_rs : Try.f116.results.toList = [.tmp 2] := by kernel_rfl
theorem c116_ok : fnB Try.prog H116 Try.f116 = true := by kernel_rfl
theorem c116_nt : Try.f116.ntmps = 17 := by kernel_rfl

def H117 : Hint := ⟨[(1, [2]), (0, [1])], []⟩
def c117_r0 : List SOp := [⟨some 1,.box 91 (.tmp 0),none⟩,⟨some 2,.assign (.const .nilFunc),none⟩]
def c117_r1 : List SOp := [⟨some 3,.makeFunc (.func 126) #[] #[.tmp 1],none⟩,⟨some 2,.assign (.tmp 3),none⟩]
def c117 : SC := (.seq (.reg c117_r0 none (some [1])) (.seq (.reg c117_r1 none (some [2])) .ret))
theorem c117_eq : ∃ code, Try.f117.body = some code ∧ compile H117 code = c117 := ⟨_, rfl, by kernel_rfl⟩
theorem c117_fn : Try.prog.funcs[117]? = some Try.f117 := by kernel_rfl
theorem c117_rs : Try.f117.results.toList = [.tmp 2] := by kernel_rfl
theorem c117_ok : fnB Try.prog H117 Try.f117 = true := by kernel_rfl
theorem c117_nt : Try.f117.ntmps = 4 := by kernel_rfl

def H118 : Hint := ⟨[(17, [2, 3]), (16, [4, 5]), (15, [4]), (2000113, [4, 5]), (14, [0, 4, 5, 113]), (5, [0, 4, 5, 6, 7]), (13, [0, 4, 5, 6, 7]), (2000106, [0, 4, 5, 6, 7]), (12, [0, 4, 5, 6, 7, 106]), (11, [0, 4, 5, 6, 7, 8]), (10, [0, 4, 5, 6, 7, 8]), (9, [0, 4, 5, 6, 7, 8]), (2000047, [0, 4, 5, 6, 7, 8]), (8, [0, 4, 5, 6, 7, 8, 47]), (2000041, [0, 4, 5, 6, 7, 8]), (7, [0, 4, 5, 6, 7, 8, 41]), (6, [0, 4, 5, 6, 7, 8]), (2000015, [0, 4, 5, 6, 7]), (4, [0, 4, 5, 6, 7, 15]), (1000004, [0, 4, 5, 6, 7]), (3, [0, 4, 5, 6, 7]), (2, [0, 4, 5, 6]), (1, [0, 4]), (0, [0])], []⟩
def c118_r0 : List SOp := [⟨some 2,.assign (.const (.slice none 0 0)),none⟩,⟨some 3,.assign (.const (.int .i64 0)),none⟩]
def c118_r1 : List SOp := [⟨some 4,.assign (.const (.slice none 0 0)),none⟩]
def c118_r2 : List SOp := [⟨some 5,.assign (.const (.int .i64 0)),none⟩,⟨some 6,.assign (.const (.bool false)),none⟩]
def c118_r3 : List SOp := [⟨some 7,.assign (.const (.int .i64 0)),none⟩]
def c118_r4 : List SOp := [⟨some 9,.move (.tmp 7),none⟩,⟨some 10,.move (.tmp 0),none⟩,⟨some 11,.nilCheck (.tmp 10),none⟩,⟨some 12,.fieldAddr 176 (.tmp 11) 0,none⟩,⟨some 13,.load 89 (.tmp 12),none⟩,⟨some 14,.call ⟨.builtin .len, #[.tmp 13], #[89]⟩,none⟩,⟨some 15,.binOp .lss 3 (.tmp 9) (.tmp 14) 3,none⟩]
def c118_r6 : List SOp := [⟨some 18,.move (.tmp 0),none⟩,⟨some 19,.nilCheck (.tmp 18),none⟩,⟨some 20,.fieldAddr 176 (.tmp 19) 0,none⟩,⟨some 21,.load 89 (.tmp 20),none⟩,⟨some 22,.move (.tmp 7),none⟩,⟨some 23,.indexAddr 89 (.tmp 21) (.tmp 22),none⟩,⟨some 24,.fieldAddr 107 (.tmp 23) 8,none⟩,⟨some 25,.load 42 (.tmp 24),none⟩,⟨some 8,.assign (.tmp 25),none⟩]
def c118_r7 : List SOp := [⟨some 26,.move (.tmp 0),none⟩,⟨some 27,.nilCheck (.tmp 26),none⟩,⟨some 28,.fieldAddr 176 (.tmp 27) 3,none⟩,⟨some 29,.load 68 (.tmp 28),none⟩,⟨some 30,.move (.tmp 7),none⟩,⟨some 31,.indexAddr 68 (.tmp 29) (.tmp 30),none⟩,⟨some 32,.load 4 (.tmp 31),none⟩,⟨some 33,.move (.tmp 32),none⟩,⟨some 34,.move (.tmp 0),some (some 33,false)⟩,⟨some 35,.nilCheck (.tmp 34),some (some 33,false)⟩,⟨some 36,.fieldAddr 176 (.tmp 35) 4,some (some 33,false)⟩,⟨some 37,.load 68 (.tmp 36),some (some 33,false)⟩,⟨some 38,.move (.tmp 7),some (some 33,false)⟩,⟨some 39,.indexAddr 68 (.tmp 37) (.tmp 38),some (some 33,false)⟩,⟨some 40,.load 4 (.tmp 39),some (some 33,false)⟩,⟨some 41,.pick (.tmp 33) (.const (.bool true)) (.tmp 40),none⟩]
def c118_r8 : List SOp := [⟨some 42,.move (.tmp 8),none⟩,⟨some 43,.move (.tmp 0),none⟩,⟨some 44,.nilCheck (.tmp 43),none⟩,⟨some 45,.fieldAddr 176 (.tmp 44) 2,none⟩,⟨some 46,.load 9 (.tmp 45),none⟩,⟨some 47,.call ⟨.value (.func 48), #[.tmp 42,.tmp 46], #[42,9]⟩,none⟩]
def c118_r9 : List SOp := [⟨some 48,.move (.tmp 0),none⟩,⟨some 49,.nilCheck (.tmp 48),none⟩,⟨some 50,.fieldAddr 176 (.tmp 49) 3,none⟩,⟨some 51,.load 68 (.tmp 50),none⟩,⟨some 52,.move (.tmp 7),none⟩,⟨some 53,.indexAddr 68 (.tmp 51) (.tmp 52),none⟩,⟨none,.store 4 (.tmp 53) (.const (.bool true)),none⟩]
def c118_r10 : List SOp := [⟨some 54,.move (.tmp 4),none⟩,⟨some 55,.move (.tmp 0),none⟩,⟨some 56,.nilCheck (.tmp 55),none⟩,⟨some 57,.fieldAddr 176 (.tmp 56) 0,none⟩,⟨some 58,.load 89 (.tmp 57),none⟩,⟨some 59,.move (.tmp 7),none⟩,⟨some 60,.indexAddr 89 (.tmp 58) (.tmp 59),none⟩,⟨some 61,.fieldAddr 107 (.tmp 60) 9,none⟩,⟨some 62,.load 3 (.tmp 61),none⟩,⟨some 63,.move (.tmp 0),none⟩,⟨some 64,.nilCheck (.tmp 63),none⟩,⟨some 65,.fieldAddr 176 (.tmp 64) 2,none⟩,⟨some 66,.load 9 (.tmp 65),none⟩,⟨some 67,.call ⟨.builtin .len, #[.tmp 66], #[9]⟩,none⟩,⟨some 68,.move (.tmp 0),none⟩,⟨some 69,.nilCheck (.tmp 68),none⟩,⟨some 70,.fieldAddr 176 (.tmp 69) 0,none⟩,⟨some 71,.load 89 (.tmp 70),none⟩,⟨some 72,.move (.tmp 7),none⟩,⟨some 73,.indexAddr 89 (.tmp 71) (.tmp 72),none⟩,⟨some 74,.fieldAddr 107 (.tmp 73) 0,none⟩,⟨some 75,.load 3 (.tmp 74),none⟩,⟨some 76,.build 99 #[(0, (.tmp 62)), (2, (.tmp 67)), (3, (.tmp 75))],none⟩,⟨some 77,.buildSlice 94 1 #[(0, (.tmp 76))],none⟩,⟨some 78,.call ⟨.builtin .append, #[.tmp 54,.tmp 77], #[94,94]⟩,none⟩,⟨some 4,.assign (.tmp 78),none⟩]
def c118_r11 : List SOp := [⟨some 79,.move (.tmp 5),none⟩,⟨some 80,.move (.tmp 0),none⟩,⟨some 81,.nilCheck (.tmp 80),none⟩,⟨some 82,.fieldAddr 176 (.tmp 81) 0,none⟩,⟨some 83,.load 89 (.tmp 82),none⟩,⟨some 84,.move (.tmp 7),none⟩,⟨some 85,.indexAddr 89 (.tmp 83) (.tmp 84),none⟩,⟨some 86,.fieldAddr 107 (.tmp 85) 0,none⟩,⟨some 87,.load 3 (.tmp 86),none⟩,⟨some 88,.call ⟨.builtin .max, #[.tmp 79,.tmp 87], #[3,3]⟩,none⟩,⟨some 5,.assign (.tmp 88),none⟩]
def c118_r12 : List SOp := [⟨some 89,.move (.tmp 0),none⟩,⟨some 90,.nilCheck (.tmp 89),none⟩,⟨some 91,.fieldAddr 176 (.tmp 90) 2,none⟩,⟨some 92,.load 9 (.tmp 91),none⟩,⟨some 93,.call ⟨.builtin .len, #[.tmp 92], #[9]⟩,none⟩,⟨some 94,.binOp .gtr 3 (.tmp 93) (.const (.int .i64 0)) 3,none⟩,⟨some 95,.move (.tmp 94),none⟩,⟨some 96,.move (.tmp 8),some (some 95,true)⟩,⟨some 97,.move (.tmp 0),some (some 95,true)⟩,⟨some 98,.nilCheck (.tmp 97),some (some 95,true)⟩,⟨some 99,.fieldAddr 176 (.tmp 98) 1,some (some 95,true)⟩,⟨some 100,.load 3 (.tmp 99),some (some 95,true)⟩,⟨some 101,.move (.tmp 0),some (some 95,true)⟩,⟨some 102,.nilCheck (.tmp 101),some (some 95,true)⟩,⟨some 103,.fieldAddr 176 (.tmp 102) 2,some (some 95,true)⟩,⟨some 104,.load 9 (.tmp 103),some (some 95,true)⟩,⟨some 105,.call ⟨.value (.func 106), #[.tmp 96,.tmp 100,.tmp 104], #[42,3,9]⟩,some (some 95,true)⟩,⟨some 106,.pick (.tmp 95) (.tmp 105) (.const (.bool false)),none⟩]
def c118_r13 : List SOp := [⟨some 107,.move (.tmp 0),none⟩,⟨some 108,.nilCheck (.tmp 107),none⟩,⟨some 109,.fieldAddr 176 (.tmp 108) 4,none⟩,⟨some 110,.load 68 (.tmp 109),none⟩,⟨some 111,.move (.tmp 7),none⟩,⟨some 112,.indexAddr 68 (.tmp 110) (.tmp 111),none⟩,⟨none,.store 4 (.tmp 112) (.const (.bool true)),none⟩,⟨some 6,.assign (.const (.bool true)),none⟩]
def c118_r5 : List SOp := [⟨some 16,.move (.tmp 7),none⟩,⟨some 17,.binOp .add 3 (.tmp 16) (.const (.int .i64 1)) 3,none⟩,⟨some 7,.assign (.tmp 17),none⟩]
def c118_l4 : SC := (.seq (.seq (.reg c118_r4 none (some [0,4,5,6,7,15])) (.cond (.tmp 15) .skip (.exit 0) (some [0,4,5,6,7]))) (.seq (.block 1 (.seq (.reg c118_r6 none (some [0,4,5,6,7,8])) (.seq (.seq (.reg c118_r7 none (some [0,4,5,6,7,8,41])) (.cond (.tmp 41) (.exit 1) .skip (some [0,4,5,6,7,8]))) (.seq (.seq (.reg c118_r8 none (some [0,4,5,6,7,8,47])) (.cond (.tmp 47) (.seq (.reg c118_r9 none (some [0,4,5,6,7,8])) (.seq (.reg c118_r10 none (some [0,4,5,6,7,8])) (.reg c118_r11 none (some [0,4,5,6,7,8])))) .skip (some [0,4,5,6,7,8]))) (.seq (.reg c118_r12 none (some [0,4,5,6,7,106])) (.cond (.tmp 106) (.reg c118_r13 none (some [0,4,5,6,7])) .skip (some [0,4,5,6,7]))))))) (.reg c118_r5 none (some [0,4,5,6,7]))))
def c118_r14 : List SOp := [⟨some 113,.move (.tmp 6),none⟩]
def c118_r15 : List SOp := [⟨some 114,.move (.tmp 4),none⟩,⟨some 115,.move (.tmp 0),none⟩,⟨some 116,.nilCheck (.tmp 115),none⟩,⟨some 117,.fieldAddr 176 (.tmp 116) 2,none⟩,⟨some 118,.load 9 (.tmp 117),none⟩,⟨some 119,.call ⟨.builtin .len, #[.tmp 118], #[9]⟩,none⟩,⟨some 120,.build 99 #[(2, (.tmp 119)), (3, (.const (.int .i64 4)))],none⟩,⟨some 121,.buildSlice 94 1 #[(0, (.tmp 120))],none⟩,⟨some 122,.call ⟨.builtin .append, #[.tmp 114,.tmp 121], #[94,94]⟩,none⟩,⟨some 4,.assign (.tmp 122),none⟩]
def c118_r16 : List SOp := [⟨some 5,.assign (.const (.int .i64 4)),none⟩]
def c118_r17 : List SOp := [⟨some 123,.move (.tmp 4),none⟩,⟨some 124,.move (.tmp 5),none⟩,⟨some 2,.assign (.tmp 123),none⟩,⟨some 3,.assign (.tmp 124),none⟩]
def c118 : SC := (.seq (.reg c118_r0 none (some [0])) (.seq (.reg c118_r1 none (some [0,4])) (.seq (.reg c118_r2 none (some [0,4,5,6])) (.seq (.seq (.reg c118_r3 none (some [0,4,5,6,7])) (.block 0 (.loop c118_l4 (some [0,4,5,6,7])))) (.seq (.seq (.reg c118_r14 none (some [0,4,5,113])) (.cond (.tmp 113) (.seq (.reg c118_r15 none (some [4])) (.reg c118_r16 none (some [4,5]))) .skip (some [4,5]))) (.seq (.reg c118_r17 none (some [2,3])) .ret))))))
theorem c118_eq : ∃ code, Try.f118.body = some code ∧ compile H118 code = c118 := ⟨_, rfl, by kernel_rfl⟩
theorem c118_fn : Try.prog.funcs[118]? = some Try.f118 := by kernel_rfl
theorem c118_rs : Try.f118.results.toList = [.tmp 2, .tmp 3] := by kernel_rfl
theorem c118_ok : fnB Try.prog H118 Try.f118 = true := by kernel_rfl
theorem c118_nt : Try.f118.ntmps = 125 := by kernel_rfl

def H119 : Hint := ⟨[(1, [4]), (0, [0, 1])], []⟩
def c119_r0 : List SOp := [⟨some 4,.assign (.const (.bool false)),none⟩]
def c119_r1 : List SOp := [⟨some 5,.move (.tmp 0),none⟩,⟨some 6,.move (.tmp 1),none⟩,⟨some 7,.call ⟨.value (.func 127), #[.tmp 5,.tmp 6], #[9,9]⟩,none⟩,⟨some 4,.assign (.tmp 7),none⟩]
def c119 : SC := (.seq (.reg c119_r0 none (some [0,1])) (.seq (.reg c119_r1 none (some [4])) .ret))
theorem c119_eq : ∃ code, Try.f119.body = some code ∧ compile H119 code = c119 := ⟨_, rfl, by kernel_rfl⟩
theorem c119_fn : Try.prog.funcs[119]? = some Try.f119 := by kernel_rfl
theorem c119_rs : Try.f119.results.toList = [.tmp 4] := by kernel_rfl
theorem c119_ok : fnB Try.prog H119 Try.f119 = true := by kernel_rfl
theorem c119_nt : Try.f119.ntmps = 8 := by kernel_rfl

def H121 : Hint := ⟨[(6, [4]), (3, [0, 5]), (5, [4]), (2000019, [0, 5]), (4, [0, 5, 19]), (2000011, [0, 5]), (2, [0, 5, 11]), (1000002, [0, 5]), (1, [0, 5]), (0, [0, 1])], []⟩
def c121_r0 : List SOp := [⟨some 4,.assign (.const (.int .i64 0)),none⟩]
def c121_r1 : List SOp := [⟨some 6,.move (.tmp 1),none⟩,⟨some 7,.binOp .add 3 (.tmp 6) (.const (.int .i64 1)) 3,none⟩,⟨some 5,.assign (.tmp 7),none⟩]
def c121_r2 : List SOp := [⟨some 8,.move (.tmp 5),none⟩,⟨some 9,.move (.tmp 0),none⟩,⟨some 10,.call ⟨.builtin .len, #[.tmp 9], #[42]⟩,none⟩,⟨some 11,.binOp .lss 3 (.tmp 8) (.tmp 10) 3,none⟩]
def c121_r4 : List SOp := [⟨some 14,.move (.tmp 0),none⟩,⟨some 15,.move (.tmp 5),none⟩,⟨some 16,.indexAddr 42 (.tmp 14) (.tmp 15),none⟩,⟨some 17,.fieldAddr 52 (.tmp 16) 2,none⟩,⟨some 18,.load 4 (.tmp 17),none⟩,⟨some 19,.unOp .not 4 (.tmp 18),none⟩]
def c121_r5 : List SOp := [⟨some 20,.move (.tmp 5),none⟩,⟨some 4,.assign (.tmp 20),none⟩]
def c121_r3 : List SOp := [⟨some 12,.move (.tmp 5),none⟩,⟨some 13,.binOp .add 3 (.tmp 12) (.const (.int .i64 1)) 3,none⟩,⟨some 5,.assign (.tmp 13),none⟩]
def c121_l2 : SC := (.seq (.seq (.reg c121_r2 none (some [0,5,11])) (.cond (.tmp 11) .skip (.exit 0) (some [0,5]))) (.seq (.block 1 (.seq (.reg c121_r4 none (some [0,5,19])) (.cond (.tmp 19) (.seq (.reg c121_r5 none (some [4])) .ret) .skip (some [0,5])))) (.reg c121_r3 none (some [0,5]))))
def c121_r6 : List SOp := [⟨some 4,.assign (.const (.int .i64 (-1))),none⟩]
def c121 : SC := (.seq (.reg c121_r0 none (some [0,1])) (.seq (.seq (.reg c121_r1 none (some [0,5])) (.block 0 (.loop c121_l2 (some [0,5])))) (.seq (.reg c121_r6 none (some [4])) .ret)))
theorem c121_eq : ∃ code, Try.f121.body = some code ∧ compile H121 code = c121 := ⟨_, rfl, by kernel_rfl⟩
theorem c121_fn : Try.prog.funcs[121]? = some Try.f121 := by kernel_rfl
theorem c121_rs : Try.f121.results.toList = [.tmp 4] := by kernel_rfl
theorem c121_ok : fnB Try.prog H121 Try.f121 = true := by kernel_rfl
theorem c121_nt : Try.f121.ntmps = 21 := by kernel_rfl

def H122 : Hint := ⟨[(2, [6]), (1, [1, 3, 7]), (0, [1, 2, 3])], []⟩
def c122_r0 : List SOp := [⟨some 3,.box 52 (.tmp 0),none⟩,⟨some 6,.assign (.const (.bool false)),none⟩]
def c122_r1 : List SOp := [⟨some 8,.move (.tmp 2),none⟩,⟨some 9,.fieldAddr 52 (.tmp 3) 6,none⟩,⟨some 10,.load 3 (.tmp 9),none⟩,⟨some 11,.binOp .add 3 (.tmp 8) (.tmp 10) 3,none⟩,⟨some 7,.assign (.tmp 11),none⟩]
def c122_r2 : List SOp := [⟨some 12,.move (.tmp 1),none⟩,⟨some 13,.fieldAddr 52 (.tmp 3) 0,none⟩,⟨some 14,.load 9 (.tmp 13),none⟩,⟨some 15,.call ⟨.builtin .len, #[.tmp 14], #[9]⟩,none⟩,⟨some 16,.binOp .sub 3 (.tmp 12) (.tmp 15) 3,none⟩,⟨some 17,.move (.tmp 7),none⟩,⟨some 18,.binOp .geq 3 (.tmp 16) (.tmp 17) 3,none⟩,⟨some 19,.move (.tmp 18),none⟩,⟨some 20,.fieldAddr 52 (.tmp 3) 7,some (some 19,true)⟩,⟨some 21,.load 3 (.tmp 20),some (some 19,true)⟩,⟨some 22,.binOp .leq 3 (.tmp 21) (.const (.int .i64 0)) 3,some (some 19,true)⟩,⟨some 23,.move (.tmp 22),some (some 19,true)⟩,⟨some 24,.move (.tmp 1),some (some 23,false)⟩,⟨some 25,.move (.tmp 7),some (some 23,false)⟩,⟨some 26,.fieldAddr 52 (.tmp 3) 7,some (some 23,false)⟩,⟨some 27,.load 3 (.tmp 26),some (some 23,false)⟩,⟨some 28,.binOp .add 3 (.tmp 25) (.tmp 27) 3,some (some 23,false)⟩,⟨some 29,.binOp .leq 3 (.tmp 24) (.tmp 28) 3,some (some 23,false)⟩,⟨some 30,.pick (.tmp 23) (.const (.bool true)) (.tmp 29),some (some 19,true)⟩,⟨some 31,.pick (.tmp 19) (.tmp 30) (.const (.bool false)),none⟩,⟨some 6,.assign (.tmp 31),none⟩]
def c122 : SC := (.seq (.reg c122_r0 none (some [1,2,3])) (.seq (.reg c122_r1 none (some [1,3,7])) (.seq (.reg c122_r2 none (some [6])) .ret)))
theorem c122_eq : ∃ code, Try.f122.body = some code ∧ compile H122 code = c122 := ⟨_, rfl, by kernel_rfl⟩
theorem c122_fn : Try.prog.funcs[122]? = some Try.f122 := by kernel_rfl
theorem c122_rs : Try.f122.results.toList = [.tmp 6] := by kernel_rfl
theorem c122_ok : fnB Try.prog H122 Try.f122 = true := by kernel_rfl
theorem c122_nt : Try.f122.ntmps = 32 := by kernel_rfl

def H123 : Hint := ⟨[(6, [2]), (3, [1, 3]), (5, [2]), (2000026, [1, 3]), (4, [1, 3, 26]), (2000008, [1, 3]), (2, [1, 3, 8]), (1000002, [1, 3]), (1, [1, 3]), (0, [1])], []⟩
def c123_r0 : List SOp := [⟨some 1,.box 102 (.tmp 0),none⟩,⟨some 2,.assign (.const (.bool false)),none⟩]
def c123_r1 : List SOp := [⟨some 3,.assign (.const (.int .i64 0)),none⟩]
def c123_r2 : List SOp := [⟨some 4,.move (.tmp 3),none⟩,⟨some 5,.fieldAddr 102 (.tmp 1) 1,none⟩,⟨some 6,.load 100 (.tmp 5),none⟩,⟨some 7,.call ⟨.builtin .len, #[.tmp 6], #[100]⟩,none⟩,⟨some 8,.binOp .lss 3 (.tmp 4) (.tmp 7) 3,none⟩]
def c123_r4 : List SOp := [⟨some 11,.fieldAddr 102 (.tmp 1) 1,none⟩,⟨some 12,.load 100 (.tmp 11),none⟩,⟨some 13,.move (.tmp 3),none⟩,⟨some 14,.indexAddr 100 (.tmp 12) (.tmp 13),none⟩,⟨some 15,.fieldAddr 158 (.tmp 14) 1,none⟩,⟨some 16,.load 3 (.tmp 15),none⟩,⟨some 17,.binOp .lss 3 (.tmp 16) (.const (.int .i64 0)) 3,none⟩,⟨some 18,.move (.tmp 17),none⟩,⟨some 19,.fieldAddr 102 (.tmp 1) 1,some (some 18,false)⟩,⟨some 20,.load 100 (.tmp 19),some (some 18,false)⟩,⟨some 21,.move (.tmp 3),some (some 18,false)⟩,⟨some 22,.indexAddr 100 (.tmp 20) (.tmp 21),some (some 18,false)⟩,⟨some 23,.fieldAddr 158 (.tmp 22) 1,some (some 18,false)⟩,⟨some 24,.load 3 (.tmp 23),some (some 18,false)⟩,⟨some 25,.binOp .gtr 3 (.tmp 24) (.const (.int .i64 32)) 3,some (some 18,false)⟩,⟨some 26,.pick (.tmp 18) (.const (.bool true)) (.tmp 25),none⟩]
def c123_r5 : List SOp := [⟨some 2,.assign (.const (.bool false)),none⟩]
def c123_r3 : List SOp := [⟨some 9,.move (.tmp 3),none⟩,⟨some 10,.binOp .add 3 (.tmp 9) (.const (.int .i64 1)) 3,none⟩,⟨some 3,.assign (.tmp 10),none⟩]
def c123_l2 : SC := (.seq (.seq (.reg c123_r2 none (some [1,3,8])) (.cond (.tmp 8) .skip (.exit 0) (some [1,3]))) (.seq (.block 1 (.seq (.reg c123_r4 none (some [1,3,26])) (.cond (.tmp 26) (.seq (.reg c123_r5 none (some [2])) .ret) .skip (some [1,3])))) (.reg c123_r3 none (some [1,3]))))
def c123_r6 : List SOp := [⟨some 27,.fieldAddr 102 (.tmp 1) 1,none⟩,⟨some 28,.load 100 (.tmp 27),none⟩,⟨some 29,.call ⟨.builtin .len, #[.tmp 28], #[100]⟩,none⟩,⟨some 30,.binOp .leq 3 (.tmp 29) (.const (.int .i64 4)) 3,none⟩,⟨some 2,.assign (.tmp 30),none⟩]
def c123 : SC := (.seq (.reg c123_r0 none (some [1])) (.seq (.seq (.reg c123_r1 none (some [1,3])) (.block 0 (.loop c123_l2 (some [1,3])))) (.seq (.reg c123_r6 none (some [2])) .ret)))
theorem c123_eq : ∃ code, Try.f123.body = some code ∧ compile H123 code = c123 := ⟨_, rfl, by kernel_rfl⟩
theorem c123_fn : Try.prog.funcs[123]? = some Try.f123 := by kernel_rfl
theorem c123_rs : Try.f123.results.toList = [.tmp 2] := by kernel_rfl
theorem c123_ok : fnB Try.prog H123 Try.f123 = true := by kernel_rfl
theorem c123_nt : Try.f123.ntmps = 31 := by kernel_rfl

def H124 : Hint := ⟨[(1, [4]), (0, [2, 3])], []⟩
def c124_r0 : List SOp := [⟨some 2,.box 158 (.tmp 0),none⟩,⟨some 3,.box 158 (.tmp 1),none⟩,⟨some 4,.assign (.const (.bool false)),none⟩]
def c124_r1 : List SOp := [⟨some 5,.fieldAddr 158 (.tmp 2) 1,none⟩,⟨some 6,.load 3 (.tmp 5),none⟩,⟨some 7,.fieldAddr 158 (.tmp 3) 1,none⟩,⟨some 8,.load 3 (.tmp 7),none⟩,⟨some 9,.binOp .leq 3 (.tmp 6) (.tmp 8) 3,none⟩,⟨some 10,.move (.tmp 9),none⟩,⟨some 11,.load 158 (.tmp 2),some (some 10,true)⟩,⟨some 12,.fieldAddr 158 (.tmp 3) 0,some (some 10,true)⟩,⟨some 13,.load 156 (.tmp 12),some (some 10,true)⟩,⟨some 14,.call ⟨.value (.func 130), #[.tmp 11,.tmp 13], #[158,156]⟩,some (some 10,true)⟩,⟨some 15,.pick (.tmp 10) (.tmp 14) (.const (.bool false)),none⟩,⟨some 4,.assign (.tmp 15),none⟩]
def c124 : SC := (.seq (.reg c124_r0 none (some [2,3])) (.seq (.reg c124_r1 none (some [4])) .ret))
theorem c124_eq : ∃ code, Try.f124.body = some code ∧ compile H124 code = c124 := ⟨_, rfl, by kernel_rfl⟩
theorem c124_fn : Try.prog.funcs[124]? = some Try.f124 := by kernel_rfl
theorem c124_rs : Try.f124.results.toList = [.tmp 4] := by kernel_rfl
theorem c124_ok : fnB Try.prog H124 Try.f124 = true := by kernel_rfl
theorem c124_nt : Try.f124.ntmps = 16 := by kernel_rfl

def H125 : Hint := ⟨[(3, [2]), (2, [2]), (2000004, [0]), (1, [0, 4]), (0, [0])], []⟩
def c125_r0 : List SOp := [⟨some 2,.assign (.const (.int .u32 0)),none⟩]
def c125_r1 : List SOp := [⟨some 3,.move (.tmp 0),none⟩,⟨some 4,.binOp .leq 3 (.tmp 3) (.const (.int .i64 0)) 3,none⟩]
def c125_r2 : List SOp := [⟨some 2,.assign (.const (.int .u32 0)),none⟩]
def c125_r3 : List SOp := [⟨some 5,.move (.tmp 0),none⟩,⟨some 6,.binOp .sub 3 (.const (.int .i64 32)) (.tmp 5) 3,none⟩,⟨some 7,.convert 3 188 (.tmp 6),none⟩,⟨some 8,.binOp .shl 156 (.const (.int .u32 4294967295)) (.tmp 7) 188,none⟩,⟨some 2,.assign (.tmp 8),none⟩]
def c125 : SC := (.seq (.reg c125_r0 none (some [0])) (.seq (.seq (.reg c125_r1 none (some [0,4])) (.cond (.tmp 4) (.seq (.reg c125_r2 none (some [2])) .ret) .skip (some [0]))) (.seq (.reg c125_r3 none (some [2])) .ret)))
theorem c125_eq : ∃ code, Try.f125.body = some code ∧ compile H125 code = c125 := ⟨_, rfl, by kernel_rfl⟩
theorem c125_fn : Try.prog.funcs[125]? = some Try.f125 := by kernel_rfl
theorem c125_rs : Try.f125.results.toList = [.tmp 2] := by kernel_rfl
theorem c125_ok : fnB Try.prog H125 Try.f125 = true := by kernel_rfl
theorem c125_nt : Try.f125.ntmps = 9 := by kernel_rfl

def H126 : Hint := ⟨[(4, [0, 8, 9, 10]), (2000024, [0, 8, 9, 10]), (3, [0, 8, 9, 10, 24]), (2, [0, 4, 8, 9, 10]), (2000011, [0, 8, 9, 10]), (1, [0, 8, 9, 10, 11]), (1000001, [0, 8, 9, 10]), (0, [0, 8, 9, 10])], []⟩
def c126_r0 : List SOp := [⟨some 5,.load 91 (.tmp 1),none⟩,⟨some 6,.nilCheck (.tmp 5),none⟩,⟨some 7,.fieldAddr 163 (.tmp 6) 2,none⟩,⟨some 8,.load 161 (.tmp 7),none⟩,⟨some 9,.call ⟨.builtin .len, #[.tmp 8], #[161]⟩,none⟩,⟨some 10,.move (.const (.int .i64 0)),none⟩]
def c126_r1 : List SOp := [⟨some 11,.binOp .lss 3 (.tmp 10) (.tmp 9) 3,none⟩]
def c126_r2 : List SOp := [⟨some 12,.indexAddr 161 (.tmp 8) (.tmp 10),none⟩,⟨some 13,.load 164 (.tmp 12),none⟩,⟨some 4,.assign (.tmp 13),none⟩]
def c126_r3 : List SOp := [⟨some 14,.move (.tmp 4),none⟩,⟨some 15,.nilCheck (.tmp 14),none⟩,⟨some 16,.fieldAddr 166 (.tmp 15) 3,none⟩,⟨some 17,.load 4 (.tmp 16),none⟩,⟨some 18,.unOp .not 4 (.tmp 17),none⟩,⟨some 19,.move (.tmp 18),none⟩,⟨some 20,.move (.tmp 0),some (some 19,true)⟩,⟨some 21,.move (.tmp 4),some (some 19,true)⟩,⟨some 22,.call ⟨.value (.tmp 20), #[.tmp 21], #[164]⟩,some (some 19,true)⟩,⟨some 23,.unOp .not 4 (.tmp 22),some (some 19,true)⟩,⟨some 24,.pick (.tmp 19) (.tmp 23) (.const (.bool false)),none⟩]
def c126_r4 : List SOp := [⟨some 25,.binOp .add 3 (.tmp 10) (.const (.int .i64 1)) 3,none⟩,⟨some 10,.move (.tmp 25),none⟩]
def c126_l1 : SC := (.seq (.reg c126_r1 none (some [0,8,9,10,11])) (.seq (.cond (.tmp 11) .skip (.exit 0) (some [0,8,9,10])) (.seq (.block 1 (.seq (.reg c126_r2 none (some [0,4,8,9,10])) (.seq (.reg c126_r3 none (some [0,8,9,10,24])) (.cond (.tmp 24) .ret .skip (some [0,8,9,10]))))) (.reg c126_r4 none (some [0,8,9,10])))))
def c126 : SC := (.seq (.reg c126_r0 none (some [0,8,9,10])) (.block 0 (.loop c126_l1 (some [0,8,9,10]))))
theorem c126_eq : ∃ code, Try.f126.body = some code ∧ compile H126 code = c126 := ⟨_, rfl, by kernel_rfl⟩
theorem c126_fn : Try.prog.funcs[126]? = some Try.f126 := by kernel_rfl
theorem c126_rs : Try.f126.results.toList = [] := by kernel_rfl
theorem c126_ok : fnB Try.prog H126 Try.f126 = true := by kernel_rfl
theorem c126_nt : Try.f126.ntmps = 26 := by kernel_rfl

def H127 : Hint := ⟨[(1, [4]), (0, [0, 1])], []⟩
def c127_r0 : List SOp := [⟨some 4,.assign (.const (.bool false)),none⟩]
def c127_r1 : List SOp := [⟨some 5,.move (.tmp 0),none⟩,⟨some 6,.call ⟨.builtin .len, #[.tmp 5], #[9]⟩,none⟩,⟨some 7,.move (.tmp 1),none⟩,⟨some 8,.call ⟨.builtin .len, #[.tmp 7], #[9]⟩,none⟩,⟨some 9,.binOp .geq 3 (.tmp 6) (.tmp 8) 3,none⟩,⟨some 10,.move (.tmp 9),none⟩,⟨some 11,.move (.tmp 0),some (some 10,true)⟩,⟨some 12,.move (.tmp 1),some (some 10,true)⟩,⟨some 13,.call ⟨.builtin .len, #[.tmp 12], #[9]⟩,some (some 10,true)⟩,⟨some 14,.slice 9 (.tmp 11) none (some (.tmp 13)) none,some (some 10,true)⟩,⟨some 15,.move (.tmp 1),some (some 10,true)⟩,⟨some 16,.binOp .eql 9 (.tmp 14) (.tmp 15) 9,some (some 10,true)⟩,⟨some 17,.pick (.tmp 10) (.tmp 16) (.const (.bool false)),none⟩,⟨some 4,.assign (.tmp 17),none⟩]
def c127 : SC := (.seq (.reg c127_r0 none (some [0,1])) (.seq (.reg c127_r1 none (some [4])) .ret))
theorem c127_eq : ∃ code, Try.f127.body = some code ∧ compile H127 code = c127 := ⟨_, rfl, by kernel_rfl⟩
theorem c127_fn : Try.prog.funcs[127]? = some Try.f127 := by kernel_rfl
theorem c127_rs : Try.f127.results.toList = [.tmp 4] := by kernel_rfl
theorem c127_ok : fnB Try.prog H127 Try.f127 = true := by kernel_rfl
theorem c127_nt : Try.f127.ntmps = 18 := by kernel_rfl

def H130 : Hint := ⟨[(1, [4]), (0, [1, 2])], [(1, [(1, 6)])]⟩
def c130_r0 : List SOp := [⟨some 2,.box 158 (.tmp 0),none⟩,⟨some 4,.assign (.const (.bool false)),none⟩]
def c130_r1 : List SOp := [⟨some 5,.fieldAddr 158 (.tmp 2) 0,none⟩,⟨some 6,.load 156 (.tmp 5),none⟩,⟨some 7,.move (.tmp 1),none⟩,⟨some 8,.binOp .xor 156 (.tmp 6) (.tmp 7) 156,none⟩,⟨some 9,.fieldAddr 158 (.tmp 2) 1,none⟩,⟨some 10,.load 3 (.tmp 9),none⟩,⟨some 11,.call ⟨.value (.func 125), #[.tmp 10], #[3]⟩,none⟩,⟨some 12,.binOp .and 156 (.tmp 8) (.tmp 11) 156,none⟩,⟨some 13,.binOp .eql 156 (.tmp 12) (.const (.int .u32 0)) 156,none⟩,⟨some 4,.assign (.tmp 13),none⟩]
def c130 : SC := (.seq (.reg c130_r0 none (some [1,2])) (.seq (.reg c130_r1 (some [(1, 6)]) (some [4])) .ret))
theorem c130_eq : ∃ code, Try.f130.body = some code ∧ compile H130 code = c130 := ⟨_, rfl, by kernel_rfl⟩
theorem c130_fn : Try.prog.funcs[130]? = some Try.f130 := by kernel_rfl
theorem c130_rs : Try.f130.results.toList = [.tmp 4] := by kernel_rfl
theorem c130_ok : fnB Try.prog H130 Try.f130 = true := by kernel_rfl
theorem c130_nt : Try.f130.ntmps = 14 := by kernel_rfl

end Go.AM
