/-
  Printed by program (wip/tools/print.sh): compiled code.
-/
import Derived.Test.YtamidpfdiijjgaaAMb
import Derived.Test.YtamidpfdiijjgaaProg
namespace Go.AM
open Go Go.Proofs
set_option maxRecDepth 100000
def H77 : Hint := ⟨[(2, [6]), (1, [0, 1, 3]), (0, [0, 1, 2, 3])], []⟩
def c77_r0 : List SOp := [⟨some 6,.assign (.const (.bool false)),none⟩]
def c77_r1 : List SOp := [⟨some 7,.load 3 (.tmp 2),none⟩,⟨some 8,.binOp .add 3 (.tmp 7) (.const (.int .i64 1)) 3,none⟩,⟨none,.store 3 (.tmp 2) (.tmp 8),none⟩]
def c77_r2 : List SOp := [⟨some 9,.load 84 (.tmp 3),none⟩,⟨some 10,.move (.tmp 0),none⟩,⟨some 11,.move (.tmp 1),none⟩,⟨some 12,.buildSlice 68 2 #[(0, (.tmp 10)), (1, (.tmp 11))],none⟩,⟨some 13,.call ⟨.value (.func 73), #[.tmp 9,.tmp 12], #[84,68]⟩,none⟩,⟨some 14,.unOp .not 4 (.tmp 13),none⟩,⟨some 6,.assign (.tmp 14),none⟩]
def c77 : SC := (.seq (.reg c77_r0 none (some [0,1,2,3])) (.seq (.reg c77_r1 none (some [0,1,3])) (.seq (.reg c77_r2 none (some [6])) .ret)))
theorem c77_eq : ∃ code, Try.f77.body = some code ∧ compile H77 code = c77 := ⟨_, rfl, by kernel_rfl⟩
theorem c77_fn : Try.prog.funcs[77]? = some Try.f77 := by kernel_rfl
theorem c77_rs : Try.f77.results.toList = [.tmp 6] := by kernel_rfl
theorem c77_ok : fnB Try.prog H77 Try.f77 = true := by kernel_rfl
theorem c77_nt : Try.f77.ntmps = 15 := by kernel_rfl

def H78 : Hint := ⟨[(1, [4]), (0, [0, 1])], []⟩
def c78_r0 : List SOp := [⟨some 4,.assign (.const (.bool false)),none⟩]
def c78_r1 : List SOp := [⟨some 5,.move (.tmp 0),none⟩,⟨some 6,.move (.tmp 1),none⟩,⟨some 7,.binOp .gtr 3 (.tmp 5) (.tmp 6) 3,none⟩,⟨some 4,.assign (.tmp 7),none⟩]
def c78 : SC := (.seq (.reg c78_r0 none (some [0,1])) (.seq (.reg c78_r1 none (some [4])) .ret))
theorem c78_eq : ∃ code, Try.f78.body = some code ∧ compile H78 code = c78 := ⟨_, rfl, by kernel_rfl⟩
theorem c78_fn : Try.prog.funcs[78]? = some Try.f78 := by kernel_rfl
theorem c78_rs : Try.f78.results.toList = [.tmp 4] := by kernel_rfl
theorem c78_ok : fnB Try.prog H78 Try.f78 = true := by kernel_rfl
theorem c78_nt : Try.f78.ntmps = 8 := by kernel_rfl

def H79 : Hint := ⟨[(6, [0]), (5, [2, 3, 4, 5]), (4, [1, 2, 3]), (3, [0]), (2000011, [1]), (2, [1, 11]), (1, [1]), (0, [])], []⟩
def c79_r0 : List SOp := [⟨some 0,.assign (.const (.bool false)),none⟩]
def c79_r1 : List SOp := [⟨some 6,.build 107 #[(0, (.const (.int .i64 2))), (9, (.const (.int .i64 7))), (10, (.const (.int .i64 1)))],none⟩,⟨some 7,.buildSlice 89 1 #[(0, (.tmp 6))],none⟩,⟨some 8,.buildSlice 30 1 #[(0, (.const (.int .i64 0)))],none⟩,⟨some 9,.call ⟨.value (.func 81), #[(.tmp 7), (.tmp 8), (.const (.int .i64 4))], #[89,30,3]⟩,none⟩,⟨some 1,.assign (.tmp 9),none⟩]
def c79_r2 : List SOp := [⟨some 10,.move (.tmp 1),none⟩,⟨some 11,.binOp .eql 91 (.tmp 10) (.const (.pointer none)) 91,none⟩]
def c79_r3 : List SOp := [⟨some 0,.assign (.const (.bool false)),none⟩]
def c79_r4 : List SOp := [⟨some 13,.move (.tmp 1),none⟩,⟨some 14,.call ⟨.value (.func 82), #[.tmp 13], #[91]⟩,none⟩,⟨some 12,.move (.tmp 14),none⟩,⟨some 15,.extract (.tmp 12) 0,none⟩,⟨some 16,.extract (.tmp 12) 1,none⟩,⟨some 2,.assign (.tmp 15),none⟩,⟨some 3,.assign (.tmp 16),none⟩]
def c79_r5 : List SOp := [⟨some 18,.move (.tmp 1),none⟩,⟨some 19,.call ⟨.value (.func 83), #[(.tmp 18), (.const (.int .u8 97))], #[91,5]⟩,none⟩,⟨some 17,.move (.tmp 19),none⟩,⟨some 20,.extract (.tmp 17) 0,none⟩,⟨some 21,.extract (.tmp 17) 1,none⟩,⟨some 4,.assign (.tmp 20),none⟩,⟨some 5,.assign (.tmp 21),none⟩]
def c79_r6 : List SOp := [⟨some 22,.move (.tmp 2),none⟩,⟨some 23,.call ⟨.builtin .len, #[.tmp 22], #[94]⟩,none⟩,⟨some 24,.binOp .eql 3 (.tmp 23) (.const (.int .i64 1)) 3,none⟩,⟨some 25,.move (.tmp 24),none⟩,⟨some 26,.move (.tmp 2),some (some 25,true)⟩,⟨some 27,.indexAddr 94 (.tmp 26) (.const (.int .i64 0)),some (some 25,true)⟩,⟨some 28,.fieldAddr 99 (.tmp 27) 0,some (some 25,true)⟩,⟨some 29,.load 3 (.tmp 28),some (some 25,true)⟩,⟨some 30,.binOp .eql 3 (.tmp 29) (.const (.int .i64 7)) 3,some (some 25,true)⟩,⟨some 31,.pick (.tmp 25) (.tmp 30) (.const (.bool false)),none⟩,⟨some 32,.move (.tmp 31),none⟩,⟨some 33,.move (.tmp 2),some (some 32,true)⟩,⟨some 34,.indexAddr 94 (.tmp 33) (.const (.int .i64 0)),some (some 32,true)⟩,⟨some 35,.fieldAddr 99 (.tmp 34) 2,some (some 32,true)⟩,⟨some 36,.load 3 (.tmp 35),some (some 32,true)⟩,⟨some 37,.binOp .eql 3 (.tmp 36) (.const (.int .i64 0)) 3,some (some 32,true)⟩,⟨some 38,.pick (.tmp 32) (.tmp 37) (.const (.bool false)),none⟩,⟨some 39,.move (.tmp 38),none⟩,⟨some 40,.move (.tmp 3),some (some 39,true)⟩,⟨some 41,.binOp .eql 3 (.tmp 40) (.const (.int .i64 2)) 3,some (some 39,true)⟩,⟨some 42,.pick (.tmp 39) (.tmp 41) (.const (.bool false)),none⟩,⟨some 43,.move (.tmp 42),none⟩,⟨some 44,.move (.tmp 4),some (some 43,true)⟩,⟨some 45,.call ⟨.builtin .len, #[.tmp 44], #[94]⟩,some (some 43,true)⟩,⟨some 46,.binOp .eql 3 (.tmp 45) (.const (.int .i64 0)) 3,some (some 43,true)⟩,⟨some 47,.pick (.tmp 43) (.tmp 46) (.const (.bool false)),none⟩,⟨some 48,.move (.tmp 47),none⟩,⟨some 49,.move (.tmp 5),some (some 48,true)⟩,⟨some 50,.binOp .eql 3 (.tmp 49) (.const (.int .i64 0)) 3,some (some 48,true)⟩,⟨some 51,.pick (.tmp 48) (.tmp 50) (.const (.bool false)),none⟩,⟨some 52,.move (.tmp 51),none⟩,⟨some 53,.call ⟨.value (.func 78), #[(.const (.int .i64 4)), (.const (.int .i64 3))], #[3,3]⟩,some (some 52,true)⟩,⟨some 54,.pick (.tmp 52) (.tmp 53) (.const (.bool false)),none⟩,⟨some 0,.assign (.tmp 54),none⟩]
def c79 : SC := (.seq (.reg c79_r0 none (some [])) (.seq (.reg c79_r1 none (some [1])) (.seq (.seq (.reg c79_r2 none (some [1,11])) (.cond (.tmp 11) (.seq (.reg c79_r3 none (some [0])) .ret) .skip (some [1]))) (.seq (.reg c79_r4 none (some [1,2,3])) (.seq (.reg c79_r5 none (some [2,3,4,5])) (.seq (.reg c79_r6 none (some [0])) .ret))))))
theorem c79_eq : ∃ code, Try.f79.body = some code ∧ compile H79 code = c79 := ⟨_, rfl, by kernel_rfl⟩
theorem c79_fn : Try.prog.funcs[79]? = some Try.f79 := by kernel_rfl
theorem c79_rs : Try.f79.results.toList = [.tmp 0] := by kernel_rfl
theorem c79_ok : fnB Try.prog H79 Try.f79 = true := by kernel_rfl
theorem c79_nt : Try.f79.ntmps = 55 := by kernel_rfl

def H80 : Hint := ⟨[(14, [2]), (4, [0, 3, 4]), (13, [0, 3, 4]), (12, [0, 3, 4, 6]), (11, [0, 3, 4, 5, 6]), (10, [0, 3, 4, 5, 6]), (2000063, [0, 3, 4, 5, 6]), (9, [0, 3, 4, 5, 6, 63]), (8, [0, 3, 4, 5, 6]), (2000051, [0, 3, 4, 5, 6]), (7, [0, 3, 4, 5, 6, 51]), (6, [0, 3, 4, 5, 6]), (5, [0, 3, 4, 5]), (2000015, [0, 3, 4]), (3, [0, 3, 4, 15]), (1000003, [0, 3, 4]), (2, [0, 3, 4]), (1, [0, 3]), (0, [0])], []⟩
def c80_r0 : List SOp := [⟨some 2,.assign (.const (.slice none 0 0)),none⟩]
def c80_r1 : List SOp := [⟨some 3,.assign (.const (.slice none 0 0)),none⟩]
def c80_r2 : List SOp := [⟨some 4,.assign (.const (.int .i64 0)),none⟩]
def c80_r3 : List SOp := [⟨some 7,.move (.tmp 4),none⟩,⟨some 8,.binOp .add 3 (.tmp 7) (.const (.int .i64 3)) 3,none⟩,⟨some 9,.move (.tmp 0),none⟩,⟨some 10,.call ⟨.builtin .len, #[.tmp 9], #[30]⟩,none⟩,⟨some 11,.binOp .lss 3 (.tmp 8) (.tmp 10) 3,none⟩,⟨some 12,.move (.tmp 11),none⟩,⟨some 13,.move (.tmp 4),some (some 12,true)⟩,⟨some 14,.binOp .lss 3 (.tmp 13) (.const (.int .i64 24)) 3,some (some 12,true)⟩,⟨some 15,.pick (.tmp 12) (.tmp 14) (.const (.bool false)),none⟩]
def c80_r5 : List SOp := [⟨some 18,.move (.tmp 0),none⟩,⟨some 19,.move (.tmp 4),none⟩,⟨some 20,.indexAddr 30 (.tmp 18) (.tmp 19),none⟩,⟨some 21,.load 3 (.tmp 20),none⟩,⟨some 22,.call ⟨.value (.func 29), #[(.tmp 21), (.const (.int .i64 16777216))], #[3,3]⟩,none⟩,⟨some 5,.assign (.tmp 22),none⟩]
def c80_r6 : List SOp := [⟨some 23,.build 152 #[(0, (.const (.int .i64 1))), (1, (.const (.int .i64 1))), (2, (.const (.int .i64 1))), (3, (.const (.int .i64 1))), (4, (.const (.int .i64 2))), (5, (.const (.int .i64 3))), (6, (.const (.int .i64 4))), (7, (.const (.int .i64 1)))],none⟩,⟨some 24,.move (.tmp 5),none⟩,⟨some 25,.binOp .rem 3 (.tmp 24) (.const (.int .i64 8)) 3,none⟩,⟨some 26,.index 152 (.tmp 23) (.tmp 25),none⟩,⟨some 27,.build 153 #[(0, (.const (.int .i64 6))), (1, (.const (.int .i64 6))), (2, (.const (.int .i64 0))), (3, (.const (.int .i64 17)))],none⟩,⟨some 28,.move (.tmp 5),none⟩,⟨some 29,.binOp .quo 3 (.tmp 28) (.const (.int .i64 8)) 3,none⟩,⟨some 30,.binOp .rem 3 (.tmp 29) (.const (.int .i64 4)) 3,none⟩,⟨some 31,.index 153 (.tmp 27) (.tmp 30),none⟩,⟨some 32,.build 153 #[(0, (.const (.int .i64 0))), (1, (.const (.int .i64 1))), (2, (.const (.int .i64 2))), (3, (.const (.int .i64 0)))],none⟩,⟨some 33,.move (.tmp 5),none⟩,⟨some 34,.binOp .quo 3 (.tmp 33) (.const (.int .i64 32)) 3,none⟩,⟨some 35,.binOp .rem 3 (.tmp 34) (.const (.int .i64 4)) 3,none⟩,⟨some 36,.index 153 (.tmp 32) (.tmp 35),none⟩,⟨some 37,.move (.tmp 5),none⟩,⟨some 38,.binOp .quo 3 (.tmp 37) (.const (.int .i64 128)) 3,none⟩,⟨some 39,.binOp .rem 3 (.tmp 38) (.const (.int .i64 4)) 3,none⟩,⟨some 40,.binOp .eql 3 (.tmp 39) (.const (.int .i64 0)) 3,none⟩,⟨some 41,.move (.tmp 4),none⟩,⟨some 42,.binOp .add 3 (.const (.int .i64 100)) (.tmp 41) 3,none⟩,⟨some 43,.move (.tmp 5),none⟩,⟨some 44,.binOp .quo 3 (.tmp 43) (.const (.int .i64 512)) 3,none⟩,⟨some 45,.binOp .rem 3 (.tmp 44) (.const (.int .i64 3)) 3,none⟩,⟨some 46,.binOp .add 3 (.const (.int .i64 1)) (.tmp 45) 3,none⟩,⟨some 47,.build 107 #[(0, (.tmp 26)), (1, (.tmp 31)), (7, (.tmp 36)), (6, (.tmp 40)), (9, (.tmp 42)), (10, (.tmp 46))],none⟩,⟨some 6,.alloc 107,none⟩,⟨none,.store 107 (.tmp 6) (.tmp 47),none⟩]
def c80_r7 : List SOp := [⟨some 48,.move (.tmp 5),none⟩,⟨some 49,.binOp .quo 3 (.tmp 48) (.const (.int .i64 1536)) 3,none⟩,⟨some 50,.binOp .rem 3 (.tmp 49) (.const (.int .i64 3)) 3,none⟩,⟨some 51,.binOp .eql 3 (.tmp 50) (.const (.int .i64 0)) 3,none⟩]
def c80_r8 : List SOp := [⟨some 52,.move (.tmp 5),none⟩,⟨some 53,.binOp .quo 3 (.tmp 52) (.const (.int .i64 4608)) 3,none⟩,⟨some 54,.binOp .rem 3 (.tmp 53) (.const (.int .i64 2)) 3,none⟩,⟨some 55,.binOp .add 3 (.const (.int .i64 80)) (.tmp 54) 3,none⟩,⟨some 56,.build 155 #[(0, (.const (.int .i64 80))), (1, (.tmp 55))],none⟩,⟨some 57,.buildSlice 103 1 #[(0, (.tmp 56))],none⟩,⟨some 58,.build 105 #[(1, (.tmp 57))],none⟩,⟨some 59,.fieldAddr 107 (.tmp 6) 5,none⟩,⟨none,.store 105 (.tmp 59) (.tmp 58),none⟩]
def c80_r9 : List SOp := [⟨some 60,.move (.tmp 5),none⟩,⟨some 61,.binOp .quo 3 (.tmp 60) (.const (.int .i64 9216)) 3,none⟩,⟨some 62,.binOp .rem 3 (.tmp 61) (.const (.int .i64 4)) 3,none⟩,⟨some 63,.binOp .eql 3 (.tmp 62) (.const (.int .i64 0)) 3,none⟩]
def c80_r10 : List SOp := [⟨some 64,.move (.tmp 5),none⟩,⟨some 65,.binOp .quo 3 (.tmp 64) (.const (.int .i64 36864)) 3,none⟩,⟨some 66,.binOp .rem 3 (.tmp 65) (.const (.int .i64 2)) 3,none⟩,⟨some 67,.binOp .eql 3 (.tmp 66) (.const (.int .i64 0)) 3,none⟩,⟨some 68,.move (.tmp 5),none⟩,⟨some 69,.binOp .quo 3 (.tmp 68) (.const (.int .i64 73728)) 3,none⟩,⟨some 70,.binOp .rem 3 (.tmp 69) (.const (.int .i64 3)) 3,none⟩,⟨some 71,.binOp .add 3 (.const (.int .i64 30)) (.tmp 70) 3,none⟩,⟨some 72,.build 158 #[(0, (.const (.int .u32 167772161))), (1, (.tmp 71))],none⟩,⟨some 73,.buildSlice 100 1 #[(0, (.tmp 72))],none⟩,⟨some 74,.build 102 #[(0, (.tmp 67)), (1, (.tmp 73))],none⟩,⟨some 75,.fieldAddr 107 (.tmp 6) 2,none⟩,⟨none,.store 102 (.tmp 75) (.tmp 74),none⟩]
def c80_r11 : List SOp := [⟨some 76,.fieldAddr 107 (.tmp 6) 2,none⟩,⟨some 77,.load 102 (.tmp 76),none⟩,⟨some 78,.call ⟨.value (.func 112), #[.tmp 77], #[102]⟩,none⟩,⟨some 79,.fieldAddr 107 (.tmp 6) 2,none⟩,⟨none,.store 102 (.tmp 79) (.tmp 78),none⟩]
def c80_r12 : List SOp := [⟨some 80,.move (.tmp 0),none⟩,⟨some 81,.move (.tmp 4),none⟩,⟨some 82,.binOp .add 3 (.tmp 81) (.const (.int .i64 1)) 3,none⟩,⟨some 83,.move (.tmp 4),none⟩,⟨some 84,.binOp .add 3 (.tmp 83) (.const (.int .i64 1)) 3,none⟩,⟨some 85,.move (.tmp 5),none⟩,⟨some 86,.binOp .quo 3 (.tmp 85) (.const (.int .i64 221184)) 3,none⟩,⟨some 87,.binOp .rem 3 (.tmp 86) (.const (.int .i64 4)) 3,none⟩,⟨some 88,.binOp .add 3 (.tmp 84) (.tmp 87) 3,none⟩,⟨some 89,.slice 30 (.tmp 80) (some (.tmp 82)) (some (.tmp 88)) none,none⟩,⟨some 90,.call ⟨.value (.func 49), #[.tmp 89], #[30]⟩,none⟩,⟨some 91,.fieldAddr 107 (.tmp 6) 8,none⟩,⟨none,.store 42 (.tmp 91) (.tmp 90),none⟩]
def c80_r13 : List SOp := [⟨some 92,.move (.tmp 3),none⟩,⟨some 93,.load 107 (.tmp 6),none⟩,⟨some 94,.buildSlice 89 1 #[(0, (.tmp 93))],none⟩,⟨some 95,.call ⟨.builtin .append, #[.tmp 92,.tmp 94], #[89,89]⟩,none⟩,⟨some 3,.assign (.tmp 95),none⟩]
def c80_r4 : List SOp := [⟨some 16,.move (.tmp 4),none⟩,⟨some 17,.binOp .add 3 (.tmp 16) (.const (.int .i64 4)) 3,none⟩,⟨some 4,.assign (.tmp 17),none⟩]
def c80_l3 : SC := (.seq (.seq (.reg c80_r3 none (some [0,3,4,15])) (.cond (.tmp 15) .skip (.exit 0) (some [0,3,4]))) (.seq (.block 1 (.seq (.reg c80_r5 none (some [0,3,4,5])) (.seq (.reg c80_r6 none (some [0,3,4,5,6])) (.seq (.seq (.reg c80_r7 none (some [0,3,4,5,6,51])) (.cond (.tmp 51) (.reg c80_r8 none (some [0,3,4,5,6])) .skip (some [0,3,4,5,6]))) (.seq (.seq (.reg c80_r9 none (some [0,3,4,5,6,63])) (.cond (.tmp 63) (.reg c80_r10 none (some [0,3,4,5,6])) .skip (some [0,3,4,5,6]))) (.seq (.reg c80_r11 none (some [0,3,4,5,6])) (.seq (.reg c80_r12 none (some [0,3,4,6])) (.reg c80_r13 none (some [0,3,4]))))))))) (.reg c80_r4 none (some [0,3,4]))))
def c80_r14 : List SOp := [⟨some 96,.move (.tmp 3),none⟩,⟨some 2,.assign (.tmp 96),none⟩]
def c80 : SC := (.seq (.reg c80_r0 none (some [0])) (.seq (.reg c80_r1 none (some [0,3])) (.seq (.seq (.reg c80_r2 none (some [0,3,4])) (.block 0 (.loop c80_l3 (some [0,3,4])))) (.seq (.reg c80_r14 none (some [2])) .ret))))
theorem c80_eq : ∃ code, Try.f80.body = some code ∧ compile H80 code = c80 := ⟨_, rfl, by kernel_rfl⟩
theorem c80_fn : Try.prog.funcs[80]? = some Try.f80 := by kernel_rfl
theorem c80_rs : Try.f80.results.toList = [.tmp 2] := by kernel_rfl
theorem c80_ok : fnB Try.prog H80 Try.f80 = true := by kernel_rfl
theorem c80_nt : Try.f80.ntmps = 97 := by kernel_rfl

def H81 : Hint := ⟨[(21, [6]), (20, [7]), (19, [7, 8, 10, 17]), (18, [0, 2, 7, 8, 9, 10, 21, 22, 23]), (17, [0, 2, 7, 8, 9, 10, 13, 21, 22, 23, 69, 70, 71]), (16, [0, 2, 7, 8, 9, 10, 13, 21, 22, 23, 69, 70, 71]), (15, [0, 2, 7, 8, 9, 10, 13, 15, 21, 22, 23, 69, 70, 71]), (2000084, [0, 2, 7, 8, 9, 10, 13, 14, 15, 21, 22, 23, 69, 70, 71]), (14, [0, 2, 7, 8, 9, 10, 13, 14, 15, 21, 22, 23, 69, 70, 71, 84]), (13, [0, 2, 7, 8, 9, 10, 13, 14, 15, 16, 21, 22, 23, 69, 70, 71]), (12, [0, 2, 7, 8, 9, 10, 13, 14, 15, 21, 22, 23, 69, 70, 71]), (2000072, [0, 2, 7, 8, 9, 10, 13, 21, 22, 23, 69, 70, 71]), (11, [0, 2, 7, 8, 9, 10, 13, 21, 22, 23, 69, 70, 71, 72]), (1000011, [0, 2, 7, 8, 9, 10, 13, 21, 22, 23, 69, 70, 71]), (10, [0, 2, 7, 8, 9, 10, 13, 21, 22, 23, 69, 70, 71]), (9, [0, 2, 7, 8, 9, 10, 12, 13, 21, 22, 23]), (8, [0, 2, 7, 8, 9, 10, 12, 13, 21, 22, 23]), (2000034, [0, 2, 7, 8, 9, 10, 12, 21, 22, 23]), (7, [0, 2, 7, 8, 9, 10, 12, 21, 22, 23, 34]), (6, [0, 2, 7, 8, 9, 10, 12, 21, 22, 23]), (2000024, [0, 2, 7, 8, 9, 10, 21, 22, 23]), (5, [0, 2, 7, 8, 9, 10, 21, 22, 23, 24]), (1000005, [0, 2, 7, 8, 9, 10, 21, 22, 23]), (4, [0, 2, 7, 8, 9, 10, 21, 22, 23]), (3, [0, 1, 2, 7, 8, 9, 10]), (2, [0, 1, 2, 7, 8, 9]), (1, [0, 1, 2, 7]), (0, [0, 1, 2])], [(8, [(3, 10), (15, 10), (16, 10)]), (16, [(7, 3), (7, 4), (13, 3), (13, 4), (13, 8), (13, 9), (13, 10)])]⟩
def c81_r0 : List SOp := [⟨some 6,.assign (.const (.pointer none)),none⟩]
def c81_r1 : List SOp := [⟨some 19,.build 163 #[],none⟩,⟨some 20,.box 163 (.tmp 19),none⟩,⟨some 7,.assign (.tmp 20),none⟩]
def c81_r2 : List SOp := [⟨some 8,.assign (.const (.slice none 0 0)),none⟩,⟨some 9,.assign (.const (.slice none 0 0)),none⟩]
def c81_r3 : List SOp := [⟨some 10,.assign (.const (.slice none 0 0)),none⟩]
def c81_r4 : List SOp := [⟨some 21,.move (.tmp 1),none⟩,⟨some 22,.call ⟨.builtin .len, #[.tmp 21], #[30]⟩,none⟩,⟨some 23,.move (.const (.int .i64 0)),none⟩]
def c81_r5 : List SOp := [⟨some 24,.binOp .lss 3 (.tmp 23) (.tmp 22) 3,none⟩]
def c81_r6 : List SOp := [⟨some 25,.indexAddr 30 (.tmp 21) (.tmp 23),none⟩,⟨some 26,.load 3 (.tmp 25),none⟩,⟨some 12,.assign (.tmp 26),none⟩]
def c81_r7 : List SOp := [⟨some 27,.move (.tmp 12),none⟩,⟨some 28,.binOp .lss 3 (.tmp 27) (.const (.int .i64 0)) 3,none⟩,⟨some 29,.move (.tmp 28),none⟩,⟨some 30,.move (.tmp 12),some (some 29,false)⟩,⟨some 31,.move (.tmp 0),some (some 29,false)⟩,⟨some 32,.call ⟨.builtin .len, #[.tmp 31], #[89]⟩,some (some 29,false)⟩,⟨some 33,.binOp .geq 3 (.tmp 30) (.tmp 32) 3,some (some 29,false)⟩,⟨some 34,.pick (.tmp 29) (.const (.bool true)) (.tmp 33),none⟩]
def c81_r8 : List SOp := [⟨some 35,.move (.tmp 0),none⟩,⟨some 36,.move (.tmp 12),none⟩,⟨some 37,.indexAddr 89 (.tmp 35) (.tmp 36),none⟩,⟨some 38,.load 107 (.tmp 37),none⟩,⟨some 39,.move (.tmp 0),none⟩,⟨some 40,.move (.tmp 12),none⟩,⟨some 41,.indexAddr 89 (.tmp 39) (.tmp 40),none⟩,⟨some 42,.fieldAddr 107 (.tmp 41) 8,none⟩,⟨some 43,.load 42 (.tmp 42),none⟩,⟨some 44,.move (.tmp 2),none⟩,⟨some 45,.call ⟨.value (.func 72), #[.tmp 43,.tmp 44], #[42,3]⟩,none⟩,⟨some 46,.move (.tmp 0),none⟩,⟨some 47,.move (.tmp 12),none⟩,⟨some 48,.indexAddr 89 (.tmp 46) (.tmp 47),none⟩,⟨some 49,.fieldAddr 107 (.tmp 48) 8,none⟩,⟨some 50,.load 42 (.tmp 49),none⟩,⟨some 51,.call ⟨.builtin .len, #[.tmp 50], #[42]⟩,none⟩,⟨some 52,.makeSlice 68 (.tmp 51) (.tmp 51),none⟩,⟨some 53,.build 166 #[(0, (.tmp 38)), (1, (.tmp 45)), (2, (.tmp 52))],none⟩,⟨some 54,.box 166 (.tmp 53),none⟩,⟨some 13,.assign (.tmp 54),none⟩]
def c81_r9 : List SOp := [⟨some 55,.move (.tmp 7),none⟩,⟨some 56,.move (.tmp 7),none⟩,⟨some 57,.nilCheck (.tmp 56),none⟩,⟨some 58,.fieldAddr 163 (.tmp 57) 2,none⟩,⟨some 59,.load 161 (.tmp 58),none⟩,⟨some 60,.move (.tmp 13),none⟩,⟨some 61,.buildSlice 161 1 #[(0, (.tmp 60))],none⟩,⟨some 62,.call ⟨.builtin .append, #[.tmp 59,.tmp 61], #[161,161]⟩,none⟩,⟨some 63,.nilCheck (.tmp 55),none⟩,⟨some 64,.fieldAddr 163 (.tmp 63) 2,none⟩,⟨none,.store 161 (.tmp 64) (.tmp 62),none⟩]
def c81_r10 : List SOp := [⟨some 65,.move (.tmp 0),none⟩,⟨some 66,.move (.tmp 12),none⟩,⟨some 67,.indexAddr 89 (.tmp 65) (.tmp 66),none⟩,⟨some 68,.fieldAddr 107 (.tmp 67) 8,none⟩,⟨some 69,.load 42 (.tmp 68),none⟩,⟨some 70,.call ⟨.builtin .len, #[.tmp 69], #[42]⟩,none⟩,⟨some 71,.move (.const (.int .i64 0)),none⟩]
def c81_r11 : List SOp := [⟨some 72,.binOp .lss 3 (.tmp 71) (.tmp 70) 3,none⟩]
def c81_r12 : List SOp := [⟨some 73,.move (.tmp 71),none⟩,⟨some 74,.indexAddr 42 (.tmp 69) (.tmp 71),none⟩,⟨some 75,.load 52 (.tmp 74),none⟩,⟨some 15,.alloc 52,none⟩,⟨some 14,.assign (.tmp 73),none⟩,⟨none,.store 52 (.tmp 15) (.tmp 75),none⟩]
def c81_r13 : List SOp := [⟨some 76,.fieldAddr 52 (.tmp 15) 0,none⟩,⟨some 77,.load 9 (.tmp 76),none⟩,⟨some 78,.call ⟨.builtin .len, #[.tmp 77], #[9]⟩,none⟩,⟨some 16,.assign (.tmp 78),none⟩]
def c81_r14 : List SOp := [⟨some 79,.move (.tmp 16),none⟩,⟨some 80,.binOp .eql 3 (.tmp 79) (.const (.int .i64 0)) 3,none⟩,⟨some 81,.move (.tmp 80),none⟩,⟨some 82,.move (.tmp 16),some (some 81,false)⟩,⟨some 83,.binOp .gtr 3 (.tmp 82) (.const (.int .i64 16)) 3,some (some 81,false)⟩,⟨some 84,.pick (.tmp 81) (.const (.bool true)) (.tmp 83),none⟩]
def c81_r15 : List SOp := [⟨some 85,.move (.tmp 7),none⟩,⟨some 86,.move (.tmp 7),none⟩,⟨some 87,.nilCheck (.tmp 86),none⟩,⟨some 88,.fieldAddr 163 (.tmp 87) 1,none⟩,⟨some 89,.load 160 (.tmp 88),none⟩,⟨some 90,.move (.tmp 13),none⟩,⟨some 91,.move (.tmp 14),none⟩,⟨some 92,.build 168 #[(0, (.tmp 90)), (1, (.tmp 91))],none⟩,⟨some 93,.buildSlice 160 1 #[(0, (.tmp 92))],none⟩,⟨some 94,.call ⟨.builtin .append, #[.tmp 89,.tmp 93], #[160,160]⟩,none⟩,⟨some 95,.nilCheck (.tmp 85),none⟩,⟨some 96,.fieldAddr 163 (.tmp 95) 1,none⟩,⟨none,.store 160 (.tmp 96) (.tmp 94),none⟩]
def c81_r16 : List SOp := [⟨some 97,.move (.tmp 8),none⟩,⟨some 98,.fieldAddr 52 (.tmp 15) 0,none⟩,⟨some 99,.load 9 (.tmp 98),none⟩,⟨some 100,.buildSlice 38 1 #[(0, (.tmp 99))],none⟩,⟨some 101,.call ⟨.builtin .append, #[.tmp 97,.tmp 100], #[38,38]⟩,none⟩,⟨some 102,.move (.tmp 9),none⟩,⟨some 103,.fieldAddr 52 (.tmp 15) 0,none⟩,⟨some 104,.load 9 (.tmp 103),none⟩,⟨some 105,.call ⟨.value (.func 59), #[.tmp 104], #[9]⟩,none⟩,⟨some 106,.buildSlice 38 1 #[(0, (.tmp 105))],none⟩,⟨some 107,.call ⟨.builtin .append, #[.tmp 102,.tmp 106], #[38,38]⟩,none⟩,⟨some 108,.move (.tmp 10),none⟩,⟨some 109,.fieldAddr 52 (.tmp 15) 1,none⟩,⟨some 110,.load 4 (.tmp 109),none⟩,⟨some 111,.buildSlice 68 1 #[(0, (.tmp 110))],none⟩,⟨some 112,.call ⟨.builtin .append, #[.tmp 108,.tmp 111], #[68,68]⟩,none⟩,⟨some 8,.assign (.tmp 101),none⟩,⟨some 9,.assign (.tmp 107),none⟩,⟨some 10,.assign (.tmp 112),none⟩]
def c81_r17 : List SOp := [⟨some 113,.binOp .add 3 (.tmp 71) (.const (.int .i64 1)) 3,none⟩,⟨some 71,.move (.tmp 113),none⟩]
def c81_l11 : SC := (.seq (.reg c81_r11 none (some [0,2,7,8,9,10,13,21,22,23,69,70,71,72])) (.seq (.cond (.tmp 72) .skip (.exit 2) (some [0,2,7,8,9,10,13,21,22,23,69,70,71])) (.seq (.block 3 (.seq (.reg c81_r12 none (some [0,2,7,8,9,10,13,14,15,21,22,23,69,70,71])) (.seq (.seq (.reg c81_r13 none (some [0,2,7,8,9,10,13,14,15,16,21,22,23,69,70,71])) (.seq (.reg c81_r14 none (some [0,2,7,8,9,10,13,14,15,21,22,23,69,70,71,84])) (.cond (.tmp 84) (.exit 3) .skip (some [0,2,7,8,9,10,13,14,15,21,22,23,69,70,71])))) (.seq (.reg c81_r15 none (some [0,2,7,8,9,10,13,15,21,22,23,69,70,71])) (.reg c81_r16 (some [(7, 3), (7, 4), (13, 3), (13, 4), (13, 8), (13, 9), (13, 10)]) (some [0,2,7,8,9,10,13,21,22,23,69,70,71])))))) (.reg c81_r17 none (some [0,2,7,8,9,10,13,21,22,23,69,70,71])))))
def c81_r18 : List SOp := [⟨some 114,.binOp .add 3 (.tmp 23) (.const (.int .i64 1)) 3,none⟩,⟨some 23,.move (.tmp 114),none⟩]
def c81_l5 : SC := (.seq (.reg c81_r5 none (some [0,2,7,8,9,10,21,22,23,24])) (.seq (.cond (.tmp 24) .skip (.exit 0) (some [0,2,7,8,9,10,21,22,23])) (.seq (.block 1 (.seq (.reg c81_r6 none (some [0,2,7,8,9,10,12,21,22,23])) (.seq (.seq (.reg c81_r7 none (some [0,2,7,8,9,10,12,21,22,23,34])) (.cond (.tmp 34) (.exit 1) .skip (some [0,2,7,8,9,10,12,21,22,23]))) (.seq (.reg c81_r8 (some [(3, 10), (15, 10), (16, 10)]) (some [0,2,7,8,9,10,12,13,21,22,23])) (.seq (.reg c81_r9 none (some [0,2,7,8,9,10,12,13,21,22,23])) (.seq (.reg c81_r10 none (some [0,2,7,8,9,10,13,21,22,23,69,70,71])) (.block 2 (.loop c81_l11 (some [0,2,7,8,9,10,13,21,22,23,69,70,71]))))))))) (.reg c81_r18 none (some [0,2,7,8,9,10,21,22,23])))))
def c81_r19 : List SOp := [⟨some 116,.move (.tmp 9),none⟩,⟨some 117,.call ⟨.value (.func 52), #[(.tmp 116), (.const (.int .i64 4096))], #[38,3]⟩,none⟩,⟨some 115,.move (.tmp 117),none⟩,⟨some 118,.extract (.tmp 115) 0,none⟩,⟨some 119,.extract (.tmp 115) 1,none⟩,⟨some 17,.assign (.tmp 118),none⟩,⟨some 18,.assign (.tmp 119),none⟩]
def c81_r20 : List SOp := [⟨some 120,.move (.tmp 7),none⟩,⟨some 121,.move (.tmp 17),none⟩,⟨some 122,.move (.tmp 8),none⟩,⟨some 123,.move (.tmp 10),none⟩,⟨some 124,.call ⟨.value (.func 102), #[.tmp 121,.tmp 122,.tmp 123], #[57,38,68]⟩,none⟩,⟨some 125,.nilCheck (.tmp 120),none⟩,⟨some 126,.fieldAddr 163 (.tmp 125) 0,none⟩,⟨none,.store 69 (.tmp 126) (.tmp 124),none⟩]
def c81_r21 : List SOp := [⟨some 127,.move (.tmp 7),none⟩,⟨some 6,.assign (.tmp 127),none⟩]
def c81 : SC := (.seq (.reg c81_r0 none (some [0,1,2])) (.seq (.reg c81_r1 none (some [0,1,2,7])) (.seq (.reg c81_r2 none (some [0,1,2,7,8,9])) (.seq (.reg c81_r3 none (some [0,1,2,7,8,9,10])) (.seq (.seq (.reg c81_r4 none (some [0,2,7,8,9,10,21,22,23])) (.block 0 (.loop c81_l5 (some [0,2,7,8,9,10,21,22,23])))) (.seq (.reg c81_r19 none (some [7,8,10,17])) (.seq (.reg c81_r20 none (some [7])) (.seq (.reg c81_r21 none (some [6])) .ret))))))))
theorem c81_eq : ∃ code, Try.f81.body = some code ∧ compile H81 code = c81 := ⟨_, rfl, by kernel_rfl⟩
theorem c81_fn : Try.prog.funcs[81]? = some Try.f81 := by kernel_rfl
theorem c81_rs : Try.f81.results.toList = [.tmp 6] := by kernel_rfl
theorem c81_ok : fnB Try.prog H81 Try.f81 = true := by kernel_rfl
theorem c81_nt : Try.f81.ntmps = 128 := by kernel_rfl

def H82 : Hint := ⟨[(2, [2, 3]), (1, [4]), (0, [0])], []⟩
def c82_r0 : List SOp := [⟨some 2,.assign (.const (.slice none 0 0)),none⟩,⟨some 3,.assign (.const (.int .i64 0)),none⟩]
def c82_r1 : List SOp := [⟨some 5,.move (.tmp 0),none⟩,⟨some 6,.call ⟨.value (.func 113), #[(.tmp 5), (.func 114)], #[91,170]⟩,none⟩,⟨some 4,.assign (.tmp 6),none⟩]
def c82_r2 : List SOp := [⟨some 7,.move (.tmp 4),none⟩,⟨some 8,.move (.tmp 4),none⟩,⟨some 9,.call ⟨.value (.func 115), #[.tmp 8], #[94]⟩,none⟩,⟨some 2,.assign (.tmp 7),none⟩,⟨some 3,.assign (.tmp 9),none⟩]
def c82 : SC := (.seq (.reg c82_r0 none (some [0])) (.seq (.reg c82_r1 none (some [4])) (.seq (.reg c82_r2 none (some [2,3])) .ret)))
theorem c82_eq : ∃ code, Try.f82.body = some code ∧ compile H82 code = c82 := ⟨_, rfl, by kernel_rfl⟩
theorem c82_fn : Try.prog.funcs[82]? = some Try.f82 := by kernel_rfl
theorem c82_rs : Try.f82.results.toList = [.tmp 2, .tmp 3] := by kernel_rfl
theorem c82_ok : fnB Try.prog H82 Try.f82 = true := by kernel_rfl
theorem c82_nt : Try.f82.ntmps = 10 := by kernel_rfl

def H83 : Hint := ⟨[(16, [4, 5]), (15, [0, 10, 51, 52, 53]), (14, [0, 10, 51, 52, 53]), (13, [0, 10, 13, 51, 52, 53]), (12, [0, 10, 12, 51, 52, 53]), (2000054, [0, 10, 51, 52, 53]), (11, [0, 10, 51, 52, 53, 54]), (1000011, [0, 10, 51, 52, 53]), (10, [0, 10, 51, 52, 53]), (9, [0, 6, 10]), (8, [0, 6, 27, 28, 29]), (7, [0, 6, 27, 28, 29]), (6, [0, 6, 9, 27, 28, 29]), (5, [0, 6, 8, 27, 28, 29]), (2000030, [0, 6, 27, 28, 29]), (4, [0, 6, 27, 28, 29, 30]), (1000004, [0, 6, 27, 28, 29]), (3, [0, 6, 27, 28, 29]), (2, [0, 6]), (1, [0, 1]), (0, [0, 1])], []⟩
def c83_r0 : List SOp := [⟨some 4,.assign (.const (.slice none 0 0)),none⟩,⟨some 5,.assign (.const (.int .i64 0)),none⟩]
def c83_r1 : List SOp := [⟨some 14,.move (.tmp 0),none⟩,⟨some 15,.nilCheck (.tmp 14),none⟩,⟨some 16,.fieldAddr 163 (.tmp 15) 3,none⟩,⟨some 17,.load 3 (.tmp 16),none⟩,⟨some 18,.binOp .add 3 (.tmp 17) (.const (.int .i64 1)) 3,none⟩,⟨some 19,.nilCheck (.tmp 14),none⟩,⟨some 20,.fieldAddr 163 (.tmp 19) 3,none⟩,⟨none,.store 3 (.tmp 20) (.tmp 18),none⟩]
def c83_r2 : List SOp := [⟨some 21,.move (.tmp 0),none⟩,⟨some 22,.nilCheck (.tmp 21),none⟩,⟨some 23,.fieldAddr 163 (.tmp 22) 0,none⟩,⟨some 24,.load 69 (.tmp 23),none⟩,⟨some 25,.move (.tmp 1),none⟩,⟨some 26,.call ⟨.value (.func 65), #[.tmp 24,.tmp 25], #[69,5]⟩,none⟩,⟨some 6,.assign (.tmp 26),none⟩]
def c83_r3 : List SOp := [⟨some 27,.move (.tmp 6),none⟩,⟨some 28,.call ⟨.builtin .len, #[.tmp 27], #[30]⟩,none⟩,⟨some 29,.move (.const (.int .i64 0)),none⟩]
def c83_r4 : List SOp := [⟨some 30,.binOp .lss 3 (.tmp 29) (.tmp 28) 3,none⟩]
def c83_r5 : List SOp := [⟨some 31,.indexAddr 30 (.tmp 27) (.tmp 29),none⟩,⟨some 32,.load 3 (.tmp 31),none⟩,⟨some 8,.assign (.tmp 32),none⟩]
def c83_r6 : List SOp := [⟨some 33,.move (.tmp 0),none⟩,⟨some 34,.nilCheck (.tmp 33),none⟩,⟨some 35,.fieldAddr 163 (.tmp 34) 1,none⟩,⟨some 36,.load 160 (.tmp 35),none⟩,⟨some 37,.move (.tmp 8),none⟩,⟨some 38,.indexAddr 160 (.tmp 36) (.tmp 37),none⟩,⟨some 39,.load 168 (.tmp 38),none⟩,⟨some 9,.alloc 168,none⟩,⟨none,.store 168 (.tmp 9) (.tmp 39),none⟩]
def c83_r7 : List SOp := [⟨some 40,.fieldAddr 168 (.tmp 9) 0,none⟩,⟨some 41,.load 164 (.tmp 40),none⟩,⟨some 42,.nilCheck (.tmp 41),none⟩,⟨some 43,.fieldAddr 166 (.tmp 42) 2,none⟩,⟨some 44,.load 68 (.tmp 43),none⟩,⟨some 45,.fieldAddr 168 (.tmp 9) 1,none⟩,⟨some 46,.load 3 (.tmp 45),none⟩,⟨some 47,.indexAddr 68 (.tmp 44) (.tmp 46),none⟩,⟨none,.store 4 (.tmp 47) (.const (.bool true)),none⟩]
def c83_r8 : List SOp := [⟨some 48,.binOp .add 3 (.tmp 29) (.const (.int .i64 1)) 3,none⟩,⟨some 29,.move (.tmp 48),none⟩]
def c83_l4 : SC := (.seq (.reg c83_r4 none (some [0,6,27,28,29,30])) (.seq (.cond (.tmp 30) .skip (.exit 0) (some [0,6,27,28,29])) (.seq (.block 1 (.seq (.reg c83_r5 none (some [0,6,8,27,28,29])) (.seq (.reg c83_r6 none (some [0,6,9,27,28,29])) (.reg c83_r7 none (some [0,6,27,28,29]))))) (.reg c83_r8 none (some [0,6,27,28,29])))))
def c83_r9 : List SOp := [⟨some 49,.move (.tmp 0),none⟩,⟨some 50,.call ⟨.value (.func 113), #[(.tmp 49), (.func 116)], #[91,170]⟩,none⟩,⟨some 10,.assign (.tmp 50),none⟩]
def c83_r10 : List SOp := [⟨some 51,.move (.tmp 6),none⟩,⟨some 52,.call ⟨.builtin .len, #[.tmp 51], #[30]⟩,none⟩,⟨some 53,.move (.const (.int .i64 0)),none⟩]
def c83_r11 : List SOp := [⟨some 54,.binOp .lss 3 (.tmp 53) (.tmp 52) 3,none⟩]
def c83_r12 : List SOp := [⟨some 55,.indexAddr 30 (.tmp 51) (.tmp 53),none⟩,⟨some 56,.load 3 (.tmp 55),none⟩,⟨some 12,.assign (.tmp 56),none⟩]
def c83_r13 : List SOp := [⟨some 57,.move (.tmp 0),none⟩,⟨some 58,.nilCheck (.tmp 57),none⟩,⟨some 59,.fieldAddr 163 (.tmp 58) 1,none⟩,⟨some 60,.load 160 (.tmp 59),none⟩,⟨some 61,.move (.tmp 12),none⟩,⟨some 62,.indexAddr 160 (.tmp 60) (.tmp 61),none⟩,⟨some 63,.load 168 (.tmp 62),none⟩,⟨some 13,.alloc 168,none⟩,⟨none,.store 168 (.tmp 13) (.tmp 63),none⟩]
def c83_r14 : List SOp := [⟨some 64,.fieldAddr 168 (.tmp 13) 0,none⟩,⟨some 65,.load 164 (.tmp 64),none⟩,⟨some 66,.nilCheck (.tmp 65),none⟩,⟨some 67,.fieldAddr 166 (.tmp 66) 2,none⟩,⟨some 68,.load 68 (.tmp 67),none⟩,⟨some 69,.fieldAddr 168 (.tmp 13) 1,none⟩,⟨some 70,.load 3 (.tmp 69),none⟩,⟨some 71,.indexAddr 68 (.tmp 68) (.tmp 70),none⟩,⟨none,.store 4 (.tmp 71) (.const (.bool false)),none⟩]
def c83_r15 : List SOp := [⟨some 72,.binOp .add 3 (.tmp 53) (.const (.int .i64 1)) 3,none⟩,⟨some 53,.move (.tmp 72),none⟩]
def c83_l11 : SC := (.seq (.reg c83_r11 none (some [0,10,51,52,53,54])) (.seq (.cond (.tmp 54) .skip (.exit 2) (some [0,10,51,52,53])) (.seq (.block 3 (.seq (.reg c83_r12 none (some [0,10,12,51,52,53])) (.seq (.reg c83_r13 none (some [0,10,13,51,52,53])) (.reg c83_r14 none (some [0,10,51,52,53]))))) (.reg c83_r15 none (some [0,10,51,52,53])))))
def c83_r16 : List SOp := [⟨some 73,.move (.tmp 10),none⟩,⟨some 74,.move (.tmp 10),none⟩,⟨some 75,.call ⟨.value (.func 115), #[.tmp 74], #[94]⟩,none⟩,⟨some 4,.assign (.tmp 73),none⟩,⟨some 5,.assign (.tmp 75),none⟩]
def c83 : SC := (.seq (.reg c83_r0 none (some [0,1])) (.seq (.reg c83_r1 none (some [0,1])) (.seq (.reg c83_r2 none (some [0,6])) (.seq (.seq (.reg c83_r3 none (some [0,6,27,28,29])) (.block 0 (.loop c83_l4 (some [0,6,27,28,29])))) (.seq (.reg c83_r9 none (some [0,6,10])) (.seq (.seq (.reg c83_r10 none (some [0,10,51,52,53])) (.block 2 (.loop c83_l11 (some [0,10,51,52,53])))) (.seq (.reg c83_r16 none (some [4,5])) .ret)))))))
theorem c83_eq : ∃ code, Try.f83.body = some code ∧ compile H83 code = c83 := ⟨_, rfl, by kernel_rfl⟩
theorem c83_fn : Try.prog.funcs[83]? = some Try.f83 := by kernel_rfl
theorem c83_rs : Try.f83.results.toList = [.tmp 4, .tmp 5] := by kernel_rfl
theorem c83_ok : fnB Try.prog H83 Try.f83 = true := by kernel_rfl
theorem c83_nt : Try.f83.ntmps = 76 := by kernel_rfl

def H84 : Hint := ⟨[(1, [2]), (0, [0])], []⟩
def c84_r0 : List SOp := [⟨some 2,.assign (.const (.int .i64 0)),none⟩]
def c84_r1 : List SOp := [⟨some 3,.move (.tmp 0),none⟩,⟨some 4,.nilCheck (.tmp 3),none⟩,⟨some 5,.fieldAddr 163 (.tmp 4) 3,none⟩,⟨some 6,.load 3 (.tmp 5),none⟩,⟨some 2,.assign (.tmp 6),none⟩]
def c84 : SC := (.seq (.reg c84_r0 none (some [0])) (.seq (.reg c84_r1 none (some [2])) .ret))
theorem c84_eq : ∃ code, Try.f84.body = some code ∧ compile H84 code = c84 := ⟨_, rfl, by kernel_rfl⟩
theorem c84_fn : Try.prog.funcs[84]? = some Try.f84 := by kernel_rfl
theorem c84_rs : Try.f84.results.toList = [.tmp 2] := by kernel_rfl
theorem c84_ok : fnB Try.prog H84 Try.f84 = true := by kernel_rfl
theorem c84_nt : Try.f84.ntmps = 7 := by kernel_rfl

def H86 : Hint := ⟨[(10, [2]), (4, [0, 3, 4]), (9, [0, 3, 4]), (8, [0, 3, 4, 5]), (7, [0, 3, 4, 5]), (6, [0, 3, 4, 5]), (5, [0, 3, 4, 5]), (2000009, [0, 3, 4]), (3, [0, 3, 4, 9]), (1000003, [0, 3, 4]), (2, [0, 3, 4]), (1, [0, 3]), (0, [0])], [(6, [(6, 3)]), (7, [(6, 3)])]⟩
def c86_r0 : List SOp := [⟨some 2,.assign (.const (.slice none 0 0)),none⟩]
def c86_r1 : List SOp := [⟨some 3,.assign (.const (.slice none 0 0)),none⟩]
def c86_r2 : List SOp := [⟨some 4,.assign (.const (.int .i64 0)),none⟩]
def c86_r3 : List SOp := [⟨some 6,.move (.tmp 4),none⟩,⟨some 7,.move (.tmp 0),none⟩,⟨some 8,.call ⟨.builtin .len, #[.tmp 7], #[89]⟩,none⟩,⟨some 9,.binOp .lss 3 (.tmp 6) (.tmp 8) 3,none⟩]
def c86_r5 : List SOp := [⟨some 12,.move (.tmp 0),none⟩,⟨some 13,.move (.tmp 4),none⟩,⟨some 14,.indexAddr 89 (.tmp 12) (.tmp 13),none⟩,⟨some 15,.load 107 (.tmp 14),none⟩,⟨some 5,.alloc 107,none⟩,⟨none,.store 107 (.tmp 5) (.tmp 15),none⟩]
def c86_r6 : List SOp := [⟨some 16,.fieldAddr 107 (.tmp 5) 2,none⟩,⟨some 17,.fieldAddr 102 (.tmp 16) 1,none⟩,⟨some 18,.load 100 (.tmp 17),none⟩,⟨some 19,.call ⟨.builtin .append, #[(.const (.slice none 0 0)), (.tmp 18)], #[100,100]⟩,none⟩,⟨some 20,.fieldAddr 107 (.tmp 5) 4,none⟩,⟨some 21,.fieldAddr 102 (.tmp 20) 1,none⟩,⟨some 22,.load 100 (.tmp 21),none⟩,⟨some 23,.call ⟨.builtin .append, #[(.const (.slice none 0 0)), (.tmp 22)], #[100,100]⟩,none⟩,⟨some 24,.fieldAddr 107 (.tmp 5) 2,none⟩,⟨some 25,.fieldAddr 102 (.tmp 24) 1,none⟩,⟨none,.store 100 (.tmp 25) (.tmp 19),none⟩,⟨some 26,.fieldAddr 107 (.tmp 5) 4,none⟩,⟨some 27,.fieldAddr 102 (.tmp 26) 1,none⟩,⟨none,.store 100 (.tmp 27) (.tmp 23),none⟩]
def c86_r7 : List SOp := [⟨some 28,.fieldAddr 107 (.tmp 5) 3,none⟩,⟨some 29,.fieldAddr 105 (.tmp 28) 1,none⟩,⟨some 30,.load 103 (.tmp 29),none⟩,⟨some 31,.call ⟨.builtin .append, #[(.const (.slice none 0 0)), (.tmp 30)], #[103,103]⟩,none⟩,⟨some 32,.fieldAddr 107 (.tmp 5) 5,none⟩,⟨some 33,.fieldAddr 105 (.tmp 32) 1,none⟩,⟨some 34,.load 103 (.tmp 33),none⟩,⟨some 35,.call ⟨.builtin .append, #[(.const (.slice none 0 0)), (.tmp 34)], #[103,103]⟩,none⟩,⟨some 36,.fieldAddr 107 (.tmp 5) 3,none⟩,⟨some 37,.fieldAddr 105 (.tmp 36) 1,none⟩,⟨none,.store 103 (.tmp 37) (.tmp 31),none⟩,⟨some 38,.fieldAddr 107 (.tmp 5) 5,none⟩,⟨some 39,.fieldAddr 105 (.tmp 38) 1,none⟩,⟨none,.store 103 (.tmp 39) (.tmp 35),none⟩]
def c86_r8 : List SOp := [⟨some 40,.fieldAddr 107 (.tmp 5) 8,none⟩,⟨some 41,.load 42 (.tmp 40),none⟩,⟨some 42,.call ⟨.builtin .append, #[(.const (.slice none 0 0)), (.tmp 41)], #[42,42]⟩,none⟩,⟨some 43,.fieldAddr 107 (.tmp 5) 8,none⟩,⟨none,.store 42 (.tmp 43) (.tmp 42),none⟩]
def c86_r9 : List SOp := [⟨some 44,.move (.tmp 3),none⟩,⟨some 45,.load 107 (.tmp 5),none⟩,⟨some 46,.buildSlice 89 1 #[(0, (.tmp 45))],none⟩,⟨some 47,.call ⟨.builtin .append, #[.tmp 44,.tmp 46], #[89,89]⟩,none⟩,⟨some 3,.assign (.tmp 47),none⟩]
def c86_r4 : List SOp := [⟨some 10,.move (.tmp 4),none⟩,⟨some 11,.binOp .add 3 (.tmp 10) (.const (.int .i64 1)) 3,none⟩,⟨some 4,.assign (.tmp 11),none⟩]
def c86_l3 : SC := (.seq (.seq (.reg c86_r3 none (some [0,3,4,9])) (.cond (.tmp 9) .skip (.exit 0) (some [0,3,4]))) (.seq (.block 1 (.seq (.reg c86_r5 none (some [0,3,4,5])) (.seq (.reg c86_r6 (some [(6, 3)]) (some [0,3,4,5])) (.seq (.reg c86_r7 (some [(6, 3)]) (some [0,3,4,5])) (.seq (.reg c86_r8 none (some [0,3,4,5])) (.reg c86_r9 none (some [0,3,4]))))))) (.reg c86_r4 none (some [0,3,4]))))
def c86_r10 : List SOp := [⟨some 48,.move (.tmp 3),none⟩,⟨some 2,.assign (.tmp 48),none⟩]
def c86 : SC := (.seq (.reg c86_r0 none (some [0])) (.seq (.reg c86_r1 none (some [0,3])) (.seq (.seq (.reg c86_r2 none (some [0,3,4])) (.block 0 (.loop c86_l3 (some [0,3,4])))) (.seq (.reg c86_r10 none (some [2])) .ret))))
theorem c86_eq : ∃ code, Try.f86.body = some code ∧ compile H86 code = c86 := ⟨_, rfl, by kernel_rfl⟩
theorem c86_fn : Try.prog.funcs[86]? = some Try.f86 := by kernel_rfl
theorem c86_rs : Try.f86.results.toList = [.tmp 2] := by kernel_rfl
theorem c86_ok : fnB Try.prog H86 Try.f86 = true := by kernel_rfl
theorem c86_nt : Try.f86.ntmps = 49 := by kernel_rfl

def H88 : Hint := ⟨[(1, [2, 3]), (0, [0])], []⟩
def c88_r0 : List SOp := [⟨some 2,.assign (.const (.slice none 0 0)),none⟩,⟨some 3,.assign (.const (.int .i64 0)),none⟩]
def c88_r1 : List SOp := [⟨some 4,.move (.tmp 0),none⟩,⟨some 5,.call ⟨.value (.func 118), #[.tmp 4], #[109]⟩,none⟩,⟨some 6,.extract (.tmp 5) 0,none⟩,⟨some 7,.extract (.tmp 5) 1,none⟩,⟨some 2,.assign (.tmp 6),none⟩,⟨some 3,.assign (.tmp 7),none⟩]
def c88 : SC := (.seq (.reg c88_r0 none (some [0])) (.seq (.reg c88_r1 none (some [2,3])) .ret))
theorem c88_eq : ∃ code, Try.f88.body = some code ∧ compile H88 code = c88 := ⟨_, rfl, by kernel_rfl⟩
theorem c88_fn : Try.prog.funcs[88]? = some Try.f88 := by kernel_rfl
theorem c88_rs : Try.f88.results.toList = [.tmp 2, .tmp 3] := by kernel_rfl
theorem c88_ok : fnB Try.prog H88 Try.f88 = true := by kernel_rfl
theorem c88_nt : Try.f88.ntmps = 8 := by kernel_rfl

def H89 : Hint := ⟨[(8, [4]), (5, [0, 1, 5]), (7, [4]), (2000066, [0, 1, 5]), (6, [0, 1, 5, 66]), (2000014, [0, 1, 5]), (4, [0, 1, 5, 14]), (1000004, [0, 1, 5]), (3, [0, 1, 5]), (2, [4]), (2000010, [0, 1]), (1, [0, 1, 10]), (0, [0, 1])], []⟩
def c89_r0 : List SOp := [⟨some 4,.assign (.const (.bool false)),none⟩]
def c89_r1 : List SOp := [⟨some 6,.move (.tmp 0),none⟩,⟨some 7,.call ⟨.builtin .len, #[.tmp 6], #[94]⟩,none⟩,⟨some 8,.move (.tmp 1),none⟩,⟨some 9,.call ⟨.builtin .len, #[.tmp 8], #[94]⟩,none⟩,⟨some 10,.binOp .neq 3 (.tmp 7) (.tmp 9) 3,none⟩]
def c89_r2 : List SOp := [⟨some 4,.assign (.const (.bool false)),none⟩]
def c89_r3 : List SOp := [⟨some 5,.assign (.const (.int .i64 0)),none⟩]
def c89_r4 : List SOp := [⟨some 11,.move (.tmp 5),none⟩,⟨some 12,.move (.tmp 0),none⟩,⟨some 13,.call ⟨.builtin .len, #[.tmp 12], #[94]⟩,none⟩,⟨some 14,.binOp .lss 3 (.tmp 11) (.tmp 13) 3,none⟩]
def c89_r6 : List SOp := [⟨some 17,.move (.tmp 0),none⟩,⟨some 18,.move (.tmp 5),none⟩,⟨some 19,.indexAddr 94 (.tmp 17) (.tmp 18),none⟩,⟨some 20,.fieldAddr 99 (.tmp 19) 0,none⟩,⟨some 21,.load 3 (.tmp 20),none⟩,⟨some 22,.move (.tmp 1),none⟩,⟨some 23,.move (.tmp 5),none⟩,⟨some 24,.indexAddr 94 (.tmp 22) (.tmp 23),none⟩,⟨some 25,.fieldAddr 99 (.tmp 24) 0,none⟩,⟨some 26,.load 3 (.tmp 25),none⟩,⟨some 27,.binOp .neq 3 (.tmp 21) (.tmp 26) 3,none⟩,⟨some 28,.move (.tmp 27),none⟩,⟨some 29,.move (.tmp 0),some (some 28,false)⟩,⟨some 30,.move (.tmp 5),some (some 28,false)⟩,⟨some 31,.indexAddr 94 (.tmp 29) (.tmp 30),some (some 28,false)⟩,⟨some 32,.fieldAddr 99 (.tmp 31) 1,some (some 28,false)⟩,⟨some 33,.load 3 (.tmp 32),some (some 28,false)⟩,⟨some 34,.move (.tmp 1),some (some 28,false)⟩,⟨some 35,.move (.tmp 5),some (some 28,false)⟩,⟨some 36,.indexAddr 94 (.tmp 34) (.tmp 35),some (some 28,false)⟩,⟨some 37,.fieldAddr 99 (.tmp 36) 1,some (some 28,false)⟩,⟨some 38,.load 3 (.tmp 37),some (some 28,false)⟩,⟨some 39,.binOp .neq 3 (.tmp 33) (.tmp 38) 3,some (some 28,false)⟩,⟨some 40,.pick (.tmp 28) (.const (.bool true)) (.tmp 39),none⟩,⟨some 41,.move (.tmp 40),none⟩,⟨some 42,.move (.tmp 0),some (some 41,false)⟩,⟨some 43,.move (.tmp 5),some (some 41,false)⟩,⟨some 44,.indexAddr 94 (.tmp 42) (.tmp 43),some (some 41,false)⟩,⟨some 45,.fieldAddr 99 (.tmp 44) 2,some (some 41,false)⟩,⟨some 46,.load 3 (.tmp 45),some (some 41,false)⟩,⟨some 47,.move (.tmp 1),some (some 41,false)⟩,⟨some 48,.move (.tmp 5),some (some 41,false)⟩,⟨some 49,.indexAddr 94 (.tmp 47) (.tmp 48),some (some 41,false)⟩,⟨some 50,.fieldAddr 99 (.tmp 49) 2,some (some 41,false)⟩,⟨some 51,.load 3 (.tmp 50),some (some 41,false)⟩,⟨some 52,.binOp .neq 3 (.tmp 46) (.tmp 51) 3,some (some 41,false)⟩,⟨some 53,.pick (.tmp 41) (.const (.bool true)) (.tmp 52),none⟩,⟨some 54,.move (.tmp 53),none⟩,⟨some 55,.move (.tmp 0),some (some 54,false)⟩,⟨some 56,.move (.tmp 5),some (some 54,false)⟩,⟨some 57,.indexAddr 94 (.tmp 55) (.tmp 56),some (some 54,false)⟩,⟨some 58,.fieldAddr 99 (.tmp 57) 3,some (some 54,false)⟩,⟨some 59,.load 3 (.tmp 58),some (some 54,false)⟩,⟨some 60,.move (.tmp 1),some (some 54,false)⟩,⟨some 61,.move (.tmp 5),some (some 54,false)⟩,⟨some 62,.indexAddr 94 (.tmp 60) (.tmp 61),some (some 54,false)⟩,⟨some 63,.fieldAddr 99 (.tmp 62) 3,some (some 54,false)⟩,⟨some 64,.load 3 (.tmp 63),some (some 54,false)⟩,⟨some 65,.binOp .neq 3 (.tmp 59) (.tmp 64) 3,some (some 54,false)⟩,⟨some 66,.pick (.tmp 54) (.const (.bool true)) (.tmp 65),none⟩]
def c89_r7 : List SOp := [⟨some 4,.assign (.const (.bool false)),none⟩]
def c89_r5 : List SOp := [⟨some 15,.move (.tmp 5),none⟩,⟨some 16,.binOp .add 3 (.tmp 15) (.const (.int .i64 1)) 3,none⟩,⟨some 5,.assign (.tmp 16),none⟩]
def c89_l4 : SC := (.seq (.seq (.reg c89_r4 none (some [0,1,5,14])) (.cond (.tmp 14) .skip (.exit 0) (some [0,1,5]))) (.seq (.block 1 (.seq (.reg c89_r6 none (some [0,1,5,66])) (.cond (.tmp 66) (.seq (.reg c89_r7 none (some [4])) .ret) .skip (some [0,1,5])))) (.reg c89_r5 none (some [0,1,5]))))
def c89_r8 : List SOp := [⟨some 4,.assign (.const (.bool true)),none⟩]
def c89 : SC := (.seq (.reg c89_r0 none (some [0,1])) (.seq (.seq (.reg c89_r1 none (some [0,1,10])) (.cond (.tmp 10) (.seq (.reg c89_r2 none (some [4])) .ret) .skip (some [0,1]))) (.seq (.seq (.reg c89_r3 none (some [0,1,5])) (.block 0 (.loop c89_l4 (some [0,1,5])))) (.seq (.reg c89_r8 none (some [4])) .ret))))
theorem c89_eq : ∃ code, Try.f89.body = some code ∧ compile H89 code = c89 := ⟨_, rfl, by kernel_rfl⟩
theorem c89_fn : Try.prog.funcs[89]? = some Try.f89 := by kernel_rfl
theorem c89_rs : Try.f89.results.toList = [.tmp 4] := by kernel_rfl
theorem c89_ok : fnB Try.prog H89 Try.f89 = true := by kernel_rfl
theorem c89_nt : Try.f89.ntmps = 67 := by kernel_rfl

def H90 : Hint := ⟨[(2, [4, 5]), (1, [0]), (0, [0, 1])], []⟩
def c90_r0 : List SOp := [⟨some 4,.assign (.const (.slice none 0 0)),none⟩,⟨some 5,.assign (.const (.int .i64 0)),none⟩]
def c90_r1 : List SOp := [⟨some 6,.move (.tmp 0),none⟩,⟨some 7,.move (.tmp 0),none⟩,⟨some 8,.nilCheck (.tmp 7),none⟩,⟨some 9,.fieldAddr 176 (.tmp 8) 2,none⟩,⟨some 10,.load 9 (.tmp 9),none⟩,⟨some 11,.move (.tmp 1),none⟩,⟨some 12,.buildSlice 25 1 #[(0, (.tmp 11))],none⟩,⟨some 13,.convert 25 9 (.tmp 12),none⟩,⟨some 14,.binOp .add 9 (.tmp 10) (.tmp 13) 9,none⟩,⟨some 15,.nilCheck (.tmp 6),none⟩,⟨some 16,.fieldAddr 176 (.tmp 15) 2,none⟩,⟨none,.store 9 (.tmp 16) (.tmp 14),none⟩]
def c90_r2 : List SOp := [⟨some 17,.move (.tmp 0),none⟩,⟨some 18,.call ⟨.value (.func 118), #[.tmp 17], #[109]⟩,none⟩,⟨some 19,.extract (.tmp 18) 0,none⟩,⟨some 20,.extract (.tmp 18) 1,none⟩,⟨some 4,.assign (.tmp 19),none⟩,⟨some 5,.assign (.tmp 20),none⟩]
def c90 : SC := (.seq (.reg c90_r0 none (some [0,1])) (.seq (.reg c90_r1 none (some [0])) (.seq (.reg c90_r2 none (some [4,5])) .ret)))
theorem c90_eq : ∃ code, Try.f90.body = some code ∧ compile H90 code = c90 := ⟨_, rfl, by kernel_rfl⟩
theorem c90_fn : Try.prog.funcs[90]? = some Try.f90 := by kernel_rfl
theorem c90_rs : Try.f90.results.toList = [.tmp 4, .tmp 5] := by kernel_rfl
theorem c90_ok : fnB Try.prog H90 Try.f90 = true := by kernel_rfl
theorem c90_nt : Try.f90.ntmps = 21 := by kernel_rfl

def H91 : Hint := ⟨[(11, [2]), (4, [0, 3, 4]), (9, [0, 3, 4, 5, 6]), (10, [0, 3, 4, 5, 6]), (2000048, [0, 3, 4, 5, 6]), (8, [0, 3, 4, 5, 6, 48]), (1000008, [0, 3, 4, 5, 6]), (7, [0, 3, 4, 5, 6]), (6, [0, 3, 4, 5]), (2000031, [0, 3, 4]), (5, [0, 3, 4, 31]), (2000013, [0, 3, 4]), (3, [0, 3, 4, 13]), (1000003, [0, 3, 4]), (2, [0, 3, 4]), (1, [0, 3]), (0, [0])], []⟩
def c91_r0 : List SOp := [⟨some 2,.assign (.const (.int .i64 0)),none⟩]
def c91_r1 : List SOp := [⟨some 3,.assign (.const (.int .i64 0)),none⟩]
def c91_r2 : List SOp := [⟨some 4,.assign (.const (.int .i64 0)),none⟩]
def c91_r3 : List SOp := [⟨some 7,.move (.tmp 4),none⟩,⟨some 8,.move (.tmp 0),none⟩,⟨some 9,.nilCheck (.tmp 8),none⟩,⟨some 10,.fieldAddr 176 (.tmp 9) 0,none⟩,⟨some 11,.load 89 (.tmp 10),none⟩,⟨some 12,.call ⟨.builtin .len, #[.tmp 11], #[89]⟩,none⟩,⟨some 13,.binOp .lss 3 (.tmp 7) (.tmp 12) 3,none⟩]
def c91_r5 : List SOp := [⟨some 16,.move (.tmp 0),none⟩,⟨some 17,.nilCheck (.tmp 16),none⟩,⟨some 18,.fieldAddr 176 (.tmp 17) 4,none⟩,⟨some 19,.load 68 (.tmp 18),none⟩,⟨some 20,.move (.tmp 4),none⟩,⟨some 21,.indexAddr 68 (.tmp 19) (.tmp 20),none⟩,⟨some 22,.load 4 (.tmp 21),none⟩,⟨some 23,.move (.tmp 22),none⟩,⟨some 24,.move (.tmp 0),some (some 23,false)⟩,⟨some 25,.nilCheck (.tmp 24),some (some 23,false)⟩,⟨some 26,.fieldAddr 176 (.tmp 25) 3,some (some 23,false)⟩,⟨some 27,.load 68 (.tmp 26),some (some 23,false)⟩,⟨some 28,.move (.tmp 4),some (some 23,false)⟩,⟨some 29,.indexAddr 68 (.tmp 27) (.tmp 28),some (some 23,false)⟩,⟨some 30,.load 4 (.tmp 29),some (some 23,false)⟩,⟨some 31,.pick (.tmp 23) (.const (.bool true)) (.tmp 30),none⟩]
def c91_r6 : List SOp := [⟨some 32,.move (.tmp 0),none⟩,⟨some 33,.nilCheck (.tmp 32),none⟩,⟨some 34,.fieldAddr 176 (.tmp 33) 0,none⟩,⟨some 35,.load 89 (.tmp 34),none⟩,⟨some 36,.move (.tmp 4),none⟩,⟨some 37,.indexAddr 89 (.tmp 35) (.tmp 36),none⟩,⟨some 38,.fieldAddr 107 (.tmp 37) 8,none⟩,⟨some 39,.load 42 (.tmp 38),none⟩,⟨some 40,.move (.tmp 0),none⟩,⟨some 41,.nilCheck (.tmp 40),none⟩,⟨some 42,.fieldAddr 176 (.tmp 41) 2,none⟩,⟨some 43,.load 9 (.tmp 42),none⟩,⟨some 44,.call ⟨.value (.func 107), #[.tmp 39,.tmp 43], #[42,9]⟩,none⟩,⟨some 5,.assign (.tmp 44),none⟩]
def c91_r7 : List SOp := [⟨some 6,.assign (.const (.int .i64 0)),none⟩]
def c91_r8 : List SOp := [⟨some 45,.move (.tmp 6),none⟩,⟨some 46,.move (.tmp 5),none⟩,⟨some 47,.call ⟨.builtin .len, #[.tmp 46], #[30]⟩,none⟩,⟨some 48,.binOp .lss 3 (.tmp 45) (.tmp 47) 3,none⟩]
def c91_r10 : List SOp := [⟨some 51,.move (.tmp 3),none⟩,⟨some 52,.move (.tmp 5),none⟩,⟨some 53,.move (.tmp 6),none⟩,⟨some 54,.indexAddr 30 (.tmp 52) (.tmp 53),none⟩,⟨some 55,.load 3 (.tmp 54),none⟩,⟨some 56,.call ⟨.builtin .max, #[.tmp 51,.tmp 55], #[3,3]⟩,none⟩,⟨some 3,.assign (.tmp 56),none⟩]
def c91_r9 : List SOp := [⟨some 49,.move (.tmp 6),none⟩,⟨some 50,.binOp .add 3 (.tmp 49) (.const (.int .i64 1)) 3,none⟩,⟨some 6,.assign (.tmp 50),none⟩]
def c91_l8 : SC := (.seq (.seq (.reg c91_r8 none (some [0,3,4,5,6,48])) (.cond (.tmp 48) .skip (.exit 2) (some [0,3,4,5,6]))) (.seq (.block 3 (.reg c91_r10 none (some [0,3,4,5,6]))) (.reg c91_r9 none (some [0,3,4,5,6]))))
def c91_r4 : List SOp := [⟨some 14,.move (.tmp 4),none⟩,⟨some 15,.binOp .add 3 (.tmp 14) (.const (.int .i64 1)) 3,none⟩,⟨some 4,.assign (.tmp 15),none⟩]
def c91_l3 : SC := (.seq (.seq (.reg c91_r3 none (some [0,3,4,13])) (.cond (.tmp 13) .skip (.exit 0) (some [0,3,4]))) (.seq (.block 1 (.seq (.seq (.reg c91_r5 none (some [0,3,4,31])) (.cond (.tmp 31) (.exit 1) .skip (some [0,3,4]))) (.seq (.reg c91_r6 none (some [0,3,4,5])) (.seq (.reg c91_r7 none (some [0,3,4,5,6])) (.block 2 (.loop c91_l8 (some [0,3,4,5,6]))))))) (.reg c91_r4 none (some [0,3,4]))))
def c91_r11 : List SOp := [⟨some 57,.move (.tmp 3),none⟩,⟨some 2,.assign (.tmp 57),none⟩]
def c91 : SC := (.seq (.reg c91_r0 none (some [0])) (.seq (.reg c91_r1 none (some [0,3])) (.seq (.seq (.reg c91_r2 none (some [0,3,4])) (.block 0 (.loop c91_l3 (some [0,3,4])))) (.seq (.reg c91_r11 none (some [2])) .ret))))
theorem c91_eq : ∃ code, Try.f91.body = some code ∧ compile H91 code = c91 := ⟨_, rfl, by kernel_rfl⟩
theorem c91_fn : Try.prog.funcs[91]? = some Try.f91 := by kernel_rfl
theorem c91_rs : Try.f91.results.toList = [.tmp 2] := by kernel_rfl
theorem c91_ok : fnB Try.prog H91 Try.f91 = true := by kernel_rfl
theorem c91_nt : Try.f91.ntmps = 58 := by kernel_rfl

def H92 : Hint := ⟨[(1, [4]), (0, [0, 1])], []⟩
def c92_r0 : List SOp := [⟨some 4,.assign (.const (.bool false)),none⟩]
def c92_r1 : List SOp := [⟨some 5,.move (.tmp 1),none⟩,⟨some 6,.binOp .lss 3 (.tmp 5) (.const (.int .i64 0)) 3,none⟩,⟨some 7,.move (.tmp 6),none⟩,⟨some 8,.move (.tmp 1),some (some 7,false)⟩,⟨some 9,.move (.tmp 0),some (some 7,false)⟩,⟨some 10,.nilCheck (.tmp 9),some (some 7,false)⟩,⟨some 11,.fieldAddr 116 (.tmp 10) 1,some (some 7,false)⟩,⟨some 12,.load 114 (.tmp 11),some (some 7,false)⟩,⟨some 13,.call ⟨.builtin .len, #[.tmp 12], #[114]⟩,some (some 7,false)⟩,⟨some 14,.binOp .geq 3 (.tmp 8) (.tmp 13) 3,some (some 7,false)⟩,⟨some 15,.pick (.tmp 7) (.const (.bool true)) (.tmp 14),none⟩,⟨some 4,.assign (.tmp 15),none⟩]
def c92 : SC := (.seq (.reg c92_r0 none (some [0,1])) (.seq (.reg c92_r1 none (some [4])) .ret))
theorem c92_eq : ∃ code, Try.f92.body = some code ∧ compile H92 code = c92 := ⟨_, rfl, by kernel_rfl⟩
theorem c92_fn : Try.prog.funcs[92]? = some Try.f92 := by kernel_rfl
theorem c92_rs : Try.f92.results.toList = [.tmp 4] := by kernel_rfl
theorem c92_ok : fnB Try.prog H92 Try.f92 = true := by kernel_rfl
theorem c92_nt : Try.f92.ntmps = 16 := by kernel_rfl

def H93 : Hint := ⟨[(3, [2]), (2, [2]), (2000004, [0]), (1, [0, 4]), (0, [0])], []⟩
def c93_r0 : List SOp := [⟨some 2,.assign (.const (.slice none 0 0)),none⟩]
def c93_r1 : List SOp := [⟨some 3,.move (.tmp 0),none⟩,⟨some 4,.binOp .eql 30 (.tmp 3) (.const (.slice none 0 0)) 30,none⟩]
def c93_r2 : List SOp := [⟨some 2,.assign (.const (.slice none 0 0)),none⟩]
def c93_r3 : List SOp := [⟨some 5,.buildSlice 30 0 #[],none⟩,⟨some 6,.move (.tmp 0),none⟩,⟨some 7,.call ⟨.builtin .append, #[.tmp 5,.tmp 6], #[30,30]⟩,none⟩,⟨some 2,.assign (.tmp 7),none⟩]
def c93 : SC := (.seq (.reg c93_r0 none (some [0])) (.seq (.seq (.reg c93_r1 none (some [0,4])) (.cond (.tmp 4) (.seq (.reg c93_r2 none (some [2])) .ret) .skip (some [0]))) (.seq (.reg c93_r3 none (some [2])) .ret)))
theorem c93_eq : ∃ code, Try.f93.body = some code ∧ compile H93 code = c93 := ⟨_, rfl, by kernel_rfl⟩
theorem c93_fn : Try.prog.funcs[93]? = some Try.f93 := by kernel_rfl
theorem c93_rs : Try.f93.results.toList = [.tmp 2] := by kernel_rfl
theorem c93_ok : fnB Try.prog H93 Try.f93 = true := by kernel_rfl
theorem c93_nt : Try.f93.ntmps = 8 := by kernel_rfl

def H94 : Hint := ⟨[(7, [6]), (6, [6]), (2000039, [2, 4, 9]), (5, [2, 4, 9, 39]), (4, [2, 4, 7, 8, 9]), (3, [2, 4, 7, 8]), (2000015, [2, 4, 7, 8]), (2, [2, 3, 4, 7, 8, 15]), (1, [2, 3, 4, 7, 8]), (0, [2, 3, 4])], [(3, [(1, 3)])]⟩
def c94_r0 : List SOp := [⟨some 3,.box 122 (.tmp 0),none⟩,⟨some 4,.box 52 (.tmp 1),none⟩,⟨some 6,.assign (.const (.bool false)),none⟩]
def c94_r1 : List SOp := [⟨some 10,.fieldAddr 122 (.tmp 3) 0,none⟩,⟨some 11,.load 9 (.tmp 10),none⟩,⟨some 12,.fieldAddr 52 (.tmp 4) 0,none⟩,⟨some 13,.load 9 (.tmp 12),none⟩,⟨some 7,.assign (.tmp 11),none⟩,⟨some 8,.assign (.tmp 13),none⟩]
def c94_r2 : List SOp := [⟨some 14,.fieldAddr 52 (.tmp 4) 1,none⟩,⟨some 15,.load 4 (.tmp 14),none⟩]
def c94_r3 : List SOp := [⟨some 16,.fieldAddr 122 (.tmp 3) 1,none⟩,⟨some 17,.load 9 (.tmp 16),none⟩,⟨some 18,.move (.tmp 8),none⟩,⟨some 19,.call ⟨.value (.func 59), #[.tmp 18], #[9]⟩,none⟩,⟨some 7,.assign (.tmp 17),none⟩,⟨some 8,.assign (.tmp 19),none⟩]
def c94_r4 : List SOp := [⟨some 20,.move (.tmp 2),none⟩,⟨some 21,.move (.tmp 8),none⟩,⟨some 22,.call ⟨.builtin .len, #[.tmp 21], #[9]⟩,none⟩,⟨some 23,.binOp .sub 3 (.tmp 20) (.tmp 22) 3,none⟩,⟨some 9,.assign (.tmp 23),none⟩]
def c94_r5 : List SOp := [⟨some 24,.move (.tmp 9),none⟩,⟨some 25,.binOp .lss 3 (.tmp 24) (.const (.int .i64 0)) 3,none⟩,⟨some 26,.move (.tmp 25),none⟩,⟨some 27,.move (.tmp 2),some (some 26,false)⟩,⟨some 28,.move (.tmp 7),some (some 26,false)⟩,⟨some 29,.call ⟨.builtin .len, #[.tmp 28], #[9]⟩,some (some 26,false)⟩,⟨some 30,.binOp .gtr 3 (.tmp 27) (.tmp 29) 3,some (some 26,false)⟩,⟨some 31,.pick (.tmp 26) (.const (.bool true)) (.tmp 30),none⟩,⟨some 32,.move (.tmp 31),none⟩,⟨some 33,.move (.tmp 7),some (some 32,false)⟩,⟨some 34,.move (.tmp 9),some (some 32,false)⟩,⟨some 35,.slice 9 (.tmp 33) (some (.tmp 34)) none none,some (some 32,false)⟩,⟨some 36,.move (.tmp 8),some (some 32,false)⟩,⟨some 37,.call ⟨.value (.func 119), #[.tmp 35,.tmp 36], #[9,9]⟩,some (some 32,false)⟩,⟨some 38,.unOp .not 4 (.tmp 37),some (some 32,false)⟩,⟨some 39,.pick (.tmp 32) (.const (.bool true)) (.tmp 38),none⟩]
def c94_r6 : List SOp := [⟨some 6,.assign (.const (.bool false)),none⟩]
def c94_r7 : List SOp := [⟨some 40,.fieldAddr 52 (.tmp 4) 5,none⟩,⟨some 41,.load 4 (.tmp 40),none⟩,⟨some 42,.move (.tmp 41),none⟩,⟨some 43,.move (.tmp 9),some (some 42,false)⟩,⟨some 44,.fieldAddr 52 (.tmp 4) 3,some (some 42,false)⟩,⟨some 45,.load 3 (.tmp 44),some (some 42,false)⟩,⟨some 46,.binOp .geq 3 (.tmp 43) (.tmp 45) 3,some (some 42,false)⟩,⟨some 47,.move (.tmp 46),some (some 42,false)⟩,⟨some 48,.fieldAddr 52 (.tmp 4) 4,some (some 47,true)⟩,⟨some 49,.load 3 (.tmp 48),some (some 47,true)⟩,⟨some 50,.binOp .leq 3 (.tmp 49) (.const (.int .i64 0)) 3,some (some 47,true)⟩,⟨some 51,.move (.tmp 50),some (some 47,true)⟩,⟨some 52,.move (.tmp 2),some (some 51,false)⟩,⟨some 53,.fieldAddr 52 (.tmp 4) 3,some (some 51,false)⟩,⟨some 54,.load 3 (.tmp 53),some (some 51,false)⟩,⟨some 55,.fieldAddr 52 (.tmp 4) 4,some (some 51,false)⟩,⟨some 56,.load 3 (.tmp 55),some (some 51,false)⟩,⟨some 57,.binOp .add 3 (.tmp 54) (.tmp 56) 3,some (some 51,false)⟩,⟨some 58,.binOp .leq 3 (.tmp 52) (.tmp 57) 3,some (some 51,false)⟩,⟨some 59,.pick (.tmp 51) (.const (.bool true)) (.tmp 58),some (some 47,true)⟩,⟨some 60,.pick (.tmp 47) (.tmp 59) (.const (.bool false)),some (some 42,false)⟩,⟨some 61,.pick (.tmp 42) (.const (.bool true)) (.tmp 60),none⟩,⟨some 6,.assign (.tmp 61),none⟩]
def c94 : SC := (.seq (.reg c94_r0 none (some [2,3,4])) (.seq (.reg c94_r1 none (some [2,3,4,7,8])) (.seq (.seq (.reg c94_r2 none (some [2,3,4,7,8,15])) (.cond (.tmp 15) (.reg c94_r3 (some [(1, 3)]) (some [2,4,7,8])) .skip (some [2,4,7,8]))) (.seq (.reg c94_r4 none (some [2,4,7,8,9])) (.seq (.seq (.reg c94_r5 none (some [2,4,9,39])) (.cond (.tmp 39) (.seq (.reg c94_r6 none (some [6])) .ret) .skip (some [2,4,9]))) (.seq (.reg c94_r7 none (some [6])) .ret))))))
theorem c94_eq : ∃ code, Try.f94.body = some code ∧ compile H94 code = c94 := ⟨_, rfl, by kernel_rfl⟩
theorem c94_fn : Try.prog.funcs[94]? = some Try.f94 := by kernel_rfl
theorem c94_rs : Try.f94.results.toList = [.tmp 6] := by kernel_rfl
theorem c94_ok : fnB Try.prog H94 Try.f94 = true := by kernel_rfl
theorem c94_nt : Try.f94.ntmps = 62 := by kernel_rfl

def H95 : Hint := ⟨[(8, [6]), (7, [1, 3, 10, 11, 12]), (6, [6]), (2000044, [1, 3, 10, 11, 12]), (5, [1, 3, 10, 11, 12, 44]), (4, [1, 3, 8, 9, 10, 11, 12]), (3, [1, 3, 8, 10, 11, 12]), (2000013, [1, 3, 10, 11, 12]), (2, [1, 3, 10, 11, 12, 13]), (1000002, [1, 3, 10, 11, 12]), (1, [1, 3, 10, 11, 12]), (0, [1, 2, 3])], []⟩
def c95_r0 : List SOp := [⟨some 3,.box 52 (.tmp 0),none⟩,⟨some 6,.assign (.const (.bool false)),none⟩]
def c95_r1 : List SOp := [⟨some 10,.move (.tmp 2),none⟩,⟨some 11,.call ⟨.builtin .len, #[.tmp 10], #[30]⟩,none⟩,⟨some 12,.move (.const (.int .i64 0)),none⟩]
def c95_r2 : List SOp := [⟨some 13,.binOp .lss 3 (.tmp 12) (.tmp 11) 3,none⟩]
def c95_r3 : List SOp := [⟨some 14,.indexAddr 30 (.tmp 10) (.tmp 12),none⟩,⟨some 15,.load 3 (.tmp 14),none⟩,⟨some 8,.assign (.tmp 15),none⟩]
def c95_r4 : List SOp := [⟨some 16,.move (.tmp 8),none⟩,⟨some 17,.fieldAddr 52 (.tmp 3) 6,none⟩,⟨some 18,.load 3 (.tmp 17),none⟩,⟨some 19,.binOp .add 3 (.tmp 16) (.tmp 18) 3,none⟩,⟨some 9,.assign (.tmp 19),none⟩]
def c95_r5 : List SOp := [⟨some 20,.move (.tmp 8),none⟩,⟨some 21,.move (.tmp 1),none⟩,⟨some 22,.binOp .leq 3 (.tmp 20) (.tmp 21) 3,none⟩,⟨some 23,.move (.tmp 22),none⟩,⟨some 24,.move (.tmp 1),some (some 23,true)⟩,⟨some 25,.fieldAddr 52 (.tmp 3) 0,some (some 23,true)⟩,⟨some 26,.load 9 (.tmp 25),some (some 23,true)⟩,⟨some 27,.call ⟨.builtin .len, #[.tmp 26], #[9]⟩,some (some 23,true)⟩,⟨some 28,.binOp .sub 3 (.tmp 24) (.tmp 27) 3,some (some 23,true)⟩,⟨some 29,.move (.tmp 9),some (some 23,true)⟩,⟨some 30,.binOp .geq 3 (.tmp 28) (.tmp 29) 3,some (some 23,true)⟩,⟨some 31,.pick (.tmp 23) (.tmp 30) (.const (.bool false)),none⟩,⟨some 32,.move (.tmp 31),none⟩,⟨some 33,.fieldAddr 52 (.tmp 3) 7,some (some 32,true)⟩,⟨some 34,.load 3 (.tmp 33),some (some 32,true)⟩,⟨some 35,.binOp .leq 3 (.tmp 34) (.const (.int .i64 0)) 3,some (some 32,true)⟩,⟨some 36,.move (.tmp 35),some (some 32,true)⟩,⟨some 37,.move (.tmp 1),some (some 36,false)⟩,⟨some 38,.move (.tmp 9),some (some 36,false)⟩,⟨some 39,.fieldAddr 52 (.tmp 3) 7,some (some 36,false)⟩,⟨some 40,.load 3 (.tmp 39),some (some 36,false)⟩,⟨some 41,.binOp .add 3 (.tmp 38) (.tmp 40) 3,some (some 36,false)⟩,⟨some 42,.binOp .leq 3 (.tmp 37) (.tmp 41) 3,some (some 36,false)⟩,⟨some 43,.pick (.tmp 36) (.const (.bool true)) (.tmp 42),some (some 32,true)⟩,⟨some 44,.pick (.tmp 32) (.tmp 43) (.const (.bool false)),none⟩]
def c95_r6 : List SOp := [⟨some 6,.assign (.const (.bool true)),none⟩]
def c95_r7 : List SOp := [⟨some 45,.binOp .add 3 (.tmp 12) (.const (.int .i64 1)) 3,none⟩,⟨some 12,.move (.tmp 45),none⟩]
def c95_l2 : SC := (.seq (.reg c95_r2 none (some [1,3,10,11,12,13])) (.seq (.cond (.tmp 13) .skip (.exit 0) (some [1,3,10,11,12])) (.seq (.block 1 (.seq (.reg c95_r3 none (some [1,3,8,10,11,12])) (.seq (.reg c95_r4 none (some [1,3,8,9,10,11,12])) (.seq (.reg c95_r5 none (some [1,3,10,11,12,44])) (.cond (.tmp 44) (.seq (.reg c95_r6 none (some [6])) .ret) .skip (some [1,3,10,11,12])))))) (.reg c95_r7 none (some [1,3,10,11,12])))))
def c95_r8 : List SOp := [⟨some 6,.assign (.const (.bool false)),none⟩]
def c95 : SC := (.seq (.reg c95_r0 none (some [1,2,3])) (.seq (.seq (.reg c95_r1 none (some [1,3,10,11,12])) (.block 0 (.loop c95_l2 (some [1,3,10,11,12])))) (.seq (.reg c95_r8 none (some [6])) .ret)))
theorem c95_eq : ∃ code, Try.f95.body = some code ∧ compile H95 code = c95 := ⟨_, rfl, by kernel_rfl⟩
theorem c95_fn : Try.prog.funcs[95]? = some Try.f95 := by kernel_rfl
theorem c95_rs : Try.f95.results.toList = [.tmp 6] := by kernel_rfl
theorem c95_ok : fnB Try.prog H95 Try.f95 = true := by kernel_rfl
theorem c95_nt : Try.f95.ntmps = 46 := by kernel_rfl

def H96 : Hint := ⟨[(3, [6]), (2, [6]), (2000014, [2, 3]), (1, [2, 3, 14]), (0, [1, 2, 3])], []⟩
def c96_r0 : List SOp := [⟨some 3,.box 52 (.tmp 0),none⟩,⟨some 6,.assign (.const (.bool false)),none⟩]
def c96_r1 : List SOp := [⟨some 7,.fieldAddr 52 (.tmp 3) 0,none⟩,⟨some 8,.load 9 (.tmp 7),none⟩,⟨some 9,.fieldAddr 52 (.tmp 3) 1,none⟩,⟨some 10,.load 4 (.tmp 9),none⟩,⟨some 11,.move (.tmp 1),none⟩,⟨some 12,.move (.tmp 2),none⟩,⟨some 13,.call ⟨.value (.func 57), #[.tmp 8,.tmp 10,.tmp 11,.tmp 12], #[9,4,9,3]⟩,none⟩,⟨some 14,.unOp .not 4 (.tmp 13),none⟩]
def c96_r2 : List SOp := [⟨some 6,.assign (.const (.bool false)),none⟩]
def c96_r3 : List SOp := [⟨some 15,.fieldAddr 52 (.tmp 3) 5,none⟩,⟨some 16,.load 4 (.tmp 15),none⟩,⟨some 17,.move (.tmp 16),none⟩,⟨some 18,.move (.tmp 2),some (some 17,false)⟩,⟨some 19,.fieldAddr 52 (.tmp 3) 0,some (some 17,false)⟩,⟨some 20,.load 9 (.tmp 19),some (some 17,false)⟩,⟨some 21,.call ⟨.builtin .len, #[.tmp 20], #[9]⟩,some (some 17,false)⟩,⟨some 22,.binOp .sub 3 (.tmp 18) (.tmp 21) 3,some (some 17,false)⟩,⟨some 23,.fieldAddr 52 (.tmp 3) 3,some (some 17,false)⟩,⟨some 24,.load 3 (.tmp 23),some (some 17,false)⟩,⟨some 25,.binOp .geq 3 (.tmp 22) (.tmp 24) 3,some (some 17,false)⟩,⟨some 26,.move (.tmp 25),some (some 17,false)⟩,⟨some 27,.fieldAddr 52 (.tmp 3) 4,some (some 26,true)⟩,⟨some 28,.load 3 (.tmp 27),some (some 26,true)⟩,⟨some 29,.binOp .leq 3 (.tmp 28) (.const (.int .i64 0)) 3,some (some 26,true)⟩,⟨some 30,.move (.tmp 29),some (some 26,true)⟩,⟨some 31,.move (.tmp 2),some (some 30,false)⟩,⟨some 32,.fieldAddr 52 (.tmp 3) 3,some (some 30,false)⟩,⟨some 33,.load 3 (.tmp 32),some (some 30,false)⟩,⟨some 34,.binOp .sub 3 (.tmp 31) (.tmp 33) 3,some (some 30,false)⟩,⟨some 35,.fieldAddr 52 (.tmp 3) 4,some (some 30,false)⟩,⟨some 36,.load 3 (.tmp 35),some (some 30,false)⟩,⟨some 37,.binOp .leq 3 (.tmp 34) (.tmp 36) 3,some (some 30,false)⟩,⟨some 38,.pick (.tmp 30) (.const (.bool true)) (.tmp 37),some (some 26,true)⟩,⟨some 39,.pick (.tmp 26) (.tmp 38) (.const (.bool false)),some (some 17,false)⟩,⟨some 40,.pick (.tmp 17) (.const (.bool true)) (.tmp 39),none⟩,⟨some 6,.assign (.tmp 40),none⟩]
def c96 : SC := (.seq (.reg c96_r0 none (some [1,2,3])) (.seq (.seq (.reg c96_r1 none (some [2,3,14])) (.cond (.tmp 14) (.seq (.reg c96_r2 none (some [6])) .ret) .skip (some [2,3]))) (.seq (.reg c96_r3 none (some [6])) .ret)))
theorem c96_eq : ∃ code, Try.f96.body = some code ∧ compile H96 code = c96 := ⟨_, rfl, by kernel_rfl⟩
theorem c96_fn : Try.prog.funcs[96]? = some Try.f96 := by kernel_rfl
theorem c96_rs : Try.f96.results.toList = [.tmp 6] := by kernel_rfl
theorem c96_ok : fnB Try.prog H96 Try.f96 = true := by kernel_rfl
theorem c96_nt : Try.f96.ntmps = 41 := by kernel_rfl

def H97 : Hint := ⟨[(1, [6]), (0, [1, 2, 3])], []⟩
def c97_r0 : List SOp := [⟨some 3,.box 52 (.tmp 0),none⟩,⟨some 6,.assign (.const (.bool false)),none⟩]
def c97_r1 : List SOp := [⟨some 7,.move (.tmp 1),none⟩,⟨some 8,.move (.tmp 2),none⟩,⟨some 9,.binOp .leq 3 (.tmp 7) (.tmp 8) 3,none⟩,⟨some 10,.move (.tmp 9),none⟩,⟨some 11,.move (.tmp 2),some (some 10,true)⟩,⟨some 12,.fieldAddr 52 (.tmp 3) 0,some (some 10,true)⟩,⟨some 13,.load 9 (.tmp 12),some (some 10,true)⟩,⟨some 14,.call ⟨.builtin .len, #[.tmp 13], #[9]⟩,some (some 10,true)⟩,⟨some 15,.binOp .sub 3 (.tmp 11) (.tmp 14) 3,some (some 10,true)⟩,⟨some 16,.move (.tmp 1),some (some 10,true)⟩,⟨some 17,.binOp .sub 3 (.tmp 15) (.tmp 16) 3,some (some 10,true)⟩,⟨some 18,.fieldAddr 52 (.tmp 3) 6,some (some 10,true)⟩,⟨some 19,.load 3 (.tmp 18),some (some 10,true)⟩,⟨some 20,.binOp .geq 3 (.tmp 17) (.tmp 19) 3,some (some 10,true)⟩,⟨some 21,.pick (.tmp 10) (.tmp 20) (.const (.bool false)),none⟩,⟨some 22,.move (.tmp 21),none⟩,⟨some 23,.fieldAddr 52 (.tmp 3) 7,some (some 22,true)⟩,⟨some 24,.load 3 (.tmp 23),some (some 22,true)⟩,⟨some 25,.binOp .leq 3 (.tmp 24) (.const (.int .i64 0)) 3,some (some 22,true)⟩,⟨some 26,.move (.tmp 25),some (some 22,true)⟩,⟨some 27,.move (.tmp 2),some (some 26,false)⟩,⟨some 28,.move (.tmp 1),some (some 26,false)⟩,⟨some 29,.binOp .sub 3 (.tmp 27) (.tmp 28) 3,some (some 26,false)⟩,⟨some 30,.fieldAddr 52 (.tmp 3) 6,some (some 26,false)⟩,⟨some 31,.load 3 (.tmp 30),some (some 26,false)⟩,⟨some 32,.binOp .sub 3 (.tmp 29) (.tmp 31) 3,some (some 26,false)⟩,⟨some 33,.fieldAddr 52 (.tmp 3) 7,some (some 26,false)⟩,⟨some 34,.load 3 (.tmp 33),some (some 26,false)⟩,⟨some 35,.binOp .leq 3 (.tmp 32) (.tmp 34) 3,some (some 26,false)⟩,⟨some 36,.pick (.tmp 26) (.const (.bool true)) (.tmp 35),some (some 22,true)⟩,⟨some 37,.pick (.tmp 22) (.tmp 36) (.const (.bool false)),none⟩,⟨some 6,.assign (.tmp 37),none⟩]
def c97 : SC := (.seq (.reg c97_r0 none (some [1,2,3])) (.seq (.reg c97_r1 none (some [6])) .ret))
theorem c97_eq : ∃ code, Try.f97.body = some code ∧ compile H97 code = c97 := ⟨_, rfl, by kernel_rfl⟩
theorem c97_fn : Try.prog.funcs[97]? = some Try.f97 := by kernel_rfl
theorem c97_rs : Try.f97.results.toList = [.tmp 6] := by kernel_rfl
theorem c97_ok : fnB Try.prog H97 Try.f97 = true := by kernel_rfl
theorem c97_nt : Try.f97.ntmps = 38 := by kernel_rfl

def H98 : Hint := ⟨[(12, [4, 5]), (11, [0, 6, 16, 17]), (10, [0, 6, 7, 16, 17, 20, 21, 22]), (9, [4, 5]), (2000033, [0, 6, 7, 16, 17, 20, 21, 22]), (8, [0, 6, 7, 16, 17, 20, 21, 22, 33]), (7, [0, 6, 7, 9, 16, 17, 20, 21, 22]), (2000023, [0, 6, 7, 16, 17, 20, 21, 22]), (6, [0, 6, 7, 16, 17, 20, 21, 22, 23]), (1000006, [0, 6, 7, 16, 17, 20, 21, 22]), (5, [0, 6, 7, 16, 17, 20, 21, 22]), (4, [0, 6, 7, 16, 17]), (2000018, [0, 6, 16, 17]), (3, [0, 6, 16, 17, 18]), (1000003, [0, 6, 16, 17]), (2, [0, 6, 16, 17]), (1, [0, 1, 6]), (0, [0, 1])], []⟩
def c98_r0 : List SOp := [⟨some 4,.assign (.const (.int .i64 0)),none⟩,⟨some 5,.assign (.const (.bool false)),none⟩]
def c98_r1 : List SOp := [⟨some 10,.move (.tmp 1),none⟩,⟨some 11,.move (.tmp 1),none⟩,⟨some 12,.call ⟨.value (.func 59), #[.tmp 11], #[9]⟩,none⟩,⟨some 13,.build 122 #[(0, (.tmp 10)), (1, (.tmp 12))],none⟩,⟨some 6,.alloc 122,none⟩,⟨none,.store 122 (.tmp 6) (.tmp 13),none⟩]
def c98_r2 : List SOp := [⟨some 14,.move (.tmp 1),none⟩,⟨some 15,.call ⟨.builtin .len, #[.tmp 14], #[9]⟩,none⟩,⟨some 16,.binOp .add 3 (.tmp 15) (.const (.int .i64 1)) 3,none⟩,⟨some 17,.move (.const (.int .i64 0)),none⟩]
def c98_r3 : List SOp := [⟨some 18,.binOp .lss 3 (.tmp 17) (.tmp 16) 3,none⟩]
def c98_r4 : List SOp := [⟨some 19,.move (.tmp 17),none⟩,⟨some 7,.assign (.tmp 19),none⟩]
def c98_r5 : List SOp := [⟨some 20,.move (.tmp 0),none⟩,⟨some 21,.call ⟨.builtin .len, #[.tmp 20], #[42]⟩,none⟩,⟨some 22,.move (.const (.int .i64 0)),none⟩]
def c98_r6 : List SOp := [⟨some 23,.binOp .lss 3 (.tmp 22) (.tmp 21) 3,none⟩]
def c98_r7 : List SOp := [⟨some 24,.indexAddr 42 (.tmp 20) (.tmp 22),none⟩,⟨some 25,.load 52 (.tmp 24),none⟩,⟨some 9,.alloc 52,none⟩,⟨none,.store 52 (.tmp 9) (.tmp 25),none⟩]
def c98_r8 : List SOp := [⟨some 26,.fieldAddr 52 (.tmp 9) 2,none⟩,⟨some 27,.load 4 (.tmp 26),none⟩,⟨some 28,.move (.tmp 27),none⟩,⟨some 29,.load 122 (.tmp 6),some (some 28,true)⟩,⟨some 30,.load 52 (.tmp 9),some (some 28,true)⟩,⟨some 31,.move (.tmp 7),some (some 28,true)⟩,⟨some 32,.call ⟨.value (.func 94), #[.tmp 29,.tmp 30,.tmp 31], #[122,52,3]⟩,some (some 28,true)⟩,⟨some 33,.pick (.tmp 28) (.tmp 32) (.const (.bool false)),none⟩]
def c98_r9 : List SOp := [⟨some 34,.move (.tmp 7),none⟩,⟨some 4,.assign (.tmp 34),none⟩,⟨some 5,.assign (.const (.bool true)),none⟩]
def c98_r10 : List SOp := [⟨some 35,.binOp .add 3 (.tmp 22) (.const (.int .i64 1)) 3,none⟩,⟨some 22,.move (.tmp 35),none⟩]
def c98_l6 : SC := (.seq (.reg c98_r6 none (some [0,6,7,16,17,20,21,22,23])) (.seq (.cond (.tmp 23) .skip (.exit 2) (some [0,6,7,16,17,20,21,22])) (.seq (.block 3 (.seq (.reg c98_r7 none (some [0,6,7,9,16,17,20,21,22])) (.seq (.reg c98_r8 none (some [0,6,7,16,17,20,21,22,33])) (.cond (.tmp 33) (.seq (.reg c98_r9 none (some [4,5])) .ret) .skip (some [0,6,7,16,17,20,21,22]))))) (.reg c98_r10 none (some [0,6,7,16,17,20,21,22])))))
def c98_r11 : List SOp := [⟨some 36,.binOp .add 3 (.tmp 17) (.const (.int .i64 1)) 3,none⟩,⟨some 17,.move (.tmp 36),none⟩]
def c98_l3 : SC := (.seq (.reg c98_r3 none (some [0,6,16,17,18])) (.seq (.cond (.tmp 18) .skip (.exit 0) (some [0,6,16,17])) (.seq (.block 1 (.seq (.reg c98_r4 none (some [0,6,7,16,17])) (.seq (.reg c98_r5 none (some [0,6,7,16,17,20,21,22])) (.block 2 (.loop c98_l6 (some [0,6,7,16,17,20,21,22])))))) (.reg c98_r11 none (some [0,6,16,17])))))
def c98_r12 : List SOp := [⟨some 4,.assign (.const (.int .i64 0)),none⟩,⟨some 5,.assign (.const (.bool false)),none⟩]
def c98 : SC := (.seq (.reg c98_r0 none (some [0,1])) (.seq (.reg c98_r1 none (some [0,1,6])) (.seq (.seq (.reg c98_r2 none (some [0,6,16,17])) (.block 0 (.loop c98_l3 (some [0,6,16,17])))) (.seq (.reg c98_r12 none (some [4,5])) .ret))))
theorem c98_eq : ∃ code, Try.f98.body = some code ∧ compile H98 code = c98 := ⟨_, rfl, by kernel_rfl⟩
theorem c98_fn : Try.prog.funcs[98]? = some Try.f98 := by kernel_rfl
theorem c98_rs : Try.f98.results.toList = [.tmp 4, .tmp 5] := by kernel_rfl
theorem c98_ok : fnB Try.prog H98 Try.f98 = true := by kernel_rfl
theorem c98_nt : Try.f98.ntmps = 37 := by kernel_rfl

def H99 : Hint := ⟨[(9, [4]), (3, [0, 1, 5]), (6, [0, 1, 5, 6]), (8, [4]), (2000032, [0, 1, 5, 6]), (7, [0, 1, 5, 6, 32]), (2000023, [0, 1, 5, 6]), (5, [0, 1, 5, 6, 23]), (1000005, [0, 1, 5, 6]), (4, [0, 1, 5, 6]), (2000010, [0, 1, 5]), (2, [0, 1, 5, 10]), (1000002, [0, 1, 5]), (1, [0, 1, 5]), (0, [0, 1])], []⟩
def c99_r0 : List SOp := [⟨some 4,.assign (.const (.bool false)),none⟩]
def c99_r1 : List SOp := [⟨some 5,.assign (.const (.int .i64 0)),none⟩]
def c99_r2 : List SOp := [⟨some 7,.move (.tmp 5),none⟩,⟨some 8,.move (.tmp 0),none⟩,⟨some 9,.call ⟨.builtin .len, #[.tmp 8], #[42]⟩,none⟩,⟨some 10,.binOp .lss 3 (.tmp 7) (.tmp 9) 3,none⟩]
def c99_r4 : List SOp := [⟨some 6,.assign (.const (.int .i64 0)),none⟩]
def c99_r5 : List SOp := [⟨some 13,.move (.tmp 6),none⟩,⟨some 14,.move (.tmp 1),none⟩,⟨some 15,.call ⟨.builtin .len, #[.tmp 14], #[9]⟩,none⟩,⟨some 16,.binOp .leq 3 (.tmp 13) (.tmp 15) 3,none⟩,⟨some 17,.move (.tmp 16),none⟩,⟨some 18,.move (.tmp 0),some (some 17,true)⟩,⟨some 19,.move (.tmp 5),some (some 17,true)⟩,⟨some 20,.indexAddr 42 (.tmp 18) (.tmp 19),some (some 17,true)⟩,⟨some 21,.fieldAddr 52 (.tmp 20) 2,some (some 17,true)⟩,⟨some 22,.load 4 (.tmp 21),some (some 17,true)⟩,⟨some 23,.pick (.tmp 17) (.tmp 22) (.const (.bool false)),none⟩]
def c99_r7 : List SOp := [⟨some 26,.move (.tmp 0),none⟩,⟨some 27,.move (.tmp 5),none⟩,⟨some 28,.indexAddr 42 (.tmp 26) (.tmp 27),none⟩,⟨some 29,.load 52 (.tmp 28),none⟩,⟨some 30,.move (.tmp 1),none⟩,⟨some 31,.move (.tmp 6),none⟩,⟨some 32,.call ⟨.value (.func 96), #[.tmp 29,.tmp 30,.tmp 31], #[52,9,3]⟩,none⟩]
def c99_r8 : List SOp := [⟨some 4,.assign (.const (.bool false)),none⟩]
def c99_r6 : List SOp := [⟨some 24,.move (.tmp 6),none⟩,⟨some 25,.binOp .add 3 (.tmp 24) (.const (.int .i64 1)) 3,none⟩,⟨some 6,.assign (.tmp 25),none⟩]
def c99_l5 : SC := (.seq (.seq (.reg c99_r5 none (some [0,1,5,6,23])) (.cond (.tmp 23) .skip (.exit 2) (some [0,1,5,6]))) (.seq (.block 3 (.seq (.reg c99_r7 none (some [0,1,5,6,32])) (.cond (.tmp 32) (.seq (.reg c99_r8 none (some [4])) .ret) .skip (some [0,1,5,6])))) (.reg c99_r6 none (some [0,1,5,6]))))
def c99_r3 : List SOp := [⟨some 11,.move (.tmp 5),none⟩,⟨some 12,.binOp .add 3 (.tmp 11) (.const (.int .i64 1)) 3,none⟩,⟨some 5,.assign (.tmp 12),none⟩]
def c99_l2 : SC := (.seq (.seq (.reg c99_r2 none (some [0,1,5,10])) (.cond (.tmp 10) .skip (.exit 0) (some [0,1,5]))) (.seq (.block 1 (.seq (.reg c99_r4 none (some [0,1,5,6])) (.block 2 (.loop c99_l5 (some [0,1,5,6]))))) (.reg c99_r3 none (some [0,1,5]))))
def c99_r9 : List SOp := [⟨some 4,.assign (.const (.bool true)),none⟩]
def c99 : SC := (.seq (.reg c99_r0 none (some [0,1])) (.seq (.seq (.reg c99_r1 none (some [0,1,5])) (.block 0 (.loop c99_l2 (some [0,1,5])))) (.seq (.reg c99_r9 none (some [4])) .ret)))
theorem c99_eq : ∃ code, Try.f99.body = some code ∧ compile H99 code = c99 := ⟨_, rfl, by kernel_rfl⟩
theorem c99_fn : Try.prog.funcs[99]? = some Try.f99 := by kernel_rfl
theorem c99_rs : Try.f99.results.toList = [.tmp 4] := by kernel_rfl
theorem c99_ok : fnB Try.prog H99 Try.f99 = true := by kernel_rfl
theorem c99_nt : Try.f99.ntmps = 33 := by kernel_rfl

def H100 : Hint := ⟨[(18, [6]), (17, [0, 1, 2, 7, 8, 69]), (16, [0, 1, 2, 7, 8, 69]), (15, [0, 1, 2, 7, 8, 10, 69]), (14, [0, 1, 2, 7, 8, 9, 10, 69]), (2000083, [0, 1, 2, 7, 8, 9, 10, 69]), (13, [0, 1, 2, 7, 8, 9, 10, 69, 83]), (2000081, [0, 1, 2, 7, 8, 9, 10, 69]), (12, [0, 1, 2, 7, 8, 9, 10, 69, 81]), (11, [0, 1, 2, 7, 8, 9, 10, 11, 69]), (10, [0, 1, 2, 7, 8, 9, 69]), (2000070, [0, 1, 2, 7, 8, 69]), (9, [0, 1, 2, 7, 8, 69, 70]), (1000009, [0, 1, 2, 7, 8, 69]), (8, [0, 1, 2, 7, 8, 69]), (7, [0, 1, 2, 7, 8]), (5, [0, 1, 2, 7]), (4, [0, 1, 2, 7]), (3, [0, 1, 2, 7]), (6, [0, 1, 2, 7]), (2000020, [0, 1, 2, 7]), (2, [0, 1, 2, 7, 20]), (1, [0, 1, 2, 7]), (0, [0, 1, 2])], [(4, [(3, 12), (3, 15), (3, 16)]), (6, [(3, 7)])]⟩
def c100_r0 : List SOp := [⟨some 6,.assign (.const (.slice none 0 0)),none⟩]
def c100_r1 : List SOp := [⟨some 12,.move (.tmp 0),none⟩,⟨some 13,.nilCheck (.tmp 12),none⟩,⟨some 14,.fieldAddr 129 (.tmp 13) 1,none⟩,⟨some 15,.load 30 (.tmp 14),none⟩,⟨some 16,.move (.tmp 2),none⟩,⟨some 17,.indexAddr 30 (.tmp 15) (.tmp 16),none⟩,⟨some 18,.load 3 (.tmp 17),none⟩,⟨some 7,.assign (.tmp 18),none⟩]
def c100_r2 : List SOp := [⟨some 19,.move (.tmp 2),none⟩,⟨some 20,.binOp .gtr 3 (.tmp 19) (.const (.int .i64 0)) 3,none⟩]
def c100_r3 : List SOp := [⟨some 21,.move (.tmp 0),none⟩,⟨some 22,.nilCheck (.tmp 21),none⟩,⟨some 23,.fieldAddr 129 (.tmp 22) 0,none⟩,⟨some 24,.load 127 (.tmp 23),none⟩,⟨some 25,.move (.tmp 2),none⟩,⟨some 26,.move (.tmp 0),none⟩,⟨some 27,.nilCheck (.tmp 26),none⟩,⟨some 28,.fieldAddr 129 (.tmp 27) 0,none⟩,⟨some 29,.load 127 (.tmp 28),none⟩,⟨some 30,.move (.tmp 7),none⟩,⟨some 31,.indexAddr 127 (.tmp 29) (.tmp 30),none⟩,⟨some 32,.load 132 (.tmp 31),none⟩,⟨some 33,.indexAddr 127 (.tmp 24) (.tmp 25),none⟩,⟨none,.store 132 (.tmp 33) (.tmp 32),none⟩]
def c100_r4 : List SOp := [⟨some 34,.move (.tmp 0),none⟩,⟨some 35,.nilCheck (.tmp 34),none⟩,⟨some 36,.fieldAddr 129 (.tmp 35) 2,none⟩,⟨some 37,.load 44 (.tmp 36),none⟩,⟨some 38,.move (.tmp 2),none⟩,⟨some 39,.move (.tmp 0),none⟩,⟨some 40,.nilCheck (.tmp 39),none⟩,⟨some 41,.fieldAddr 129 (.tmp 40) 2,none⟩,⟨some 42,.load 44 (.tmp 41),none⟩,⟨some 43,.move (.tmp 7),none⟩,⟨some 44,.indexAddr 44 (.tmp 42) (.tmp 43),none⟩,⟨some 45,.load 30 (.tmp 44),none⟩,⟨some 46,.call ⟨.value (.func 93), #[.tmp 45], #[30]⟩,none⟩,⟨some 47,.move (.tmp 1),none⟩,⟨some 48,.move (.tmp 2),none⟩,⟨some 49,.call ⟨.value (.func 34), #[.tmp 47,.tmp 48], #[23,3]⟩,none⟩,⟨some 50,.call ⟨.builtin .append, #[.tmp 46,.tmp 49], #[30,30]⟩,none⟩,⟨some 51,.indexAddr 44 (.tmp 37) (.tmp 38),none⟩,⟨none,.store 30 (.tmp 51) (.tmp 50),none⟩]
def c100_r5 : List SOp := [⟨some 52,.move (.tmp 0),none⟩,⟨some 53,.nilCheck (.tmp 52),none⟩,⟨some 54,.fieldAddr 129 (.tmp 53) 2,none⟩,⟨some 55,.load 44 (.tmp 54),none⟩,⟨some 56,.move (.tmp 2),none⟩,⟨some 57,.indexAddr 44 (.tmp 55) (.tmp 56),none⟩,⟨some 58,.load 30 (.tmp 57),none⟩,⟨some 59,.call ⟨.value (.func 120), #[.tmp 58], #[30]⟩,none⟩]
def c100_r6 : List SOp := [⟨some 60,.move (.tmp 0),none⟩,⟨some 61,.nilCheck (.tmp 60),none⟩,⟨some 62,.fieldAddr 129 (.tmp 61) 2,none⟩,⟨some 63,.load 44 (.tmp 62),none⟩,⟨some 64,.move (.tmp 2),none⟩,⟨some 65,.move (.tmp 1),none⟩,⟨some 66,.move (.tmp 2),none⟩,⟨some 67,.call ⟨.value (.func 34), #[.tmp 65,.tmp 66], #[23,3]⟩,none⟩,⟨some 68,.indexAddr 44 (.tmp 63) (.tmp 64),none⟩,⟨none,.store 30 (.tmp 68) (.tmp 67),none⟩]
def c100_r7 : List SOp := [⟨some 8,.assign (.const (.slice none 0 0)),none⟩]
def c100_r8 : List SOp := [⟨some 69,.move (.const (.int .i64 0)),none⟩]
def c100_r9 : List SOp := [⟨some 70,.binOp .lss 3 (.tmp 69) (.const (.int .i64 256)) 3,none⟩]
def c100_r10 : List SOp := [⟨some 71,.move (.tmp 69),none⟩,⟨some 9,.assign (.tmp 71),none⟩]
def c100_r11 : List SOp := [⟨some 73,.move (.tmp 1),none⟩,⟨some 74,.move (.tmp 2),none⟩,⟨some 75,.move (.tmp 9),none⟩,⟨some 76,.convert 3 5 (.tmp 75),none⟩,⟨some 77,.call ⟨.value (.func 33), #[.tmp 73,.tmp 74,.tmp 76], #[23,3,5]⟩,none⟩,⟨some 72,.move (.tmp 77),none⟩,⟨some 78,.extract (.tmp 72) 0,none⟩,⟨some 79,.extract (.tmp 72) 1,none⟩,⟨some 10,.assign (.tmp 78),none⟩,⟨some 11,.assign (.tmp 79),none⟩]
def c100_r12 : List SOp := [⟨some 80,.move (.tmp 11),none⟩,⟨some 81,.unOp .not 4 (.tmp 80),none⟩]
def c100_r13 : List SOp := [⟨some 82,.move (.tmp 2),none⟩,⟨some 83,.binOp .gtr 3 (.tmp 82) (.const (.int .i64 0)) 3,none⟩]
def c100_r14 : List SOp := [⟨some 84,.move (.tmp 0),none⟩,⟨some 85,.nilCheck (.tmp 84),none⟩,⟨some 86,.fieldAddr 129 (.tmp 85) 1,none⟩,⟨some 87,.load 30 (.tmp 86),none⟩,⟨some 88,.move (.tmp 10),none⟩,⟨some 89,.move (.tmp 0),none⟩,⟨some 90,.nilCheck (.tmp 89),none⟩,⟨some 91,.fieldAddr 129 (.tmp 90) 0,none⟩,⟨some 92,.load 127 (.tmp 91),none⟩,⟨some 93,.move (.tmp 7),none⟩,⟨some 94,.move (.tmp 9),none⟩,⟨some 95,.indexAddr 127 (.tmp 92) (.tmp 93),none⟩,⟨some 96,.indexAddr 132 (.tmp 95) (.tmp 94),none⟩,⟨some 97,.load 131 (.tmp 96),none⟩,⟨some 98,.convert 131 3 (.tmp 97),none⟩,⟨some 99,.indexAddr 30 (.tmp 87) (.tmp 88),none⟩,⟨none,.store 3 (.tmp 99) (.tmp 98),none⟩]
def c100_r15 : List SOp := [⟨some 100,.move (.tmp 0),none⟩,⟨some 101,.nilCheck (.tmp 100),none⟩,⟨some 102,.fieldAddr 129 (.tmp 101) 0,none⟩,⟨some 103,.load 127 (.tmp 102),none⟩,⟨some 104,.move (.tmp 2),none⟩,⟨some 105,.move (.tmp 9),none⟩,⟨some 106,.move (.tmp 10),none⟩,⟨some 107,.convert 3 131 (.tmp 106),none⟩,⟨some 108,.indexAddr 127 (.tmp 103) (.tmp 104),none⟩,⟨some 109,.indexAddr 132 (.tmp 108) (.tmp 105),none⟩,⟨none,.store 131 (.tmp 109) (.tmp 107),none⟩]
def c100_r16 : List SOp := [⟨some 110,.move (.tmp 8),none⟩,⟨some 111,.move (.tmp 10),none⟩,⟨some 112,.buildSlice 30 1 #[(0, (.tmp 111))],none⟩,⟨some 113,.call ⟨.builtin .append, #[.tmp 110,.tmp 112], #[30,30]⟩,none⟩,⟨some 8,.assign (.tmp 113),none⟩]
def c100_r17 : List SOp := [⟨some 114,.binOp .add 3 (.tmp 69) (.const (.int .i64 1)) 3,none⟩,⟨some 69,.move (.tmp 114),none⟩]
def c100_l9 : SC := (.seq (.reg c100_r9 none (some [0,1,2,7,8,69,70])) (.seq (.cond (.tmp 70) .skip (.exit 0) (some [0,1,2,7,8,69])) (.seq (.block 1 (.seq (.reg c100_r10 none (some [0,1,2,7,8,9,69])) (.seq (.reg c100_r11 none (some [0,1,2,7,8,9,10,11,69])) (.seq (.seq (.reg c100_r12 none (some [0,1,2,7,8,9,10,69,81])) (.cond (.tmp 81) (.exit 1) .skip (some [0,1,2,7,8,9,10,69]))) (.seq (.seq (.reg c100_r13 none (some [0,1,2,7,8,9,10,69,83])) (.cond (.tmp 83) (.reg c100_r14 none (some [0,1,2,7,8,9,10,69])) .skip (some [0,1,2,7,8,9,10,69]))) (.seq (.reg c100_r15 none (some [0,1,2,7,8,10,69])) (.reg c100_r16 none (some [0,1,2,7,8,69])))))))) (.reg c100_r17 none (some [0,1,2,7,8,69])))))
def c100_r18 : List SOp := [⟨some 115,.move (.tmp 8),none⟩,⟨some 6,.assign (.tmp 115),none⟩]
def c100 : SC := (.seq (.reg c100_r0 none (some [0,1,2])) (.seq (.reg c100_r1 none (some [0,1,2,7])) (.seq (.seq (.reg c100_r2 none (some [0,1,2,7,20])) (.cond (.tmp 20) (.seq (.reg c100_r3 none (some [0,1,2,7])) (.seq (.reg c100_r4 (some [(3, 12), (3, 15), (3, 16)]) (some [0,1,2,7])) (.reg c100_r5 none (some [0,1,2,7])))) (.reg c100_r6 (some [(3, 7)]) (some [0,1,2,7])) (some [0,1,2,7]))) (.seq (.reg c100_r7 none (some [0,1,2,7,8])) (.seq (.seq (.reg c100_r8 none (some [0,1,2,7,8,69])) (.block 0 (.loop c100_l9 (some [0,1,2,7,8,69])))) (.seq (.reg c100_r18 none (some [6])) .ret))))))
theorem c100_eq : ∃ code, Try.f100.body = some code ∧ compile H100 code = c100 := ⟨_, rfl, by kernel_rfl⟩
theorem c100_fn : Try.prog.funcs[100]? = some Try.f100 := by kernel_rfl
theorem c100_rs : Try.f100.results.toList = [.tmp 6] := by kernel_rfl
theorem c100_ok : fnB Try.prog H100 Try.f100 = true := by kernel_rfl
theorem c100_nt : Try.f100.ntmps = 116 := by kernel_rfl

def H101 : Hint := ⟨[(1, [4]), (0, [0, 1])], []⟩
def c101_r0 : List SOp := [⟨some 4,.assign (.const (.bool false)),none⟩]
def c101_r1 : List SOp := [⟨some 5,.move (.tmp 1),none⟩,⟨some 6,.binOp .lss 3 (.tmp 5) (.const (.int .i64 0)) 3,none⟩,⟨some 7,.move (.tmp 6),none⟩,⟨some 8,.move (.tmp 1),some (some 7,false)⟩,⟨some 9,.move (.tmp 0),some (some 7,false)⟩,⟨some 10,.nilCheck (.tmp 9),some (some 7,false)⟩,⟨some 11,.fieldAddr 129 (.tmp 10) 0,some (some 7,false)⟩,⟨some 12,.load 127 (.tmp 11),some (some 7,false)⟩,⟨some 13,.call ⟨.builtin .len, #[.tmp 12], #[127]⟩,some (some 7,false)⟩,⟨some 14,.binOp .geq 3 (.tmp 8) (.tmp 13) 3,some (some 7,false)⟩,⟨some 15,.pick (.tmp 7) (.const (.bool true)) (.tmp 14),none⟩,⟨some 4,.assign (.tmp 15),none⟩]
def c101 : SC := (.seq (.reg c101_r0 none (some [0,1])) (.seq (.reg c101_r1 none (some [4])) .ret))
theorem c101_eq : ∃ code, Try.f101.body = some code ∧ compile H101 code = c101 := ⟨_, rfl, by kernel_rfl⟩
theorem c101_fn : Try.prog.funcs[101]? = some Try.f101 := by kernel_rfl
theorem c101_rs : Try.f101.results.toList = [.tmp 4] := by kernel_rfl
theorem c101_ok : fnB Try.prog H101 Try.f101 = true := by kernel_rfl
theorem c101_nt : Try.f101.ntmps = 16 := by kernel_rfl

def H102 : Hint := ⟨[(1, [6]), (0, [0, 1, 2])], []⟩
def c102_r0 : List SOp := [⟨some 6,.assign (.const (.pointer none)),none⟩]
def c102_r1 : List SOp := [⟨some 7,.move (.tmp 0),none⟩,⟨some 8,.move (.tmp 1),none⟩,⟨some 9,.call ⟨.builtin .append, #[(.const (.slice none 0 0)), (.tmp 8)], #[38,38]⟩,none⟩,⟨some 10,.move (.tmp 2),none⟩,⟨some 11,.call ⟨.builtin .append, #[(.const (.slice none 0 0)), (.tmp 10)], #[68,68]⟩,none⟩,⟨some 12,.build 136 #[(0, (.tmp 7)), (1, (.tmp 9)), (2, (.tmp 11))],none⟩,⟨some 13,.box 136 (.tmp 12),none⟩,⟨some 6,.assign (.tmp 13),none⟩]
def c102 : SC := (.seq (.reg c102_r0 none (some [0,1,2])) (.seq (.reg c102_r1 none (some [6])) .ret))
theorem c102_eq : ∃ code, Try.f102.body = some code ∧ compile H102 code = c102 := ⟨_, rfl, by kernel_rfl⟩
theorem c102_fn : Try.prog.funcs[102]? = some Try.f102 := by kernel_rfl
theorem c102_rs : Try.f102.results.toList = [.tmp 6] := by kernel_rfl
theorem c102_ok : fnB Try.prog H102 Try.f102 = true := by kernel_rfl
theorem c102_nt : Try.f102.ntmps = 14 := by kernel_rfl

end Go.AM
