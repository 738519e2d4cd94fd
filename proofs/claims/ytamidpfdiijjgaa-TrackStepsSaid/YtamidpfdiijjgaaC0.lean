/-
  Printed by program (wip/tools/print.sh): compiled code.
-/
import Derived.Test.YtamidpfdiijjgaaAMb
import Derived.Test.YtamidpfdiijjgaaProg
namespace Go.AM
open Go Go.Proofs
set_option maxRecDepth 100000
def H29 : Hint := ⟨[(4, [4]), (3, [5]), (2000010, [5]), (2, [1, 5, 10]), (1, [1, 5]), (0, [0, 1])], []⟩
def c29_r0 : List SOp := [⟨some 4,.assign (.const (.int .i64 0)),none⟩]
def c29_r1 : List SOp := [⟨some 6,.move (.tmp 0),none⟩,⟨some 7,.move (.tmp 1),none⟩,⟨some 8,.binOp .rem 3 (.tmp 6) (.tmp 7) 3,none⟩,⟨some 5,.assign (.tmp 8),none⟩]
def c29_r2 : List SOp := [⟨some 9,.move (.tmp 5),none⟩,⟨some 10,.binOp .lss 3 (.tmp 9) (.const (.int .i64 0)) 3,none⟩]
def c29_r3 : List SOp := [⟨some 11,.move (.tmp 5),none⟩,⟨some 12,.move (.tmp 1),none⟩,⟨some 13,.binOp .add 3 (.tmp 11) (.tmp 12) 3,none⟩,⟨some 5,.assign (.tmp 13),none⟩]
def c29_r4 : List SOp := [⟨some 14,.move (.tmp 5),none⟩,⟨some 4,.assign (.tmp 14),none⟩]
def c29 : SC := (.seq (.reg c29_r0 none (some [0,1])) (.seq (.reg c29_r1 none (some [1,5])) (.seq (.seq (.reg c29_r2 none (some [1,5,10])) (.cond (.tmp 10) (.reg c29_r3 none (some [5])) .skip (some [5]))) (.seq (.reg c29_r4 none (some [4])) .ret))))
theorem c29_eq : ∃ code, Try.f29.body = some code ∧ compile H29 code = c29 := ⟨_, rfl, by kernel_rfl⟩
theorem c29_fn : Try.prog.funcs[29]? = some Try.f29 := by kernel_rfl
theorem c29_rs : Try.f29.results.toList = [.tmp 4] := by kernel_rfl
theorem c29_ok : fnB Try.prog H29 Try.f29 = true := by kernel_rfl
theorem c29_nt : Try.f29.ntmps = 15 := by kernel_rfl

def H30 : Hint := ⟨[(1, [0]), (0, [])], []⟩
def c30_r0 : List SOp := [⟨some 0,.assign (.const (.pointer none)),none⟩]
def c30_r1 : List SOp := [⟨some 1,.makeMap 113 none,none⟩,⟨some 2,.makeSlice 114 (.const (.int .i64 1)) (.const (.int .i64 1)),none⟩,⟨some 3,.makeSlice 44 (.const (.int .i64 1)) (.const (.int .i64 1)),none⟩,⟨some 4,.makeSlice 30 (.const (.int .i64 1)) (.const (.int .i64 1)),none⟩,⟨some 5,.build 116 #[(0, (.tmp 1)), (1, (.tmp 2)), (2, (.tmp 3)), (3, (.tmp 4))],none⟩,⟨some 6,.box 116 (.tmp 5),none⟩,⟨some 0,.assign (.tmp 6),none⟩]
def c30 : SC := (.seq (.reg c30_r0 none (some [])) (.seq (.reg c30_r1 none (some [0])) .ret))
theorem c30_eq : ∃ code, Try.f30.body = some code ∧ compile H30 code = c30 := ⟨_, rfl, by kernel_rfl⟩
theorem c30_fn : Try.prog.funcs[30]? = some Try.f30 := by kernel_rfl
theorem c30_rs : Try.f30.results.toList = [.tmp 0] := by kernel_rfl
theorem c30_ok : fnB Try.prog H30 Try.f30 = true := by kernel_rfl
theorem c30_nt : Try.f30.ntmps = 7 := by kernel_rfl

def H31 : Hint := ⟨[(15, [4]), (14, [0]), (13, [0]), (12, [0, 5, 16, 17, 18]), (11, [0, 5, 16, 17, 18]), (10, [0, 9, 16, 17, 18]), (9, [0, 5, 8, 9, 16, 17, 18]), (8, [0, 5, 8, 9, 16, 17, 18]), (2000035, [0, 9, 16, 17, 18]), (7, [0, 5, 8, 9, 16, 17, 18, 35]), (6, [0, 5, 8, 9, 10, 16, 17, 18]), (5, [0, 5, 8, 16, 17, 18]), (4, [0, 5, 7, 16, 17, 18]), (2000019, [0, 5, 16, 17, 18]), (3, [0, 5, 16, 17, 18, 19]), (1000003, [0, 5, 16, 17, 18]), (2, [0, 5, 16, 17, 18]), (1, [0, 1, 5]), (0, [0, 1])], [(10, [(13, 8), (13, 9), (19, 8), (19, 9), (19, 14), (19, 15), (23, 8), (23, 9), (23, 14), (23, 15), (26, 8), (26, 9), (26, 14), (26, 15)]), (13, [(3, 17)])]⟩
def c31_r0 : List SOp := [⟨some 4,.assign (.const (.int .i64 0)),none⟩]
def c31_r1 : List SOp := [⟨some 5,.assign (.const (.int .i64 0)),none⟩]
def c31_r2 : List SOp := [⟨some 11,.move (.tmp 1),none⟩,⟨some 12,.move (.tmp 1),none⟩,⟨some 13,.call ⟨.builtin .len, #[.tmp 12], #[9]⟩,none⟩,⟨some 14,.call ⟨.builtin .min, #[(.tmp 13), (.const (.int .i64 16))], #[3,3]⟩,none⟩,⟨some 15,.slice 9 (.tmp 11) none (some (.tmp 14)) none,none⟩,⟨some 16,.convert 9 25 (.tmp 15),none⟩,⟨some 17,.call ⟨.builtin .len, #[.tmp 16], #[25]⟩,none⟩,⟨some 18,.move (.const (.int .i64 0)),none⟩]
def c31_r3 : List SOp := [⟨some 19,.binOp .lss 3 (.tmp 18) (.tmp 17) 3,none⟩]
def c31_r4 : List SOp := [⟨some 20,.indexAddr 25 (.tmp 16) (.tmp 18),none⟩,⟨some 21,.load 5 (.tmp 20),none⟩,⟨some 7,.assign (.tmp 21),none⟩]
def c31_r5 : List SOp := [⟨some 22,.move (.tmp 5),none⟩,⟨some 23,.move (.tmp 7),none⟩,⟨some 24,.build 118 #[(0, (.tmp 22)), (1, (.tmp 23))],none⟩,⟨some 8,.alloc 118,none⟩,⟨none,.store 118 (.tmp 8) (.tmp 24),none⟩]
def c31_r6 : List SOp := [⟨some 26,.move (.tmp 0),none⟩,⟨some 27,.nilCheck (.tmp 26),none⟩,⟨some 28,.fieldAddr 116 (.tmp 27) 0,none⟩,⟨some 29,.load 113 (.tmp 28),none⟩,⟨some 30,.load 118 (.tmp 8),none⟩,⟨some 31,.lookup 113 (.tmp 29) (.tmp 30) true,none⟩,⟨some 25,.move (.tmp 31),none⟩,⟨some 32,.extract (.tmp 25) 0,none⟩,⟨some 33,.extract (.tmp 25) 1,none⟩,⟨some 9,.assign (.tmp 32),none⟩,⟨some 10,.assign (.tmp 33),none⟩]
def c31_r7 : List SOp := [⟨some 34,.move (.tmp 10),none⟩,⟨some 35,.unOp .not 4 (.tmp 34),none⟩]
def c31_r8 : List SOp := [⟨some 36,.move (.tmp 0),none⟩,⟨some 37,.nilCheck (.tmp 36),none⟩,⟨some 38,.fieldAddr 116 (.tmp 37) 1,none⟩,⟨some 39,.load 114 (.tmp 38),none⟩,⟨some 40,.call ⟨.builtin .len, #[.tmp 39], #[114]⟩,none⟩,⟨some 9,.assign (.tmp 40),none⟩]
def c31_r9 : List SOp := [⟨some 41,.move (.tmp 0),none⟩,⟨some 42,.nilCheck (.tmp 41),none⟩,⟨some 43,.fieldAddr 116 (.tmp 42) 0,none⟩,⟨some 44,.load 113 (.tmp 43),none⟩,⟨some 45,.load 118 (.tmp 8),none⟩,⟨some 46,.move (.tmp 9),none⟩,⟨none,.mapUpdate 113 (.tmp 44) (.tmp 45) (.tmp 46),none⟩]
def c31_r10 : List SOp := [⟨some 47,.move (.tmp 0),none⟩,⟨some 48,.move (.tmp 0),none⟩,⟨some 49,.move (.tmp 0),none⟩,⟨some 50,.move (.tmp 0),none⟩,⟨some 51,.nilCheck (.tmp 50),none⟩,⟨some 52,.fieldAddr 116 (.tmp 51) 1,none⟩,⟨some 53,.load 114 (.tmp 52),none⟩,⟨some 54,.load 118 (.tmp 8),none⟩,⟨some 55,.buildSlice 114 1 #[(0, (.tmp 54))],none⟩,⟨some 56,.call ⟨.builtin .append, #[.tmp 53,.tmp 55], #[114,114]⟩,none⟩,⟨some 57,.move (.tmp 0),none⟩,⟨some 58,.nilCheck (.tmp 57),none⟩,⟨some 59,.fieldAddr 116 (.tmp 58) 2,none⟩,⟨some 60,.load 44 (.tmp 59),none⟩,⟨some 61,.buildSlice 44 1 #[(0, (.const (.slice none 0 0)))],none⟩,⟨some 62,.call ⟨.builtin .append, #[.tmp 60,.tmp 61], #[44,44]⟩,none⟩,⟨some 63,.move (.tmp 0),none⟩,⟨some 64,.nilCheck (.tmp 63),none⟩,⟨some 65,.fieldAddr 116 (.tmp 64) 3,none⟩,⟨some 66,.load 30 (.tmp 65),none⟩,⟨some 67,.move (.tmp 0),none⟩,⟨some 68,.nilCheck (.tmp 67),none⟩,⟨some 69,.fieldAddr 116 (.tmp 68) 3,none⟩,⟨some 70,.load 30 (.tmp 69),none⟩,⟨some 71,.move (.tmp 5),none⟩,⟨some 72,.indexAddr 30 (.tmp 70) (.tmp 71),none⟩,⟨some 73,.load 3 (.tmp 72),none⟩,⟨some 74,.binOp .add 3 (.tmp 73) (.const (.int .i64 1)) 3,none⟩,⟨some 75,.buildSlice 30 1 #[(0, (.tmp 74))],none⟩,⟨some 76,.call ⟨.builtin .append, #[.tmp 66,.tmp 75], #[30,30]⟩,none⟩,⟨some 77,.nilCheck (.tmp 47),none⟩,⟨some 78,.fieldAddr 116 (.tmp 77) 1,none⟩,⟨none,.store 114 (.tmp 78) (.tmp 56),none⟩,⟨some 79,.nilCheck (.tmp 48),none⟩,⟨some 80,.fieldAddr 116 (.tmp 79) 2,none⟩,⟨none,.store 44 (.tmp 80) (.tmp 62),none⟩,⟨some 81,.nilCheck (.tmp 49),none⟩,⟨some 82,.fieldAddr 116 (.tmp 81) 3,none⟩,⟨none,.store 30 (.tmp 82) (.tmp 76),none⟩]
def c31_r11 : List SOp := [⟨some 83,.move (.tmp 9),none⟩,⟨some 5,.assign (.tmp 83),none⟩]
def c31_r12 : List SOp := [⟨some 84,.binOp .add 3 (.tmp 18) (.const (.int .i64 1)) 3,none⟩,⟨some 18,.move (.tmp 84),none⟩]
def c31_l3 : SC := (.seq (.reg c31_r3 none (some [0,5,16,17,18,19])) (.seq (.cond (.tmp 19) .skip (.exit 0) (some [0,5,16,17,18])) (.seq (.block 1 (.seq (.reg c31_r4 none (some [0,5,7,16,17,18])) (.seq (.reg c31_r5 none (some [0,5,8,16,17,18])) (.seq (.reg c31_r6 none (some [0,5,8,9,10,16,17,18])) (.seq (.seq (.reg c31_r7 none (some [0,5,8,9,16,17,18,35])) (.cond (.tmp 35) (.seq (.reg c31_r8 none (some [0,5,8,9,16,17,18])) (.seq (.reg c31_r9 none (some [0,5,8,9,16,17,18])) (.reg c31_r10 (some [(13, 8), (13, 9), (19, 8), (19, 9), (19, 14), (19, 15), (23, 8), (23, 9), (23, 14), (23, 15), (26, 8), (26, 9), (26, 14), (26, 15)]) (some [0,9,16,17,18])))) .skip (some [0,9,16,17,18]))) (.reg c31_r11 none (some [0,5,16,17,18]))))))) (.reg c31_r12 none (some [0,5,16,17,18])))))
def c31_r13 : List SOp := [⟨some 85,.move (.tmp 0),none⟩,⟨some 86,.nilCheck (.tmp 85),none⟩,⟨some 87,.fieldAddr 116 (.tmp 86) 2,none⟩,⟨some 88,.load 44 (.tmp 87),none⟩,⟨some 89,.move (.tmp 5),none⟩,⟨some 90,.move (.tmp 0),none⟩,⟨some 91,.nilCheck (.tmp 90),none⟩,⟨some 92,.fieldAddr 116 (.tmp 91) 2,none⟩,⟨some 93,.load 44 (.tmp 92),none⟩,⟨some 94,.move (.tmp 5),none⟩,⟨some 95,.indexAddr 44 (.tmp 93) (.tmp 94),none⟩,⟨some 96,.load 30 (.tmp 95),none⟩,⟨some 97,.move (.tmp 0),none⟩,⟨some 98,.nilCheck (.tmp 97),none⟩,⟨some 99,.fieldAddr 116 (.tmp 98) 4,none⟩,⟨some 100,.load 3 (.tmp 99),none⟩,⟨some 101,.buildSlice 30 1 #[(0, (.tmp 100))],none⟩,⟨some 102,.call ⟨.builtin .append, #[.tmp 96,.tmp 101], #[30,30]⟩,none⟩,⟨some 103,.indexAddr 44 (.tmp 88) (.tmp 89),none⟩,⟨none,.store 30 (.tmp 103) (.tmp 102),none⟩]
def c31_r14 : List SOp := [⟨some 104,.move (.tmp 0),none⟩,⟨some 105,.nilCheck (.tmp 104),none⟩,⟨some 106,.fieldAddr 116 (.tmp 105) 4,none⟩,⟨some 107,.load 3 (.tmp 106),none⟩,⟨some 108,.binOp .add 3 (.tmp 107) (.const (.int .i64 1)) 3,none⟩,⟨some 109,.nilCheck (.tmp 104),none⟩,⟨some 110,.fieldAddr 116 (.tmp 109) 4,none⟩,⟨none,.store 3 (.tmp 110) (.tmp 108),none⟩]
def c31_r15 : List SOp := [⟨some 111,.move (.tmp 0),none⟩,⟨some 112,.nilCheck (.tmp 111),none⟩,⟨some 113,.fieldAddr 116 (.tmp 112) 4,none⟩,⟨some 114,.load 3 (.tmp 113),none⟩,⟨some 115,.binOp .sub 3 (.tmp 114) (.const (.int .i64 1)) 3,none⟩,⟨some 4,.assign (.tmp 115),none⟩]
def c31 : SC := (.seq (.reg c31_r0 none (some [0,1])) (.seq (.reg c31_r1 none (some [0,1,5])) (.seq (.seq (.reg c31_r2 none (some [0,5,16,17,18])) (.block 0 (.loop c31_l3 (some [0,5,16,17,18])))) (.seq (.reg c31_r13 (some [(3, 17)]) (some [0])) (.seq (.reg c31_r14 none (some [0])) (.seq (.reg c31_r15 none (some [4])) .ret))))))
theorem c31_eq : ∃ code, Try.f31.body = some code ∧ compile H31 code = c31 := ⟨_, rfl, by kernel_rfl⟩
theorem c31_fn : Try.prog.funcs[31]? = some Try.f31 := by kernel_rfl
theorem c31_rs : Try.f31.results.toList = [.tmp 4] := by kernel_rfl
theorem c31_ok : fnB Try.prog H31 Try.f31 = true := by kernel_rfl
theorem c31_nt : Try.f31.ntmps = 116 := by kernel_rfl

def H32 : Hint := ⟨[(1, [2]), (0, [0])], []⟩
def c32_r0 : List SOp := [⟨some 2,.assign (.const (.int .i64 0)),none⟩]
def c32_r1 : List SOp := [⟨some 3,.move (.tmp 0),none⟩,⟨some 4,.nilCheck (.tmp 3),none⟩,⟨some 5,.fieldAddr 116 (.tmp 4) 1,none⟩,⟨some 6,.load 114 (.tmp 5),none⟩,⟨some 7,.call ⟨.builtin .len, #[.tmp 6], #[114]⟩,none⟩,⟨some 2,.assign (.tmp 7),none⟩]
def c32 : SC := (.seq (.reg c32_r0 none (some [0])) (.seq (.reg c32_r1 none (some [2])) .ret))
theorem c32_eq : ∃ code, Try.f32.body = some code ∧ compile H32 code = c32 := ⟨_, rfl, by kernel_rfl⟩
theorem c32_fn : Try.prog.funcs[32]? = some Try.f32 := by kernel_rfl
theorem c32_rs : Try.f32.results.toList = [.tmp 2] := by kernel_rfl
theorem c32_ok : fnB Try.prog H32 Try.f32 = true := by kernel_rfl
theorem c32_nt : Try.f32.ntmps = 8 := by kernel_rfl

def H33 : Hint := ⟨[(2, [6, 7]), (1, [8, 9]), (0, [0, 1, 2])], []⟩
def c33_r0 : List SOp := [⟨some 6,.assign (.const (.int .i64 0)),none⟩,⟨some 7,.assign (.const (.bool false)),none⟩]
def c33_r1 : List SOp := [⟨some 11,.move (.tmp 0),none⟩,⟨some 12,.nilCheck (.tmp 11),none⟩,⟨some 13,.fieldAddr 116 (.tmp 12) 0,none⟩,⟨some 14,.load 113 (.tmp 13),none⟩,⟨some 15,.move (.tmp 1),none⟩,⟨some 16,.move (.tmp 2),none⟩,⟨some 17,.build 118 #[(0, (.tmp 15)), (1, (.tmp 16))],none⟩,⟨some 18,.lookup 113 (.tmp 14) (.tmp 17) true,none⟩,⟨some 10,.move (.tmp 18),none⟩,⟨some 19,.extract (.tmp 10) 0,none⟩,⟨some 20,.extract (.tmp 10) 1,none⟩,⟨some 8,.assign (.tmp 19),none⟩,⟨some 9,.assign (.tmp 20),none⟩]
def c33_r2 : List SOp := [⟨some 21,.move (.tmp 8),none⟩,⟨some 22,.move (.tmp 9),none⟩,⟨some 6,.assign (.tmp 21),none⟩,⟨some 7,.assign (.tmp 22),none⟩]
def c33 : SC := (.seq (.reg c33_r0 none (some [0,1,2])) (.seq (.reg c33_r1 none (some [8,9])) (.seq (.reg c33_r2 none (some [6,7])) .ret)))
theorem c33_eq : ∃ code, Try.f33.body = some code ∧ compile H33 code = c33 := ⟨_, rfl, by kernel_rfl⟩
theorem c33_fn : Try.prog.funcs[33]? = some Try.f33 := by kernel_rfl
theorem c33_rs : Try.f33.results.toList = [.tmp 6, .tmp 7] := by kernel_rfl
theorem c33_ok : fnB Try.prog H33 Try.f33 = true := by kernel_rfl
theorem c33_nt : Try.f33.ntmps = 23 := by kernel_rfl

def H34 : Hint := ⟨[(3, [4]), (2, [4]), (2000007, [0, 1]), (1, [0, 1, 7]), (0, [0, 1])], []⟩
def c34_r0 : List SOp := [⟨some 4,.assign (.const (.slice none 0 0)),none⟩]
def c34_r1 : List SOp := [⟨some 5,.move (.tmp 0),none⟩,⟨some 6,.move (.tmp 1),none⟩,⟨some 7,.call ⟨.value (.func 92), #[.tmp 5,.tmp 6], #[23,3]⟩,none⟩]
def c34_r2 : List SOp := [⟨some 4,.assign (.const (.slice none 0 0)),none⟩]
def c34_r3 : List SOp := [⟨some 8,.move (.tmp 0),none⟩,⟨some 9,.nilCheck (.tmp 8),none⟩,⟨some 10,.fieldAddr 116 (.tmp 9) 2,none⟩,⟨some 11,.load 44 (.tmp 10),none⟩,⟨some 12,.move (.tmp 1),none⟩,⟨some 13,.indexAddr 44 (.tmp 11) (.tmp 12),none⟩,⟨some 14,.load 30 (.tmp 13),none⟩,⟨some 15,.call ⟨.value (.func 93), #[.tmp 14], #[30]⟩,none⟩,⟨some 4,.assign (.tmp 15),none⟩]
def c34 : SC := (.seq (.reg c34_r0 none (some [0,1])) (.seq (.seq (.reg c34_r1 none (some [0,1,7])) (.cond (.tmp 7) (.seq (.reg c34_r2 none (some [4])) .ret) .skip (some [0,1]))) (.seq (.reg c34_r3 none (some [4])) .ret)))
theorem c34_eq : ∃ code, Try.f34.body = some code ∧ compile H34 code = c34 := ⟨_, rfl, by kernel_rfl⟩
theorem c34_fn : Try.prog.funcs[34]? = some Try.f34 := by kernel_rfl
theorem c34_rs : Try.f34.results.toList = [.tmp 4] := by kernel_rfl
theorem c34_ok : fnB Try.prog H34 Try.f34 = true := by kernel_rfl
theorem c34_nt : Try.f34.ntmps = 16 := by kernel_rfl

def H35 : Hint := ⟨[(3, [4]), (2, [4]), (2000007, [0, 1]), (1, [0, 1, 7]), (0, [0, 1])], []⟩
def c35_r0 : List SOp := [⟨some 4,.assign (.const (.int .i64 0)),none⟩]
def c35_r1 : List SOp := [⟨some 5,.move (.tmp 0),none⟩,⟨some 6,.move (.tmp 1),none⟩,⟨some 7,.call ⟨.value (.func 92), #[.tmp 5,.tmp 6], #[23,3]⟩,none⟩]
def c35_r2 : List SOp := [⟨some 4,.assign (.const (.int .i64 0)),none⟩]
def c35_r3 : List SOp := [⟨some 8,.move (.tmp 0),none⟩,⟨some 9,.nilCheck (.tmp 8),none⟩,⟨some 10,.fieldAddr 116 (.tmp 9) 3,none⟩,⟨some 11,.load 30 (.tmp 10),none⟩,⟨some 12,.move (.tmp 1),none⟩,⟨some 13,.indexAddr 30 (.tmp 11) (.tmp 12),none⟩,⟨some 14,.load 3 (.tmp 13),none⟩,⟨some 4,.assign (.tmp 14),none⟩]
def c35 : SC := (.seq (.reg c35_r0 none (some [0,1])) (.seq (.seq (.reg c35_r1 none (some [0,1,7])) (.cond (.tmp 7) (.seq (.reg c35_r2 none (some [4])) .ret) .skip (some [0,1]))) (.seq (.reg c35_r3 none (some [4])) .ret)))
theorem c35_eq : ∃ code, Try.f35.body = some code ∧ compile H35 code = c35 := ⟨_, rfl, by kernel_rfl⟩
theorem c35_fn : Try.prog.funcs[35]? = some Try.f35 := by kernel_rfl
theorem c35_rs : Try.f35.results.toList = [.tmp 4] := by kernel_rfl
theorem c35_ok : fnB Try.prog H35 Try.f35 = true := by kernel_rfl
theorem c35_nt : Try.f35.ntmps = 15 := by kernel_rfl

def H36 : Hint := ⟨[(2, [0]), (1, [1]), (0, [])], []⟩
def c36_r0 : List SOp := [⟨some 0,.assign (.const (.bool false)),none⟩]
def c36_r1 : List SOp := [⟨some 2,.call ⟨.value (.func 30), #[], #[]⟩,none⟩,⟨some 1,.assign (.tmp 2),none⟩]
def c36_r2 : List SOp := [⟨some 3,.move (.tmp 1),none⟩,⟨some 4,.binOp .neq 23 (.tmp 3) (.const (.pointer none)) 23,none⟩,⟨some 5,.move (.tmp 4),none⟩,⟨some 6,.move (.tmp 1),some (some 5,true)⟩,⟨some 7,.call ⟨.value (.func 31), #[(.tmp 6), (.const (.string ⟨#[97,98]⟩))], #[23,9]⟩,some (some 5,true)⟩,⟨some 8,.binOp .eql 3 (.tmp 7) (.const (.int .i64 0)) 3,some (some 5,true)⟩,⟨some 9,.pick (.tmp 5) (.tmp 8) (.const (.bool false)),none⟩,⟨some 10,.move (.tmp 9),none⟩,⟨some 11,.move (.tmp 1),some (some 10,true)⟩,⟨some 12,.call ⟨.value (.func 31), #[(.tmp 11), (.const (.string ⟨#[97,99]⟩))], #[23,9]⟩,some (some 10,true)⟩,⟨some 13,.binOp .eql 3 (.tmp 12) (.const (.int .i64 1)) 3,some (some 10,true)⟩,⟨some 14,.pick (.tmp 10) (.tmp 13) (.const (.bool false)),none⟩,⟨some 15,.move (.tmp 14),none⟩,⟨some 16,.move (.tmp 1),some (some 15,true)⟩,⟨some 17,.call ⟨.value (.func 32), #[.tmp 16], #[23]⟩,some (some 15,true)⟩,⟨some 18,.binOp .eql 3 (.tmp 17) (.const (.int .i64 4)) 3,some (some 15,true)⟩,⟨some 19,.pick (.tmp 15) (.tmp 18) (.const (.bool false)),none⟩,⟨some 20,.move (.tmp 19),none⟩,⟨some 21,.move (.tmp 1),some (some 20,true)⟩,⟨some 22,.call ⟨.value (.func 34), #[(.tmp 21), (.const (.int .i64 2))], #[23,3]⟩,some (some 20,true)⟩,⟨some 23,.call ⟨.builtin .len, #[.tmp 22], #[30]⟩,some (some 20,true)⟩,⟨some 24,.binOp .eql 3 (.tmp 23) (.const (.int .i64 1)) 3,some (some 20,true)⟩,⟨some 25,.pick (.tmp 20) (.tmp 24) (.const (.bool false)),none⟩,⟨some 0,.assign (.tmp 25),none⟩]
def c36 : SC := (.seq (.reg c36_r0 none (some [])) (.seq (.reg c36_r1 none (some [1])) (.seq (.reg c36_r2 none (some [0])) .ret)))
theorem c36_eq : ∃ code, Try.f36.body = some code ∧ compile H36 code = c36 := ⟨_, rfl, by kernel_rfl⟩
theorem c36_fn : Try.prog.funcs[36]? = some Try.f36 := by kernel_rfl
theorem c36_rs : Try.f36.results.toList = [.tmp 0] := by kernel_rfl
theorem c36_ok : fnB Try.prog H36 Try.f36 = true := by kernel_rfl
theorem c36_nt : Try.f36.ntmps = 26 := by kernel_rfl

def H37 : Hint := ⟨[(4, [4, 5, 6]), (3, [7]), (2, [4, 5, 6]), (2000014, [0, 1]), (1, [0, 1, 14]), (0, [0, 1])], []⟩
def c37_r0 : List SOp := [⟨some 4,.assign (.const (.int .i64 0)),none⟩,⟨some 5,.assign (.const (.int .u8 0)),none⟩,⟨some 6,.assign (.const (.bool false)),none⟩]
def c37_r1 : List SOp := [⟨some 8,.move (.tmp 0),none⟩,⟨some 9,.move (.tmp 1),none⟩,⟨some 10,.call ⟨.value (.func 92), #[.tmp 8,.tmp 9], #[23,3]⟩,none⟩,⟨some 11,.move (.tmp 10),none⟩,⟨some 12,.move (.tmp 1),some (some 11,false)⟩,⟨some 13,.binOp .eql 3 (.tmp 12) (.const (.int .i64 0)) 3,some (some 11,false)⟩,⟨some 14,.pick (.tmp 11) (.const (.bool true)) (.tmp 13),none⟩]
def c37_r2 : List SOp := [⟨some 4,.assign (.const (.int .i64 0)),none⟩,⟨some 5,.assign (.const (.int .u8 0)),none⟩,⟨some 6,.assign (.const (.bool false)),none⟩]
def c37_r3 : List SOp := [⟨some 15,.move (.tmp 0),none⟩,⟨some 16,.nilCheck (.tmp 15),none⟩,⟨some 17,.fieldAddr 116 (.tmp 16) 1,none⟩,⟨some 18,.load 114 (.tmp 17),none⟩,⟨some 19,.move (.tmp 1),none⟩,⟨some 20,.indexAddr 114 (.tmp 18) (.tmp 19),none⟩,⟨some 21,.load 118 (.tmp 20),none⟩,⟨some 7,.alloc 118,none⟩,⟨none,.store 118 (.tmp 7) (.tmp 21),none⟩]
def c37_r4 : List SOp := [⟨some 22,.fieldAddr 118 (.tmp 7) 0,none⟩,⟨some 23,.load 3 (.tmp 22),none⟩,⟨some 24,.fieldAddr 118 (.tmp 7) 1,none⟩,⟨some 25,.load 5 (.tmp 24),none⟩,⟨some 4,.assign (.tmp 23),none⟩,⟨some 5,.assign (.tmp 25),none⟩,⟨some 6,.assign (.const (.bool true)),none⟩]
def c37 : SC := (.seq (.reg c37_r0 none (some [0,1])) (.seq (.seq (.reg c37_r1 none (some [0,1,14])) (.cond (.tmp 14) (.seq (.reg c37_r2 none (some [4,5,6])) .ret) .skip (some [0,1]))) (.seq (.reg c37_r3 none (some [7])) (.seq (.reg c37_r4 none (some [4,5,6])) .ret))))
theorem c37_eq : ∃ code, Try.f37.body = some code ∧ compile H37 code = c37 := ⟨_, rfl, by kernel_rfl⟩
theorem c37_fn : Try.prog.funcs[37]? = some Try.f37 := by kernel_rfl
theorem c37_rs : Try.f37.results.toList = [.tmp 4, .tmp 5, .tmp 6] := by kernel_rfl
theorem c37_ok : fnB Try.prog H37 Try.f37 = true := by kernel_rfl
theorem c37_nt : Try.f37.ntmps = 26 := by kernel_rfl

def H38 : Hint := ⟨[(3, [2]), (2, [2]), (2000003, []), (1, [3]), (0, [0])], []⟩
def c38_r0 : List SOp := [⟨some 2,.assign (.const (.int .i64 0)),none⟩]
def c38_r1 : List SOp := [⟨some 3,.move (.tmp 0),none⟩]
def c38_r2 : List SOp := [⟨some 2,.assign (.const (.int .i64 1)),none⟩]
def c38_r3 : List SOp := [⟨some 2,.assign (.const (.int .i64 0)),none⟩]
def c38 : SC := (.seq (.reg c38_r0 none (some [0])) (.seq (.seq (.reg c38_r1 none (some [3])) (.cond (.tmp 3) (.seq (.reg c38_r2 none (some [2])) .ret) .skip (some []))) (.seq (.reg c38_r3 none (some [2])) .ret)))
theorem c38_eq : ∃ code, Try.f38.body = some code ∧ compile H38 code = c38 := ⟨_, rfl, by kernel_rfl⟩
theorem c38_fn : Try.prog.funcs[38]? = some Try.f38 := by kernel_rfl
theorem c38_rs : Try.f38.results.toList = [.tmp 2] := by kernel_rfl
theorem c38_ok : fnB Try.prog H38 Try.f38 = true := by kernel_rfl
theorem c38_nt : Try.f38.ntmps = 4 := by kernel_rfl

def H39 : Hint := ⟨[(15, [2]), (4, [0, 3, 4]), (7, [0, 3, 4, 5]), (14, [0, 3, 4, 5]), (2000054, [0, 3, 4, 5]), (13, [0, 3, 4, 5, 54]), (11, [0, 3, 4, 5, 6, 7]), (12, [0, 3, 4, 5, 6, 7]), (2000025, [0, 3, 4, 5, 6, 7]), (10, [0, 3, 4, 5, 6, 7, 25]), (1000010, [0, 3, 4, 5, 6, 7]), (9, [0, 3, 4, 5, 6, 7]), (8, [0, 3, 4, 5, 6]), (2000020, [0, 3, 4, 5]), (6, [0, 3, 4, 5, 20]), (1000006, [0, 3, 4, 5]), (5, [0, 3, 4, 5]), (2000011, [0, 3, 4]), (3, [0, 3, 4, 11]), (1000003, [0, 3, 4]), (2, [0, 3, 4]), (1, [0, 3]), (0, [0])], []⟩
def c39_r0 : List SOp := [⟨some 2,.assign (.const (.int .i64 0)),none⟩]
def c39_r1 : List SOp := [⟨some 3,.assign (.const (.int .i64 1)),none⟩]
def c39_r2 : List SOp := [⟨some 4,.assign (.const (.int .i64 0)),none⟩]
def c39_r3 : List SOp := [⟨some 8,.move (.tmp 4),none⟩,⟨some 9,.move (.tmp 0),none⟩,⟨some 10,.call ⟨.builtin .len, #[.tmp 9], #[38]⟩,none⟩,⟨some 11,.binOp .lss 3 (.tmp 8) (.tmp 10) 3,none⟩]
def c39_r5 : List SOp := [⟨some 5,.assign (.const (.int .i64 1)),none⟩]
def c39_r6 : List SOp := [⟨some 14,.move (.tmp 5),none⟩,⟨some 15,.move (.tmp 0),none⟩,⟨some 16,.move (.tmp 4),none⟩,⟨some 17,.indexAddr 38 (.tmp 15) (.tmp 16),none⟩,⟨some 18,.load 9 (.tmp 17),none⟩,⟨some 19,.call ⟨.builtin .len, #[.tmp 18], #[9]⟩,none⟩,⟨some 20,.binOp .leq 3 (.tmp 14) (.tmp 19) 3,none⟩]
def c39_r8 : List SOp := [⟨some 6,.assign (.const (.bool false)),none⟩]
def c39_r9 : List SOp := [⟨some 7,.assign (.const (.int .i64 0)),none⟩]
def c39_r10 : List SOp := [⟨some 23,.move (.tmp 7),none⟩,⟨some 24,.move (.tmp 4),none⟩,⟨some 25,.binOp .lss 3 (.tmp 23) (.tmp 24) 3,none⟩]
def c39_r12 : List SOp := [⟨some 28,.move (.tmp 6),none⟩,⟨some 29,.move (.tmp 28),none⟩,⟨some 30,.move (.tmp 0),some (some 29,false)⟩,⟨some 31,.move (.tmp 7),some (some 29,false)⟩,⟨some 32,.indexAddr 38 (.tmp 30) (.tmp 31),some (some 29,false)⟩,⟨some 33,.load 9 (.tmp 32),some (some 29,false)⟩,⟨some 34,.call ⟨.builtin .len, #[.tmp 33], #[9]⟩,some (some 29,false)⟩,⟨some 35,.move (.tmp 5),some (some 29,false)⟩,⟨some 36,.binOp .geq 3 (.tmp 34) (.tmp 35) 3,some (some 29,false)⟩,⟨some 37,.move (.tmp 36),some (some 29,false)⟩,⟨some 38,.move (.tmp 0),some (some 37,true)⟩,⟨some 39,.move (.tmp 7),some (some 37,true)⟩,⟨some 40,.indexAddr 38 (.tmp 38) (.tmp 39),some (some 37,true)⟩,⟨some 41,.load 9 (.tmp 40),some (some 37,true)⟩,⟨some 42,.move (.tmp 5),some (some 37,true)⟩,⟨some 43,.slice 9 (.tmp 41) none (some (.tmp 42)) none,some (some 37,true)⟩,⟨some 44,.move (.tmp 0),some (some 37,true)⟩,⟨some 45,.move (.tmp 4),some (some 37,true)⟩,⟨some 46,.indexAddr 38 (.tmp 44) (.tmp 45),some (some 37,true)⟩,⟨some 47,.load 9 (.tmp 46),some (some 37,true)⟩,⟨some 48,.move (.tmp 5),some (some 37,true)⟩,⟨some 49,.slice 9 (.tmp 47) none (some (.tmp 48)) none,some (some 37,true)⟩,⟨some 50,.binOp .eql 9 (.tmp 43) (.tmp 49) 9,some (some 37,true)⟩,⟨some 51,.pick (.tmp 37) (.tmp 50) (.const (.bool false)),some (some 29,false)⟩,⟨some 52,.pick (.tmp 29) (.const (.bool true)) (.tmp 51),none⟩,⟨some 6,.assign (.tmp 52),none⟩]
def c39_r11 : List SOp := [⟨some 26,.move (.tmp 7),none⟩,⟨some 27,.binOp .add 3 (.tmp 26) (.const (.int .i64 1)) 3,none⟩,⟨some 7,.assign (.tmp 27),none⟩]
def c39_l10 : SC := (.seq (.seq (.reg c39_r10 none (some [0,3,4,5,6,7,25])) (.cond (.tmp 25) .skip (.exit 4) (some [0,3,4,5,6,7]))) (.seq (.block 5 (.reg c39_r12 none (some [0,3,4,5,6,7]))) (.reg c39_r11 none (some [0,3,4,5,6,7]))))
def c39_r13 : List SOp := [⟨some 53,.move (.tmp 6),none⟩,⟨some 54,.unOp .not 4 (.tmp 53),none⟩]
def c39_r14 : List SOp := [⟨some 55,.move (.tmp 3),none⟩,⟨some 56,.binOp .add 3 (.tmp 55) (.const (.int .i64 1)) 3,none⟩,⟨some 3,.assign (.tmp 56),none⟩]
def c39_r7 : List SOp := [⟨some 21,.move (.tmp 5),none⟩,⟨some 22,.binOp .add 3 (.tmp 21) (.const (.int .i64 1)) 3,none⟩,⟨some 5,.assign (.tmp 22),none⟩]
def c39_l6 : SC := (.seq (.seq (.reg c39_r6 none (some [0,3,4,5,20])) (.cond (.tmp 20) .skip (.exit 2) (some [0,3,4,5]))) (.seq (.block 3 (.seq (.reg c39_r8 none (some [0,3,4,5,6])) (.seq (.seq (.reg c39_r9 none (some [0,3,4,5,6,7])) (.block 4 (.loop c39_l10 (some [0,3,4,5,6,7])))) (.seq (.reg c39_r13 none (some [0,3,4,5,54])) (.cond (.tmp 54) (.reg c39_r14 none (some [0,3,4,5])) .skip (some [0,3,4,5])))))) (.reg c39_r7 none (some [0,3,4,5]))))
def c39_r4 : List SOp := [⟨some 12,.move (.tmp 4),none⟩,⟨some 13,.binOp .add 3 (.tmp 12) (.const (.int .i64 1)) 3,none⟩,⟨some 4,.assign (.tmp 13),none⟩]
def c39_l3 : SC := (.seq (.seq (.reg c39_r3 none (some [0,3,4,11])) (.cond (.tmp 11) .skip (.exit 0) (some [0,3,4]))) (.seq (.block 1 (.seq (.reg c39_r5 none (some [0,3,4,5])) (.block 2 (.loop c39_l6 (some [0,3,4,5]))))) (.reg c39_r4 none (some [0,3,4]))))
def c39_r15 : List SOp := [⟨some 57,.move (.tmp 3),none⟩,⟨some 2,.assign (.tmp 57),none⟩]
def c39 : SC := (.seq (.reg c39_r0 none (some [0])) (.seq (.reg c39_r1 none (some [0,3])) (.seq (.seq (.reg c39_r2 none (some [0,3,4])) (.block 0 (.loop c39_l3 (some [0,3,4])))) (.seq (.reg c39_r15 none (some [2])) .ret))))
theorem c39_eq : ∃ code, Try.f39.body = some code ∧ compile H39 code = c39 := ⟨_, rfl, by kernel_rfl⟩
theorem c39_fn : Try.prog.funcs[39]? = some Try.f39 := by kernel_rfl
theorem c39_rs : Try.f39.results.toList = [.tmp 2] := by kernel_rfl
theorem c39_ok : fnB Try.prog H39 Try.f39 = true := by kernel_rfl
theorem c39_nt : Try.f39.ntmps = 58 := by kernel_rfl

def H40 : Hint := ⟨[(8, [4]), (5, [0, 1, 5]), (7, [4]), (2000025, [0, 1, 5]), (6, [0, 1, 5, 25]), (2000014, [0, 1, 5]), (4, [0, 1, 5, 14]), (1000004, [0, 1, 5]), (3, [0, 1, 5]), (2, [4]), (2000010, [0, 1]), (1, [0, 1, 10]), (0, [0, 1])], []⟩
def c40_r0 : List SOp := [⟨some 4,.assign (.const (.bool false)),none⟩]
def c40_r1 : List SOp := [⟨some 6,.move (.tmp 0),none⟩,⟨some 7,.call ⟨.builtin .len, #[.tmp 6], #[30]⟩,none⟩,⟨some 8,.move (.tmp 1),none⟩,⟨some 9,.call ⟨.builtin .len, #[.tmp 8], #[30]⟩,none⟩,⟨some 10,.binOp .neq 3 (.tmp 7) (.tmp 9) 3,none⟩]
def c40_r2 : List SOp := [⟨some 4,.assign (.const (.bool false)),none⟩]
def c40_r3 : List SOp := [⟨some 5,.assign (.const (.int .i64 0)),none⟩]
def c40_r4 : List SOp := [⟨some 11,.move (.tmp 5),none⟩,⟨some 12,.move (.tmp 0),none⟩,⟨some 13,.call ⟨.builtin .len, #[.tmp 12], #[30]⟩,none⟩,⟨some 14,.binOp .lss 3 (.tmp 11) (.tmp 13) 3,none⟩]
def c40_r6 : List SOp := [⟨some 17,.move (.tmp 0),none⟩,⟨some 18,.move (.tmp 5),none⟩,⟨some 19,.indexAddr 30 (.tmp 17) (.tmp 18),none⟩,⟨some 20,.load 3 (.tmp 19),none⟩,⟨some 21,.move (.tmp 1),none⟩,⟨some 22,.move (.tmp 5),none⟩,⟨some 23,.indexAddr 30 (.tmp 21) (.tmp 22),none⟩,⟨some 24,.load 3 (.tmp 23),none⟩,⟨some 25,.binOp .neq 3 (.tmp 20) (.tmp 24) 3,none⟩]
def c40_r7 : List SOp := [⟨some 4,.assign (.const (.bool false)),none⟩]
def c40_r5 : List SOp := [⟨some 15,.move (.tmp 5),none⟩,⟨some 16,.binOp .add 3 (.tmp 15) (.const (.int .i64 1)) 3,none⟩,⟨some 5,.assign (.tmp 16),none⟩]
def c40_l4 : SC := (.seq (.seq (.reg c40_r4 none (some [0,1,5,14])) (.cond (.tmp 14) .skip (.exit 0) (some [0,1,5]))) (.seq (.block 1 (.seq (.reg c40_r6 none (some [0,1,5,25])) (.cond (.tmp 25) (.seq (.reg c40_r7 none (some [4])) .ret) .skip (some [0,1,5])))) (.reg c40_r5 none (some [0,1,5]))))
def c40_r8 : List SOp := [⟨some 4,.assign (.const (.bool true)),none⟩]
def c40 : SC := (.seq (.reg c40_r0 none (some [0,1])) (.seq (.seq (.reg c40_r1 none (some [0,1,10])) (.cond (.tmp 10) (.seq (.reg c40_r2 none (some [4])) .ret) .skip (some [0,1]))) (.seq (.seq (.reg c40_r3 none (some [0,1,5])) (.block 0 (.loop c40_l4 (some [0,1,5])))) (.seq (.reg c40_r8 none (some [4])) .ret))))
theorem c40_eq : ∃ code, Try.f40.body = some code ∧ compile H40 code = c40 := ⟨_, rfl, by kernel_rfl⟩
theorem c40_fn : Try.prog.funcs[40]? = some Try.f40 := by kernel_rfl
theorem c40_rs : Try.f40.results.toList = [.tmp 4] := by kernel_rfl
theorem c40_ok : fnB Try.prog H40 Try.f40 = true := by kernel_rfl
theorem c40_nt : Try.f40.ntmps = 26 := by kernel_rfl

def H41 : Hint := ⟨[(9, [2]), (4, [0, 3, 4]), (8, [0, 3, 4]), (7, [2]), (2000077, [0, 3, 4, 5]), (6, [0, 3, 4, 5, 77]), (5, [0, 3, 4, 5]), (2000009, [0, 3, 4]), (3, [0, 3, 4, 9]), (1000003, [0, 3, 4]), (2, [0, 3, 4]), (1, [0, 3]), (0, [0])], []⟩
def c41_r0 : List SOp := [⟨some 2,.assign (.const (.bool false)),none⟩]
def c41_r1 : List SOp := [⟨some 3,.assign (.const (.bool false)),none⟩]
def c41_r2 : List SOp := [⟨some 4,.assign (.const (.int .i64 0)),none⟩]
def c41_r3 : List SOp := [⟨some 6,.move (.tmp 4),none⟩,⟨some 7,.move (.tmp 0),none⟩,⟨some 8,.call ⟨.builtin .len, #[.tmp 7], #[42]⟩,none⟩,⟨some 9,.binOp .lss 3 (.tmp 6) (.tmp 8) 3,none⟩]
def c41_r5 : List SOp := [⟨some 12,.move (.tmp 0),none⟩,⟨some 13,.move (.tmp 4),none⟩,⟨some 14,.indexAddr 42 (.tmp 12) (.tmp 13),none⟩,⟨some 15,.load 52 (.tmp 14),none⟩,⟨some 5,.alloc 52,none⟩,⟨none,.store 52 (.tmp 5) (.tmp 15),none⟩]
def c41_r6 : List SOp := [⟨some 16,.fieldAddr 52 (.tmp 5) 0,none⟩,⟨some 17,.load 9 (.tmp 16),none⟩,⟨some 18,.call ⟨.builtin .len, #[.tmp 17], #[9]⟩,none⟩,⟨some 19,.binOp .lss 3 (.tmp 18) (.const (.int .i64 1)) 3,none⟩,⟨some 20,.move (.tmp 19),none⟩,⟨some 21,.fieldAddr 52 (.tmp 5) 0,some (some 20,false)⟩,⟨some 22,.load 9 (.tmp 21),some (some 20,false)⟩,⟨some 23,.call ⟨.builtin .len, #[.tmp 22], #[9]⟩,some (some 20,false)⟩,⟨some 24,.binOp .gtr 3 (.tmp 23) (.const (.int .i64 16)) 3,some (some 20,false)⟩,⟨some 25,.pick (.tmp 20) (.const (.bool true)) (.tmp 24),none⟩,⟨some 26,.move (.tmp 25),none⟩,⟨some 27,.fieldAddr 52 (.tmp 5) 3,some (some 26,false)⟩,⟨some 28,.load 3 (.tmp 27),some (some 26,false)⟩,⟨some 29,.binOp .lss 3 (.tmp 28) (.const (.int .i64 0)) 3,some (some 26,false)⟩,⟨some 30,.pick (.tmp 26) (.const (.bool true)) (.tmp 29),none⟩,⟨some 31,.move (.tmp 30),none⟩,⟨some 32,.fieldAddr 52 (.tmp 5) 3,some (some 31,false)⟩,⟨some 33,.load 3 (.tmp 32),some (some 31,false)⟩,⟨some 34,.binOp .gtr 3 (.tmp 33) (.const (.int .i64 65535)) 3,some (some 31,false)⟩,⟨some 35,.pick (.tmp 31) (.const (.bool true)) (.tmp 34),none⟩,⟨some 36,.move (.tmp 35),none⟩,⟨some 37,.fieldAddr 52 (.tmp 5) 4,some (some 36,false)⟩,⟨some 38,.load 3 (.tmp 37),some (some 36,false)⟩,⟨some 39,.binOp .lss 3 (.tmp 38) (.const (.int .i64 0)) 3,some (some 36,false)⟩,⟨some 40,.pick (.tmp 36) (.const (.bool true)) (.tmp 39),none⟩,⟨some 41,.move (.tmp 40),none⟩,⟨some 42,.fieldAddr 52 (.tmp 5) 4,some (some 41,false)⟩,⟨some 43,.load 3 (.tmp 42),some (some 41,false)⟩,⟨some 44,.binOp .gtr 3 (.tmp 43) (.const (.int .i64 65535)) 3,some (some 41,false)⟩,⟨some 45,.pick (.tmp 41) (.const (.bool true)) (.tmp 44),none⟩,⟨some 46,.move (.tmp 45),none⟩,⟨some 47,.fieldAddr 52 (.tmp 5) 7,some (some 46,false)⟩,⟨some 48,.load 3 (.tmp 47),some (some 46,false)⟩,⟨some 49,.binOp .lss 3 (.tmp 48) (.const (.int .i64 0)) 3,some (some 46,false)⟩,⟨some 50,.pick (.tmp 46) (.const (.bool true)) (.tmp 49),none⟩,⟨some 51,.move (.tmp 50),none⟩,⟨some 52,.fieldAddr 52 (.tmp 5) 7,some (some 51,false)⟩,⟨some 53,.load 3 (.tmp 52),some (some 51,false)⟩,⟨some 54,.binOp .gtr 3 (.tmp 53) (.const (.int .i64 65535)) 3,some (some 51,false)⟩,⟨some 55,.pick (.tmp 51) (.const (.bool true)) (.tmp 54),none⟩,⟨some 56,.move (.tmp 55),none⟩,⟨some 57,.fieldAddr 52 (.tmp 5) 6,some (some 56,false)⟩,⟨some 58,.load 3 (.tmp 57),some (some 56,false)⟩,⟨some 59,.binOp .lss 3 (.tmp 58) (.const (.int .i64 (-65535))) 3,some (some 56,false)⟩,⟨some 60,.pick (.tmp 56) (.const (.bool true)) (.tmp 59),none⟩,⟨some 61,.move (.tmp 60),none⟩,⟨some 62,.fieldAddr 52 (.tmp 5) 6,some (some 61,false)⟩,⟨some 63,.load 3 (.tmp 62),some (some 61,false)⟩,⟨some 64,.binOp .gtr 3 (.tmp 63) (.const (.int .i64 65535)) 3,some (some 61,false)⟩,⟨some 65,.pick (.tmp 61) (.const (.bool true)) (.tmp 64),none⟩,⟨some 66,.move (.tmp 65),none⟩,⟨some 67,.fieldAddr 52 (.tmp 5) 5,some (some 66,false)⟩,⟨some 68,.load 4 (.tmp 67),some (some 66,false)⟩,⟨some 69,.move (.tmp 68),some (some 66,false)⟩,⟨some 70,.fieldAddr 52 (.tmp 5) 2,some (some 69,true)⟩,⟨some 71,.load 4 (.tmp 70),some (some 69,true)⟩,⟨some 72,.move (.tmp 71),some (some 69,true)⟩,⟨some 73,.move (.tmp 3),some (some 72,false)⟩,⟨some 74,.unOp .not 4 (.tmp 73),some (some 72,false)⟩,⟨some 75,.pick (.tmp 72) (.const (.bool true)) (.tmp 74),some (some 69,true)⟩,⟨some 76,.pick (.tmp 69) (.tmp 75) (.const (.bool false)),some (some 66,false)⟩,⟨some 77,.pick (.tmp 66) (.const (.bool true)) (.tmp 76),none⟩]
def c41_r7 : List SOp := [⟨some 2,.assign (.const (.bool false)),none⟩]
def c41_r8 : List SOp := [⟨some 78,.move (.tmp 3),none⟩,⟨some 79,.move (.tmp 78),none⟩,⟨some 80,.fieldAddr 52 (.tmp 5) 2,some (some 79,false)⟩,⟨some 81,.load 4 (.tmp 80),some (some 79,false)⟩,⟨some 82,.unOp .not 4 (.tmp 81),some (some 79,false)⟩,⟨some 83,.pick (.tmp 79) (.const (.bool true)) (.tmp 82),none⟩,⟨some 3,.assign (.tmp 83),none⟩]
def c41_r4 : List SOp := [⟨some 10,.move (.tmp 4),none⟩,⟨some 11,.binOp .add 3 (.tmp 10) (.const (.int .i64 1)) 3,none⟩,⟨some 4,.assign (.tmp 11),none⟩]
def c41_l3 : SC := (.seq (.seq (.reg c41_r3 none (some [0,3,4,9])) (.cond (.tmp 9) .skip (.exit 0) (some [0,3,4]))) (.seq (.block 1 (.seq (.reg c41_r5 none (some [0,3,4,5])) (.seq (.seq (.reg c41_r6 none (some [0,3,4,5,77])) (.cond (.tmp 77) (.seq (.reg c41_r7 none (some [2])) .ret) .skip (some [0,3,4,5]))) (.reg c41_r8 none (some [0,3,4]))))) (.reg c41_r4 none (some [0,3,4]))))
def c41_r9 : List SOp := [⟨some 84,.move (.tmp 0),none⟩,⟨some 85,.call ⟨.builtin .len, #[.tmp 84], #[42]⟩,none⟩,⟨some 86,.binOp .leq 3 (.tmp 85) (.const (.int .i64 4)) 3,none⟩,⟨some 2,.assign (.tmp 86),none⟩]
def c41 : SC := (.seq (.reg c41_r0 none (some [0])) (.seq (.reg c41_r1 none (some [0,3])) (.seq (.seq (.reg c41_r2 none (some [0,3,4])) (.block 0 (.loop c41_l3 (some [0,3,4])))) (.seq (.reg c41_r9 none (some [2])) .ret))))
theorem c41_eq : ∃ code, Try.f41.body = some code ∧ compile H41 code = c41 := ⟨_, rfl, by kernel_rfl⟩
theorem c41_fn : Try.prog.funcs[41]? = some Try.f41 := by kernel_rfl
theorem c41_rs : Try.f41.results.toList = [.tmp 2] := by kernel_rfl
theorem c41_ok : fnB Try.prog H41 Try.f41 = true := by kernel_rfl
theorem c41_nt : Try.f41.ntmps = 87 := by kernel_rfl

def H42 : Hint := ⟨[(3, [0]), (2, [1, 2, 3]), (1, [1]), (0, [])], []⟩
def c42_r0 : List SOp := [⟨some 0,.assign (.const (.bool false)),none⟩]
def c42_r1 : List SOp := [⟨some 4,.build 52 #[(0, (.const (.string ⟨#[97]⟩)))],none⟩,⟨some 5,.build 52 #[(0, (.const (.string ⟨#[98]⟩))), (5, (.const (.bool true))), (7, (.const (.int .i64 1)))],none⟩,⟨some 6,.buildSlice 42 2 #[(0, (.tmp 4)), (1, (.tmp 5))],none⟩,⟨some 1,.assign (.tmp 6),none⟩]
def c42_r2 : List SOp := [⟨some 8,.move (.tmp 1),none⟩,⟨some 9,.call ⟨.value (.func 45), #[(.tmp 8), (.const (.string ⟨#[97,98]⟩))], #[42,9]⟩,none⟩,⟨some 7,.move (.tmp 9),none⟩,⟨some 10,.extract (.tmp 7) 0,none⟩,⟨some 11,.extract (.tmp 7) 1,none⟩,⟨some 2,.assign (.tmp 10),none⟩,⟨some 3,.assign (.tmp 11),none⟩]
def c42_r3 : List SOp := [⟨some 12,.move (.tmp 1),none⟩,⟨some 13,.call ⟨.value (.func 47), #[(.tmp 12), (.const (.string ⟨#[97,120,98]⟩))], #[42,9]⟩,none⟩,⟨some 14,.unOp .not 4 (.tmp 13),none⟩,⟨some 15,.move (.tmp 14),none⟩,⟨some 16,.move (.tmp 3),some (some 15,true)⟩,⟨some 17,.pick (.tmp 15) (.tmp 16) (.const (.bool false)),none⟩,⟨some 18,.move (.tmp 17),none⟩,⟨some 19,.move (.tmp 2),some (some 18,true)⟩,⟨some 20,.binOp .eql 3 (.tmp 19) (.const (.int .i64 2)) 3,some (some 18,true)⟩,⟨some 21,.pick (.tmp 18) (.tmp 20) (.const (.bool false)),none⟩,⟨some 22,.move (.tmp 21),none⟩,⟨some 23,.call ⟨.value (.func 47), #[(.const (.slice none 0 0)), (.const (.string ⟨#[]⟩))], #[42,9]⟩,some (some 22,true)⟩,⟨some 24,.pick (.tmp 22) (.tmp 23) (.const (.bool false)),none⟩,⟨some 0,.assign (.tmp 24),none⟩]
def c42 : SC := (.seq (.reg c42_r0 none (some [])) (.seq (.reg c42_r1 none (some [1])) (.seq (.reg c42_r2 none (some [1,2,3])) (.seq (.reg c42_r3 none (some [0])) .ret))))
theorem c42_eq : ∃ code, Try.f42.body = some code ∧ compile H42 code = c42 := ⟨_, rfl, by kernel_rfl⟩
theorem c42_fn : Try.prog.funcs[42]? = some Try.f42 := by kernel_rfl
theorem c42_rs : Try.f42.results.toList = [.tmp 0] := by kernel_rfl
theorem c42_ok : fnB Try.prog H42 Try.f42 = true := by kernel_rfl
theorem c42_nt : Try.f42.ntmps = 25 := by kernel_rfl

def H43 : Hint := ⟨[(18, [4]), (17, [1, 5, 6, 7, 16, 17, 18]), (16, [1, 5, 6, 7, 16, 17, 18]), (15, [1, 5, 6, 10, 16, 17, 18]), (14, [1, 5, 6, 7, 9, 10, 16, 17, 18, 26, 27]), (13, [1, 5, 6, 7, 9, 10, 16, 17, 18, 26, 27]), (2000044, [1, 5, 6, 7, 9, 10, 16, 17, 18, 26, 27]), (12, [1, 5, 6, 7, 9, 10, 11, 16, 17, 18, 26, 27, 44]), (11, [1, 5, 6, 7, 9, 10, 11, 16, 17, 18, 26, 27]), (2000028, [1, 5, 6, 7, 9, 10, 16, 17, 18, 26, 27]), (10, [1, 5, 6, 7, 9, 10, 16, 17, 18, 26, 27, 28]), (1000010, [1, 5, 6, 7, 9, 10, 16, 17, 18, 26, 27]), (9, [1, 5, 6, 7, 9, 10, 16, 17, 18, 26, 27]), (8, [1, 5, 6, 7, 9, 10, 16, 17, 18]), (2000023, [1, 5, 6, 7, 9, 16, 17, 18]), (7, [1, 5, 6, 7, 9, 16, 17, 18, 23]), (6, [1, 5, 6, 7, 9, 16, 17, 18]), (2000019, [1, 5, 6, 7, 16, 17, 18]), (5, [1, 5, 6, 7, 16, 17, 18, 19]), (1000005, [1, 5, 6, 7, 16, 17, 18]), (4, [1, 5, 6, 7, 16, 17, 18]), (3, [0, 1, 5, 6, 7]), (2, [0, 1, 5, 6]), (1, [0, 1, 5]), (0, [0, 1])], []⟩
def c43_r0 : List SOp := [⟨some 4,.assign (.const (.slice none 0 0)),none⟩]
def c43_r1 : List SOp := [⟨some 12,.move (.tmp 1),none⟩,⟨some 13,.move (.tmp 1),none⟩,⟨some 14,.call ⟨.value (.func 59), #[.tmp 13], #[9]⟩,none⟩,⟨some 15,.build 122 #[(0, (.tmp 12)), (1, (.tmp 14))],none⟩,⟨some 5,.alloc 122,none⟩,⟨none,.store 122 (.tmp 5) (.tmp 15),none⟩]
def c43_r2 : List SOp := [⟨some 6,.assign (.const (.slice none 0 0)),none⟩]
def c43_r3 : List SOp := [⟨some 7,.assign (.const (.slice none 0 0)),none⟩]
def c43_r4 : List SOp := [⟨some 16,.move (.tmp 0),none⟩,⟨some 17,.call ⟨.builtin .len, #[.tmp 16], #[42]⟩,none⟩,⟨some 18,.move (.const (.int .i64 0)),none⟩]
def c43_r5 : List SOp := [⟨some 19,.binOp .lss 3 (.tmp 18) (.tmp 17) 3,none⟩]
def c43_r6 : List SOp := [⟨some 20,.indexAddr 42 (.tmp 16) (.tmp 18),none⟩,⟨some 21,.load 52 (.tmp 20),none⟩,⟨some 9,.alloc 52,none⟩,⟨none,.store 52 (.tmp 9) (.tmp 21),none⟩]
def c43_r7 : List SOp := [⟨some 22,.fieldAddr 52 (.tmp 9) 2,none⟩,⟨some 23,.load 4 (.tmp 22),none⟩]
def c43_r8 : List SOp := [⟨some 10,.assign (.const (.slice none 0 0)),none⟩]
def c43_r9 : List SOp := [⟨some 24,.move (.tmp 1),none⟩,⟨some 25,.call ⟨.builtin .len, #[.tmp 24], #[9]⟩,none⟩,⟨some 26,.binOp .add 3 (.tmp 25) (.const (.int .i64 1)) 3,none⟩,⟨some 27,.move (.const (.int .i64 0)),none⟩]
def c43_r10 : List SOp := [⟨some 28,.binOp .lss 3 (.tmp 27) (.tmp 26) 3,none⟩]
def c43_r11 : List SOp := [⟨some 29,.move (.tmp 27),none⟩,⟨some 11,.assign (.tmp 29),none⟩]
def c43_r12 : List SOp := [⟨some 30,.load 122 (.tmp 5),none⟩,⟨some 31,.load 52 (.tmp 9),none⟩,⟨some 32,.move (.tmp 11),none⟩,⟨some 33,.call ⟨.value (.func 94), #[.tmp 30,.tmp 31,.tmp 32], #[122,52,3]⟩,none⟩,⟨some 34,.move (.tmp 33),none⟩,⟨some 35,.fieldAddr 52 (.tmp 9) 5,some (some 34,true)⟩,⟨some 36,.load 4 (.tmp 35),some (some 34,true)⟩,⟨some 37,.unOp .not 4 (.tmp 36),some (some 34,true)⟩,⟨some 38,.move (.tmp 37),some (some 34,true)⟩,⟨some 39,.load 52 (.tmp 9),some (some 38,false)⟩,⟨some 40,.move (.tmp 11),some (some 38,false)⟩,⟨some 41,.move (.tmp 7),some (some 38,false)⟩,⟨some 42,.call ⟨.value (.func 95), #[.tmp 39,.tmp 40,.tmp 41], #[52,3,30]⟩,some (some 38,false)⟩,⟨some 43,.pick (.tmp 38) (.const (.bool true)) (.tmp 42),some (some 34,true)⟩,⟨some 44,.pick (.tmp 34) (.tmp 43) (.const (.bool false)),none⟩]
def c43_r13 : List SOp := [⟨some 45,.move (.tmp 10),none⟩,⟨some 46,.move (.tmp 11),none⟩,⟨some 47,.buildSlice 30 1 #[(0, (.tmp 46))],none⟩,⟨some 48,.call ⟨.builtin .append, #[.tmp 45,.tmp 47], #[30,30]⟩,none⟩,⟨some 10,.assign (.tmp 48),none⟩]
def c43_r14 : List SOp := [⟨some 49,.binOp .add 3 (.tmp 27) (.const (.int .i64 1)) 3,none⟩,⟨some 27,.move (.tmp 49),none⟩]
def c43_l10 : SC := (.seq (.reg c43_r10 none (some [1,5,6,7,9,10,16,17,18,26,27,28])) (.seq (.cond (.tmp 28) .skip (.exit 2) (some [1,5,6,7,9,10,16,17,18,26,27])) (.seq (.block 3 (.seq (.reg c43_r11 none (some [1,5,6,7,9,10,11,16,17,18,26,27])) (.seq (.reg c43_r12 none (some [1,5,6,7,9,10,11,16,17,18,26,27,44])) (.cond (.tmp 44) (.reg c43_r13 none (some [1,5,6,7,9,10,16,17,18,26,27])) .skip (some [1,5,6,7,9,10,16,17,18,26,27]))))) (.reg c43_r14 none (some [1,5,6,7,9,10,16,17,18,26,27])))))
def c43_r15 : List SOp := [⟨some 50,.move (.tmp 6),none⟩,⟨some 51,.move (.tmp 10),none⟩,⟨some 52,.buildSlice 44 1 #[(0, (.tmp 51))],none⟩,⟨some 53,.call ⟨.builtin .append, #[.tmp 50,.tmp 52], #[44,44]⟩,none⟩,⟨some 6,.assign (.tmp 53),none⟩]
def c43_r16 : List SOp := [⟨some 54,.move (.tmp 10),none⟩,⟨some 7,.assign (.tmp 54),none⟩]
def c43_r17 : List SOp := [⟨some 55,.binOp .add 3 (.tmp 18) (.const (.int .i64 1)) 3,none⟩,⟨some 18,.move (.tmp 55),none⟩]
def c43_l5 : SC := (.seq (.reg c43_r5 none (some [1,5,6,7,16,17,18,19])) (.seq (.cond (.tmp 19) .skip (.exit 0) (some [1,5,6,7,16,17,18])) (.seq (.block 1 (.seq (.reg c43_r6 none (some [1,5,6,7,9,16,17,18])) (.seq (.seq (.reg c43_r7 none (some [1,5,6,7,9,16,17,18,23])) (.cond (.tmp 23) (.exit 1) .skip (some [1,5,6,7,9,16,17,18]))) (.seq (.reg c43_r8 none (some [1,5,6,7,9,10,16,17,18])) (.seq (.seq (.reg c43_r9 none (some [1,5,6,7,9,10,16,17,18,26,27])) (.block 2 (.loop c43_l10 (some [1,5,6,7,9,10,16,17,18,26,27])))) (.seq (.reg c43_r15 none (some [1,5,6,10,16,17,18])) (.reg c43_r16 none (some [1,5,6,7,16,17,18])))))))) (.reg c43_r17 none (some [1,5,6,7,16,17,18])))))
def c43_r18 : List SOp := [⟨some 56,.move (.tmp 6),none⟩,⟨some 4,.assign (.tmp 56),none⟩]
def c43 : SC := (.seq (.reg c43_r0 none (some [0,1])) (.seq (.reg c43_r1 none (some [0,1,5])) (.seq (.reg c43_r2 none (some [0,1,5,6])) (.seq (.reg c43_r3 none (some [0,1,5,6,7])) (.seq .skip (.seq (.seq (.reg c43_r4 none (some [1,5,6,7,16,17,18])) (.block 0 (.loop c43_l5 (some [1,5,6,7,16,17,18])))) (.seq (.reg c43_r18 none (some [4])) .ret)))))))
theorem c43_eq : ∃ code, Try.f43.body = some code ∧ compile H43 code = c43 := ⟨_, rfl, by kernel_rfl⟩
theorem c43_fn : Try.prog.funcs[43]? = some Try.f43 := by kernel_rfl
theorem c43_rs : Try.f43.results.toList = [.tmp 4] := by kernel_rfl
theorem c43_ok : fnB Try.prog H43 Try.f43 = true := by kernel_rfl
theorem c43_nt : Try.f43.ntmps = 57 := by kernel_rfl

def H44 : Hint := ⟨[(20, [4]), (4, [0, 1, 5, 6]), (19, [0, 1, 5, 6]), (9, [0, 1, 5, 6, 7, 8]), (18, [0, 1, 5, 6, 7, 8]), (2000081, [0, 1, 5, 6, 7, 8]), (17, [0, 1, 5, 6, 7, 8, 81]), (15, [0, 1, 5, 6, 7, 8, 9, 10]), (16, [0, 1, 5, 6, 7, 8, 9, 10]), (2000060, [0, 1, 5, 6, 7, 8, 9, 10]), (14, [0, 1, 5, 6, 7, 8, 9, 10, 60]), (1000014, [0, 1, 5, 6, 7, 8, 9, 10]), (13, [0, 1, 5, 6, 7, 8, 9, 10]), (2000051, [0, 1, 5, 6, 7, 8, 9]), (12, [0, 1, 5, 6, 7, 8, 9, 51]), (11, [0, 1, 5, 6, 7, 8, 9]), (2000035, [0, 1, 5, 6, 7, 8]), (10, [0, 1, 5, 6, 7, 8, 35]), (2000025, [0, 1, 5, 6, 7, 8]), (8, [0, 1, 5, 6, 7, 8, 25]), (1000008, [0, 1, 5, 6, 7, 8]), (7, [0, 1, 5, 6, 7, 8]), (6, [0, 1, 5, 6, 7]), (2000021, [0, 1, 5, 6]), (5, [0, 1, 5, 6, 21]), (2000014, [0, 1, 5, 6]), (3, [0, 1, 5, 6, 14]), (1000003, [0, 1, 5, 6]), (2, [0, 1, 5, 6]), (1, [0, 1, 5]), (0, [0, 1])], []⟩
def c44_r0 : List SOp := [⟨some 4,.assign (.const (.slice none 0 0)),none⟩]
def c44_r1 : List SOp := [⟨some 5,.assign (.const (.slice none 0 0)),none⟩]
def c44_r2 : List SOp := [⟨some 6,.assign (.const (.int .i64 0)),none⟩]
def c44_r3 : List SOp := [⟨some 11,.move (.tmp 6),none⟩,⟨some 12,.move (.tmp 0),none⟩,⟨some 13,.call ⟨.builtin .len, #[.tmp 12], #[42]⟩,none⟩,⟨some 14,.binOp .lss 3 (.tmp 11) (.tmp 13) 3,none⟩]
def c44_r5 : List SOp := [⟨some 17,.move (.tmp 0),none⟩,⟨some 18,.move (.tmp 6),none⟩,⟨some 19,.indexAddr 42 (.tmp 17) (.tmp 18),none⟩,⟨some 20,.fieldAddr 52 (.tmp 19) 2,none⟩,⟨some 21,.load 4 (.tmp 20),none⟩]
def c44_r6 : List SOp := [⟨some 7,.assign (.const (.slice none 0 0)),none⟩]
def c44_r7 : List SOp := [⟨some 8,.assign (.const (.int .i64 0)),none⟩]
def c44_r8 : List SOp := [⟨some 22,.move (.tmp 8),none⟩,⟨some 23,.move (.tmp 1),none⟩,⟨some 24,.call ⟨.builtin .len, #[.tmp 23], #[9]⟩,none⟩,⟨some 25,.binOp .leq 3 (.tmp 22) (.tmp 24) 3,none⟩]
def c44_r10 : List SOp := [⟨some 28,.move (.tmp 0),none⟩,⟨some 29,.move (.tmp 6),none⟩,⟨some 30,.indexAddr 42 (.tmp 28) (.tmp 29),none⟩,⟨some 31,.load 52 (.tmp 30),none⟩,⟨some 32,.move (.tmp 1),none⟩,⟨some 33,.move (.tmp 8),none⟩,⟨some 34,.call ⟨.value (.func 96), #[.tmp 31,.tmp 32,.tmp 33], #[52,9,3]⟩,none⟩,⟨some 35,.unOp .not 4 (.tmp 34),none⟩]
def c44_r11 : List SOp := [⟨some 36,.move (.tmp 0),none⟩,⟨some 37,.move (.tmp 6),none⟩,⟨some 38,.indexAddr 42 (.tmp 36) (.tmp 37),none⟩,⟨some 39,.fieldAddr 52 (.tmp 38) 5,none⟩,⟨some 40,.load 4 (.tmp 39),none⟩,⟨some 41,.unOp .not 4 (.tmp 40),none⟩,⟨some 9,.assign (.tmp 41),none⟩]
def c44_r12 : List SOp := [⟨some 42,.move (.tmp 0),none⟩,⟨some 43,.move (.tmp 6),none⟩,⟨some 44,.indexAddr 42 (.tmp 42) (.tmp 43),none⟩,⟨some 45,.fieldAddr 52 (.tmp 44) 5,none⟩,⟨some 46,.load 4 (.tmp 45),none⟩,⟨some 47,.move (.tmp 46),none⟩,⟨some 48,.move (.tmp 5),some (some 47,true)⟩,⟨some 49,.call ⟨.builtin .len, #[.tmp 48], #[44]⟩,some (some 47,true)⟩,⟨some 50,.binOp .gtr 3 (.tmp 49) (.const (.int .i64 0)) 3,some (some 47,true)⟩,⟨some 51,.pick (.tmp 47) (.tmp 50) (.const (.bool false)),none⟩]
def c44_r13 : List SOp := [⟨some 10,.assign (.const (.int .i64 0)),none⟩]
def c44_r14 : List SOp := [⟨some 52,.move (.tmp 10),none⟩,⟨some 53,.move (.tmp 5),none⟩,⟨some 54,.move (.tmp 5),none⟩,⟨some 55,.call ⟨.builtin .len, #[.tmp 54], #[44]⟩,none⟩,⟨some 56,.binOp .sub 3 (.tmp 55) (.const (.int .i64 1)) 3,none⟩,⟨some 57,.indexAddr 44 (.tmp 53) (.tmp 56),none⟩,⟨some 58,.load 30 (.tmp 57),none⟩,⟨some 59,.call ⟨.builtin .len, #[.tmp 58], #[30]⟩,none⟩,⟨some 60,.binOp .lss 3 (.tmp 52) (.tmp 59) 3,none⟩]
def c44_r16 : List SOp := [⟨some 63,.move (.tmp 9),none⟩,⟨some 64,.move (.tmp 63),none⟩,⟨some 65,.move (.tmp 0),some (some 64,false)⟩,⟨some 66,.move (.tmp 6),some (some 64,false)⟩,⟨some 67,.indexAddr 42 (.tmp 65) (.tmp 66),some (some 64,false)⟩,⟨some 68,.load 52 (.tmp 67),some (some 64,false)⟩,⟨some 69,.move (.tmp 5),some (some 64,false)⟩,⟨some 70,.move (.tmp 5),some (some 64,false)⟩,⟨some 71,.call ⟨.builtin .len, #[.tmp 70], #[44]⟩,some (some 64,false)⟩,⟨some 72,.binOp .sub 3 (.tmp 71) (.const (.int .i64 1)) 3,some (some 64,false)⟩,⟨some 73,.indexAddr 44 (.tmp 69) (.tmp 72),some (some 64,false)⟩,⟨some 74,.load 30 (.tmp 73),some (some 64,false)⟩,⟨some 75,.move (.tmp 10),some (some 64,false)⟩,⟨some 76,.indexAddr 30 (.tmp 74) (.tmp 75),some (some 64,false)⟩,⟨some 77,.load 3 (.tmp 76),some (some 64,false)⟩,⟨some 78,.move (.tmp 8),some (some 64,false)⟩,⟨some 79,.call ⟨.value (.func 97), #[.tmp 68,.tmp 77,.tmp 78], #[52,3,3]⟩,some (some 64,false)⟩,⟨some 80,.pick (.tmp 64) (.const (.bool true)) (.tmp 79),none⟩,⟨some 9,.assign (.tmp 80),none⟩]
def c44_r15 : List SOp := [⟨some 61,.move (.tmp 10),none⟩,⟨some 62,.binOp .add 3 (.tmp 61) (.const (.int .i64 1)) 3,none⟩,⟨some 10,.assign (.tmp 62),none⟩]
def c44_l14 : SC := (.seq (.seq (.reg c44_r14 none (some [0,1,5,6,7,8,9,10,60])) (.cond (.tmp 60) .skip (.exit 4) (some [0,1,5,6,7,8,9,10]))) (.seq (.block 5 (.reg c44_r16 none (some [0,1,5,6,7,8,9,10]))) (.reg c44_r15 none (some [0,1,5,6,7,8,9,10]))))
def c44_r17 : List SOp := [⟨some 81,.move (.tmp 9),none⟩]
def c44_r18 : List SOp := [⟨some 82,.move (.tmp 7),none⟩,⟨some 83,.move (.tmp 8),none⟩,⟨some 84,.buildSlice 30 1 #[(0, (.tmp 83))],none⟩,⟨some 85,.call ⟨.builtin .append, #[.tmp 82,.tmp 84], #[30,30]⟩,none⟩,⟨some 7,.assign (.tmp 85),none⟩]
def c44_r9 : List SOp := [⟨some 26,.move (.tmp 8),none⟩,⟨some 27,.binOp .add 3 (.tmp 26) (.const (.int .i64 1)) 3,none⟩,⟨some 8,.assign (.tmp 27),none⟩]
def c44_l8 : SC := (.seq (.seq (.reg c44_r8 none (some [0,1,5,6,7,8,25])) (.cond (.tmp 25) .skip (.exit 2) (some [0,1,5,6,7,8]))) (.seq (.block 3 (.seq (.seq (.reg c44_r10 none (some [0,1,5,6,7,8,35])) (.cond (.tmp 35) (.exit 3) .skip (some [0,1,5,6,7,8]))) (.seq (.reg c44_r11 none (some [0,1,5,6,7,8,9])) (.seq (.seq (.reg c44_r12 none (some [0,1,5,6,7,8,9,51])) (.cond (.tmp 51) (.seq (.reg c44_r13 none (some [0,1,5,6,7,8,9,10])) (.block 4 (.loop c44_l14 (some [0,1,5,6,7,8,9,10])))) .skip (some [0,1,5,6,7,8,9]))) (.seq (.reg c44_r17 none (some [0,1,5,6,7,8,81])) (.cond (.tmp 81) (.reg c44_r18 none (some [0,1,5,6,7,8])) .skip (some [0,1,5,6,7,8]))))))) (.reg c44_r9 none (some [0,1,5,6,7,8]))))
def c44_r19 : List SOp := [⟨some 86,.move (.tmp 5),none⟩,⟨some 87,.move (.tmp 7),none⟩,⟨some 88,.buildSlice 44 1 #[(0, (.tmp 87))],none⟩,⟨some 89,.call ⟨.builtin .append, #[.tmp 86,.tmp 88], #[44,44]⟩,none⟩,⟨some 5,.assign (.tmp 89),none⟩]
def c44_r4 : List SOp := [⟨some 15,.move (.tmp 6),none⟩,⟨some 16,.binOp .add 3 (.tmp 15) (.const (.int .i64 1)) 3,none⟩,⟨some 6,.assign (.tmp 16),none⟩]
def c44_l3 : SC := (.seq (.seq (.reg c44_r3 none (some [0,1,5,6,14])) (.cond (.tmp 14) .skip (.exit 0) (some [0,1,5,6]))) (.seq (.block 1 (.seq (.seq (.reg c44_r5 none (some [0,1,5,6,21])) (.cond (.tmp 21) (.exit 1) .skip (some [0,1,5,6]))) (.seq (.reg c44_r6 none (some [0,1,5,6,7])) (.seq (.seq (.reg c44_r7 none (some [0,1,5,6,7,8])) (.block 2 (.loop c44_l8 (some [0,1,5,6,7,8])))) (.reg c44_r19 none (some [0,1,5,6])))))) (.reg c44_r4 none (some [0,1,5,6]))))
def c44_r20 : List SOp := [⟨some 90,.move (.tmp 5),none⟩,⟨some 4,.assign (.tmp 90),none⟩]
def c44 : SC := (.seq (.reg c44_r0 none (some [0,1])) (.seq (.reg c44_r1 none (some [0,1,5])) (.seq (.seq (.reg c44_r2 none (some [0,1,5,6])) (.block 0 (.loop c44_l3 (some [0,1,5,6])))) (.seq (.reg c44_r20 none (some [4])) .ret))))
theorem c44_eq : ∃ code, Try.f44.body = some code ∧ compile H44 code = c44 := ⟨_, rfl, by kernel_rfl⟩
theorem c44_fn : Try.prog.funcs[44]? = some Try.f44 := by kernel_rfl
theorem c44_rs : Try.f44.results.toList = [.tmp 4] := by kernel_rfl
theorem c44_ok : fnB Try.prog H44 Try.f44 = true := by kernel_rfl
theorem c44_nt : Try.f44.ntmps = 91 := by kernel_rfl

def H45 : Hint := ⟨[(12, [4, 5]), (11, [4, 5]), (2000039, [6]), (10, [6, 39]), (9, [6, 9, 10]), (8, [0, 1, 6, 13, 14, 15]), (7, [0, 1, 6, 13, 14, 15]), (6, [4, 5]), (2000021, [0, 1, 6, 8, 13, 14, 15]), (5, [0, 1, 6, 8, 13, 14, 15, 21]), (4, [0, 1, 6, 8, 13, 14, 15]), (2000016, [0, 1, 6, 13, 14, 15]), (3, [0, 1, 6, 13, 14, 15, 16]), (1000003, [0, 1, 6, 13, 14, 15]), (2, [0, 1, 6, 13, 14, 15]), (1, [0, 1, 6]), (0, [0, 1])], []⟩
def c45_r0 : List SOp := [⟨some 4,.assign (.const (.int .i64 0)),none⟩,⟨some 5,.assign (.const (.bool false)),none⟩]
def c45_r1 : List SOp := [⟨some 6,.assign (.const (.int .i64 0)),none⟩]
def c45_r2 : List SOp := [⟨some 11,.move (.tmp 0),none⟩,⟨some 12,.move (.tmp 1),none⟩,⟨some 13,.call ⟨.value (.func 43), #[.tmp 11,.tmp 12], #[42,9]⟩,none⟩,⟨some 14,.call ⟨.builtin .len, #[.tmp 13], #[44]⟩,none⟩,⟨some 15,.move (.const (.int .i64 0)),none⟩]
def c45_r3 : List SOp := [⟨some 16,.binOp .lss 3 (.tmp 15) (.tmp 14) 3,none⟩]
def c45_r4 : List SOp := [⟨some 17,.indexAddr 44 (.tmp 13) (.tmp 15),none⟩,⟨some 18,.load 30 (.tmp 17),none⟩,⟨some 8,.assign (.tmp 18),none⟩]
def c45_r5 : List SOp := [⟨some 19,.move (.tmp 8),none⟩,⟨some 20,.call ⟨.builtin .len, #[.tmp 19], #[30]⟩,none⟩,⟨some 21,.binOp .eql 3 (.tmp 20) (.const (.int .i64 0)) 3,none⟩]
def c45_r6 : List SOp := [⟨some 4,.assign (.const (.int .i64 0)),none⟩,⟨some 5,.assign (.const (.bool false)),none⟩]
def c45_r7 : List SOp := [⟨some 22,.move (.tmp 6),none⟩,⟨some 23,.move (.tmp 8),none⟩,⟨some 24,.indexAddr 30 (.tmp 23) (.const (.int .i64 0)),none⟩,⟨some 25,.load 3 (.tmp 24),none⟩,⟨some 26,.call ⟨.builtin .max, #[.tmp 22,.tmp 25], #[3,3]⟩,none⟩,⟨some 6,.assign (.tmp 26),none⟩]
def c45_r8 : List SOp := [⟨some 27,.binOp .add 3 (.tmp 15) (.const (.int .i64 1)) 3,none⟩,⟨some 15,.move (.tmp 27),none⟩]
def c45_l3 : SC := (.seq (.reg c45_r3 none (some [0,1,6,13,14,15,16])) (.seq (.cond (.tmp 16) .skip (.exit 0) (some [0,1,6,13,14,15])) (.seq (.block 1 (.seq (.reg c45_r4 none (some [0,1,6,8,13,14,15])) (.seq (.seq (.reg c45_r5 none (some [0,1,6,8,13,14,15,21])) (.cond (.tmp 21) (.seq (.reg c45_r6 none (some [4,5])) .ret) .skip (some [0,1,6,8,13,14,15]))) (.reg c45_r7 none (some [0,1,6,13,14,15]))))) (.reg c45_r8 none (some [0,1,6,13,14,15])))))
def c45_r9 : List SOp := [⟨some 29,.move (.tmp 0),none⟩,⟨some 30,.move (.tmp 1),none⟩,⟨some 31,.call ⟨.value (.func 98), #[.tmp 29,.tmp 30], #[42,9]⟩,none⟩,⟨some 28,.move (.tmp 31),none⟩,⟨some 32,.extract (.tmp 28) 0,none⟩,⟨some 33,.extract (.tmp 28) 1,none⟩,⟨some 9,.assign (.tmp 32),none⟩,⟨some 10,.assign (.tmp 33),none⟩]
def c45_r10 : List SOp := [⟨some 34,.move (.tmp 10),none⟩,⟨some 35,.move (.tmp 34),none⟩,⟨some 36,.move (.tmp 9),some (some 35,true)⟩,⟨some 37,.move (.tmp 6),some (some 35,true)⟩,⟨some 38,.binOp .leq 3 (.tmp 36) (.tmp 37) 3,some (some 35,true)⟩,⟨some 39,.pick (.tmp 35) (.tmp 38) (.const (.bool false)),none⟩]
def c45_r11 : List SOp := [⟨some 4,.assign (.const (.int .i64 0)),none⟩,⟨some 5,.assign (.const (.bool false)),none⟩]
def c45_r12 : List SOp := [⟨some 40,.move (.tmp 6),none⟩,⟨some 4,.assign (.tmp 40),none⟩,⟨some 5,.assign (.const (.bool true)),none⟩]
def c45 : SC := (.seq (.reg c45_r0 none (some [0,1])) (.seq (.reg c45_r1 none (some [0,1,6])) (.seq (.seq (.reg c45_r2 none (some [0,1,6,13,14,15])) (.block 0 (.loop c45_l3 (some [0,1,6,13,14,15])))) (.seq (.seq (.reg c45_r9 none (some [6,9,10])) (.seq (.reg c45_r10 none (some [6,39])) (.cond (.tmp 39) (.seq (.reg c45_r11 none (some [4,5])) .ret) .skip (some [6])))) (.seq (.reg c45_r12 none (some [4,5])) .ret)))))
theorem c45_eq : ∃ code, Try.f45.body = some code ∧ compile H45 code = c45 := ⟨_, rfl, by kernel_rfl⟩
theorem c45_fn : Try.prog.funcs[45]? = some Try.f45 := by kernel_rfl
theorem c45_rs : Try.f45.results.toList = [.tmp 4, .tmp 5] := by kernel_rfl
theorem c45_ok : fnB Try.prog H45 Try.f45 = true := by kernel_rfl
theorem c45_nt : Try.f45.ntmps = 41 := by kernel_rfl

def H46 : Hint := ⟨[(6, [4, 5]), (3, [0, 1, 6]), (5, [4, 5]), (2000017, [0, 1, 6]), (4, [0, 1, 6, 17]), (2000010, [0, 1, 6]), (2, [0, 1, 6, 10]), (1000002, [0, 1, 6]), (1, [0, 1, 6]), (0, [0, 1])], []⟩
def c46_r0 : List SOp := [⟨some 4,.assign (.const (.int .i64 0)),none⟩,⟨some 5,.assign (.const (.bool false)),none⟩]
def c46_r1 : List SOp := [⟨some 6,.assign (.const (.int .i64 0)),none⟩]
def c46_r2 : List SOp := [⟨some 7,.move (.tmp 6),none⟩,⟨some 8,.move (.tmp 1),none⟩,⟨some 9,.call ⟨.builtin .len, #[.tmp 8], #[9]⟩,none⟩,⟨some 10,.binOp .leq 3 (.tmp 7) (.tmp 9) 3,none⟩]
def c46_r4 : List SOp := [⟨some 13,.move (.tmp 0),none⟩,⟨some 14,.move (.tmp 1),none⟩,⟨some 15,.move (.tmp 6),none⟩,⟨some 16,.slice 9 (.tmp 14) none (some (.tmp 15)) none,none⟩,⟨some 17,.call ⟨.value (.func 48), #[.tmp 13,.tmp 16], #[42,9]⟩,none⟩]
def c46_r5 : List SOp := [⟨some 18,.move (.tmp 6),none⟩,⟨some 4,.assign (.tmp 18),none⟩,⟨some 5,.assign (.const (.bool true)),none⟩]
def c46_r3 : List SOp := [⟨some 11,.move (.tmp 6),none⟩,⟨some 12,.binOp .add 3 (.tmp 11) (.const (.int .i64 1)) 3,none⟩,⟨some 6,.assign (.tmp 12),none⟩]
def c46_l2 : SC := (.seq (.seq (.reg c46_r2 none (some [0,1,6,10])) (.cond (.tmp 10) .skip (.exit 0) (some [0,1,6]))) (.seq (.block 1 (.seq (.reg c46_r4 none (some [0,1,6,17])) (.cond (.tmp 17) (.seq (.reg c46_r5 none (some [4,5])) .ret) .skip (some [0,1,6])))) (.reg c46_r3 none (some [0,1,6]))))
def c46_r6 : List SOp := [⟨some 4,.assign (.const (.int .i64 0)),none⟩,⟨some 5,.assign (.const (.bool false)),none⟩]
def c46 : SC := (.seq (.reg c46_r0 none (some [0,1])) (.seq (.seq (.reg c46_r1 none (some [0,1,6])) (.block 0 (.loop c46_l2 (some [0,1,6])))) (.seq (.reg c46_r6 none (some [4,5])) .ret)))
theorem c46_eq : ∃ code, Try.f46.body = some code ∧ compile H46 code = c46 := ⟨_, rfl, by kernel_rfl⟩
theorem c46_fn : Try.prog.funcs[46]? = some Try.f46 := by kernel_rfl
theorem c46_rs : Try.f46.results.toList = [.tmp 4, .tmp 5] := by kernel_rfl
theorem c46_ok : fnB Try.prog H46 Try.f46 = true := by kernel_rfl
theorem c46_nt : Try.f46.ntmps = 19 := by kernel_rfl

def H47 : Hint := ⟨[(8, [4]), (7, [8]), (6, [0, 1, 11, 12, 13]), (5, [4]), (2000019, [0, 1, 11, 12, 13]), (4, [0, 1, 11, 12, 13, 19]), (3, [0, 1, 6, 11, 12, 13]), (2000014, [0, 1, 11, 12, 13]), (2, [0, 1, 11, 12, 13, 14]), (1000002, [0, 1, 11, 12, 13]), (1, [0, 1, 11, 12, 13]), (0, [0, 1])], []⟩
def c47_r0 : List SOp := [⟨some 4,.assign (.const (.bool false)),none⟩]
def c47_r1 : List SOp := [⟨some 9,.move (.tmp 0),none⟩,⟨some 10,.move (.tmp 1),none⟩,⟨some 11,.call ⟨.value (.func 43), #[.tmp 9,.tmp 10], #[42,9]⟩,none⟩,⟨some 12,.call ⟨.builtin .len, #[.tmp 11], #[44]⟩,none⟩,⟨some 13,.move (.const (.int .i64 0)),none⟩]
def c47_r2 : List SOp := [⟨some 14,.binOp .lss 3 (.tmp 13) (.tmp 12) 3,none⟩]
def c47_r3 : List SOp := [⟨some 15,.indexAddr 44 (.tmp 11) (.tmp 13),none⟩,⟨some 16,.load 30 (.tmp 15),none⟩,⟨some 6,.assign (.tmp 16),none⟩]
def c47_r4 : List SOp := [⟨some 17,.move (.tmp 6),none⟩,⟨some 18,.call ⟨.builtin .len, #[.tmp 17], #[30]⟩,none⟩,⟨some 19,.binOp .eql 3 (.tmp 18) (.const (.int .i64 0)) 3,none⟩]
def c47_r5 : List SOp := [⟨some 4,.assign (.const (.bool false)),none⟩]
def c47_r6 : List SOp := [⟨some 20,.binOp .add 3 (.tmp 13) (.const (.int .i64 1)) 3,none⟩,⟨some 13,.move (.tmp 20),none⟩]
def c47_l2 : SC := (.seq (.reg c47_r2 none (some [0,1,11,12,13,14])) (.seq (.cond (.tmp 14) .skip (.exit 0) (some [0,1,11,12,13])) (.seq (.block 1 (.seq (.reg c47_r3 none (some [0,1,6,11,12,13])) (.seq (.reg c47_r4 none (some [0,1,11,12,13,19])) (.cond (.tmp 19) (.seq (.reg c47_r5 none (some [4])) .ret) .skip (some [0,1,11,12,13]))))) (.reg c47_r6 none (some [0,1,11,12,13])))))
def c47_r7 : List SOp := [⟨some 22,.move (.tmp 0),none⟩,⟨some 23,.move (.tmp 1),none⟩,⟨some 24,.call ⟨.value (.func 98), #[.tmp 22,.tmp 23], #[42,9]⟩,none⟩,⟨some 21,.move (.tmp 24),none⟩,⟨some 25,.extract (.tmp 21) 0,none⟩,⟨some 26,.extract (.tmp 21) 1,none⟩,⟨some 7,.assign (.tmp 25),none⟩,⟨some 8,.assign (.tmp 26),none⟩]
def c47_r8 : List SOp := [⟨some 27,.move (.tmp 8),none⟩,⟨some 28,.unOp .not 4 (.tmp 27),none⟩,⟨some 4,.assign (.tmp 28),none⟩]
def c47 : SC := (.seq (.reg c47_r0 none (some [0,1])) (.seq (.seq (.reg c47_r1 none (some [0,1,11,12,13])) (.block 0 (.loop c47_l2 (some [0,1,11,12,13])))) (.seq (.reg c47_r7 none (some [8])) (.seq (.reg c47_r8 none (some [4])) .ret))))
theorem c47_eq : ∃ code, Try.f47.body = some code ∧ compile H47 code = c47 := ⟨_, rfl, by kernel_rfl⟩
theorem c47_fn : Try.prog.funcs[47]? = some Try.f47 := by kernel_rfl
theorem c47_rs : Try.f47.results.toList = [.tmp 4] := by kernel_rfl
theorem c47_ok : fnB Try.prog H47 Try.f47 = true := by kernel_rfl
theorem c47_nt : Try.f47.ntmps = 29 := by kernel_rfl

def H48 : Hint := ⟨[(7, [4]), (4, [0, 1, 5, 6]), (6, [4]), (2000021, [0, 1, 5, 6]), (5, [0, 1, 5, 6, 21]), (2000013, [0, 1, 5, 6]), (3, [0, 1, 5, 6, 13]), (1000003, [0, 1, 5, 6]), (2, [0, 1, 5, 6]), (1, [0, 1, 5]), (0, [0, 1])], []⟩
def c48_r0 : List SOp := [⟨some 4,.assign (.const (.bool false)),none⟩]
def c48_r1 : List SOp := [⟨some 7,.move (.tmp 0),none⟩,⟨some 8,.move (.tmp 1),none⟩,⟨some 9,.call ⟨.value (.func 44), #[.tmp 7,.tmp 8], #[42,9]⟩,none⟩,⟨some 5,.assign (.tmp 9),none⟩]
def c48_r2 : List SOp := [⟨some 6,.assign (.const (.int .i64 0)),none⟩]
def c48_r3 : List SOp := [⟨some 10,.move (.tmp 6),none⟩,⟨some 11,.move (.tmp 5),none⟩,⟨some 12,.call ⟨.builtin .len, #[.tmp 11], #[44]⟩,none⟩,⟨some 13,.binOp .lss 3 (.tmp 10) (.tmp 12) 3,none⟩]
def c48_r5 : List SOp := [⟨some 16,.move (.tmp 5),none⟩,⟨some 17,.move (.tmp 6),none⟩,⟨some 18,.indexAddr 44 (.tmp 16) (.tmp 17),none⟩,⟨some 19,.load 30 (.tmp 18),none⟩,⟨some 20,.call ⟨.builtin .len, #[.tmp 19], #[30]⟩,none⟩,⟨some 21,.binOp .eql 3 (.tmp 20) (.const (.int .i64 0)) 3,none⟩]
def c48_r6 : List SOp := [⟨some 4,.assign (.const (.bool false)),none⟩]
def c48_r4 : List SOp := [⟨some 14,.move (.tmp 6),none⟩,⟨some 15,.binOp .add 3 (.tmp 14) (.const (.int .i64 1)) 3,none⟩,⟨some 6,.assign (.tmp 15),none⟩]
def c48_l3 : SC := (.seq (.seq (.reg c48_r3 none (some [0,1,5,6,13])) (.cond (.tmp 13) .skip (.exit 0) (some [0,1,5,6]))) (.seq (.block 1 (.seq (.reg c48_r5 none (some [0,1,5,6,21])) (.cond (.tmp 21) (.seq (.reg c48_r6 none (some [4])) .ret) .skip (some [0,1,5,6])))) (.reg c48_r4 none (some [0,1,5,6]))))
def c48_r7 : List SOp := [⟨some 22,.move (.tmp 0),none⟩,⟨some 23,.move (.tmp 1),none⟩,⟨some 24,.call ⟨.value (.func 99), #[.tmp 22,.tmp 23], #[42,9]⟩,none⟩,⟨some 4,.assign (.tmp 24),none⟩]
def c48 : SC := (.seq (.reg c48_r0 none (some [0,1])) (.seq (.reg c48_r1 none (some [0,1,5])) (.seq (.seq (.reg c48_r2 none (some [0,1,5,6])) (.block 0 (.loop c48_l3 (some [0,1,5,6])))) (.seq (.reg c48_r7 none (some [4])) .ret))))
theorem c48_eq : ∃ code, Try.f48.body = some code ∧ compile H48 code = c48 := ⟨_, rfl, by kernel_rfl⟩
theorem c48_fn : Try.prog.funcs[48]? = some Try.f48 := by kernel_rfl
theorem c48_rs : Try.f48.results.toList = [.tmp 4] := by kernel_rfl
theorem c48_ok : fnB Try.prog H48 Try.f48 = true := by kernel_rfl
theorem c48_nt : Try.f48.ntmps = 25 := by kernel_rfl

def H49 : Hint := ⟨[(25, [2]), (4, [0, 3, 4]), (24, [0, 3, 4]), (14, [0, 3, 4, 6]), (19, [0, 3, 4, 6]), (2000078, [0, 3, 4, 6]), (18, [0, 3, 4, 5, 6, 78]), (17, [0, 3, 4, 5, 6]), (16, [0, 3, 4, 5, 6]), (21, [0, 3, 4, 6]), (23, [0, 3, 4, 6]), (2000094, [0, 3, 4, 6]), (22, [0, 3, 4, 5, 6, 94]), (2000087, [0, 3, 4, 6]), (20, [0, 3, 4, 5, 6, 9, 87]), (2000063, [0, 3, 4, 6]), (15, [0, 3, 4, 5, 6, 9, 63]), (2000059, [0, 3, 4, 6]), (13, [0, 3, 4, 5, 6, 7, 9, 59]), (12, [0, 3, 4, 5, 6, 7, 9]), (10, [0, 3, 4, 5, 6, 7, 8]), (11, [0, 3, 4, 5, 6, 7, 8]), (2000044, [0, 3, 4, 5, 6, 7, 8]), (9, [0, 3, 4, 5, 6, 7, 8, 44]), (1000009, [0, 3, 4, 5, 6, 7, 8]), (8, [0, 3, 4, 5, 6, 7, 8]), (7, [0, 3, 4, 5, 6, 7]), (6, [0, 3, 4, 5, 6]), (5, [0, 3, 4, 5]), (2000017, [0, 3, 4]), (3, [0, 3, 4, 17]), (1000003, [0, 3, 4]), (2, [0, 3, 4]), (1, [0, 3]), (0, [0])], []⟩
def c49_r0 : List SOp := [⟨some 2,.assign (.const (.slice none 0 0)),none⟩]
def c49_r1 : List SOp := [⟨some 3,.assign (.const (.slice none 0 0)),none⟩]
def c49_r2 : List SOp := [⟨some 4,.assign (.const (.int .i64 0)),none⟩]
def c49_r3 : List SOp := [⟨some 10,.move (.tmp 4),none⟩,⟨some 11,.move (.tmp 0),none⟩,⟨some 12,.call ⟨.builtin .len, #[.tmp 11], #[30]⟩,none⟩,⟨some 13,.binOp .lss 3 (.tmp 10) (.tmp 12) 3,none⟩,⟨some 14,.move (.tmp 13),none⟩,⟨some 15,.move (.tmp 4),some (some 14,true)⟩,⟨some 16,.binOp .lss 3 (.tmp 15) (.const (.int .i64 3)) 3,some (some 14,true)⟩,⟨some 17,.pick (.tmp 14) (.tmp 16) (.const (.bool false)),none⟩]
def c49_r5 : List SOp := [⟨some 20,.move (.tmp 0),none⟩,⟨some 21,.move (.tmp 4),none⟩,⟨some 22,.indexAddr 30 (.tmp 20) (.tmp 21),none⟩,⟨some 23,.load 3 (.tmp 22),none⟩,⟨some 24,.call ⟨.value (.func 29), #[(.tmp 23), (.const (.int .i64 16777216))], #[3,3]⟩,none⟩,⟨some 5,.assign (.tmp 24),none⟩]
def c49_r6 : List SOp := [⟨some 25,.move (.tmp 5),none⟩,⟨some 26,.binOp .quo 3 (.tmp 25) (.const (.int .i64 7)) 3,none⟩,⟨some 27,.move (.tmp 5),none⟩,⟨some 28,.binOp .quo 3 (.tmp 27) (.const (.int .i64 31)) 3,none⟩,⟨some 29,.move (.tmp 5),none⟩,⟨some 30,.binOp .quo 3 (.tmp 29) (.const (.int .i64 101)) 3,none⟩,⟨some 31,.buildSlice 30 3 #[(0, (.tmp 26)), (1, (.tmp 28)), (2, (.tmp 30))],none⟩,⟨some 32,.move (.tmp 5),none⟩,⟨some 33,.binOp .rem 3 (.tmp 32) (.const (.int .i64 3)) 3,none⟩,⟨some 34,.binOp .add 3 (.const (.int .i64 1)) (.tmp 33) 3,none⟩,⟨some 35,.call ⟨.value (.func 50), #[.tmp 31,.tmp 34], #[30,3]⟩,none⟩,⟨some 36,.move (.tmp 5),none⟩,⟨some 37,.binOp .quo 3 (.tmp 36) (.const (.int .i64 3)) 3,none⟩,⟨some 38,.binOp .rem 3 (.tmp 37) (.const (.int .i64 3)) 3,none⟩,⟨some 39,.binOp .eql 3 (.tmp 38) (.const (.int .i64 0)) 3,none⟩,⟨some 40,.build 52 #[(0, (.tmp 35)), (1, (.tmp 39))],none⟩,⟨some 6,.alloc 52,none⟩,⟨none,.store 52 (.tmp 6) (.tmp 40),none⟩]
def c49_r7 : List SOp := [⟨some 7,.assign (.const (.bool false)),none⟩]
def c49_r8 : List SOp := [⟨some 8,.assign (.const (.int .i64 0)),none⟩]
def c49_r9 : List SOp := [⟨some 41,.move (.tmp 8),none⟩,⟨some 42,.move (.tmp 3),none⟩,⟨some 43,.call ⟨.builtin .len, #[.tmp 42], #[42]⟩,none⟩,⟨some 44,.binOp .lss 3 (.tmp 41) (.tmp 43) 3,none⟩]
def c49_r11 : List SOp := [⟨some 47,.move (.tmp 7),none⟩,⟨some 48,.move (.tmp 47),none⟩,⟨some 49,.move (.tmp 3),some (some 48,false)⟩,⟨some 50,.move (.tmp 8),some (some 48,false)⟩,⟨some 51,.indexAddr 42 (.tmp 49) (.tmp 50),some (some 48,false)⟩,⟨some 52,.fieldAddr 52 (.tmp 51) 2,some (some 48,false)⟩,⟨some 53,.load 4 (.tmp 52),some (some 48,false)⟩,⟨some 54,.unOp .not 4 (.tmp 53),some (some 48,false)⟩,⟨some 55,.pick (.tmp 48) (.const (.bool true)) (.tmp 54),none⟩,⟨some 7,.assign (.tmp 55),none⟩]
def c49_r10 : List SOp := [⟨some 45,.move (.tmp 8),none⟩,⟨some 46,.binOp .add 3 (.tmp 45) (.const (.int .i64 1)) 3,none⟩,⟨some 8,.assign (.tmp 46),none⟩]
def c49_l9 : SC := (.seq (.seq (.reg c49_r9 none (some [0,3,4,5,6,7,8,44])) (.cond (.tmp 44) .skip (.exit 2) (some [0,3,4,5,6,7,8]))) (.seq (.block 3 (.reg c49_r11 none (some [0,3,4,5,6,7,8]))) (.reg c49_r10 none (some [0,3,4,5,6,7,8]))))
def c49_r12 : List SOp := [⟨some 56,.move (.tmp 5),none⟩,⟨some 57,.binOp .quo 3 (.tmp 56) (.const (.int .i64 9)) 3,none⟩,⟨some 58,.binOp .rem 3 (.tmp 57) (.const (.int .i64 8)) 3,none⟩,⟨some 9,.assign (.tmp 58),none⟩]
def c49_r13 : List SOp := [⟨some 60,.move (.tmp 9),none⟩,⟨some 61,.binOp .eql 3 (.tmp 60) (.const (.int .i64 0)) 3,none⟩,⟨some 59,.assign (.tmp 61),none⟩]
def c49_r14 : List SOp := [⟨some 62,.fieldAddr 52 (.tmp 6) 2,none⟩,⟨none,.store 4 (.tmp 62) (.const (.bool true)),none⟩]
def c49_r15 : List SOp := [⟨some 64,.move (.tmp 9),none⟩,⟨some 65,.binOp .lss 3 (.tmp 64) (.const (.int .i64 4)) 3,none⟩,⟨some 66,.move (.tmp 65),none⟩,⟨some 67,.move (.tmp 7),some (some 66,true)⟩,⟨some 68,.pick (.tmp 66) (.tmp 67) (.const (.bool false)),none⟩,⟨some 63,.assign (.tmp 68),none⟩]
def c49_r16 : List SOp := [⟨some 69,.fieldAddr 52 (.tmp 6) 5,none⟩,⟨none,.store 4 (.tmp 69) (.const (.bool true)),none⟩]
def c49_r17 : List SOp := [⟨some 70,.move (.tmp 5),none⟩,⟨some 71,.binOp .quo 3 (.tmp 70) (.const (.int .i64 72)) 3,none⟩,⟨some 72,.binOp .rem 3 (.tmp 71) (.const (.int .i64 8)) 3,none⟩,⟨some 73,.binOp .sub 3 (.tmp 72) (.const (.int .i64 3)) 3,none⟩,⟨some 74,.fieldAddr 52 (.tmp 6) 6,none⟩,⟨none,.store 3 (.tmp 74) (.tmp 73),none⟩]
def c49_r18 : List SOp := [⟨some 75,.move (.tmp 5),none⟩,⟨some 76,.binOp .quo 3 (.tmp 75) (.const (.int .i64 576)) 3,none⟩,⟨some 77,.binOp .rem 3 (.tmp 76) (.const (.int .i64 2)) 3,none⟩,⟨some 78,.binOp .eql 3 (.tmp 77) (.const (.int .i64 0)) 3,none⟩]
def c49_r19 : List SOp := [⟨some 79,.fieldAddr 52 (.tmp 6) 0,none⟩,⟨some 80,.load 9 (.tmp 79),none⟩,⟨some 81,.call ⟨.builtin .len, #[.tmp 80], #[9]⟩,none⟩,⟨some 82,.move (.tmp 5),none⟩,⟨some 83,.binOp .quo 3 (.tmp 82) (.const (.int .i64 1152)) 3,none⟩,⟨some 84,.binOp .rem 3 (.tmp 83) (.const (.int .i64 6)) 3,none⟩,⟨some 85,.binOp .add 3 (.tmp 81) (.tmp 84) 3,none⟩,⟨some 86,.fieldAddr 52 (.tmp 6) 7,none⟩,⟨none,.store 3 (.tmp 86) (.tmp 85),none⟩]
def c49_r20 : List SOp := [⟨some 88,.move (.tmp 9),none⟩,⟨some 89,.binOp .eql 3 (.tmp 88) (.const (.int .i64 4)) 3,none⟩,⟨some 87,.assign (.tmp 89),none⟩]
def c49_r21 : List SOp := [⟨some 90,.move (.tmp 5),none⟩,⟨some 91,.binOp .quo 3 (.tmp 90) (.const (.int .i64 72)) 3,none⟩,⟨some 92,.binOp .rem 3 (.tmp 91) (.const (.int .i64 5)) 3,none⟩,⟨some 93,.fieldAddr 52 (.tmp 6) 3,none⟩,⟨none,.store 3 (.tmp 93) (.tmp 92),none⟩]
def c49_r22 : List SOp := [⟨some 95,.move (.tmp 9),none⟩,⟨some 96,.binOp .eql 3 (.tmp 95) (.const (.int .i64 5)) 3,none⟩,⟨some 94,.assign (.tmp 96),none⟩]
def c49_r23 : List SOp := [⟨some 97,.fieldAddr 52 (.tmp 6) 0,none⟩,⟨some 98,.load 9 (.tmp 97),none⟩,⟨some 99,.call ⟨.builtin .len, #[.tmp 98], #[9]⟩,none⟩,⟨some 100,.move (.tmp 5),none⟩,⟨some 101,.binOp .quo 3 (.tmp 100) (.const (.int .i64 72)) 3,none⟩,⟨some 102,.binOp .rem 3 (.tmp 101) (.const (.int .i64 9)) 3,none⟩,⟨some 103,.binOp .add 3 (.tmp 99) (.tmp 102) 3,none⟩,⟨some 104,.fieldAddr 52 (.tmp 6) 4,none⟩,⟨none,.store 3 (.tmp 104) (.tmp 103),none⟩]
def c49_r24 : List SOp := [⟨some 105,.move (.tmp 3),none⟩,⟨some 106,.load 52 (.tmp 6),none⟩,⟨some 107,.buildSlice 42 1 #[(0, (.tmp 106))],none⟩,⟨some 108,.call ⟨.builtin .append, #[.tmp 105,.tmp 107], #[42,42]⟩,none⟩,⟨some 3,.assign (.tmp 108),none⟩]
def c49_r4 : List SOp := [⟨some 18,.move (.tmp 4),none⟩,⟨some 19,.binOp .add 3 (.tmp 18) (.const (.int .i64 1)) 3,none⟩,⟨some 4,.assign (.tmp 19),none⟩]
def c49_l3 : SC := (.seq (.seq (.reg c49_r3 none (some [0,3,4,17])) (.cond (.tmp 17) .skip (.exit 0) (some [0,3,4]))) (.seq (.block 1 (.seq (.reg c49_r5 none (some [0,3,4,5])) (.seq (.reg c49_r6 none (some [0,3,4,5,6])) (.seq (.reg c49_r7 none (some [0,3,4,5,6,7])) (.seq (.seq (.reg c49_r8 none (some [0,3,4,5,6,7,8])) (.block 2 (.loop c49_l9 (some [0,3,4,5,6,7,8])))) (.seq (.seq (.reg c49_r12 none (some [0,3,4,5,6,7,9])) (.block 4 (.seq (.reg c49_r13 none (some [0,3,4,5,6,7,9,59])) (.cond (.tmp 59) (.reg c49_r14 none (some [0,3,4,6])) (.seq (.reg c49_r15 none (some [0,3,4,5,6,9,63])) (.cond (.tmp 63) (.seq (.reg c49_r16 none (some [0,3,4,5,6])) (.seq (.reg c49_r17 none (some [0,3,4,5,6])) (.seq (.reg c49_r18 none (some [0,3,4,5,6,78])) (.cond (.tmp 78) (.reg c49_r19 none (some [0,3,4,6])) .skip (some [0,3,4,6]))))) (.seq (.reg c49_r20 none (some [0,3,4,5,6,9,87])) (.cond (.tmp 87) (.reg c49_r21 none (some [0,3,4,6])) (.seq (.reg c49_r22 none (some [0,3,4,5,6,94])) (.cond (.tmp 94) (.reg c49_r23 none (some [0,3,4,6])) .skip (some [0,3,4,6]))) (some [0,3,4,6]))) (some [0,3,4,6]))) (some [0,3,4,6]))))) (.reg c49_r24 none (some [0,3,4])))))))) (.reg c49_r4 none (some [0,3,4]))))
def c49_r25 : List SOp := [⟨some 109,.move (.tmp 3),none⟩,⟨some 2,.assign (.tmp 109),none⟩]
def c49 : SC := (.seq (.reg c49_r0 none (some [0])) (.seq (.reg c49_r1 none (some [0,3])) (.seq (.seq (.reg c49_r2 none (some [0,3,4])) (.block 0 (.loop c49_l3 (some [0,3,4])))) (.seq (.reg c49_r25 none (some [2])) .ret))))
theorem c49_eq : ∃ code, Try.f49.body = some code ∧ compile H49 code = c49 := ⟨_, rfl, by kernel_rfl⟩
theorem c49_fn : Try.prog.funcs[49]? = some Try.f49 := by kernel_rfl
theorem c49_rs : Try.f49.results.toList = [.tmp 2] := by kernel_rfl
theorem c49_ok : fnB Try.prog H49 Try.f49 = true := by kernel_rfl
theorem c49_nt : Try.f49.ntmps = 110 := by kernel_rfl

def H50 : Hint := ⟨[(6, [4]), (4, [0, 1, 5, 6]), (5, [0, 1, 5, 6]), (2000014, [0, 1, 5, 6]), (3, [0, 1, 5, 6, 14]), (1000003, [0, 1, 5, 6]), (2, [0, 1, 5, 6]), (1, [0, 1, 5]), (0, [0, 1])], []⟩
def c50_r0 : List SOp := [⟨some 4,.assign (.const (.string ⟨#[]⟩)),none⟩]
def c50_r1 : List SOp := [⟨some 5,.assign (.const (.slice none 0 0)),none⟩]
def c50_r2 : List SOp := [⟨some 6,.assign (.const (.int .i64 0)),none⟩]
def c50_r3 : List SOp := [⟨some 7,.move (.tmp 6),none⟩,⟨some 8,.move (.tmp 1),none⟩,⟨some 9,.binOp .lss 3 (.tmp 7) (.tmp 8) 3,none⟩,⟨some 10,.move (.tmp 9),none⟩,⟨some 11,.move (.tmp 0),some (some 10,true)⟩,⟨some 12,.call ⟨.builtin .len, #[.tmp 11], #[30]⟩,some (some 10,true)⟩,⟨some 13,.binOp .gtr 3 (.tmp 12) (.const (.int .i64 0)) 3,some (some 10,true)⟩,⟨some 14,.pick (.tmp 10) (.tmp 13) (.const (.bool false)),none⟩]
def c50_r5 : List SOp := [⟨some 17,.move (.tmp 5),none⟩,⟨some 18,.move (.tmp 0),none⟩,⟨some 19,.move (.tmp 6),none⟩,⟨some 20,.move (.tmp 0),none⟩,⟨some 21,.call ⟨.builtin .len, #[.tmp 20], #[30]⟩,none⟩,⟨some 22,.binOp .rem 3 (.tmp 19) (.tmp 21) 3,none⟩,⟨some 23,.indexAddr 30 (.tmp 18) (.tmp 22),none⟩,⟨some 24,.load 3 (.tmp 23),none⟩,⟨some 25,.call ⟨.value (.func 29), #[(.tmp 24), (.const (.int .i64 1073741824))], #[3,3]⟩,none⟩,⟨some 26,.move (.tmp 6),none⟩,⟨some 27,.move (.tmp 6),none⟩,⟨some 28,.binOp .mul 3 (.tmp 26) (.tmp 27) 3,none⟩,⟨some 29,.binOp .quo 3 (.tmp 28) (.const (.int .i64 3)) 3,none⟩,⟨some 30,.binOp .add 3 (.tmp 25) (.tmp 29) 3,none⟩,⟨some 31,.call ⟨.value (.func 29), #[(.tmp 30), (.const (.int .i64 4))], #[3,3]⟩,none⟩,⟨some 32,.index 9 (.const (.string ⟨#[97,98,99,65]⟩)) (.tmp 31),none⟩,⟨some 33,.buildSlice 25 1 #[(0, (.tmp 32))],none⟩,⟨some 34,.call ⟨.builtin .append, #[.tmp 17,.tmp 33], #[25,25]⟩,none⟩,⟨some 5,.assign (.tmp 34),none⟩]
def c50_r4 : List SOp := [⟨some 15,.move (.tmp 6),none⟩,⟨some 16,.binOp .add 3 (.tmp 15) (.const (.int .i64 1)) 3,none⟩,⟨some 6,.assign (.tmp 16),none⟩]
def c50_l3 : SC := (.seq (.seq (.reg c50_r3 none (some [0,1,5,6,14])) (.cond (.tmp 14) .skip (.exit 0) (some [0,1,5,6]))) (.seq (.block 1 (.reg c50_r5 none (some [0,1,5,6]))) (.reg c50_r4 none (some [0,1,5,6]))))
def c50_r6 : List SOp := [⟨some 35,.move (.tmp 5),none⟩,⟨some 36,.convert 25 9 (.tmp 35),none⟩,⟨some 4,.assign (.tmp 36),none⟩]
def c50 : SC := (.seq (.reg c50_r0 none (some [0,1])) (.seq (.reg c50_r1 none (some [0,1,5])) (.seq (.seq (.reg c50_r2 none (some [0,1,5,6])) (.block 0 (.loop c50_l3 (some [0,1,5,6])))) (.seq (.reg c50_r6 none (some [4])) .ret))))
theorem c50_eq : ∃ code, Try.f50.body = some code ∧ compile H50 code = c50 := ⟨_, rfl, by kernel_rfl⟩
theorem c50_fn : Try.prog.funcs[50]? = some Try.f50 := by kernel_rfl
theorem c50_rs : Try.f50.results.toList = [.tmp 4] := by kernel_rfl
theorem c50_ok : fnB Try.prog H50 Try.f50 = true := by kernel_rfl
theorem c50_nt : Try.f50.ntmps = 37 := by kernel_rfl

def H51 : Hint := ⟨[(10, [0]), (9, [1, 3, 18, 19, 20]), (8, [1, 3, 18, 19, 20]), (7, [1, 3, 5, 18, 19, 20]), (2000021, [1, 3, 18, 19, 20]), (6, [1, 3, 18, 19, 20, 21]), (1000006, [1, 3, 18, 19, 20]), (5, [1, 3, 18, 19, 20]), (4, [1, 3]), (3, [0]), (2000016, [1]), (2, [1, 16]), (1, [1, 2]), (0, [])], []⟩
def c51_r0 : List SOp := [⟨some 0,.assign (.const (.bool false)),none⟩]
def c51_r1 : List SOp := [⟨some 7,.buildSlice 38 2 #[(0, (.const (.string ⟨#[104,101]⟩))), (1, (.const (.string ⟨#[115,104,101]⟩)))],none⟩,⟨some 8,.call ⟨.value (.func 52), #[(.tmp 7), (.const (.int .i64 100))], #[38,3]⟩,none⟩,⟨some 6,.move (.tmp 8),none⟩,⟨some 9,.extract (.tmp 6) 0,none⟩,⟨some 10,.extract (.tmp 6) 1,none⟩,⟨some 1,.assign (.tmp 9),none⟩,⟨some 2,.assign (.tmp 10),none⟩]
def c51_r2 : List SOp := [⟨some 11,.move (.tmp 2),none⟩,⟨some 12,.binOp .neq 58 (.tmp 11) (.const (.int .i64 0)) 58,none⟩,⟨some 13,.move (.tmp 12),none⟩,⟨some 14,.move (.tmp 1),some (some 13,false)⟩,⟨some 15,.binOp .eql 57 (.tmp 14) (.const (.pointer none)) 57,some (some 13,false)⟩,⟨some 16,.pick (.tmp 13) (.const (.bool true)) (.tmp 15),none⟩]
def c51_r3 : List SOp := [⟨some 0,.assign (.const (.bool false)),none⟩]
def c51_r4 : List SOp := [⟨some 3,.assign (.const (.int .i64 0)),none⟩]
def c51_r5 : List SOp := [⟨some 17,.buildSlice 25 4 #[(0, (.const (.int .u8 117))), (1, (.const (.int .u8 115))), (2, (.const (.int .u8 104))), (3, (.const (.int .u8 101)))],none⟩,⟨some 18,.convert 25 25 (.tmp 17),none⟩,⟨some 19,.call ⟨.builtin .len, #[.tmp 18], #[25]⟩,none⟩,⟨some 20,.move (.const (.int .i64 0)),none⟩]
def c51_r6 : List SOp := [⟨some 21,.binOp .lss 3 (.tmp 20) (.tmp 19) 3,none⟩]
def c51_r7 : List SOp := [⟨some 22,.indexAddr 25 (.tmp 18) (.tmp 20),none⟩,⟨some 23,.load 5 (.tmp 22),none⟩,⟨some 5,.assign (.tmp 23),none⟩]
def c51_r8 : List SOp := [⟨some 24,.move (.tmp 1),none⟩,⟨some 25,.move (.tmp 3),none⟩,⟨some 26,.move (.tmp 5),none⟩,⟨some 27,.call ⟨.value (.func 53), #[.tmp 24,.tmp 25,.tmp 26], #[57,3,5]⟩,none⟩,⟨some 3,.assign (.tmp 27),none⟩]
def c51_r9 : List SOp := [⟨some 28,.binOp .add 3 (.tmp 20) (.const (.int .i64 1)) 3,none⟩,⟨some 20,.move (.tmp 28),none⟩]
def c51_l6 : SC := (.seq (.reg c51_r6 none (some [1,3,18,19,20,21])) (.seq (.cond (.tmp 21) .skip (.exit 0) (some [1,3,18,19,20])) (.seq (.block 1 (.seq (.reg c51_r7 none (some [1,3,5,18,19,20])) (.reg c51_r8 none (some [1,3,18,19,20])))) (.reg c51_r9 none (some [1,3,18,19,20])))))
def c51_r10 : List SOp := [⟨some 29,.move (.tmp 1),none⟩,⟨some 30,.move (.tmp 3),none⟩,⟨some 31,.call ⟨.value (.func 54), #[.tmp 29,.tmp 30], #[57,3]⟩,none⟩,⟨some 32,.call ⟨.builtin .len, #[.tmp 31], #[30]⟩,none⟩,⟨some 33,.binOp .eql 3 (.tmp 32) (.const (.int .i64 2)) 3,none⟩,⟨some 34,.move (.tmp 33),none⟩,⟨some 35,.move (.tmp 1),some (some 34,true)⟩,⟨some 36,.call ⟨.value (.func 56), #[.tmp 35], #[57]⟩,some (some 34,true)⟩,⟨some 37,.binOp .eql 3 (.tmp 36) (.const (.int .i64 6)) 3,some (some 34,true)⟩,⟨some 38,.pick (.tmp 34) (.tmp 37) (.const (.bool false)),none⟩,⟨some 39,.move (.tmp 38),none⟩,⟨some 40,.call ⟨.value (.func 59), #[(.const (.string ⟨#[65,98,90,91]⟩))], #[9]⟩,some (some 39,true)⟩,⟨some 41,.binOp .eql 9 (.tmp 40) (.const (.string ⟨#[97,98,122,91]⟩)) 9,some (some 39,true)⟩,⟨some 42,.pick (.tmp 39) (.tmp 41) (.const (.bool false)),none⟩,⟨some 0,.assign (.tmp 42),none⟩]
def c51 : SC := (.seq (.reg c51_r0 none (some [])) (.seq (.reg c51_r1 none (some [1,2])) (.seq (.seq (.reg c51_r2 none (some [1,16])) (.cond (.tmp 16) (.seq (.reg c51_r3 none (some [0])) .ret) .skip (some [1]))) (.seq (.reg c51_r4 none (some [1,3])) (.seq (.seq (.reg c51_r5 none (some [1,3,18,19,20])) (.block 0 (.loop c51_l6 (some [1,3,18,19,20])))) (.seq (.reg c51_r10 none (some [0])) .ret))))))
theorem c51_eq : ∃ code, Try.f51.body = some code ∧ compile H51 code = c51 := ⟨_, rfl, by kernel_rfl⟩
theorem c51_fn : Try.prog.funcs[51]? = some Try.f51 := by kernel_rfl
theorem c51_rs : Try.f51.results.toList = [.tmp 0] := by kernel_rfl
theorem c51_ok : fnB Try.prog H51 Try.f51 = true := by kernel_rfl
theorem c51_nt : Try.f51.ntmps = 43 := by kernel_rfl

def H52 : Hint := ⟨[(23, [4, 5]), (22, [6, 12, 13]), (21, [6, 12, 13, 14]), (2000061, [6, 12, 13]), (20, [6, 12, 13, 61]), (1000020, [6, 12, 13]), (19, [6, 12, 13]), (18, [6, 12]), (17, [4, 5]), (2000049, [6, 11]), (16, [6, 11, 49]), (15, [1, 6, 11]), (14, [1, 6, 30, 31, 32]), (13, [4, 5]), (2000043, [1, 6, 30, 31, 32]), (12, [1, 6, 30, 31, 32, 43]), (11, [1, 6, 30, 31, 32]), (10, [1, 6, 10, 30, 31, 32]), (2000033, [1, 6, 30, 31, 32]), (9, [1, 6, 30, 31, 32, 33]), (1000009, [1, 6, 30, 31, 32]), (8, [1, 6, 30, 31, 32]), (7, [0, 1, 6, 16, 17, 18]), (6, [4, 5]), (2000028, [0, 1, 6, 16, 17, 18]), (5, [0, 1, 6, 16, 17, 18, 28]), (4, [0, 1, 6, 8, 16, 17, 18]), (2000019, [0, 1, 6, 16, 17, 18]), (3, [0, 1, 6, 16, 17, 18, 19]), (1000003, [0, 1, 6, 16, 17, 18]), (2, [0, 1, 6, 16, 17, 18]), (1, [0, 1, 6]), (0, [0, 1])], []⟩
def c52_r0 : List SOp := [⟨some 4,.assign (.const (.pointer none)),none⟩,⟨some 5,.assign (.const (.int .i64 0)),none⟩]
def c52_r1 : List SOp := [⟨some 15,.call ⟨.value (.func 30), #[], #[]⟩,none⟩,⟨some 6,.assign (.tmp 15),none⟩]
def c52_r2 : List SOp := [⟨some 16,.move (.tmp 0),none⟩,⟨some 17,.call ⟨.builtin .len, #[.tmp 16], #[38]⟩,none⟩,⟨some 18,.move (.const (.int .i64 0)),none⟩]
def c52_r3 : List SOp := [⟨some 19,.binOp .lss 3 (.tmp 18) (.tmp 17) 3,none⟩]
def c52_r4 : List SOp := [⟨some 20,.indexAddr 38 (.tmp 16) (.tmp 18),none⟩,⟨some 21,.load 9 (.tmp 20),none⟩,⟨some 8,.assign (.tmp 21),none⟩]
def c52_r5 : List SOp := [⟨some 22,.move (.tmp 8),none⟩,⟨some 23,.binOp .eql 9 (.tmp 22) (.const (.string ⟨#[]⟩)) 9,none⟩,⟨some 24,.move (.tmp 23),none⟩,⟨some 25,.move (.tmp 8),some (some 24,false)⟩,⟨some 26,.call ⟨.builtin .len, #[.tmp 25], #[9]⟩,some (some 24,false)⟩,⟨some 27,.binOp .gtr 3 (.tmp 26) (.const (.int .i64 16)) 3,some (some 24,false)⟩,⟨some 28,.pick (.tmp 24) (.const (.bool true)) (.tmp 27),none⟩]
def c52_r6 : List SOp := [⟨some 4,.assign (.const (.pointer none)),none⟩,⟨some 5,.assign (.const (.int .i64 1)),none⟩]
def c52_r7 : List SOp := [⟨some 29,.binOp .add 3 (.tmp 18) (.const (.int .i64 1)) 3,none⟩,⟨some 18,.move (.tmp 29),none⟩]
def c52_l3 : SC := (.seq (.reg c52_r3 none (some [0,1,6,16,17,18,19])) (.seq (.cond (.tmp 19) .skip (.exit 0) (some [0,1,6,16,17,18])) (.seq (.block 1 (.seq (.reg c52_r4 none (some [0,1,6,8,16,17,18])) (.seq (.reg c52_r5 none (some [0,1,6,16,17,18,28])) (.cond (.tmp 28) (.seq (.reg c52_r6 none (some [4,5])) .ret) .skip (some [0,1,6,16,17,18]))))) (.reg c52_r7 none (some [0,1,6,16,17,18])))))
def c52_r8 : List SOp := [⟨some 30,.move (.tmp 0),none⟩,⟨some 31,.call ⟨.builtin .len, #[.tmp 30], #[38]⟩,none⟩,⟨some 32,.move (.const (.int .i64 0)),none⟩]
def c52_r9 : List SOp := [⟨some 33,.binOp .lss 3 (.tmp 32) (.tmp 31) 3,none⟩]
def c52_r10 : List SOp := [⟨some 34,.indexAddr 38 (.tmp 30) (.tmp 32),none⟩,⟨some 35,.load 9 (.tmp 34),none⟩,⟨some 10,.assign (.tmp 35),none⟩]
def c52_r11 : List SOp := [⟨some 36,.move (.tmp 6),none⟩,⟨some 37,.move (.tmp 10),none⟩,⟨some 38,.call ⟨.value (.func 31), #[.tmp 36,.tmp 37], #[23,9]⟩,none⟩]
def c52_r12 : List SOp := [⟨some 39,.move (.tmp 6),none⟩,⟨some 40,.call ⟨.value (.func 32), #[.tmp 39], #[23]⟩,none⟩,⟨some 41,.move (.tmp 1),none⟩,⟨some 42,.call ⟨.builtin .min, #[(.tmp 41), (.const (.int .i64 4096))], #[3,3]⟩,none⟩,⟨some 43,.binOp .gtr 3 (.tmp 40) (.tmp 42) 3,none⟩]
def c52_r13 : List SOp := [⟨some 4,.assign (.const (.pointer none)),none⟩,⟨some 5,.assign (.const (.int .i64 9)),none⟩]
def c52_r14 : List SOp := [⟨some 44,.binOp .add 3 (.tmp 32) (.const (.int .i64 1)) 3,none⟩,⟨some 32,.move (.tmp 44),none⟩]
def c52_l9 : SC := (.seq (.reg c52_r9 none (some [1,6,30,31,32,33])) (.seq (.cond (.tmp 33) .skip (.exit 2) (some [1,6,30,31,32])) (.seq (.block 3 (.seq (.reg c52_r10 none (some [1,6,10,30,31,32])) (.seq (.reg c52_r11 none (some [1,6,30,31,32])) (.seq (.reg c52_r12 none (some [1,6,30,31,32,43])) (.cond (.tmp 43) (.seq (.reg c52_r13 none (some [4,5])) .ret) .skip (some [1,6,30,31,32])))))) (.reg c52_r14 none (some [1,6,30,31,32])))))
def c52_r15 : List SOp := [⟨some 45,.move (.tmp 6),none⟩,⟨some 46,.call ⟨.value (.func 32), #[.tmp 45], #[23]⟩,none⟩,⟨some 11,.assign (.tmp 46),none⟩]
def c52_r16 : List SOp := [⟨some 47,.move (.tmp 11),none⟩,⟨some 48,.move (.tmp 1),none⟩,⟨some 49,.binOp .gtr 3 (.tmp 47) (.tmp 48) 3,none⟩]
def c52_r17 : List SOp := [⟨some 4,.assign (.const (.pointer none)),none⟩,⟨some 5,.assign (.const (.int .i64 9)),none⟩]
def c52_r18 : List SOp := [⟨some 50,.move (.tmp 11),none⟩,⟨some 51,.makeSlice 127 (.tmp 50) (.tmp 50),none⟩,⟨some 52,.move (.tmp 11),none⟩,⟨some 53,.makeSlice 30 (.tmp 52) (.tmp 52),none⟩,⟨some 54,.move (.tmp 11),none⟩,⟨some 55,.makeSlice 44 (.tmp 54) (.tmp 54),none⟩,⟨some 56,.build 129 #[(0, (.tmp 51)), (1, (.tmp 53)), (2, (.tmp 55))],none⟩,⟨some 57,.box 129 (.tmp 56),none⟩,⟨some 12,.assign (.tmp 57),none⟩]
def c52_r19 : List SOp := [⟨some 58,.buildSlice 30 1 #[(0, (.const (.int .i64 0)))],none⟩,⟨some 13,.assign (.tmp 58),none⟩]
def c52_r20 : List SOp := [⟨some 59,.move (.tmp 13),none⟩,⟨some 60,.call ⟨.builtin .len, #[.tmp 59], #[30]⟩,none⟩,⟨some 61,.binOp .gtr 3 (.tmp 60) (.const (.int .i64 0)) 3,none⟩]
def c52_r21 : List SOp := [⟨some 62,.move (.tmp 13),none⟩,⟨some 63,.indexAddr 30 (.tmp 62) (.const (.int .i64 0)),none⟩,⟨some 64,.load 3 (.tmp 63),none⟩,⟨some 14,.assign (.tmp 64),none⟩]
def c52_r22 : List SOp := [⟨some 65,.move (.tmp 13),none⟩,⟨some 66,.slice 30 (.tmp 65) (some (.const (.int .i64 1))) none none,none⟩,⟨some 67,.move (.tmp 12),none⟩,⟨some 68,.move (.tmp 6),none⟩,⟨some 69,.move (.tmp 14),none⟩,⟨some 70,.call ⟨.value (.func 100), #[.tmp 67,.tmp 68,.tmp 69], #[57,23,3]⟩,none⟩,⟨some 71,.call ⟨.builtin .append, #[.tmp 66,.tmp 70], #[30,30]⟩,none⟩,⟨some 13,.assign (.tmp 71),none⟩]
def c52_l20 : SC := (.seq (.seq (.reg c52_r20 none (some [6,12,13,61])) (.cond (.tmp 61) .skip (.exit 4) (some [6,12,13]))) (.block 5 (.seq (.reg c52_r21 none (some [6,12,13,14])) (.reg c52_r22 none (some [6,12,13])))))
def c52_r23 : List SOp := [⟨some 72,.move (.tmp 12),none⟩,⟨some 4,.assign (.tmp 72),none⟩,⟨some 5,.assign (.const (.int .i64 0)),none⟩]
def c52 : SC := (.seq (.reg c52_r0 none (some [0,1])) (.seq (.reg c52_r1 none (some [0,1,6])) (.seq (.seq (.reg c52_r2 none (some [0,1,6,16,17,18])) (.block 0 (.loop c52_l3 (some [0,1,6,16,17,18])))) (.seq (.seq (.reg c52_r8 none (some [1,6,30,31,32])) (.block 2 (.loop c52_l9 (some [1,6,30,31,32])))) (.seq (.reg c52_r15 none (some [1,6,11])) (.seq (.seq (.reg c52_r16 none (some [6,11,49])) (.cond (.tmp 49) (.seq (.reg c52_r17 none (some [4,5])) .ret) .skip (some [6,11]))) (.seq (.reg c52_r18 none (some [6,12])) (.seq (.seq (.reg c52_r19 none (some [6,12,13])) (.block 4 (.loop c52_l20 (some [6,12,13])))) (.seq (.reg c52_r23 none (some [4,5])) .ret)))))))))
theorem c52_eq : ∃ code, Try.f52.body = some code ∧ compile H52 code = c52 := ⟨_, rfl, by kernel_rfl⟩
theorem c52_fn : Try.prog.funcs[52]? = some Try.f52 := by kernel_rfl
theorem c52_rs : Try.f52.results.toList = [.tmp 4, .tmp 5] := by kernel_rfl
theorem c52_ok : fnB Try.prog H52 Try.f52 = true := by kernel_rfl
theorem c52_nt : Try.f52.ntmps = 73 := by kernel_rfl

end Go.AM
