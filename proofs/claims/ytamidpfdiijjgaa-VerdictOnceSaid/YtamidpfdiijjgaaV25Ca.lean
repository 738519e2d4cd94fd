/-
  Printed by program (wip/tools/print.sh): compiled code.
-/
import Derived.Test.YtamidpfdiijjgaaAMb
import Derived.Test.YtamidpfdiijjgaaProg
namespace Go.AM
open Go Go.Proofs
set_option maxRecDepth 100000
def H29:Hint:=⟨[(4,[4]),(3,[5]),(2000010,[5]),(2,[1,5,10]),(1,[1,5]),(0,[0,1])],[]⟩
def c29_r0:List SOp:=[⟨some 4,.assign (.const (.int .i64 0)),none⟩]
def c29_r1:List SOp:=[⟨some 6,.move (.tmp 0),none⟩,⟨some 7,.move (.tmp 1),none⟩,⟨some 8,.binOp .rem 3 (.tmp 6) (.tmp 7) 3,none⟩,⟨some 5,.assign (.tmp 8),none⟩]
def c29_r2:List SOp:=[⟨some 9,.move (.tmp 5),none⟩,⟨some 10,.binOp .lss 3 (.tmp 9) (.const (.int .i64 0)) 3,none⟩]
def c29_r3:List SOp:=[⟨some 11,.move (.tmp 5),none⟩,⟨some 12,.move (.tmp 1),none⟩,⟨some 13,.binOp .add 3 (.tmp 11) (.tmp 12) 3,none⟩,⟨some 5,.assign (.tmp 13),none⟩]
def c29_r4:List SOp:=[⟨some 14,.move (.tmp 5),none⟩,⟨some 4,.assign (.tmp 14),none⟩]
def c29:SC:=(.seq (.reg c29_r0 none (some [0,1])) (.seq (.reg c29_r1 none (some [1,5])) (.seq (.seq (.reg c29_r2 none (some [1,5,10])) (.cond (.tmp 10) (.reg c29_r3 none (some [5])) .skip (some [5]))) (.seq (.reg c29_r4 none (some [4])) .ret))))
theorem c29_eq : ∃ code, Try.f29.body = some code ∧ compile H29 code = c29 :=⟨_,rfl,by kernel_rfl⟩
theorem c29_fn : Try.prog.funcs[29]? = some Try.f29:=by kernel_rfl
theorem c29_rs : Try.f29.results.toList = [.tmp 4]:=by kernel_rfl
theorem c29_ok : fnB Try.prog H29 Try.f29 = true:=by kernel_rfl
theorem c29_nt : Try.f29.ntmps = 15:=by kernel_rfl
def H30:Hint:=⟨[(1,[0]),(0,[])],[]⟩
def c30_r0:List SOp:=[⟨some 0,.assign (.const (.pointer none)),none⟩]
def c30_r1:List SOp:=[⟨some 1,.makeMap 113 none,none⟩,⟨some 2,.makeSlice 114 (.const (.int .i64 1)) (.const (.int .i64 1)),none⟩,⟨some 3,.makeSlice 44 (.const (.int .i64 1)) (.const (.int .i64 1)),none⟩,⟨some 4,.makeSlice 30 (.const (.int .i64 1)) (.const (.int .i64 1)),none⟩,⟨some 5,.build 116 #[(0, (.tmp 1)), (1, (.tmp 2)), (2, (.tmp 3)), (3, (.tmp 4))],none⟩,⟨some 6,.box 116 (.tmp 5),none⟩,⟨some 0,.assign (.tmp 6),none⟩]
def c30:SC:=(.seq (.reg c30_r0 none (some [])) (.seq (.reg c30_r1 none (some [0])) .ret))
theorem c30_eq : ∃ code, Try.f30.body = some code ∧ compile H30 code = c30 :=⟨_,rfl,by kernel_rfl⟩
theorem c30_fn : Try.prog.funcs[30]? = some Try.f30:=by kernel_rfl
theorem c30_rs : Try.f30.results.toList = [.tmp 0]:=by kernel_rfl
theorem c30_ok : fnB Try.prog H30 Try.f30 = true:=by kernel_rfl
theorem c30_nt : Try.f30.ntmps = 7:=by kernel_rfl
def H31:Hint:=⟨[(15,[4]),(14,[0]),(13,[0]),(12,[0,5,16,17,18]),(11,[0,5,16,17,18]),(10,[0,9,16,17,18]),(9,[0,5,8,9,16,17,18]),(8,[0,5,8,9,16,17,18]),(2000035,[0,9,16,17,18]),(7,[0,5,8,9,16,17,18,35]),(6,[0,5,8,9,10,16,17,18]),(5,[0,5,8,16,17,18]),(4,[0,5,7,16,17,18]),(2000019,[0,5,16,17,18]),(3,[0,5,16,17,18,19]),(1000003,[0,5,16,17,18]),(2,[0,5,16,17,18]),(1,[0,1,5]),(0,[0,1])],[(10,[(13,8),(13,9),(19,8),(19,9),(19,14),(19,15),(23,8),(23,9),(23,14),(23,15),(26,8),(26,9),(26,14),(26,15)]),(13,[(3,17)])]⟩
def c31_r0:List SOp:=[⟨some 4,.assign (.const (.int .i64 0)),none⟩]
def c31_r1:List SOp:=[⟨some 5,.assign (.const (.int .i64 0)),none⟩]
def c31_r2:List SOp:=[⟨some 11,.move (.tmp 1),none⟩,⟨some 12,.move (.tmp 1),none⟩,⟨some 13,.call ⟨.builtin .len, #[.tmp 12],#[9]⟩,none⟩,⟨some 14,.call ⟨.builtin .min, #[(.tmp 13),(.const (.int .i64 16))],#[3,3]⟩,none⟩,⟨some 15,.slice 9 (.tmp 11) none (some (.tmp 14)) none,none⟩,⟨some 16,.convert 9 25 (.tmp 15),none⟩,⟨some 17,.call ⟨.builtin .len, #[.tmp 16],#[25]⟩,none⟩,⟨some 18,.move (.const (.int .i64 0)),none⟩]
def c31_r3:List SOp:=[⟨some 19,.binOp .lss 3 (.tmp 18) (.tmp 17) 3,none⟩]
def c31_r4:List SOp:=[⟨some 20,.indexAddr 25 (.tmp 16) (.tmp 18),none⟩,⟨some 21,.load 5 (.tmp 20),none⟩,⟨some 7,.assign (.tmp 21),none⟩]
def c31_r5:List SOp:=[⟨some 22,.move (.tmp 5),none⟩,⟨some 23,.move (.tmp 7),none⟩,⟨some 24,.build 118 #[(0, (.tmp 22)), (1, (.tmp 23))],none⟩,⟨some 8,.alloc 118,none⟩,⟨none,.store 118 (.tmp 8) (.tmp 24),none⟩]
def c31_r6:List SOp:=[⟨some 26,.move (.tmp 0),none⟩,⟨some 27,.nilCheck (.tmp 26),none⟩,⟨some 28,.fieldAddr 116 (.tmp 27) 0,none⟩,⟨some 29,.load 113 (.tmp 28),none⟩,⟨some 30,.load 118 (.tmp 8),none⟩,⟨some 31,.lookup 113 (.tmp 29) (.tmp 30) true,none⟩,⟨some 25,.move (.tmp 31),none⟩,⟨some 32,.extract (.tmp 25) 0,none⟩,⟨some 33,.extract (.tmp 25) 1,none⟩,⟨some 9,.assign (.tmp 32),none⟩,⟨some 10,.assign (.tmp 33),none⟩]
def c31_r7:List SOp:=[⟨some 34,.move (.tmp 10),none⟩,⟨some 35,.unOp .not 4 (.tmp 34),none⟩]
def c31_r8:List SOp:=[⟨some 36,.move (.tmp 0),none⟩,⟨some 37,.nilCheck (.tmp 36),none⟩,⟨some 38,.fieldAddr 116 (.tmp 37) 1,none⟩,⟨some 39,.load 114 (.tmp 38),none⟩,⟨some 40,.call ⟨.builtin .len, #[.tmp 39],#[114]⟩,none⟩,⟨some 9,.assign (.tmp 40),none⟩]
def c31_r9:List SOp:=[⟨some 41,.move (.tmp 0),none⟩,⟨some 42,.nilCheck (.tmp 41),none⟩,⟨some 43,.fieldAddr 116 (.tmp 42) 0,none⟩,⟨some 44,.load 113 (.tmp 43),none⟩,⟨some 45,.load 118 (.tmp 8),none⟩,⟨some 46,.move (.tmp 9),none⟩,⟨none,.mapUpdate 113 (.tmp 44) (.tmp 45) (.tmp 46),none⟩]
def c31_r10:List SOp:=[⟨some 47,.move (.tmp 0),none⟩,⟨some 48,.move (.tmp 0),none⟩,⟨some 49,.move (.tmp 0),none⟩,⟨some 50,.move (.tmp 0),none⟩,⟨some 51,.nilCheck (.tmp 50),none⟩,⟨some 52,.fieldAddr 116 (.tmp 51) 1,none⟩,⟨some 53,.load 114 (.tmp 52),none⟩,⟨some 54,.load 118 (.tmp 8),none⟩,⟨some 55,.buildSlice 114 1 #[(0, (.tmp 54))],none⟩,⟨some 56,.call ⟨.builtin .append, #[.tmp 53,.tmp 55],#[114,114]⟩,none⟩,⟨some 57,.move (.tmp 0),none⟩,⟨some 58,.nilCheck (.tmp 57),none⟩,⟨some 59,.fieldAddr 116 (.tmp 58) 2,none⟩,⟨some 60,.load 44 (.tmp 59),none⟩,⟨some 61,.buildSlice 44 1 #[(0, (.const (.slice none 0 0)))],none⟩,⟨some 62,.call ⟨.builtin .append, #[.tmp 60,.tmp 61],#[44,44]⟩,none⟩,⟨some 63,.move (.tmp 0),none⟩,⟨some 64,.nilCheck (.tmp 63),none⟩,⟨some 65,.fieldAddr 116 (.tmp 64) 3,none⟩,⟨some 66,.load 30 (.tmp 65),none⟩,⟨some 67,.move (.tmp 0),none⟩,⟨some 68,.nilCheck (.tmp 67),none⟩,⟨some 69,.fieldAddr 116 (.tmp 68) 3,none⟩,⟨some 70,.load 30 (.tmp 69),none⟩,⟨some 71,.move (.tmp 5),none⟩,⟨some 72,.indexAddr 30 (.tmp 70) (.tmp 71),none⟩,⟨some 73,.load 3 (.tmp 72),none⟩,⟨some 74,.binOp .add 3 (.tmp 73) (.const (.int .i64 1)) 3,none⟩,⟨some 75,.buildSlice 30 1 #[(0, (.tmp 74))],none⟩,⟨some 76,.call ⟨.builtin .append, #[.tmp 66,.tmp 75],#[30,30]⟩,none⟩,⟨some 77,.nilCheck (.tmp 47),none⟩,⟨some 78,.fieldAddr 116 (.tmp 77) 1,none⟩,⟨none,.store 114 (.tmp 78) (.tmp 56),none⟩,⟨some 79,.nilCheck (.tmp 48),none⟩,⟨some 80,.fieldAddr 116 (.tmp 79) 2,none⟩,⟨none,.store 44 (.tmp 80) (.tmp 62),none⟩,⟨some 81,.nilCheck (.tmp 49),none⟩,⟨some 82,.fieldAddr 116 (.tmp 81) 3,none⟩,⟨none,.store 30 (.tmp 82) (.tmp 76),none⟩]
def c31_r11:List SOp:=[⟨some 83,.move (.tmp 9),none⟩,⟨some 5,.assign (.tmp 83),none⟩]
def c31_r12:List SOp:=[⟨some 84,.binOp .add 3 (.tmp 18) (.const (.int .i64 1)) 3,none⟩,⟨some 18,.move (.tmp 84),none⟩]
def c31_l3:SC:=(.seq (.reg c31_r3 none (some [0,5,16,17,18,19])) (.seq (.cond (.tmp 19) .skip (.exit 0) (some [0,5,16,17,18])) (.seq (.block 1 (.seq (.reg c31_r4 none (some [0,5,7,16,17,18])) (.seq (.reg c31_r5 none (some [0,5,8,16,17,18])) (.seq (.reg c31_r6 none (some [0,5,8,9,10,16,17,18])) (.seq (.seq (.reg c31_r7 none (some [0,5,8,9,16,17,18,35])) (.cond (.tmp 35) (.seq (.reg c31_r8 none (some [0,5,8,9,16,17,18])) (.seq (.reg c31_r9 none (some [0,5,8,9,16,17,18])) (.reg c31_r10 (some [(13, 8), (13, 9), (19, 8), (19, 9), (19, 14), (19, 15), (23, 8), (23, 9), (23, 14), (23, 15), (26, 8), (26, 9), (26, 14), (26, 15)]) (some [0,9,16,17,18])))) .skip (some [0,9,16,17,18]))) (.reg c31_r11 none (some [0,5,16,17,18]))))))) (.reg c31_r12 none (some [0,5,16,17,18])))))
def c31_r13:List SOp:=[⟨some 85,.move (.tmp 0),none⟩,⟨some 86,.nilCheck (.tmp 85),none⟩,⟨some 87,.fieldAddr 116 (.tmp 86) 2,none⟩,⟨some 88,.load 44 (.tmp 87),none⟩,⟨some 89,.move (.tmp 5),none⟩,⟨some 90,.move (.tmp 0),none⟩,⟨some 91,.nilCheck (.tmp 90),none⟩,⟨some 92,.fieldAddr 116 (.tmp 91) 2,none⟩,⟨some 93,.load 44 (.tmp 92),none⟩,⟨some 94,.move (.tmp 5),none⟩,⟨some 95,.indexAddr 44 (.tmp 93) (.tmp 94),none⟩,⟨some 96,.load 30 (.tmp 95),none⟩,⟨some 97,.move (.tmp 0),none⟩,⟨some 98,.nilCheck (.tmp 97),none⟩,⟨some 99,.fieldAddr 116 (.tmp 98) 4,none⟩,⟨some 100,.load 3 (.tmp 99),none⟩,⟨some 101,.buildSlice 30 1 #[(0, (.tmp 100))],none⟩,⟨some 102,.call ⟨.builtin .append, #[.tmp 96,.tmp 101],#[30,30]⟩,none⟩,⟨some 103,.indexAddr 44 (.tmp 88) (.tmp 89),none⟩,⟨none,.store 30 (.tmp 103) (.tmp 102),none⟩]
def c31_r14:List SOp:=[⟨some 104,.move (.tmp 0),none⟩,⟨some 105,.nilCheck (.tmp 104),none⟩,⟨some 106,.fieldAddr 116 (.tmp 105) 4,none⟩,⟨some 107,.load 3 (.tmp 106),none⟩,⟨some 108,.binOp .add 3 (.tmp 107) (.const (.int .i64 1)) 3,none⟩,⟨some 109,.nilCheck (.tmp 104),none⟩,⟨some 110,.fieldAddr 116 (.tmp 109) 4,none⟩,⟨none,.store 3 (.tmp 110) (.tmp 108),none⟩]
def c31_r15:List SOp:=[⟨some 111,.move (.tmp 0),none⟩,⟨some 112,.nilCheck (.tmp 111),none⟩,⟨some 113,.fieldAddr 116 (.tmp 112) 4,none⟩,⟨some 114,.load 3 (.tmp 113),none⟩,⟨some 115,.binOp .sub 3 (.tmp 114) (.const (.int .i64 1)) 3,none⟩,⟨some 4,.assign (.tmp 115),none⟩]
def c31:SC:=(.seq (.reg c31_r0 none (some [0,1])) (.seq (.reg c31_r1 none (some [0,1,5])) (.seq (.seq (.reg c31_r2 none (some [0,5,16,17,18])) (.block 0 (.loop c31_l3 (some [0,5,16,17,18])))) (.seq (.reg c31_r13 (some [(3, 17)]) (some [0])) (.seq (.reg c31_r14 none (some [0])) (.seq (.reg c31_r15 none (some [4])) .ret))))))
theorem c31_eq : ∃ code, Try.f31.body = some code ∧ compile H31 code = c31 :=⟨_,rfl,by kernel_rfl⟩
theorem c31_fn : Try.prog.funcs[31]? = some Try.f31:=by kernel_rfl
theorem c31_rs : Try.f31.results.toList = [.tmp 4]:=by kernel_rfl
theorem c31_ok : fnB Try.prog H31 Try.f31 = true:=by kernel_rfl
theorem c31_nt : Try.f31.ntmps = 116:=by kernel_rfl
def H32:Hint:=⟨[(1,[2]),(0,[0])],[]⟩
def c32_r0:List SOp:=[⟨some 2,.assign (.const (.int .i64 0)),none⟩]
def c32_r1:List SOp:=[⟨some 3,.move (.tmp 0),none⟩,⟨some 4,.nilCheck (.tmp 3),none⟩,⟨some 5,.fieldAddr 116 (.tmp 4) 1,none⟩,⟨some 6,.load 114 (.tmp 5),none⟩,⟨some 7,.call ⟨.builtin .len, #[.tmp 6],#[114]⟩,none⟩,⟨some 2,.assign (.tmp 7),none⟩]
def c32:SC:=(.seq (.reg c32_r0 none (some [0])) (.seq (.reg c32_r1 none (some [2])) .ret))
theorem c32_eq : ∃ code, Try.f32.body = some code ∧ compile H32 code = c32 :=⟨_,rfl,by kernel_rfl⟩
theorem c32_fn : Try.prog.funcs[32]? = some Try.f32:=by kernel_rfl
theorem c32_rs : Try.f32.results.toList = [.tmp 2]:=by kernel_rfl
theorem c32_ok : fnB Try.prog H32 Try.f32 = true:=by kernel_rfl
theorem c32_nt : Try.f32.ntmps = 8:=by kernel_rfl
def H33:Hint:=⟨[(2,[6,7]),(1,[8,9]),(0,[0,1,2])],[]⟩
def c33_r0:List SOp:=[⟨some 6,.assign (.const (.int .i64 0)),none⟩,⟨some 7,.assign (.const (.bool false)),none⟩]
def c33_r1:List SOp:=[⟨some 11,.move (.tmp 0),none⟩,⟨some 12,.nilCheck (.tmp 11),none⟩,⟨some 13,.fieldAddr 116 (.tmp 12) 0,none⟩,⟨some 14,.load 113 (.tmp 13),none⟩,⟨some 15,.move (.tmp 1),none⟩,⟨some 16,.move (.tmp 2),none⟩,⟨some 17,.build 118 #[(0, (.tmp 15)), (1, (.tmp 16))],none⟩,⟨some 18,.lookup 113 (.tmp 14) (.tmp 17) true,none⟩,⟨some 10,.move (.tmp 18),none⟩,⟨some 19,.extract (.tmp 10) 0,none⟩,⟨some 20,.extract (.tmp 10) 1,none⟩,⟨some 8,.assign (.tmp 19),none⟩,⟨some 9,.assign (.tmp 20),none⟩]
def c33_r2:List SOp:=[⟨some 21,.move (.tmp 8),none⟩,⟨some 22,.move (.tmp 9),none⟩,⟨some 6,.assign (.tmp 21),none⟩,⟨some 7,.assign (.tmp 22),none⟩]
def c33:SC:=(.seq (.reg c33_r0 none (some [0,1,2])) (.seq (.reg c33_r1 none (some [8,9])) (.seq (.reg c33_r2 none (some [6,7])) .ret)))
theorem c33_eq : ∃ code, Try.f33.body = some code ∧ compile H33 code = c33 :=⟨_,rfl,by kernel_rfl⟩
theorem c33_fn : Try.prog.funcs[33]? = some Try.f33:=by kernel_rfl
theorem c33_rs : Try.f33.results.toList = [.tmp 6, .tmp 7]:=by kernel_rfl
theorem c33_ok : fnB Try.prog H33 Try.f33 = true:=by kernel_rfl
theorem c33_nt : Try.f33.ntmps = 23:=by kernel_rfl
def H34:Hint:=⟨[(3,[4]),(2,[4]),(2000007,[0,1]),(1,[0,1,7]),(0,[0,1])],[]⟩
def c34_r0:List SOp:=[⟨some 4,.assign (.const (.slice none 0 0)),none⟩]
def c34_r1:List SOp:=[⟨some 5,.move (.tmp 0),none⟩,⟨some 6,.move (.tmp 1),none⟩,⟨some 7,.call ⟨.value (.func 92),#[.tmp 5,.tmp 6],#[23,3]⟩,none⟩]
def c34_r2:List SOp:=[⟨some 4,.assign (.const (.slice none 0 0)),none⟩]
def c34_r3:List SOp:=[⟨some 8,.move (.tmp 0),none⟩,⟨some 9,.nilCheck (.tmp 8),none⟩,⟨some 10,.fieldAddr 116 (.tmp 9) 2,none⟩,⟨some 11,.load 44 (.tmp 10),none⟩,⟨some 12,.move (.tmp 1),none⟩,⟨some 13,.indexAddr 44 (.tmp 11) (.tmp 12),none⟩,⟨some 14,.load 30 (.tmp 13),none⟩,⟨some 15,.call ⟨.value (.func 93),#[.tmp 14],#[30]⟩,none⟩,⟨some 4,.assign (.tmp 15),none⟩]
def c34:SC:=(.seq (.reg c34_r0 none (some [0,1])) (.seq (.seq (.reg c34_r1 none (some [0,1,7])) (.cond (.tmp 7) (.seq (.reg c34_r2 none (some [4])) .ret) .skip (some [0,1]))) (.seq (.reg c34_r3 none (some [4])) .ret)))
theorem c34_eq : ∃ code, Try.f34.body = some code ∧ compile H34 code = c34 :=⟨_,rfl,by kernel_rfl⟩
theorem c34_fn : Try.prog.funcs[34]? = some Try.f34:=by kernel_rfl
theorem c34_rs : Try.f34.results.toList = [.tmp 4]:=by kernel_rfl
theorem c34_ok : fnB Try.prog H34 Try.f34 = true:=by kernel_rfl
theorem c34_nt : Try.f34.ntmps = 16:=by kernel_rfl
def H49:Hint:=⟨[(25,[2]),(4,[0,3,4]),(24,[0,3,4]),(14,[0,3,4,6]),(19,[0,3,4,6]),(2000078,[0,3,4,6]),(18,[0,3,4,5,6,78]),(17,[0,3,4,5,6]),(16,[0,3,4,5,6]),(21,[0,3,4,6]),(23,[0,3,4,6]),(2000094,[0,3,4,6]),(22,[0,3,4,5,6,94]),(2000087,[0,3,4,6]),(20,[0,3,4,5,6,9,87]),(2000063,[0,3,4,6]),(15,[0,3,4,5,6,9,63]),(2000059,[0,3,4,6]),(13,[0,3,4,5,6,7,9,59]),(12,[0,3,4,5,6,7,9]),(10,[0,3,4,5,6,7,8]),(11,[0,3,4,5,6,7,8]),(2000044,[0,3,4,5,6,7,8]),(9,[0,3,4,5,6,7,8,44]),(1000009,[0,3,4,5,6,7,8]),(8,[0,3,4,5,6,7,8]),(7,[0,3,4,5,6,7]),(6,[0,3,4,5,6]),(5,[0,3,4,5]),(2000017,[0,3,4]),(3,[0,3,4,17]),(1000003,[0,3,4]),(2,[0,3,4]),(1,[0,3]),(0,[0])],[]⟩
def c49_r0:List SOp:=[⟨some 2,.assign (.const (.slice none 0 0)),none⟩]
def c49_r1:List SOp:=[⟨some 3,.assign (.const (.slice none 0 0)),none⟩]
def c49_r2:List SOp:=[⟨some 4,.assign (.const (.int .i64 0)),none⟩]
def c49_r3:List SOp:=[⟨some 10,.move (.tmp 4),none⟩,⟨some 11,.move (.tmp 0),none⟩,⟨some 12,.call ⟨.builtin .len, #[.tmp 11],#[30]⟩,none⟩,⟨some 13,.binOp .lss 3 (.tmp 10) (.tmp 12) 3,none⟩,⟨some 14,.move (.tmp 13),none⟩,⟨some 15,.move (.tmp 4),some (some 14,true)⟩,⟨some 16,.binOp .lss 3 (.tmp 15) (.const (.int .i64 3)) 3,some (some 14,true)⟩,⟨some 17,.pick (.tmp 14) (.tmp 16) (.const (.bool false)),none⟩]
def c49_r5:List SOp:=[⟨some 20,.move (.tmp 0),none⟩,⟨some 21,.move (.tmp 4),none⟩,⟨some 22,.indexAddr 30 (.tmp 20) (.tmp 21),none⟩,⟨some 23,.load 3 (.tmp 22),none⟩,⟨some 24,.call ⟨.value (.func 29),#[(.tmp 23),(.const (.int .i64 16777216))],#[3,3]⟩,none⟩,⟨some 5,.assign (.tmp 24),none⟩]
def c49_r6:List SOp:=[⟨some 25,.move (.tmp 5),none⟩,⟨some 26,.binOp .quo 3 (.tmp 25) (.const (.int .i64 7)) 3,none⟩,⟨some 27,.move (.tmp 5),none⟩,⟨some 28,.binOp .quo 3 (.tmp 27) (.const (.int .i64 31)) 3,none⟩,⟨some 29,.move (.tmp 5),none⟩,⟨some 30,.binOp .quo 3 (.tmp 29) (.const (.int .i64 101)) 3,none⟩,⟨some 31,.buildSlice 30 3 #[(0, (.tmp 26)), (1, (.tmp 28)), (2, (.tmp 30))],none⟩,⟨some 32,.move (.tmp 5),none⟩,⟨some 33,.binOp .rem 3 (.tmp 32) (.const (.int .i64 3)) 3,none⟩,⟨some 34,.binOp .add 3 (.const (.int .i64 1)) (.tmp 33) 3,none⟩,⟨some 35,.call ⟨.value (.func 50),#[.tmp 31,.tmp 34],#[30,3]⟩,none⟩,⟨some 36,.move (.tmp 5),none⟩,⟨some 37,.binOp .quo 3 (.tmp 36) (.const (.int .i64 3)) 3,none⟩,⟨some 38,.binOp .rem 3 (.tmp 37) (.const (.int .i64 3)) 3,none⟩,⟨some 39,.binOp .eql 3 (.tmp 38) (.const (.int .i64 0)) 3,none⟩,⟨some 40,.build 52 #[(0, (.tmp 35)), (1, (.tmp 39))],none⟩,⟨some 6,.alloc 52,none⟩,⟨none,.store 52 (.tmp 6) (.tmp 40),none⟩]
def c49_r7:List SOp:=[⟨some 7,.assign (.const (.bool false)),none⟩]
def c49_r8:List SOp:=[⟨some 8,.assign (.const (.int .i64 0)),none⟩]
def c49_r9:List SOp:=[⟨some 41,.move (.tmp 8),none⟩,⟨some 42,.move (.tmp 3),none⟩,⟨some 43,.call ⟨.builtin .len, #[.tmp 42],#[42]⟩,none⟩,⟨some 44,.binOp .lss 3 (.tmp 41) (.tmp 43) 3,none⟩]
def c49_r11:List SOp:=[⟨some 47,.move (.tmp 7),none⟩,⟨some 48,.move (.tmp 47),none⟩,⟨some 49,.move (.tmp 3),some (some 48,false)⟩,⟨some 50,.move (.tmp 8),some (some 48,false)⟩,⟨some 51,.indexAddr 42 (.tmp 49) (.tmp 50),some (some 48,false)⟩,⟨some 52,.fieldAddr 52 (.tmp 51) 2,some (some 48,false)⟩,⟨some 53,.load 4 (.tmp 52),some (some 48,false)⟩,⟨some 54,.unOp .not 4 (.tmp 53),some (some 48,false)⟩,⟨some 55,.pick (.tmp 48) (.const (.bool true)) (.tmp 54),none⟩,⟨some 7,.assign (.tmp 55),none⟩]
def c49_r10:List SOp:=[⟨some 45,.move (.tmp 8),none⟩,⟨some 46,.binOp .add 3 (.tmp 45) (.const (.int .i64 1)) 3,none⟩,⟨some 8,.assign (.tmp 46),none⟩]
def c49_l9:SC:=(.seq (.seq (.reg c49_r9 none (some [0,3,4,5,6,7,8,44])) (.cond (.tmp 44) .skip (.exit 2) (some [0,3,4,5,6,7,8]))) (.seq (.block 3 (.reg c49_r11 none (some [0,3,4,5,6,7,8]))) (.reg c49_r10 none (some [0,3,4,5,6,7,8]))))
def c49_r12:List SOp:=[⟨some 56,.move (.tmp 5),none⟩,⟨some 57,.binOp .quo 3 (.tmp 56) (.const (.int .i64 9)) 3,none⟩,⟨some 58,.binOp .rem 3 (.tmp 57) (.const (.int .i64 8)) 3,none⟩,⟨some 9,.assign (.tmp 58),none⟩]
def c49_r13:List SOp:=[⟨some 60,.move (.tmp 9),none⟩,⟨some 61,.binOp .eql 3 (.tmp 60) (.const (.int .i64 0)) 3,none⟩,⟨some 59,.assign (.tmp 61),none⟩]
def c49_r14:List SOp:=[⟨some 62,.fieldAddr 52 (.tmp 6) 2,none⟩,⟨none,.store 4 (.tmp 62) (.const (.bool true)),none⟩]
def c49_r15:List SOp:=[⟨some 64,.move (.tmp 9),none⟩,⟨some 65,.binOp .lss 3 (.tmp 64) (.const (.int .i64 4)) 3,none⟩,⟨some 66,.move (.tmp 65),none⟩,⟨some 67,.move (.tmp 7),some (some 66,true)⟩,⟨some 68,.pick (.tmp 66) (.tmp 67) (.const (.bool false)),none⟩,⟨some 63,.assign (.tmp 68),none⟩]
def c49_r16:List SOp:=[⟨some 69,.fieldAddr 52 (.tmp 6) 5,none⟩,⟨none,.store 4 (.tmp 69) (.const (.bool true)),none⟩]
def c49_r17:List SOp:=[⟨some 70,.move (.tmp 5),none⟩,⟨some 71,.binOp .quo 3 (.tmp 70) (.const (.int .i64 72)) 3,none⟩,⟨some 72,.binOp .rem 3 (.tmp 71) (.const (.int .i64 8)) 3,none⟩,⟨some 73,.binOp .sub 3 (.tmp 72) (.const (.int .i64 3)) 3,none⟩,⟨some 74,.fieldAddr 52 (.tmp 6) 6,none⟩,⟨none,.store 3 (.tmp 74) (.tmp 73),none⟩]
def c49_r18:List SOp:=[⟨some 75,.move (.tmp 5),none⟩,⟨some 76,.binOp .quo 3 (.tmp 75) (.const (.int .i64 576)) 3,none⟩,⟨some 77,.binOp .rem 3 (.tmp 76) (.const (.int .i64 2)) 3,none⟩,⟨some 78,.binOp .eql 3 (.tmp 77) (.const (.int .i64 0)) 3,none⟩]
def c49_r19:List SOp:=[⟨some 79,.fieldAddr 52 (.tmp 6) 0,none⟩,⟨some 80,.load 9 (.tmp 79),none⟩,⟨some 81,.call ⟨.builtin .len, #[.tmp 80],#[9]⟩,none⟩,⟨some 82,.move (.tmp 5),none⟩,⟨some 83,.binOp .quo 3 (.tmp 82) (.const (.int .i64 1152)) 3,none⟩,⟨some 84,.binOp .rem 3 (.tmp 83) (.const (.int .i64 6)) 3,none⟩,⟨some 85,.binOp .add 3 (.tmp 81) (.tmp 84) 3,none⟩,⟨some 86,.fieldAddr 52 (.tmp 6) 7,none⟩,⟨none,.store 3 (.tmp 86) (.tmp 85),none⟩]
def c49_r20:List SOp:=[⟨some 88,.move (.tmp 9),none⟩,⟨some 89,.binOp .eql 3 (.tmp 88) (.const (.int .i64 4)) 3,none⟩,⟨some 87,.assign (.tmp 89),none⟩]
def c49_r21:List SOp:=[⟨some 90,.move (.tmp 5),none⟩,⟨some 91,.binOp .quo 3 (.tmp 90) (.const (.int .i64 72)) 3,none⟩,⟨some 92,.binOp .rem 3 (.tmp 91) (.const (.int .i64 5)) 3,none⟩,⟨some 93,.fieldAddr 52 (.tmp 6) 3,none⟩,⟨none,.store 3 (.tmp 93) (.tmp 92),none⟩]
def c49_r22:List SOp:=[⟨some 95,.move (.tmp 9),none⟩,⟨some 96,.binOp .eql 3 (.tmp 95) (.const (.int .i64 5)) 3,none⟩,⟨some 94,.assign (.tmp 96),none⟩]
def c49_r23:List SOp:=[⟨some 97,.fieldAddr 52 (.tmp 6) 0,none⟩,⟨some 98,.load 9 (.tmp 97),none⟩,⟨some 99,.call ⟨.builtin .len, #[.tmp 98],#[9]⟩,none⟩,⟨some 100,.move (.tmp 5),none⟩,⟨some 101,.binOp .quo 3 (.tmp 100) (.const (.int .i64 72)) 3,none⟩,⟨some 102,.binOp .rem 3 (.tmp 101) (.const (.int .i64 9)) 3,none⟩,⟨some 103,.binOp .add 3 (.tmp 99) (.tmp 102) 3,none⟩,⟨some 104,.fieldAddr 52 (.tmp 6) 4,none⟩,⟨none,.store 3 (.tmp 104) (.tmp 103),none⟩]
def c49_r24:List SOp:=[⟨some 105,.move (.tmp 3),none⟩,⟨some 106,.load 52 (.tmp 6),none⟩,⟨some 107,.buildSlice 42 1 #[(0, (.tmp 106))],none⟩,⟨some 108,.call ⟨.builtin .append, #[.tmp 105,.tmp 107],#[42,42]⟩,none⟩,⟨some 3,.assign (.tmp 108),none⟩]
def c49_r4:List SOp:=[⟨some 18,.move (.tmp 4),none⟩,⟨some 19,.binOp .add 3 (.tmp 18) (.const (.int .i64 1)) 3,none⟩,⟨some 4,.assign (.tmp 19),none⟩]
def c49_l3:SC:=(.seq (.seq (.reg c49_r3 none (some [0,3,4,17])) (.cond (.tmp 17) .skip (.exit 0) (some [0,3,4]))) (.seq (.block 1 (.seq (.reg c49_r5 none (some [0,3,4,5])) (.seq (.reg c49_r6 none (some [0,3,4,5,6])) (.seq (.reg c49_r7 none (some [0,3,4,5,6,7])) (.seq (.seq (.reg c49_r8 none (some [0,3,4,5,6,7,8])) (.block 2 (.loop c49_l9 (some [0,3,4,5,6,7,8])))) (.seq (.seq (.reg c49_r12 none (some [0,3,4,5,6,7,9])) (.block 4 (.seq (.reg c49_r13 none (some [0,3,4,5,6,7,9,59])) (.cond (.tmp 59) (.reg c49_r14 none (some [0,3,4,6])) (.seq (.reg c49_r15 none (some [0,3,4,5,6,9,63])) (.cond (.tmp 63) (.seq (.reg c49_r16 none (some [0,3,4,5,6])) (.seq (.reg c49_r17 none (some [0,3,4,5,6])) (.seq (.reg c49_r18 none (some [0,3,4,5,6,78])) (.cond (.tmp 78) (.reg c49_r19 none (some [0,3,4,6])) .skip (some [0,3,4,6]))))) (.seq (.reg c49_r20 none (some [0,3,4,5,6,9,87])) (.cond (.tmp 87) (.reg c49_r21 none (some [0,3,4,6])) (.seq (.reg c49_r22 none (some [0,3,4,5,6,94])) (.cond (.tmp 94) (.reg c49_r23 none (some [0,3,4,6])) .skip (some [0,3,4,6]))) (some [0,3,4,6]))) (some [0,3,4,6]))) (some [0,3,4,6]))))) (.reg c49_r24 none (some [0,3,4])))))))) (.reg c49_r4 none (some [0,3,4]))))
def c49_r25:List SOp:=[⟨some 109,.move (.tmp 3),none⟩,⟨some 2,.assign (.tmp 109),none⟩]
def c49:SC:=(.seq (.reg c49_r0 none (some [0])) (.seq (.reg c49_r1 none (some [0,3])) (.seq (.seq (.reg c49_r2 none (some [0,3,4])) (.block 0 (.loop c49_l3 (some [0,3,4])))) (.seq (.reg c49_r25 none (some [2])) .ret))))
theorem c49_eq : ∃ code, Try.f49.body = some code ∧ compile H49 code = c49 :=⟨_,rfl,by kernel_rfl⟩
theorem c49_fn : Try.prog.funcs[49]? = some Try.f49:=by kernel_rfl
theorem c49_rs : Try.f49.results.toList = [.tmp 2]:=by kernel_rfl
theorem c49_ok : fnB Try.prog H49 Try.f49 = true:=by kernel_rfl
theorem c49_nt : Try.f49.ntmps = 110:=by kernel_rfl
def H50:Hint:=⟨[(6,[4]),(4,[0,1,5,6]),(5,[0,1,5,6]),(2000014,[0,1,5,6]),(3,[0,1,5,6,14]),(1000003,[0,1,5,6]),(2,[0,1,5,6]),(1,[0,1,5]),(0,[0,1])],[]⟩
def c50_r0:List SOp:=[⟨some 4,.assign (.const (.string ⟨#[]⟩)),none⟩]
def c50_r1:List SOp:=[⟨some 5,.assign (.const (.slice none 0 0)),none⟩]
def c50_r2:List SOp:=[⟨some 6,.assign (.const (.int .i64 0)),none⟩]
def c50_r3:List SOp:=[⟨some 7,.move (.tmp 6),none⟩,⟨some 8,.move (.tmp 1),none⟩,⟨some 9,.binOp .lss 3 (.tmp 7) (.tmp 8) 3,none⟩,⟨some 10,.move (.tmp 9),none⟩,⟨some 11,.move (.tmp 0),some (some 10,true)⟩,⟨some 12,.call ⟨.builtin .len, #[.tmp 11],#[30]⟩,some (some 10,true)⟩,⟨some 13,.binOp .gtr 3 (.tmp 12) (.const (.int .i64 0)) 3,some (some 10,true)⟩,⟨some 14,.pick (.tmp 10) (.tmp 13) (.const (.bool false)),none⟩]
def c50_r5:List SOp:=[⟨some 17,.move (.tmp 5),none⟩,⟨some 18,.move (.tmp 0),none⟩,⟨some 19,.move (.tmp 6),none⟩,⟨some 20,.move (.tmp 0),none⟩,⟨some 21,.call ⟨.builtin .len, #[.tmp 20],#[30]⟩,none⟩,⟨some 22,.binOp .rem 3 (.tmp 19) (.tmp 21) 3,none⟩,⟨some 23,.indexAddr 30 (.tmp 18) (.tmp 22),none⟩,⟨some 24,.load 3 (.tmp 23),none⟩,⟨some 25,.call ⟨.value (.func 29),#[(.tmp 24),(.const (.int .i64 1073741824))],#[3,3]⟩,none⟩,⟨some 26,.move (.tmp 6),none⟩,⟨some 27,.move (.tmp 6),none⟩,⟨some 28,.binOp .mul 3 (.tmp 26) (.tmp 27) 3,none⟩,⟨some 29,.binOp .quo 3 (.tmp 28) (.const (.int .i64 3)) 3,none⟩,⟨some 30,.binOp .add 3 (.tmp 25) (.tmp 29) 3,none⟩,⟨some 31,.call ⟨.value (.func 29),#[(.tmp 30),(.const (.int .i64 4))],#[3,3]⟩,none⟩,⟨some 32,.index 9 (.const (.string ⟨#[97,98,99,65]⟩)) (.tmp 31),none⟩,⟨some 33,.buildSlice 25 1 #[(0, (.tmp 32))],none⟩,⟨some 34,.call ⟨.builtin .append, #[.tmp 17,.tmp 33],#[25,25]⟩,none⟩,⟨some 5,.assign (.tmp 34),none⟩]
def c50_r4:List SOp:=[⟨some 15,.move (.tmp 6),none⟩,⟨some 16,.binOp .add 3 (.tmp 15) (.const (.int .i64 1)) 3,none⟩,⟨some 6,.assign (.tmp 16),none⟩]
def c50_l3:SC:=(.seq (.seq (.reg c50_r3 none (some [0,1,5,6,14])) (.cond (.tmp 14) .skip (.exit 0) (some [0,1,5,6]))) (.seq (.block 1 (.reg c50_r5 none (some [0,1,5,6]))) (.reg c50_r4 none (some [0,1,5,6]))))
def c50_r6:List SOp:=[⟨some 35,.move (.tmp 5),none⟩,⟨some 36,.convert 25 9 (.tmp 35),none⟩,⟨some 4,.assign (.tmp 36),none⟩]
def c50:SC:=(.seq (.reg c50_r0 none (some [0,1])) (.seq (.reg c50_r1 none (some [0,1,5])) (.seq (.seq (.reg c50_r2 none (some [0,1,5,6])) (.block 0 (.loop c50_l3 (some [0,1,5,6])))) (.seq (.reg c50_r6 none (some [4])) .ret))))
theorem c50_eq : ∃ code, Try.f50.body = some code ∧ compile H50 code = c50 :=⟨_,rfl,by kernel_rfl⟩
theorem c50_fn : Try.prog.funcs[50]? = some Try.f50:=by kernel_rfl
theorem c50_rs : Try.f50.results.toList = [.tmp 4]:=by kernel_rfl
theorem c50_ok : fnB Try.prog H50 Try.f50 = true:=by kernel_rfl
theorem c50_nt : Try.f50.ntmps = 37:=by kernel_rfl
def H52:Hint:=⟨[(23,[4,5]),(22,[6,12,13]),(21,[6,12,13,14]),(2000061,[6,12,13]),(20,[6,12,13,61]),(1000020,[6,12,13]),(19,[6,12,13]),(18,[6,12]),(17,[4,5]),(2000049,[6,11]),(16,[6,11,49]),(15,[1,6,11]),(14,[1,6,30,31,32]),(13,[4,5]),(2000043,[1,6,30,31,32]),(12,[1,6,30,31,32,43]),(11,[1,6,30,31,32]),(10,[1,6,10,30,31,32]),(2000033,[1,6,30,31,32]),(9,[1,6,30,31,32,33]),(1000009,[1,6,30,31,32]),(8,[1,6,30,31,32]),(7,[0,1,6,16,17,18]),(6,[4,5]),(2000028,[0,1,6,16,17,18]),(5,[0,1,6,16,17,18,28]),(4,[0,1,6,8,16,17,18]),(2000019,[0,1,6,16,17,18]),(3,[0,1,6,16,17,18,19]),(1000003,[0,1,6,16,17,18]),(2,[0,1,6,16,17,18]),(1,[0,1,6]),(0,[0,1])],[]⟩
def c52_r0:List SOp:=[⟨some 4,.assign (.const (.pointer none)),none⟩,⟨some 5,.assign (.const (.int .i64 0)),none⟩]
def c52_r1:List SOp:=[⟨some 15,.call ⟨.value (.func 30),#[],#[]⟩,none⟩,⟨some 6,.assign (.tmp 15),none⟩]
def c52_r2:List SOp:=[⟨some 16,.move (.tmp 0),none⟩,⟨some 17,.call ⟨.builtin .len, #[.tmp 16],#[38]⟩,none⟩,⟨some 18,.move (.const (.int .i64 0)),none⟩]
def c52_r3:List SOp:=[⟨some 19,.binOp .lss 3 (.tmp 18) (.tmp 17) 3,none⟩]
def c52_r4:List SOp:=[⟨some 20,.indexAddr 38 (.tmp 16) (.tmp 18),none⟩,⟨some 21,.load 9 (.tmp 20),none⟩,⟨some 8,.assign (.tmp 21),none⟩]
def c52_r5:List SOp:=[⟨some 22,.move (.tmp 8),none⟩,⟨some 23,.binOp .eql 9 (.tmp 22) (.const (.string ⟨#[]⟩)) 9,none⟩,⟨some 24,.move (.tmp 23),none⟩,⟨some 25,.move (.tmp 8),some (some 24,false)⟩,⟨some 26,.call ⟨.builtin .len, #[.tmp 25],#[9]⟩,some (some 24,false)⟩,⟨some 27,.binOp .gtr 3 (.tmp 26) (.const (.int .i64 16)) 3,some (some 24,false)⟩,⟨some 28,.pick (.tmp 24) (.const (.bool true)) (.tmp 27),none⟩]
def c52_r6:List SOp:=[⟨some 4,.assign (.const (.pointer none)),none⟩,⟨some 5,.assign (.const (.int .i64 1)),none⟩]
def c52_r7:List SOp:=[⟨some 29,.binOp .add 3 (.tmp 18) (.const (.int .i64 1)) 3,none⟩,⟨some 18,.move (.tmp 29),none⟩]
def c52_l3:SC:=(.seq (.reg c52_r3 none (some [0,1,6,16,17,18,19])) (.seq (.cond (.tmp 19) .skip (.exit 0) (some [0,1,6,16,17,18])) (.seq (.block 1 (.seq (.reg c52_r4 none (some [0,1,6,8,16,17,18])) (.seq (.reg c52_r5 none (some [0,1,6,16,17,18,28])) (.cond (.tmp 28) (.seq (.reg c52_r6 none (some [4,5])) .ret) .skip (some [0,1,6,16,17,18]))))) (.reg c52_r7 none (some [0,1,6,16,17,18])))))
def c52_r8:List SOp:=[⟨some 30,.move (.tmp 0),none⟩,⟨some 31,.call ⟨.builtin .len, #[.tmp 30],#[38]⟩,none⟩,⟨some 32,.move (.const (.int .i64 0)),none⟩]
def c52_r9:List SOp:=[⟨some 33,.binOp .lss 3 (.tmp 32) (.tmp 31) 3,none⟩]
def c52_r10:List SOp:=[⟨some 34,.indexAddr 38 (.tmp 30) (.tmp 32),none⟩,⟨some 35,.load 9 (.tmp 34),none⟩,⟨some 10,.assign (.tmp 35),none⟩]
def c52_r11:List SOp:=[⟨some 36,.move (.tmp 6),none⟩,⟨some 37,.move (.tmp 10),none⟩,⟨some 38,.call ⟨.value (.func 31),#[.tmp 36,.tmp 37],#[23,9]⟩,none⟩]
def c52_r12:List SOp:=[⟨some 39,.move (.tmp 6),none⟩,⟨some 40,.call ⟨.value (.func 32),#[.tmp 39],#[23]⟩,none⟩,⟨some 41,.move (.tmp 1),none⟩,⟨some 42,.call ⟨.builtin .min, #[(.tmp 41),(.const (.int .i64 4096))],#[3,3]⟩,none⟩,⟨some 43,.binOp .gtr 3 (.tmp 40) (.tmp 42) 3,none⟩]
def c52_r13:List SOp:=[⟨some 4,.assign (.const (.pointer none)),none⟩,⟨some 5,.assign (.const (.int .i64 9)),none⟩]
def c52_r14:List SOp:=[⟨some 44,.binOp .add 3 (.tmp 32) (.const (.int .i64 1)) 3,none⟩,⟨some 32,.move (.tmp 44),none⟩]
def c52_l9:SC:=(.seq (.reg c52_r9 none (some [1,6,30,31,32,33])) (.seq (.cond (.tmp 33) .skip (.exit 2) (some [1,6,30,31,32])) (.seq (.block 3 (.seq (.reg c52_r10 none (some [1,6,10,30,31,32])) (.seq (.reg c52_r11 none (some [1,6,30,31,32])) (.seq (.reg c52_r12 none (some [1,6,30,31,32,43])) (.cond (.tmp 43) (.seq (.reg c52_r13 none (some [4,5])) .ret) .skip (some [1,6,30,31,32])))))) (.reg c52_r14 none (some [1,6,30,31,32])))))
def c52_r15:List SOp:=[⟨some 45,.move (.tmp 6),none⟩,⟨some 46,.call ⟨.value (.func 32),#[.tmp 45],#[23]⟩,none⟩,⟨some 11,.assign (.tmp 46),none⟩]
def c52_r16:List SOp:=[⟨some 47,.move (.tmp 11),none⟩,⟨some 48,.move (.tmp 1),none⟩,⟨some 49,.binOp .gtr 3 (.tmp 47) (.tmp 48) 3,none⟩]
def c52_r17:List SOp:=[⟨some 4,.assign (.const (.pointer none)),none⟩,⟨some 5,.assign (.const (.int .i64 9)),none⟩]
def c52_r18:List SOp:=[⟨some 50,.move (.tmp 11),none⟩,⟨some 51,.makeSlice 127 (.tmp 50) (.tmp 50),none⟩,⟨some 52,.move (.tmp 11),none⟩,⟨some 53,.makeSlice 30 (.tmp 52) (.tmp 52),none⟩,⟨some 54,.move (.tmp 11),none⟩,⟨some 55,.makeSlice 44 (.tmp 54) (.tmp 54),none⟩,⟨some 56,.build 129 #[(0, (.tmp 51)), (1, (.tmp 53)), (2, (.tmp 55))],none⟩,⟨some 57,.box 129 (.tmp 56),none⟩,⟨some 12,.assign (.tmp 57),none⟩]
def c52_r19:List SOp:=[⟨some 58,.buildSlice 30 1 #[(0, (.const (.int .i64 0)))],none⟩,⟨some 13,.assign (.tmp 58),none⟩]
def c52_r20:List SOp:=[⟨some 59,.move (.tmp 13),none⟩,⟨some 60,.call ⟨.builtin .len, #[.tmp 59],#[30]⟩,none⟩,⟨some 61,.binOp .gtr 3 (.tmp 60) (.const (.int .i64 0)) 3,none⟩]
def c52_r21:List SOp:=[⟨some 62,.move (.tmp 13),none⟩,⟨some 63,.indexAddr 30 (.tmp 62) (.const (.int .i64 0)),none⟩,⟨some 64,.load 3 (.tmp 63),none⟩,⟨some 14,.assign (.tmp 64),none⟩]
def c52_r22:List SOp:=[⟨some 65,.move (.tmp 13),none⟩,⟨some 66,.slice 30 (.tmp 65) (some (.const (.int .i64 1))) none none,none⟩,⟨some 67,.move (.tmp 12),none⟩,⟨some 68,.move (.tmp 6),none⟩,⟨some 69,.move (.tmp 14),none⟩,⟨some 70,.call ⟨.value (.func 100),#[.tmp 67,.tmp 68,.tmp 69],#[57,23,3]⟩,none⟩,⟨some 71,.call ⟨.builtin .append, #[.tmp 66,.tmp 70],#[30,30]⟩,none⟩,⟨some 13,.assign (.tmp 71),none⟩]
def c52_l20:SC:=(.seq (.seq (.reg c52_r20 none (some [6,12,13,61])) (.cond (.tmp 61) .skip (.exit 4) (some [6,12,13]))) (.block 5 (.seq (.reg c52_r21 none (some [6,12,13,14])) (.reg c52_r22 none (some [6,12,13])))))
def c52_r23:List SOp:=[⟨some 72,.move (.tmp 12),none⟩,⟨some 4,.assign (.tmp 72),none⟩,⟨some 5,.assign (.const (.int .i64 0)),none⟩]
def c52:SC:=(.seq (.reg c52_r0 none (some [0,1])) (.seq (.reg c52_r1 none (some [0,1,6])) (.seq (.seq (.reg c52_r2 none (some [0,1,6,16,17,18])) (.block 0 (.loop c52_l3 (some [0,1,6,16,17,18])))) (.seq (.seq (.reg c52_r8 none (some [1,6,30,31,32])) (.block 2 (.loop c52_l9 (some [1,6,30,31,32])))) (.seq (.reg c52_r15 none (some [1,6,11])) (.seq (.seq (.reg c52_r16 none (some [6,11,49])) (.cond (.tmp 49) (.seq (.reg c52_r17 none (some [4,5])) .ret) .skip (some [6,11]))) (.seq (.reg c52_r18 none (some [6,12])) (.seq (.seq (.reg c52_r19 none (some [6,12,13])) (.block 4 (.loop c52_l20 (some [6,12,13])))) (.seq (.reg c52_r23 none (some [4,5])) .ret)))))))))
theorem c52_eq : ∃ code, Try.f52.body = some code ∧ compile H52 code = c52 :=⟨_,rfl,by kernel_rfl⟩
theorem c52_fn : Try.prog.funcs[52]? = some Try.f52:=by kernel_rfl
theorem c52_rs : Try.f52.results.toList = [.tmp 4, .tmp 5]:=by kernel_rfl
theorem c52_ok : fnB Try.prog H52 Try.f52 = true:=by kernel_rfl
theorem c52_nt : Try.f52.ntmps = 73:=by kernel_rfl
def H53:Hint:=⟨[(3,[6]),(2,[6]),(2000009,[0,1,2]),(1,[0,1,2,9]),(0,[0,1,2])],[]⟩
def c53_r0:List SOp:=[⟨some 6,.assign (.const (.int .i64 0)),none⟩]
def c53_r1:List SOp:=[⟨some 7,.move (.tmp 0),none⟩,⟨some 8,.move (.tmp 1),none⟩,⟨some 9,.call ⟨.value (.func 101),#[.tmp 7,.tmp 8],#[57,3]⟩,none⟩]
def c53_r2:List SOp:=[⟨some 6,.assign (.const (.int .i64 0)),none⟩]
def c53_r3:List SOp:=[⟨some 10,.move (.tmp 0),none⟩,⟨some 11,.nilCheck (.tmp 10),none⟩,⟨some 12,.fieldAddr 129 (.tmp 11) 0,none⟩,⟨some 13,.load 127 (.tmp 12),none⟩,⟨some 14,.move (.tmp 1),none⟩,⟨some 15,.move (.tmp 2),none⟩,⟨some 16,.indexAddr 127 (.tmp 13) (.tmp 14),none⟩,⟨some 17,.indexAddr 132 (.tmp 16) (.tmp 15),none⟩,⟨some 18,.load 131 (.tmp 17),none⟩,⟨some 19,.convert 131 3 (.tmp 18),none⟩,⟨some 6,.assign (.tmp 19),none⟩]
def c53:SC:=(.seq (.reg c53_r0 none (some [0,1,2])) (.seq (.seq (.reg c53_r1 none (some [0,1,2,9])) (.cond (.tmp 9) (.seq (.reg c53_r2 none (some [6])) .ret) .skip (some [0,1,2]))) (.seq (.reg c53_r3 none (some [6])) .ret)))
theorem c53_eq : ∃ code, Try.f53.body = some code ∧ compile H53 code = c53 :=⟨_,rfl,by kernel_rfl⟩
theorem c53_fn : Try.prog.funcs[53]? = some Try.f53:=by kernel_rfl
theorem c53_rs : Try.f53.results.toList = [.tmp 6]:=by kernel_rfl
theorem c53_ok : fnB Try.prog H53 Try.f53 = true:=by kernel_rfl
theorem c53_nt : Try.f53.ntmps = 20:=by kernel_rfl
def H54:Hint:=⟨[(3,[4]),(2,[4]),(2000007,[0,1]),(1,[0,1,7]),(0,[0,1])],[]⟩
def c54_r0:List SOp:=[⟨some 4,.assign (.const (.slice none 0 0)),none⟩]
def c54_r1:List SOp:=[⟨some 5,.move (.tmp 0),none⟩,⟨some 6,.move (.tmp 1),none⟩,⟨some 7,.call ⟨.value (.func 101),#[.tmp 5,.tmp 6],#[57,3]⟩,none⟩]
def c54_r2:List SOp:=[⟨some 4,.assign (.const (.slice none 0 0)),none⟩]
def c54_r3:List SOp:=[⟨some 8,.move (.tmp 0),none⟩,⟨some 9,.nilCheck (.tmp 8),none⟩,⟨some 10,.fieldAddr 129 (.tmp 9) 2,none⟩,⟨some 11,.load 44 (.tmp 10),none⟩,⟨some 12,.move (.tmp 1),none⟩,⟨some 13,.indexAddr 44 (.tmp 11) (.tmp 12),none⟩,⟨some 14,.load 30 (.tmp 13),none⟩,⟨some 15,.call ⟨.value (.func 93),#[.tmp 14],#[30]⟩,none⟩,⟨some 4,.assign (.tmp 15),none⟩]
def c54:SC:=(.seq (.reg c54_r0 none (some [0,1])) (.seq (.seq (.reg c54_r1 none (some [0,1,7])) (.cond (.tmp 7) (.seq (.reg c54_r2 none (some [4])) .ret) .skip (some [0,1]))) (.seq (.reg c54_r3 none (some [4])) .ret)))
theorem c54_eq : ∃ code, Try.f54.body = some code ∧ compile H54 code = c54 :=⟨_,rfl,by kernel_rfl⟩
theorem c54_fn : Try.prog.funcs[54]? = some Try.f54:=by kernel_rfl
theorem c54_rs : Try.f54.results.toList = [.tmp 4]:=by kernel_rfl
theorem c54_ok : fnB Try.prog H54 Try.f54 = true:=by kernel_rfl
theorem c54_nt : Try.f54.ntmps = 16:=by kernel_rfl
def H59:Hint:=⟨[(8,[2]),(7,[3,8,9,10]),(6,[3,8,9,10]),(2000020,[3,8,9,10]),(5,[3,4,5,8,9,10,20]),(4,[3,4,5,8,9,10]),(2000011,[3,8,9,10]),(3,[3,8,9,10,11]),(1000003,[3,8,9,10]),(2,[3,8,9,10]),(1,[3]),(0,[0])],[]⟩
def c59_r0:List SOp:=[⟨some 2,.assign (.const (.string ⟨#[]⟩)),none⟩]
def c59_r1:List SOp:=[⟨some 6,.move (.tmp 0),none⟩,⟨some 7,.convert 9 25 (.tmp 6),none⟩,⟨some 3,.assign (.tmp 7),none⟩]
def c59_r2:List SOp:=[⟨some 8,.move (.tmp 3),none⟩,⟨some 9,.call ⟨.builtin .len, #[.tmp 8],#[25]⟩,none⟩,⟨some 10,.move (.const (.int .i64 0)),none⟩]
def c59_r3:List SOp:=[⟨some 11,.binOp .lss 3 (.tmp 10) (.tmp 9) 3,none⟩]
def c59_r4:List SOp:=[⟨some 12,.move (.tmp 10),none⟩,⟨some 13,.indexAddr 25 (.tmp 8) (.tmp 10),none⟩,⟨some 14,.load 5 (.tmp 13),none⟩,⟨some 4,.assign (.tmp 12),none⟩,⟨some 5,.assign (.tmp 14),none⟩]
def c59_r5:List SOp:=[⟨some 15,.move (.tmp 5),none⟩,⟨some 16,.binOp .geq 5 (.tmp 15) (.const (.int .u8 65)) 5,none⟩,⟨some 17,.move (.tmp 16),none⟩,⟨some 18,.move (.tmp 5),some (some 17,true)⟩,⟨some 19,.binOp .leq 5 (.tmp 18) (.const (.int .u8 90)) 5,some (some 17,true)⟩,⟨some 20,.pick (.tmp 17) (.tmp 19) (.const (.bool false)),none⟩]
def c59_r6:List SOp:=[⟨some 21,.move (.tmp 3),none⟩,⟨some 22,.move (.tmp 4),none⟩,⟨some 23,.move (.tmp 5),none⟩,⟨some 24,.binOp .sub 5 (.tmp 23) (.const (.int .u8 65)) 5,none⟩,⟨some 25,.binOp .add 5 (.tmp 24) (.const (.int .u8 97)) 5,none⟩,⟨some 26,.indexAddr 25 (.tmp 21) (.tmp 22),none⟩,⟨none,.store 5 (.tmp 26) (.tmp 25),none⟩]
def c59_r7:List SOp:=[⟨some 27,.binOp .add 3 (.tmp 10) (.const (.int .i64 1)) 3,none⟩,⟨some 10,.move (.tmp 27),none⟩]
def c59_l3:SC:=(.seq (.reg c59_r3 none (some [3,8,9,10,11])) (.seq (.cond (.tmp 11) .skip (.exit 0) (some [3,8,9,10])) (.seq (.block 1 (.seq (.reg c59_r4 none (some [3,4,5,8,9,10])) (.seq (.reg c59_r5 none (some [3,4,5,8,9,10,20])) (.cond (.tmp 20) (.reg c59_r6 none (some [3,8,9,10])) .skip (some [3,8,9,10]))))) (.reg c59_r7 none (some [3,8,9,10])))))
def c59_r8:List SOp:=[⟨some 28,.move (.tmp 3),none⟩,⟨some 29,.convert 25 9 (.tmp 28),none⟩,⟨some 2,.assign (.tmp 29),none⟩]
def c59:SC:=(.seq (.reg c59_r0 none (some [0])) (.seq (.reg c59_r1 none (some [3])) (.seq (.seq (.reg c59_r2 none (some [3,8,9,10])) (.block 0 (.loop c59_l3 (some [3,8,9,10])))) (.seq (.reg c59_r8 none (some [2])) .ret))))
theorem c59_eq : ∃ code, Try.f59.body = some code ∧ compile H59 code = c59 :=⟨_,rfl,by kernel_rfl⟩
theorem c59_fn : Try.prog.funcs[59]? = some Try.f59:=by kernel_rfl
theorem c59_rs : Try.f59.results.toList = [.tmp 2]:=by kernel_rfl
theorem c59_ok : fnB Try.prog H59 Try.f59 = true:=by kernel_rfl
theorem c59_nt : Try.f59.ntmps = 30:=by kernel_rfl
def H65:Hint:=⟨[(13,[4]),(12,[0,5,52,53,54]),(11,[0,5,52,53,54]),(2000093,[0,5,52,53,54]),(10,[0,5,7,52,53,54,93]),(9,[0,5,7,52,53,54]),(2000055,[0,5,52,53,54]),(8,[0,5,52,53,54,55]),(1000008,[0,5,52,53,54]),(7,[0,5,52,53,54]),(6,[0,5]),(5,[0]),(4,[4]),(2000029,[0,1]),(3,[0,1,29]),(2,[0,1]),(1,[0,1]),(0,[0,1])],[(5,[(4,10),(8,10)])]⟩
def c65_r0:List SOp:=[⟨some 4,.assign (.const (.slice none 0 0)),none⟩]
def c65_r1:List SOp:=[⟨some 8,.move (.tmp 0),none⟩,⟨some 9,.move (.tmp 0),none⟩,⟨some 10,.nilCheck (.tmp 9),none⟩,⟨some 11,.fieldAddr 136 (.tmp 10) 4,none⟩,⟨some 12,.load 3 (.tmp 11),none⟩,⟨some 13,.binOp .rem 3 (.tmp 12) (.const (.int .i64 16)) 3,none⟩,⟨some 14,.move (.tmp 1),none⟩,⟨some 15,.nilCheck (.tmp 8),none⟩,⟨some 16,.fieldAddr 136 (.tmp 15) 5,none⟩,⟨some 17,.indexAddr 134 (.tmp 16) (.tmp 13),none⟩,⟨none,.store 5 (.tmp 17) (.tmp 14),none⟩]
def c65_r2:List SOp:=[⟨some 18,.move (.tmp 0),none⟩,⟨some 19,.nilCheck (.tmp 18),none⟩,⟨some 20,.fieldAddr 136 (.tmp 19) 4,none⟩,⟨some 21,.load 3 (.tmp 20),none⟩,⟨some 22,.binOp .add 3 (.tmp 21) (.const (.int .i64 1)) 3,none⟩,⟨some 23,.nilCheck (.tmp 18),none⟩,⟨some 24,.fieldAddr 136 (.tmp 23) 4,none⟩,⟨none,.store 3 (.tmp 24) (.tmp 22),none⟩]
def c65_r3:List SOp:=[⟨some 25,.move (.tmp 0),none⟩,⟨some 26,.nilCheck (.tmp 25),none⟩,⟨some 27,.fieldAddr 136 (.tmp 26) 0,none⟩,⟨some 28,.load 57 (.tmp 27),none⟩,⟨some 29,.binOp .eql 57 (.tmp 28) (.const (.pointer none)) 57,none⟩]
def c65_r4:List SOp:=[⟨some 4,.assign (.const (.slice none 0 0)),none⟩]
def c65_r5:List SOp:=[⟨some 30,.move (.tmp 0),none⟩,⟨some 31,.move (.tmp 0),none⟩,⟨some 32,.nilCheck (.tmp 31),none⟩,⟨some 33,.fieldAddr 136 (.tmp 32) 0,none⟩,⟨some 34,.load 57 (.tmp 33),none⟩,⟨some 35,.move (.tmp 0),none⟩,⟨some 36,.nilCheck (.tmp 35),none⟩,⟨some 37,.fieldAddr 136 (.tmp 36) 3,none⟩,⟨some 38,.load 3 (.tmp 37),none⟩,⟨some 39,.move (.tmp 1),none⟩,⟨some 40,.call ⟨.value (.func 103),#[.tmp 39],#[5]⟩,none⟩,⟨some 41,.call ⟨.value (.func 53),#[.tmp 34,.tmp 38,.tmp 40],#[57,3,5]⟩,none⟩,⟨some 42,.nilCheck (.tmp 30),none⟩,⟨some 43,.fieldAddr 136 (.tmp 42) 3,none⟩,⟨none,.store 3 (.tmp 43) (.tmp 41),none⟩]
def c65_r6:List SOp:=[⟨some 5,.assign (.const (.slice none 0 0)),none⟩]
def c65_r7:List SOp:=[⟨some 44,.move (.tmp 0),none⟩,⟨some 45,.nilCheck (.tmp 44),none⟩,⟨some 46,.fieldAddr 136 (.tmp 45) 0,none⟩,⟨some 47,.load 57 (.tmp 46),none⟩,⟨some 48,.move (.tmp 0),none⟩,⟨some 49,.nilCheck (.tmp 48),none⟩,⟨some 50,.fieldAddr 136 (.tmp 49) 3,none⟩,⟨some 51,.load 3 (.tmp 50),none⟩,⟨some 52,.call ⟨.value (.func 54),#[.tmp 47,.tmp 51],#[57,3]⟩,none⟩,⟨some 53,.call ⟨.builtin .len, #[.tmp 52],#[30]⟩,none⟩,⟨some 54,.move (.const (.int .i64 0)),none⟩]
def c65_r8:List SOp:=[⟨some 55,.binOp .lss 3 (.tmp 54) (.tmp 53) 3,none⟩]
def c65_r9:List SOp:=[⟨some 56,.indexAddr 30 (.tmp 52) (.tmp 54),none⟩,⟨some 57,.load 3 (.tmp 56),none⟩,⟨some 7,.assign (.tmp 57),none⟩]
def c65_r10:List SOp:=[⟨some 58,.move (.tmp 7),none⟩,⟨some 59,.move (.tmp 0),none⟩,⟨some 60,.nilCheck (.tmp 59),none⟩,⟨some 61,.fieldAddr 136 (.tmp 60) 1,none⟩,⟨some 62,.load 38 (.tmp 61),none⟩,⟨some 63,.call ⟨.builtin .len, #[.tmp 62],#[38]⟩,none⟩,⟨some 64,.binOp .lss 3 (.tmp 58) (.tmp 63) 3,none⟩,⟨some 65,.move (.tmp 64),none⟩,⟨some 66,.move (.tmp 7),some (some 65,true)⟩,⟨some 67,.move (.tmp 0),some (some 65,true)⟩,⟨some 68,.nilCheck (.tmp 67),some (some 65,true)⟩,⟨some 69,.fieldAddr 136 (.tmp 68) 2,some (some 65,true)⟩,⟨some 70,.load 68 (.tmp 69),some (some 65,true)⟩,⟨some 71,.call ⟨.builtin .len, #[.tmp 70],#[68]⟩,some (some 65,true)⟩,⟨some 72,.binOp .lss 3 (.tmp 66) (.tmp 71) 3,some (some 65,true)⟩,⟨some 73,.move (.tmp 72),some (some 65,true)⟩,⟨some 74,.move (.tmp 0),some (some 73,true)⟩,⟨some 75,.nilCheck (.tmp 74),some (some 73,true)⟩,⟨some 76,.fieldAddr 136 (.tmp 75) 2,some (some 73,true)⟩,⟨some 77,.load 68 (.tmp 76),some (some 73,true)⟩,⟨some 78,.move (.tmp 7),some (some 73,true)⟩,⟨some 79,.indexAddr 68 (.tmp 77) (.tmp 78),some (some 73,true)⟩,⟨some 80,.load 4 (.tmp 79),some (some 73,true)⟩,⟨some 81,.pick (.tmp 73) (.tmp 80) (.const (.bool false)),some (some 65,true)⟩,⟨some 82,.move (.tmp 81),some (some 65,true)⟩,⟨some 83,.move (.tmp 0),some (some 82,false)⟩,⟨some 84,.move (.tmp 0),some (some 82,false)⟩,⟨some 85,.nilCheck (.tmp 84),some (some 82,false)⟩,⟨some 86,.fieldAddr 136 (.tmp 85) 1,some (some 82,false)⟩,⟨some 87,.load 38 (.tmp 86),some (some 82,false)⟩,⟨some 88,.move (.tmp 7),some (some 82,false)⟩,⟨some 89,.indexAddr 38 (.tmp 87) (.tmp 88),some (some 82,false)⟩,⟨some 90,.load 9 (.tmp 89),some (some 82,false)⟩,⟨some 91,.call ⟨.value (.func 104),#[.tmp 83,.tmp 90],#[69,9]⟩,some (some 82,false)⟩,⟨some 92,.pick (.tmp 82) (.const (.bool true)) (.tmp 91),some (some 65,true)⟩,⟨some 93,.pick (.tmp 65) (.tmp 92) (.const (.bool false)),none⟩]
def c65_r11:List SOp:=[⟨some 94,.move (.tmp 5),none⟩,⟨some 95,.move (.tmp 7),none⟩,⟨some 96,.buildSlice 30 1 #[(0, (.tmp 95))],none⟩,⟨some 97,.call ⟨.builtin .append, #[.tmp 94,.tmp 96],#[30,30]⟩,none⟩,⟨some 5,.assign (.tmp 97),none⟩]
def c65_r12:List SOp:=[⟨some 98,.binOp .add 3 (.tmp 54) (.const (.int .i64 1)) 3,none⟩,⟨some 54,.move (.tmp 98),none⟩]
def c65_l8:SC:=(.seq (.reg c65_r8 none (some [0,5,52,53,54,55])) (.seq (.cond (.tmp 55) .skip (.exit 0) (some [0,5,52,53,54])) (.seq (.block 1 (.seq (.reg c65_r9 none (some [0,5,7,52,53,54])) (.seq (.reg c65_r10 none (some [0,5,7,52,53,54,93])) (.cond (.tmp 93) (.reg c65_r11 none (some [0,5,52,53,54])) .skip (some [0,5,52,53,54]))))) (.reg c65_r12 none (some [0,5,52,53,54])))))
def c65_r13:List SOp:=[⟨some 99,.move (.tmp 5),none⟩,⟨some 4,.assign (.tmp 99),none⟩]
def c65:SC:=(.seq (.reg c65_r0 none (some [0,1])) (.seq (.reg c65_r1 none (some [0,1])) (.seq (.reg c65_r2 none (some [0,1])) (.seq (.seq (.reg c65_r3 none (some [0,1,29])) (.cond (.tmp 29) (.seq (.reg c65_r4 none (some [4])) .ret) .skip (some [0,1]))) (.seq (.reg c65_r5 (some [(4, 10), (8, 10)]) (some [0])) (.seq (.reg c65_r6 none (some [0,5])) (.seq (.seq (.reg c65_r7 none (some [0,5,52,53,54])) (.block 0 (.loop c65_l8 (some [0,5,52,53,54])))) (.seq (.reg c65_r13 none (some [4])) .ret))))))))
theorem c65_eq : ∃ code, Try.f65.body = some code ∧ compile H65 code = c65 :=⟨_,rfl,by kernel_rfl⟩
theorem c65_fn : Try.prog.funcs[65]? = some Try.f65:=by kernel_rfl
theorem c65_rs : Try.f65.results.toList = [.tmp 4]:=by kernel_rfl
theorem c65_ok : fnB Try.prog H65 Try.f65 = true:=by kernel_rfl
theorem c65_nt : Try.f65.ntmps = 100:=by kernel_rfl
def H72:Hint:=⟨[(12,[4]),(11,[5,14,15,16]),(10,[5,14,15,16]),(9,[5,6,7,14,15,16]),(2000050,[5,6,7,14,15,16]),(8,[5,6,7,8,14,15,16,50]),(7,[5,6,7,8,14,15,16]),(6,[5,14,15,16]),(2000022,[5,6,7,14,15,16]),(5,[5,6,7,14,15,16,22]),(4,[5,6,7,14,15,16]),(2000017,[5,14,15,16]),(3,[5,14,15,16,17]),(1000003,[5,14,15,16]),(2,[5,14,15,16]),(1,[0,5]),(0,[0,1])],[(9,[(17,23),(19,23)])]⟩
def c72_r0:List SOp:=[⟨some 4,.assign (.const (.pointer none)),none⟩]
def c72_r1:List SOp:=[⟨some 9,.move (.tmp 1),none⟩,⟨some 10,.call ⟨.builtin .min, #[(.tmp 9),(.const (.int .i64 32))],#[3,3]⟩,none⟩,⟨some 11,.call ⟨.builtin .max, #[(.const (.int .i64 1)),(.tmp 10)],#[3,3]⟩,none⟩,⟨some 12,.build 144 #[(0, (.tmp 11))],none⟩,⟨some 13,.box 144 (.tmp 12),none⟩,⟨some 5,.assign (.tmp 13),none⟩]
def c72_r2:List SOp:=[⟨some 14,.move (.tmp 0),none⟩,⟨some 15,.call ⟨.builtin .len, #[.tmp 14],#[42]⟩,none⟩,⟨some 16,.move (.const (.int .i64 0)),none⟩]
def c72_r3:List SOp:=[⟨some 17,.binOp .lss 3 (.tmp 16) (.tmp 15) 3,none⟩]
def c72_r4:List SOp:=[⟨some 18,.move (.tmp 16),none⟩,⟨some 19,.indexAddr 42 (.tmp 14) (.tmp 16),none⟩,⟨some 20,.load 52 (.tmp 19),none⟩,⟨some 7,.alloc 52,none⟩,⟨some 6,.assign (.tmp 18),none⟩,⟨none,.store 52 (.tmp 7) (.tmp 20),none⟩]
def c72_r5:List SOp:=[⟨some 21,.fieldAddr 52 (.tmp 7) 2,none⟩,⟨some 22,.load 4 (.tmp 21),none⟩]
def c72_r6:List SOp:=[⟨some 23,.move (.tmp 5),none⟩,⟨some 24,.move (.tmp 5),none⟩,⟨some 25,.nilCheck (.tmp 24),none⟩,⟨some 26,.fieldAddr 144 (.tmp 25) 3,none⟩,⟨some 27,.load 142 (.tmp 26),none⟩,⟨some 28,.load 52 (.tmp 7),none⟩,⟨some 29,.move (.tmp 6),none⟩,⟨some 30,.build 147 #[(0, (.tmp 28)), (1, (.tmp 29))],none⟩,⟨some 31,.buildSlice 142 1 #[(0, (.tmp 30))],none⟩,⟨some 32,.call ⟨.builtin .append, #[.tmp 27,.tmp 31],#[142,142]⟩,none⟩,⟨some 33,.nilCheck (.tmp 23),none⟩,⟨some 34,.fieldAddr 144 (.tmp 33) 3,none⟩,⟨none,.store 142 (.tmp 34) (.tmp 32),none⟩]
def c72_r7:List SOp:=[⟨some 35,.move (.tmp 5),none⟩,⟨some 36,.nilCheck (.tmp 35),none⟩,⟨some 37,.fieldAddr 144 (.tmp 36) 2,none⟩,⟨some 38,.load 141 (.tmp 37),none⟩,⟨some 39,.call ⟨.builtin .len, #[.tmp 38],#[141]⟩,none⟩,⟨some 8,.assign (.tmp 39),none⟩]
def c72_r8:List SOp:=[⟨some 40,.move (.tmp 8),none⟩,⟨some 41,.binOp .gtr 3 (.tmp 40) (.const (.int .i64 0)) 3,none⟩,⟨some 42,.move (.tmp 41),none⟩,⟨some 43,.fieldAddr 52 (.tmp 7) 5,some (some 42,true)⟩,⟨some 44,.load 4 (.tmp 43),some (some 42,true)⟩,⟨some 45,.pick (.tmp 42) (.tmp 44) (.const (.bool false)),none⟩,⟨some 46,.move (.tmp 45),none⟩,⟨some 47,.fieldAddr 52 (.tmp 7) 7,some (some 46,true)⟩,⟨some 48,.load 3 (.tmp 47),some (some 46,true)⟩,⟨some 49,.binOp .gtr 3 (.tmp 48) (.const (.int .i64 0)) 3,some (some 46,true)⟩,⟨some 50,.pick (.tmp 46) (.tmp 49) (.const (.bool false)),none⟩]
def c72_r9:List SOp:=[⟨some 51,.move (.tmp 5),none⟩,⟨some 52,.nilCheck (.tmp 51),none⟩,⟨some 53,.fieldAddr 144 (.tmp 52) 2,none⟩,⟨some 54,.load 141 (.tmp 53),none⟩,⟨some 55,.move (.tmp 8),none⟩,⟨some 56,.binOp .sub 3 (.tmp 55) (.const (.int .i64 1)) 3,none⟩,⟨some 57,.indexAddr 141 (.tmp 54) (.tmp 56),none⟩,⟨some 58,.load 148 (.tmp 57),none⟩,⟨some 59,.move (.tmp 5),none⟩,⟨some 60,.nilCheck (.tmp 59),none⟩,⟨some 61,.fieldAddr 144 (.tmp 60) 2,none⟩,⟨some 62,.load 141 (.tmp 61),none⟩,⟨some 63,.move (.tmp 8),none⟩,⟨some 64,.binOp .sub 3 (.tmp 63) (.const (.int .i64 1)) 3,none⟩,⟨some 65,.indexAddr 141 (.tmp 62) (.tmp 64),none⟩,⟨some 66,.load 148 (.tmp 65),none⟩,⟨some 67,.fieldAddr 52 (.tmp 7) 6,none⟩,⟨some 68,.load 3 (.tmp 67),none⟩,⟨some 69,.fieldAddr 52 (.tmp 7) 7,none⟩,⟨some 70,.load 3 (.tmp 69),none⟩,⟨some 71,.binOp .add 3 (.tmp 68) (.tmp 70) 3,none⟩,⟨some 72,.nilCheck (.tmp 58),none⟩,⟨some 73,.fieldAddr 147 (.tmp 72) 4,none⟩,⟨none,.store 4 (.tmp 73) (.const (.bool false)),none⟩,⟨some 74,.nilCheck (.tmp 66),none⟩,⟨some 75,.fieldAddr 147 (.tmp 74) 3,none⟩,⟨none,.store 3 (.tmp 75) (.tmp 71),none⟩]
def c72_r10:List SOp:=[⟨some 76,.move (.tmp 5),none⟩,⟨some 77,.move (.tmp 5),none⟩,⟨some 78,.nilCheck (.tmp 77),none⟩,⟨some 79,.fieldAddr 144 (.tmp 78) 2,none⟩,⟨some 80,.load 141 (.tmp 79),none⟩,⟨some 81,.load 52 (.tmp 7),none⟩,⟨some 82,.move (.tmp 6),none⟩,⟨some 83,.move (.tmp 5),none⟩,⟨some 84,.nilCheck (.tmp 83),none⟩,⟨some 85,.fieldAddr 144 (.tmp 84) 2,none⟩,⟨some 86,.load 141 (.tmp 85),none⟩,⟨some 87,.call ⟨.builtin .len, #[.tmp 86],#[141]⟩,none⟩,⟨some 88,.binOp .eql 3 (.tmp 87) (.const (.int .i64 0)) 3,none⟩,⟨some 89,.build 147 #[(0, (.tmp 81)), (1, (.tmp 82)), (2, (.tmp 88)), (4, (.const (.bool true)))],none⟩,⟨some 90,.box 147 (.tmp 89),none⟩,⟨some 91,.buildSlice 141 1 #[(0, (.tmp 90))],none⟩,⟨some 92,.call ⟨.builtin .append, #[.tmp 80,.tmp 91],#[141,141]⟩,none⟩,⟨some 93,.nilCheck (.tmp 76),none⟩,⟨some 94,.fieldAddr 144 (.tmp 93) 2,none⟩,⟨none,.store 141 (.tmp 94) (.tmp 92),none⟩]
def c72_r11:List SOp:=[⟨some 95,.binOp .add 3 (.tmp 16) (.const (.int .i64 1)) 3,none⟩,⟨some 16,.move (.tmp 95),none⟩]
def c72_l3:SC:=(.seq (.reg c72_r3 none (some [5,14,15,16,17])) (.seq (.cond (.tmp 17) .skip (.exit 0) (some [5,14,15,16])) (.seq (.block 1 (.seq (.reg c72_r4 none (some [5,6,7,14,15,16])) (.seq (.seq (.reg c72_r5 none (some [5,6,7,14,15,16,22])) (.cond (.tmp 22) (.seq (.reg c72_r6 none (some [5,14,15,16])) (.exit 1)) .skip (some [5,6,7,14,15,16]))) (.seq (.seq (.reg c72_r7 none (some [5,6,7,8,14,15,16])) (.seq (.reg c72_r8 none (some [5,6,7,8,14,15,16,50])) (.cond (.tmp 50) (.reg c72_r9 (some [(17, 23), (19, 23)]) (some [5,6,7,14,15,16])) .skip (some [5,6,7,14,15,16])))) (.reg c72_r10 none (some [5,14,15,16])))))) (.reg c72_r11 none (some [5,14,15,16])))))
def c72_r12:List SOp:=[⟨some 96,.move (.tmp 5),none⟩,⟨some 4,.assign (.tmp 96),none⟩]
def c72:SC:=(.seq (.reg c72_r0 none (some [0,1])) (.seq (.reg c72_r1 none (some [0,5])) (.seq (.seq (.reg c72_r2 none (some [5,14,15,16])) (.block 0 (.loop c72_l3 (some [5,14,15,16])))) (.seq (.reg c72_r12 none (some [4])) .ret))))
theorem c72_eq : ∃ code, Try.f72.body = some code ∧ compile H72 code = c72 :=⟨_,rfl,by kernel_rfl⟩
theorem c72_fn : Try.prog.funcs[72]? = some Try.f72:=by kernel_rfl
theorem c72_rs : Try.f72.results.toList = [.tmp 4]:=by kernel_rfl
theorem c72_ok : fnB Try.prog H72 Try.f72 = true:=by kernel_rfl
theorem c72_nt : Try.f72.ntmps = 97:=by kernel_rfl
def H73:Hint:=⟨[(24,[4]),(23,[2,5,127,128]),(22,[2,5,127,128]),(21,[2,5,11,127,128]),(2000129,[2,5,127,128]),(20,[2,5,127,128,129]),(1000020,[2,5,127,128]),(19,[2,5,127,128]),(18,[2,5,6,87,88,89]),(17,[2,5,6,87,88,89]),(16,[2,5,6,10,87,88,89]),(15,[2,5,6,9,10,87,88,89]),(2000090,[2,5,6,87,88,89]),(14,[2,5,6,87,88,89,90]),(1000014,[2,5,6,87,88,89]),(13,[2,5,6,87,88,89]),(12,[2,5,6,33,34,35]),(11,[2,5,6,33,34,35]),(2000056,[2,5,6,33,34,35]),(10,[2,5,6,7,8,33,34,35,56]),(9,[2,5,6,7,8,33,34,35]),(8,[2,5,6,7,8,33,34,35]),(2000036,[2,5,6,33,34,35]),(7,[2,5,6,33,34,35,36]),(1000007,[2,5,6,33,34,35]),(6,[2,5,6,33,34,35]),(5,[2,5,6]),(4,[2,5]),(3,[2,3]),(2,[4]),(2000015,[2,3]),(1,[2,3,15]),(0,[2,3])],[(22,[(0,13)])]⟩
def c73_r0:List SOp:=[⟨some 2,.box 84 (.tmp 0),none⟩,⟨some 3,.box 68 (.tmp 1),none⟩,⟨some 4,.assign (.const (.bool false)),none⟩]
def c73_r1:List SOp:=[⟨some 12,.load 84 (.tmp 2),none⟩,⟨some 13,.nilCheck (.tmp 12),none⟩,⟨some 14,.fieldAddr 144 (.tmp 13) 5,none⟩,⟨some 15,.load 4 (.tmp 14),none⟩]
def c73_r2:List SOp:=[⟨some 4,.assign (.const (.bool true)),none⟩]
def c73_r3:List SOp:=[⟨some 16,.load 84 (.tmp 2),none⟩,⟨some 17,.nilCheck (.tmp 16),none⟩,⟨some 18,.fieldAddr 144 (.tmp 17) 1,none⟩,⟨some 19,.load 3 (.tmp 18),none⟩,⟨some 20,.binOp .add 3 (.tmp 19) (.const (.int .i64 1)) 3,none⟩,⟨some 21,.nilCheck (.tmp 16),none⟩,⟨some 22,.fieldAddr 144 (.tmp 21) 1,none⟩,⟨none,.store 3 (.tmp 22) (.tmp 20),none⟩]
def c73_r4:List SOp:=[⟨some 23,.makeFunc (.func 108) #[] #[.tmp 3,.tmp 2],none⟩,⟨some 5,.assign (.tmp 23),none⟩]
def c73_r5:List SOp:=[⟨some 24,.load 84 (.tmp 2),none⟩,⟨some 25,.nilCheck (.tmp 24),none⟩,⟨some 26,.fieldAddr 144 (.tmp 25) 2,none⟩,⟨some 27,.load 141 (.tmp 26),none⟩,⟨some 28,.call ⟨.builtin .len, #[.tmp 27],#[141]⟩,none⟩,⟨some 29,.makeSlice 68 (.tmp 28) (.tmp 28),none⟩,⟨some 6,.assign (.tmp 29),none⟩]
def c73_r6:List SOp:=[⟨some 30,.load 84 (.tmp 2),none⟩,⟨some 31,.nilCheck (.tmp 30),none⟩,⟨some 32,.fieldAddr 144 (.tmp 31) 2,none⟩,⟨some 33,.load 141 (.tmp 32),none⟩,⟨some 34,.call ⟨.builtin .len, #[.tmp 33],#[141]⟩,none⟩,⟨some 35,.move (.const (.int .i64 0)),none⟩]
def c73_r7:List SOp:=[⟨some 36,.binOp .lss 3 (.tmp 35) (.tmp 34) 3,none⟩]
def c73_r8:List SOp:=[⟨some 37,.move (.tmp 35),none⟩,⟨some 38,.indexAddr 141 (.tmp 33) (.tmp 35),none⟩,⟨some 39,.load 148 (.tmp 38),none⟩,⟨some 7,.assign (.tmp 37),none⟩,⟨some 8,.assign (.tmp 39),none⟩]
def c73_r9:List SOp:=[⟨some 40,.move (.tmp 6),none⟩,⟨some 41,.move (.tmp 7),none⟩,⟨some 42,.move (.tmp 5),none⟩,⟨some 43,.move (.tmp 8),none⟩,⟨some 44,.call ⟨.value (.tmp 42),#[.tmp 43],#[148]⟩,none⟩,⟨some 45,.indexAddr 68 (.tmp 40) (.tmp 41),none⟩,⟨none,.store 4 (.tmp 45) (.tmp 44),none⟩]
def c73_r10:List SOp:=[⟨some 46,.move (.tmp 6),none⟩,⟨some 47,.move (.tmp 7),none⟩,⟨some 48,.indexAddr 68 (.tmp 46) (.tmp 47),none⟩,⟨some 49,.load 4 (.tmp 48),none⟩,⟨some 50,.move (.tmp 49),none⟩,⟨some 51,.move (.tmp 8),some (some 50,true)⟩,⟨some 52,.nilCheck (.tmp 51),some (some 50,true)⟩,⟨some 53,.fieldAddr 147 (.tmp 52) 0,some (some 50,true)⟩,⟨some 54,.fieldAddr 52 (.tmp 53) 5,some (some 50,true)⟩,⟨some 55,.load 4 (.tmp 54),some (some 50,true)⟩,⟨some 56,.pick (.tmp 50) (.tmp 55) (.const (.bool false)),none⟩]
def c73_r11:List SOp:=[⟨some 57,.move (.tmp 6),none⟩,⟨some 58,.move (.tmp 7),none⟩,⟨some 59,.move (.tmp 7),none⟩,⟨some 60,.binOp .gtr 3 (.tmp 59) (.const (.int .i64 0)) 3,none⟩,⟨some 61,.move (.tmp 60),none⟩,⟨some 62,.move (.tmp 8),some (some 61,true)⟩,⟨some 63,.load 84 (.tmp 2),some (some 61,true)⟩,⟨some 64,.nilCheck (.tmp 63),some (some 61,true)⟩,⟨some 65,.fieldAddr 144 (.tmp 64) 2,some (some 61,true)⟩,⟨some 66,.load 141 (.tmp 65),some (some 61,true)⟩,⟨some 67,.move (.tmp 7),some (some 61,true)⟩,⟨some 68,.binOp .sub 3 (.tmp 67) (.const (.int .i64 1)) 3,some (some 61,true)⟩,⟨some 69,.indexAddr 141 (.tmp 66) (.tmp 68),some (some 61,true)⟩,⟨some 70,.load 148 (.tmp 69),some (some 61,true)⟩,⟨some 71,.move (.tmp 6),some (some 61,true)⟩,⟨some 72,.move (.tmp 7),some (some 61,true)⟩,⟨some 73,.binOp .sub 3 (.tmp 72) (.const (.int .i64 1)) 3,some (some 61,true)⟩,⟨some 74,.indexAddr 68 (.tmp 71) (.tmp 73),some (some 61,true)⟩,⟨some 75,.load 4 (.tmp 74),some (some 61,true)⟩,⟨some 76,.load 84 (.tmp 2),some (some 61,true)⟩,⟨some 77,.nilCheck (.tmp 76),some (some 61,true)⟩,⟨some 78,.fieldAddr 144 (.tmp 77) 1,some (some 61,true)⟩,⟨some 79,.load 3 (.tmp 78),some (some 61,true)⟩,⟨some 80,.call ⟨.value (.func 110),#[.tmp 62,.tmp 70,.tmp 75,.tmp 79],#[148,148,4,3]⟩,some (some 61,true)⟩,⟨some 81,.pick (.tmp 61) (.tmp 80) (.const (.bool false)),none⟩,⟨some 82,.indexAddr 68 (.tmp 57) (.tmp 58),none⟩,⟨none,.store 4 (.tmp 82) (.tmp 81),none⟩]
def c73_r12:List SOp:=[⟨some 83,.binOp .add 3 (.tmp 35) (.const (.int .i64 1)) 3,none⟩,⟨some 35,.move (.tmp 83),none⟩]
def c73_l7:SC:=(.seq (.reg c73_r7 none (some [2,5,6,33,34,35,36])) (.seq (.cond (.tmp 36) .skip (.exit 0) (some [2,5,6,33,34,35])) (.seq (.block 1 (.seq (.reg c73_r8 none (some [2,5,6,7,8,33,34,35])) (.seq (.reg c73_r9 none (some [2,5,6,7,8,33,34,35])) (.seq (.reg c73_r10 none (some [2,5,6,7,8,33,34,35,56])) (.cond (.tmp 56) (.reg c73_r11 none (some [2,5,6,33,34,35])) .skip (some [2,5,6,33,34,35])))))) (.reg c73_r12 none (some [2,5,6,33,34,35])))))
def c73_r13:List SOp:=[⟨some 84,.load 84 (.tmp 2),none⟩,⟨some 85,.nilCheck (.tmp 84),none⟩,⟨some 86,.fieldAddr 144 (.tmp 85) 2,none⟩,⟨some 87,.load 141 (.tmp 86),none⟩,⟨some 88,.call ⟨.builtin .len, #[.tmp 87],#[141]⟩,none⟩,⟨some 89,.move (.const (.int .i64 0)),none⟩]
def c73_r14:List SOp:=[⟨some 90,.binOp .lss 3 (.tmp 89) (.tmp 88) 3,none⟩]
def c73_r15:List SOp:=[⟨some 91,.move (.tmp 89),none⟩,⟨some 92,.indexAddr 141 (.tmp 87) (.tmp 89),none⟩,⟨some 93,.load 148 (.tmp 92),none⟩,⟨some 9,.assign (.tmp 91),none⟩,⟨some 10,.assign (.tmp 93),none⟩]
def c73_r16:List SOp:=[⟨some 94,.move (.tmp 10),none⟩,⟨some 95,.load 84 (.tmp 2),none⟩,⟨some 96,.nilCheck (.tmp 95),none⟩,⟨some 97,.fieldAddr 144 (.tmp 96) 1,none⟩,⟨some 98,.load 3 (.tmp 97),none⟩,⟨some 99,.move (.tmp 6),none⟩,⟨some 100,.move (.tmp 9),none⟩,⟨some 101,.indexAddr 68 (.tmp 99) (.tmp 100),none⟩,⟨some 102,.load 4 (.tmp 101),none⟩,⟨some 103,.call ⟨.value (.func 111),#[.tmp 94,.tmp 98,.tmp 102],#[148,3,4]⟩,none⟩]
def c73_r17:List SOp:=[⟨some 104,.load 84 (.tmp 2),none⟩,⟨some 105,.load 84 (.tmp 2),none⟩,⟨some 106,.nilCheck (.tmp 105),none⟩,⟨some 107,.fieldAddr 144 (.tmp 106) 5,none⟩,⟨some 108,.load 4 (.tmp 107),none⟩,⟨some 109,.move (.tmp 108),none⟩,⟨some 110,.move (.tmp 10),some (some 109,false)⟩,⟨some 111,.nilCheck (.tmp 110),some (some 109,false)⟩,⟨some 112,.fieldAddr 147 (.tmp 111) 6,some (some 109,false)⟩,⟨some 113,.load 3 (.tmp 112),some (some 109,false)⟩,⟨some 114,.load 84 (.tmp 2),some (some 109,false)⟩,⟨some 115,.nilCheck (.tmp 114),some (some 109,false)⟩,⟨some 116,.fieldAddr 144 (.tmp 115) 0,some (some 109,false)⟩,⟨some 117,.load 3 (.tmp 116),some (some 109,false)⟩,⟨some 118,.binOp .gtr 3 (.tmp 113) (.tmp 117) 3,some (some 109,false)⟩,⟨some 119,.pick (.tmp 109) (.const (.bool true)) (.tmp 118),none⟩,⟨some 120,.nilCheck (.tmp 104),none⟩,⟨some 121,.fieldAddr 144 (.tmp 120) 5,none⟩,⟨none,.store 4 (.tmp 121) (.tmp 119),none⟩]
def c73_r18:List SOp:=[⟨some 122,.binOp .add 3 (.tmp 89) (.const (.int .i64 1)) 3,none⟩,⟨some 89,.move (.tmp 122),none⟩]
def c73_l14:SC:=(.seq (.reg c73_r14 none (some [2,5,6,87,88,89,90])) (.seq (.cond (.tmp 90) .skip (.exit 2) (some [2,5,6,87,88,89])) (.seq (.block 3 (.seq (.reg c73_r15 none (some [2,5,6,9,10,87,88,89])) (.seq (.reg c73_r16 none (some [2,5,6,10,87,88,89])) (.reg c73_r17 none (some [2,5,6,87,88,89]))))) (.reg c73_r18 none (some [2,5,6,87,88,89])))))
def c73_r19:List SOp:=[⟨some 123,.load 84 (.tmp 2),none⟩,⟨some 124,.nilCheck (.tmp 123),none⟩,⟨some 125,.fieldAddr 144 (.tmp 124) 3,none⟩,⟨some 126,.load 142 (.tmp 125),none⟩,⟨some 127,.call ⟨.builtin .len, #[.tmp 126],#[142]⟩,none⟩,⟨some 128,.move (.const (.int .i64 0)),none⟩]
def c73_r20:List SOp:=[⟨some 129,.binOp .lss 3 (.tmp 128) (.tmp 127) 3,none⟩]
def c73_r21:List SOp:=[⟨some 130,.move (.tmp 128),none⟩,⟨some 11,.assign (.tmp 130),none⟩]
def c73_r22:List SOp:=[⟨some 131,.load 84 (.tmp 2),none⟩,⟨some 132,.load 84 (.tmp 2),none⟩,⟨some 133,.nilCheck (.tmp 132),none⟩,⟨some 134,.fieldAddr 144 (.tmp 133) 4,none⟩,⟨some 135,.load 4 (.tmp 134),none⟩,⟨some 136,.move (.tmp 135),none⟩,⟨some 137,.move (.tmp 5),some (some 136,false)⟩,⟨some 138,.load 84 (.tmp 2),some (some 136,false)⟩,⟨some 139,.nilCheck (.tmp 138),some (some 136,false)⟩,⟨some 140,.fieldAddr 144 (.tmp 139) 3,some (some 136,false)⟩,⟨some 141,.load 142 (.tmp 140),some (some 136,false)⟩,⟨some 142,.move (.tmp 11),some (some 136,false)⟩,⟨some 143,.indexAddr 142 (.tmp 141) (.tmp 142),some (some 136,false)⟩,⟨some 144,.call ⟨.value (.tmp 137),#[.tmp 143],#[148]⟩,some (some 136,false)⟩,⟨some 145,.pick (.tmp 136) (.const (.bool true)) (.tmp 144),none⟩,⟨some 146,.nilCheck (.tmp 131),none⟩,⟨some 147,.fieldAddr 144 (.tmp 146) 4,none⟩,⟨none,.store 4 (.tmp 147) (.tmp 145),none⟩]
def c73_r23:List SOp:=[⟨some 148,.binOp .add 3 (.tmp 128) (.const (.int .i64 1)) 3,none⟩,⟨some 128,.move (.tmp 148),none⟩]
def c73_l20:SC:=(.seq (.reg c73_r20 none (some [2,5,127,128,129])) (.seq (.cond (.tmp 129) .skip (.exit 4) (some [2,5,127,128])) (.seq (.block 5 (.seq (.reg c73_r21 none (some [2,5,11,127,128])) (.reg c73_r22 (some [(0, 13)]) (some [2,5,127,128])))) (.reg c73_r23 none (some [2,5,127,128])))))
def c73_r24:List SOp:=[⟨some 149,.load 84 (.tmp 2),none⟩,⟨some 150,.nilCheck (.tmp 149),none⟩,⟨some 151,.fieldAddr 144 (.tmp 150) 5,none⟩,⟨some 152,.load 4 (.tmp 151),none⟩,⟨some 4,.assign (.tmp 152),none⟩]
def c73:SC:=(.seq (.reg c73_r0 none (some [2,3])) (.seq (.seq (.reg c73_r1 none (some [2,3,15])) (.cond (.tmp 15) (.seq (.reg c73_r2 none (some [4])) .ret) .skip (some [2,3]))) (.seq (.reg c73_r3 none (some [2,3])) (.seq (.reg c73_r4 none (some [2,5])) (.seq (.reg c73_r5 none (some [2,5,6])) (.seq (.seq (.reg c73_r6 none (some [2,5,6,33,34,35])) (.block 0 (.loop c73_l7 (some [2,5,6,33,34,35])))) (.seq (.seq (.reg c73_r13 none (some [2,5,6,87,88,89])) (.block 2 (.loop c73_l14 (some [2,5,6,87,88,89])))) (.seq (.seq (.reg c73_r19 none (some [2,5,127,128])) (.block 4 (.loop c73_l20 (some [2,5,127,128])))) (.seq (.reg c73_r24 none (some [4])) .ret)))))))))
theorem c73_eq : ∃ code, Try.f73.body = some code ∧ compile H73 code = c73 :=⟨_,rfl,by kernel_rfl⟩
theorem c73_fn : Try.prog.funcs[73]? = some Try.f73:=by kernel_rfl
theorem c73_rs : Try.f73.results.toList = [.tmp 4]:=by kernel_rfl
theorem c73_ok : fnB Try.prog H73 Try.f73 = true:=by kernel_rfl
theorem c73_nt : Try.f73.ntmps = 153:=by kernel_rfl
def H75:Hint:=⟨[(1,[2]),(0,[0])],[]⟩
def c75_r0:List SOp:=[⟨some 2,.assign (.const (.bool false)),none⟩]
def c75_r1:List SOp:=[⟨some 3,.move (.tmp 0),none⟩,⟨some 4,.nilCheck (.tmp 3),none⟩,⟨some 5,.fieldAddr 144 (.tmp 4) 5,none⟩,⟨some 6,.load 4 (.tmp 5),none⟩,⟨some 2,.assign (.tmp 6),none⟩]
def c75:SC:=(.seq (.reg c75_r0 none (some [0])) (.seq (.reg c75_r1 none (some [2])) .ret))
theorem c75_eq : ∃ code, Try.f75.body = some code ∧ compile H75 code = c75 :=⟨_,rfl,by kernel_rfl⟩
theorem c75_fn : Try.prog.funcs[75]? = some Try.f75:=by kernel_rfl
theorem c75_rs : Try.f75.results.toList = [.tmp 2]:=by kernel_rfl
theorem c75_ok : fnB Try.prog H75 Try.f75 = true:=by kernel_rfl
theorem c75_nt : Try.f75.ntmps = 7:=by kernel_rfl
def H76:Hint:=⟨[(7,[2]),(6,[0,8,9,10]),(5,[2]),(2000018,[0,8,9,10]),(4,[0,8,9,10,18]),(3,[0,4,8,9,10]),(2000011,[0,8,9,10]),(2,[0,8,9,10,11]),(1000002,[0,8,9,10]),(1,[0,8,9,10]),(0,[0])],[]⟩
def c76_r0:List SOp:=[⟨some 2,.assign (.const (.bool false)),none⟩]
def c76_r1:List SOp:=[⟨some 5,.move (.tmp 0),none⟩,⟨some 6,.nilCheck (.tmp 5),none⟩,⟨some 7,.fieldAddr 144 (.tmp 6) 2,none⟩,⟨some 8,.load 141 (.tmp 7),none⟩,⟨some 9,.call ⟨.builtin .len, #[.tmp 8],#[141]⟩,none⟩,⟨some 10,.move (.const (.int .i64 0)),none⟩]
def c76_r2:List SOp:=[⟨some 11,.binOp .lss 3 (.tmp 10) (.tmp 9) 3,none⟩]
def c76_r3:List SOp:=[⟨some 12,.indexAddr 141 (.tmp 8) (.tmp 10),none⟩,⟨some 13,.load 148 (.tmp 12),none⟩,⟨some 4,.assign (.tmp 13),none⟩]
def c76_r4:List SOp:=[⟨some 14,.move (.tmp 4),none⟩,⟨some 15,.nilCheck (.tmp 14),none⟩,⟨some 16,.fieldAddr 147 (.tmp 15) 7,none⟩,⟨some 17,.load 4 (.tmp 16),none⟩,⟨some 18,.unOp .not 4 (.tmp 17),none⟩]
def c76_r5:List SOp:=[⟨some 2,.assign (.const (.bool false)),none⟩]
def c76_r6:List SOp:=[⟨some 19,.binOp .add 3 (.tmp 10) (.const (.int .i64 1)) 3,none⟩,⟨some 10,.move (.tmp 19),none⟩]
def c76_l2:SC:=(.seq (.reg c76_r2 none (some [0,8,9,10,11])) (.seq (.cond (.tmp 11) .skip (.exit 0) (some [0,8,9,10])) (.seq (.block 1 (.seq (.reg c76_r3 none (some [0,4,8,9,10])) (.seq (.reg c76_r4 none (some [0,8,9,10,18])) (.cond (.tmp 18) (.seq (.reg c76_r5 none (some [2])) .ret) .skip (some [0,8,9,10]))))) (.reg c76_r6 none (some [0,8,9,10])))))
def c76_r7:List SOp:=[⟨some 20,.move (.tmp 0),none⟩,⟨some 21,.nilCheck (.tmp 20),none⟩,⟨some 22,.fieldAddr 144 (.tmp 21) 4,none⟩,⟨some 23,.load 4 (.tmp 22),none⟩,⟨some 24,.unOp .not 4 (.tmp 23),none⟩,⟨some 2,.assign (.tmp 24),none⟩]
def c76:SC:=(.seq (.reg c76_r0 none (some [0])) (.seq (.seq (.reg c76_r1 none (some [0,8,9,10])) (.block 0 (.loop c76_l2 (some [0,8,9,10])))) (.seq (.reg c76_r7 none (some [2])) .ret)))
theorem c76_eq : ∃ code, Try.f76.body = some code ∧ compile H76 code = c76 :=⟨_,rfl,by kernel_rfl⟩
theorem c76_fn : Try.prog.funcs[76]? = some Try.f76:=by kernel_rfl
theorem c76_rs : Try.f76.results.toList = [.tmp 2]:=by kernel_rfl
theorem c76_ok : fnB Try.prog H76 Try.f76 = true:=by kernel_rfl
theorem c76_nt : Try.f76.ntmps = 25:=by kernel_rfl
def H78:Hint:=⟨[(1,[4]),(0,[0,1])],[]⟩
def c78_r0:List SOp:=[⟨some 4,.assign (.const (.bool false)),none⟩]
def c78_r1:List SOp:=[⟨some 5,.move (.tmp 0),none⟩,⟨some 6,.move (.tmp 1),none⟩,⟨some 7,.binOp .gtr 3 (.tmp 5) (.tmp 6) 3,none⟩,⟨some 4,.assign (.tmp 7),none⟩]
def c78:SC:=(.seq (.reg c78_r0 none (some [0,1])) (.seq (.reg c78_r1 none (some [4])) .ret))
theorem c78_eq : ∃ code, Try.f78.body = some code ∧ compile H78 code = c78 :=⟨_,rfl,by kernel_rfl⟩
theorem c78_fn : Try.prog.funcs[78]? = some Try.f78:=by kernel_rfl
theorem c78_rs : Try.f78.results.toList = [.tmp 4]:=by kernel_rfl
theorem c78_ok : fnB Try.prog H78 Try.f78 = true:=by kernel_rfl
theorem c78_nt : Try.f78.ntmps = 8:=by kernel_rfl
def H79:Hint:=⟨[(6,[0]),(5,[2,3,4,5]),(4,[1,2,3]),(3,[0]),(2000011,[1]),(2,[1,11]),(1,[1]),(0,[])],[]⟩
def c79_r0:List SOp:=[⟨some 0,.assign (.const (.bool false)),none⟩]
def c79_r1:List SOp:=[⟨some 6,.build 107 #[(0, (.const (.int .i64 2))), (9, (.const (.int .i64 7))), (10, (.const (.int .i64 1)))],none⟩,⟨some 7,.buildSlice 89 1 #[(0, (.tmp 6))],none⟩,⟨some 8,.buildSlice 30 1 #[(0, (.const (.int .i64 0)))],none⟩,⟨some 9,.call ⟨.value (.func 81),#[(.tmp 7),(.tmp 8),(.const (.int .i64 4))],#[89,30,3]⟩,none⟩,⟨some 1,.assign (.tmp 9),none⟩]
def c79_r2:List SOp:=[⟨some 10,.move (.tmp 1),none⟩,⟨some 11,.binOp .eql 91 (.tmp 10) (.const (.pointer none)) 91,none⟩]
def c79_r3:List SOp:=[⟨some 0,.assign (.const (.bool false)),none⟩]
def c79_r4:List SOp:=[⟨some 13,.move (.tmp 1),none⟩,⟨some 14,.call ⟨.value (.func 82),#[.tmp 13],#[91]⟩,none⟩,⟨some 12,.move (.tmp 14),none⟩,⟨some 15,.extract (.tmp 12) 0,none⟩,⟨some 16,.extract (.tmp 12) 1,none⟩,⟨some 2,.assign (.tmp 15),none⟩,⟨some 3,.assign (.tmp 16),none⟩]
def c79_r5:List SOp:=[⟨some 18,.move (.tmp 1),none⟩,⟨some 19,.call ⟨.value (.func 83),#[(.tmp 18),(.const (.int .u8 97))],#[91,5]⟩,none⟩,⟨some 17,.move (.tmp 19),none⟩,⟨some 20,.extract (.tmp 17) 0,none⟩,⟨some 21,.extract (.tmp 17) 1,none⟩,⟨some 4,.assign (.tmp 20),none⟩,⟨some 5,.assign (.tmp 21),none⟩]
def c79_r6:List SOp:=[⟨some 22,.move (.tmp 2),none⟩,⟨some 23,.call ⟨.builtin .len, #[.tmp 22],#[94]⟩,none⟩,⟨some 24,.binOp .eql 3 (.tmp 23) (.const (.int .i64 1)) 3,none⟩,⟨some 25,.move (.tmp 24),none⟩,⟨some 26,.move (.tmp 2),some (some 25,true)⟩,⟨some 27,.indexAddr 94 (.tmp 26) (.const (.int .i64 0)),some (some 25,true)⟩,⟨some 28,.fieldAddr 99 (.tmp 27) 0,some (some 25,true)⟩,⟨some 29,.load 3 (.tmp 28),some (some 25,true)⟩,⟨some 30,.binOp .eql 3 (.tmp 29) (.const (.int .i64 7)) 3,some (some 25,true)⟩,⟨some 31,.pick (.tmp 25) (.tmp 30) (.const (.bool false)),none⟩,⟨some 32,.move (.tmp 31),none⟩,⟨some 33,.move (.tmp 2),some (some 32,true)⟩,⟨some 34,.indexAddr 94 (.tmp 33) (.const (.int .i64 0)),some (some 32,true)⟩,⟨some 35,.fieldAddr 99 (.tmp 34) 2,some (some 32,true)⟩,⟨some 36,.load 3 (.tmp 35),some (some 32,true)⟩,⟨some 37,.binOp .eql 3 (.tmp 36) (.const (.int .i64 0)) 3,some (some 32,true)⟩,⟨some 38,.pick (.tmp 32) (.tmp 37) (.const (.bool false)),none⟩,⟨some 39,.move (.tmp 38),none⟩,⟨some 40,.move (.tmp 3),some (some 39,true)⟩,⟨some 41,.binOp .eql 3 (.tmp 40) (.const (.int .i64 2)) 3,some (some 39,true)⟩,⟨some 42,.pick (.tmp 39) (.tmp 41) (.const (.bool false)),none⟩,⟨some 43,.move (.tmp 42),none⟩,⟨some 44,.move (.tmp 4),some (some 43,true)⟩,⟨some 45,.call ⟨.builtin .len, #[.tmp 44],#[94]⟩,some (some 43,true)⟩,⟨some 46,.binOp .eql 3 (.tmp 45) (.const (.int .i64 0)) 3,some (some 43,true)⟩,⟨some 47,.pick (.tmp 43) (.tmp 46) (.const (.bool false)),none⟩,⟨some 48,.move (.tmp 47),none⟩,⟨some 49,.move (.tmp 5),some (some 48,true)⟩,⟨some 50,.binOp .eql 3 (.tmp 49) (.const (.int .i64 0)) 3,some (some 48,true)⟩,⟨some 51,.pick (.tmp 48) (.tmp 50) (.const (.bool false)),none⟩,⟨some 52,.move (.tmp 51),none⟩,⟨some 53,.call ⟨.value (.func 78),#[(.const (.int .i64 4)),(.const (.int .i64 3))],#[3,3]⟩,some (some 52,true)⟩,⟨some 54,.pick (.tmp 52) (.tmp 53) (.const (.bool false)),none⟩,⟨some 0,.assign (.tmp 54),none⟩]
def c79:SC:=(.seq (.reg c79_r0 none (some [])) (.seq (.reg c79_r1 none (some [1])) (.seq (.seq (.reg c79_r2 none (some [1,11])) (.cond (.tmp 11) (.seq (.reg c79_r3 none (some [0])) .ret) .skip (some [1]))) (.seq (.reg c79_r4 none (some [1,2,3])) (.seq (.reg c79_r5 none (some [2,3,4,5])) (.seq (.reg c79_r6 none (some [0])) .ret))))))
theorem c79_eq : ∃ code, Try.f79.body = some code ∧ compile H79 code = c79 :=⟨_,rfl,by kernel_rfl⟩
theorem c79_fn : Try.prog.funcs[79]? = some Try.f79:=by kernel_rfl
theorem c79_rs : Try.f79.results.toList = [.tmp 0]:=by kernel_rfl
theorem c79_ok : fnB Try.prog H79 Try.f79 = true:=by kernel_rfl
theorem c79_nt : Try.f79.ntmps = 55:=by kernel_rfl
def H80:Hint:=⟨[(14,[2]),(4,[0,3,4]),(13,[0,3,4]),(12,[0,3,4,6]),(11,[0,3,4,5,6]),(10,[0,3,4,5,6]),(2000063,[0,3,4,5,6]),(9,[0,3,4,5,6,63]),(8,[0,3,4,5,6]),(2000051,[0,3,4,5,6]),(7,[0,3,4,5,6,51]),(6,[0,3,4,5,6]),(5,[0,3,4,5]),(2000015,[0,3,4]),(3,[0,3,4,15]),(1000003,[0,3,4]),(2,[0,3,4]),(1,[0,3]),(0,[0])],[]⟩
def c80_r0:List SOp:=[⟨some 2,.assign (.const (.slice none 0 0)),none⟩]
def c80_r1:List SOp:=[⟨some 3,.assign (.const (.slice none 0 0)),none⟩]
def c80_r2:List SOp:=[⟨some 4,.assign (.const (.int .i64 0)),none⟩]
def c80_r3:List SOp:=[⟨some 7,.move (.tmp 4),none⟩,⟨some 8,.binOp .add 3 (.tmp 7) (.const (.int .i64 3)) 3,none⟩,⟨some 9,.move (.tmp 0),none⟩,⟨some 10,.call ⟨.builtin .len, #[.tmp 9],#[30]⟩,none⟩,⟨some 11,.binOp .lss 3 (.tmp 8) (.tmp 10) 3,none⟩,⟨some 12,.move (.tmp 11),none⟩,⟨some 13,.move (.tmp 4),some (some 12,true)⟩,⟨some 14,.binOp .lss 3 (.tmp 13) (.const (.int .i64 24)) 3,some (some 12,true)⟩,⟨some 15,.pick (.tmp 12) (.tmp 14) (.const (.bool false)),none⟩]
def c80_r5:List SOp:=[⟨some 18,.move (.tmp 0),none⟩,⟨some 19,.move (.tmp 4),none⟩,⟨some 20,.indexAddr 30 (.tmp 18) (.tmp 19),none⟩,⟨some 21,.load 3 (.tmp 20),none⟩,⟨some 22,.call ⟨.value (.func 29),#[(.tmp 21),(.const (.int .i64 16777216))],#[3,3]⟩,none⟩,⟨some 5,.assign (.tmp 22),none⟩]
def c80_r6:List SOp:=[⟨some 23,.build 152 #[(0, (.const (.int .i64 1))), (1, (.const (.int .i64 1))), (2, (.const (.int .i64 1))), (3, (.const (.int .i64 1))), (4, (.const (.int .i64 2))), (5, (.const (.int .i64 3))), (6, (.const (.int .i64 4))), (7, (.const (.int .i64 1)))],none⟩,⟨some 24,.move (.tmp 5),none⟩,⟨some 25,.binOp .rem 3 (.tmp 24) (.const (.int .i64 8)) 3,none⟩,⟨some 26,.index 152 (.tmp 23) (.tmp 25),none⟩,⟨some 27,.build 153 #[(0, (.const (.int .i64 6))), (1, (.const (.int .i64 6))), (2, (.const (.int .i64 0))), (3, (.const (.int .i64 17)))],none⟩,⟨some 28,.move (.tmp 5),none⟩,⟨some 29,.binOp .quo 3 (.tmp 28) (.const (.int .i64 8)) 3,none⟩,⟨some 30,.binOp .rem 3 (.tmp 29) (.const (.int .i64 4)) 3,none⟩,⟨some 31,.index 153 (.tmp 27) (.tmp 30),none⟩,⟨some 32,.build 153 #[(0, (.const (.int .i64 0))), (1, (.const (.int .i64 1))), (2, (.const (.int .i64 2))), (3, (.const (.int .i64 0)))],none⟩,⟨some 33,.move (.tmp 5),none⟩,⟨some 34,.binOp .quo 3 (.tmp 33) (.const (.int .i64 32)) 3,none⟩,⟨some 35,.binOp .rem 3 (.tmp 34) (.const (.int .i64 4)) 3,none⟩,⟨some 36,.index 153 (.tmp 32) (.tmp 35),none⟩,⟨some 37,.move (.tmp 5),none⟩,⟨some 38,.binOp .quo 3 (.tmp 37) (.const (.int .i64 128)) 3,none⟩,⟨some 39,.binOp .rem 3 (.tmp 38) (.const (.int .i64 4)) 3,none⟩,⟨some 40,.binOp .eql 3 (.tmp 39) (.const (.int .i64 0)) 3,none⟩,⟨some 41,.move (.tmp 4),none⟩,⟨some 42,.binOp .add 3 (.const (.int .i64 100)) (.tmp 41) 3,none⟩,⟨some 43,.move (.tmp 5),none⟩,⟨some 44,.binOp .quo 3 (.tmp 43) (.const (.int .i64 512)) 3,none⟩,⟨some 45,.binOp .rem 3 (.tmp 44) (.const (.int .i64 3)) 3,none⟩,⟨some 46,.binOp .add 3 (.const (.int .i64 1)) (.tmp 45) 3,none⟩,⟨some 47,.build 107 #[(0, (.tmp 26)), (1, (.tmp 31)), (7, (.tmp 36)), (6, (.tmp 40)), (9, (.tmp 42)), (10, (.tmp 46))],none⟩,⟨some 6,.alloc 107,none⟩,⟨none,.store 107 (.tmp 6) (.tmp 47),none⟩]
def c80_r7:List SOp:=[⟨some 48,.move (.tmp 5),none⟩,⟨some 49,.binOp .quo 3 (.tmp 48) (.const (.int .i64 1536)) 3,none⟩,⟨some 50,.binOp .rem 3 (.tmp 49) (.const (.int .i64 3)) 3,none⟩,⟨some 51,.binOp .eql 3 (.tmp 50) (.const (.int .i64 0)) 3,none⟩]
def c80_r8:List SOp:=[⟨some 52,.move (.tmp 5),none⟩,⟨some 53,.binOp .quo 3 (.tmp 52) (.const (.int .i64 4608)) 3,none⟩,⟨some 54,.binOp .rem 3 (.tmp 53) (.const (.int .i64 2)) 3,none⟩,⟨some 55,.binOp .add 3 (.const (.int .i64 80)) (.tmp 54) 3,none⟩,⟨some 56,.build 155 #[(0, (.const (.int .i64 80))), (1, (.tmp 55))],none⟩,⟨some 57,.buildSlice 103 1 #[(0, (.tmp 56))],none⟩,⟨some 58,.build 105 #[(1, (.tmp 57))],none⟩,⟨some 59,.fieldAddr 107 (.tmp 6) 5,none⟩,⟨none,.store 105 (.tmp 59) (.tmp 58),none⟩]
def c80_r9:List SOp:=[⟨some 60,.move (.tmp 5),none⟩,⟨some 61,.binOp .quo 3 (.tmp 60) (.const (.int .i64 9216)) 3,none⟩,⟨some 62,.binOp .rem 3 (.tmp 61) (.const (.int .i64 4)) 3,none⟩,⟨some 63,.binOp .eql 3 (.tmp 62) (.const (.int .i64 0)) 3,none⟩]
def c80_r10:List SOp:=[⟨some 64,.move (.tmp 5),none⟩,⟨some 65,.binOp .quo 3 (.tmp 64) (.const (.int .i64 36864)) 3,none⟩,⟨some 66,.binOp .rem 3 (.tmp 65) (.const (.int .i64 2)) 3,none⟩,⟨some 67,.binOp .eql 3 (.tmp 66) (.const (.int .i64 0)) 3,none⟩,⟨some 68,.move (.tmp 5),none⟩,⟨some 69,.binOp .quo 3 (.tmp 68) (.const (.int .i64 73728)) 3,none⟩,⟨some 70,.binOp .rem 3 (.tmp 69) (.const (.int .i64 3)) 3,none⟩,⟨some 71,.binOp .add 3 (.const (.int .i64 30)) (.tmp 70) 3,none⟩,⟨some 72,.build 158 #[(0, (.const (.int .u32 167772161))), (1, (.tmp 71))],none⟩,⟨some 73,.buildSlice 100 1 #[(0, (.tmp 72))],none⟩,⟨some 74,.build 102 #[(0, (.tmp 67)), (1, (.tmp 73))],none⟩,⟨some 75,.fieldAddr 107 (.tmp 6) 2,none⟩,⟨none,.store 102 (.tmp 75) (.tmp 74),none⟩]
def c80_r11:List SOp:=[⟨some 76,.fieldAddr 107 (.tmp 6) 2,none⟩,⟨some 77,.load 102 (.tmp 76),none⟩,⟨some 78,.call ⟨.value (.func 112),#[.tmp 77],#[102]⟩,none⟩,⟨some 79,.fieldAddr 107 (.tmp 6) 2,none⟩,⟨none,.store 102 (.tmp 79) (.tmp 78),none⟩]
def c80_r12:List SOp:=[⟨some 80,.move (.tmp 0),none⟩,⟨some 81,.move (.tmp 4),none⟩,⟨some 82,.binOp .add 3 (.tmp 81) (.const (.int .i64 1)) 3,none⟩,⟨some 83,.move (.tmp 4),none⟩,⟨some 84,.binOp .add 3 (.tmp 83) (.const (.int .i64 1)) 3,none⟩,⟨some 85,.move (.tmp 5),none⟩,⟨some 86,.binOp .quo 3 (.tmp 85) (.const (.int .i64 221184)) 3,none⟩,⟨some 87,.binOp .rem 3 (.tmp 86) (.const (.int .i64 4)) 3,none⟩,⟨some 88,.binOp .add 3 (.tmp 84) (.tmp 87) 3,none⟩,⟨some 89,.slice 30 (.tmp 80) (some (.tmp 82)) (some (.tmp 88)) none,none⟩,⟨some 90,.call ⟨.value (.func 49),#[.tmp 89],#[30]⟩,none⟩,⟨some 91,.fieldAddr 107 (.tmp 6) 8,none⟩,⟨none,.store 42 (.tmp 91) (.tmp 90),none⟩]
def c80_r13:List SOp:=[⟨some 92,.move (.tmp 3),none⟩,⟨some 93,.load 107 (.tmp 6),none⟩,⟨some 94,.buildSlice 89 1 #[(0, (.tmp 93))],none⟩,⟨some 95,.call ⟨.builtin .append, #[.tmp 92,.tmp 94],#[89,89]⟩,none⟩,⟨some 3,.assign (.tmp 95),none⟩]
def c80_r4:List SOp:=[⟨some 16,.move (.tmp 4),none⟩,⟨some 17,.binOp .add 3 (.tmp 16) (.const (.int .i64 4)) 3,none⟩,⟨some 4,.assign (.tmp 17),none⟩]
def c80_l3:SC:=(.seq (.seq (.reg c80_r3 none (some [0,3,4,15])) (.cond (.tmp 15) .skip (.exit 0) (some [0,3,4]))) (.seq (.block 1 (.seq (.reg c80_r5 none (some [0,3,4,5])) (.seq (.reg c80_r6 none (some [0,3,4,5,6])) (.seq (.seq (.reg c80_r7 none (some [0,3,4,5,6,51])) (.cond (.tmp 51) (.reg c80_r8 none (some [0,3,4,5,6])) .skip (some [0,3,4,5,6]))) (.seq (.seq (.reg c80_r9 none (some [0,3,4,5,6,63])) (.cond (.tmp 63) (.reg c80_r10 none (some [0,3,4,5,6])) .skip (some [0,3,4,5,6]))) (.seq (.reg c80_r11 none (some [0,3,4,5,6])) (.seq (.reg c80_r12 none (some [0,3,4,6])) (.reg c80_r13 none (some [0,3,4]))))))))) (.reg c80_r4 none (some [0,3,4]))))
def c80_r14:List SOp:=[⟨some 96,.move (.tmp 3),none⟩,⟨some 2,.assign (.tmp 96),none⟩]
def c80:SC:=(.seq (.reg c80_r0 none (some [0])) (.seq (.reg c80_r1 none (some [0,3])) (.seq (.seq (.reg c80_r2 none (some [0,3,4])) (.block 0 (.loop c80_l3 (some [0,3,4])))) (.seq (.reg c80_r14 none (some [2])) .ret))))
theorem c80_eq : ∃ code, Try.f80.body = some code ∧ compile H80 code = c80 :=⟨_,rfl,by kernel_rfl⟩
theorem c80_fn : Try.prog.funcs[80]? = some Try.f80:=by kernel_rfl
theorem c80_rs : Try.f80.results.toList = [.tmp 2]:=by kernel_rfl
theorem c80_ok : fnB Try.prog H80 Try.f80 = true:=by kernel_rfl
theorem c80_nt : Try.f80.ntmps = 97:=by kernel_rfl
def H81:Hint:=⟨[(21,[6]),(20,[7]),(19,[7,8,10,17]),(18,[0,2,7,8,9,10,21,22,23]),(17,[0,2,7,8,9,10,13,21,22,23,69,70,71]),(16,[0,2,7,8,9,10,13,21,22,23,69,70,71]),(15,[0,2,7,8,9,10,13,15,21,22,23,69,70,71]),(2000084,[0,2,7,8,9,10,13,14,15,21,22,23,69,70,71]),(14,[0,2,7,8,9,10,13,14,15,21,22,23,69,70,71,84]),(13,[0,2,7,8,9,10,13,14,15,16,21,22,23,69,70,71]),(12,[0,2,7,8,9,10,13,14,15,21,22,23,69,70,71]),(2000072,[0,2,7,8,9,10,13,21,22,23,69,70,71]),(11,[0,2,7,8,9,10,13,21,22,23,69,70,71,72]),(1000011,[0,2,7,8,9,10,13,21,22,23,69,70,71]),(10,[0,2,7,8,9,10,13,21,22,23,69,70,71]),(9,[0,2,7,8,9,10,12,13,21,22,23]),(8,[0,2,7,8,9,10,12,13,21,22,23]),(2000034,[0,2,7,8,9,10,12,21,22,23]),(7,[0,2,7,8,9,10,12,21,22,23,34]),(6,[0,2,7,8,9,10,12,21,22,23]),(2000024,[0,2,7,8,9,10,21,22,23]),(5,[0,2,7,8,9,10,21,22,23,24]),(1000005,[0,2,7,8,9,10,21,22,23]),(4,[0,2,7,8,9,10,21,22,23]),(3,[0,1,2,7,8,9,10]),(2,[0,1,2,7,8,9]),(1,[0,1,2,7]),(0,[0,1,2])],[(8,[(3,10),(15,10),(16,10)]),(16,[(7,3),(7,4),(13,3),(13,4),(13,8),(13,9),(13,10)])]⟩
def c81_r0:List SOp:=[⟨some 6,.assign (.const (.pointer none)),none⟩]
def c81_r1:List SOp:=[⟨some 19,.build 163 #[],none⟩,⟨some 20,.box 163 (.tmp 19),none⟩,⟨some 7,.assign (.tmp 20),none⟩]
def c81_r2:List SOp:=[⟨some 8,.assign (.const (.slice none 0 0)),none⟩,⟨some 9,.assign (.const (.slice none 0 0)),none⟩]
def c81_r3:List SOp:=[⟨some 10,.assign (.const (.slice none 0 0)),none⟩]
def c81_r4:List SOp:=[⟨some 21,.move (.tmp 1),none⟩,⟨some 22,.call ⟨.builtin .len, #[.tmp 21],#[30]⟩,none⟩,⟨some 23,.move (.const (.int .i64 0)),none⟩]
def c81_r5:List SOp:=[⟨some 24,.binOp .lss 3 (.tmp 23) (.tmp 22) 3,none⟩]
def c81_r6:List SOp:=[⟨some 25,.indexAddr 30 (.tmp 21) (.tmp 23),none⟩,⟨some 26,.load 3 (.tmp 25),none⟩,⟨some 12,.assign (.tmp 26),none⟩]
def c81_r7:List SOp:=[⟨some 27,.move (.tmp 12),none⟩,⟨some 28,.binOp .lss 3 (.tmp 27) (.const (.int .i64 0)) 3,none⟩,⟨some 29,.move (.tmp 28),none⟩,⟨some 30,.move (.tmp 12),some (some 29,false)⟩,⟨some 31,.move (.tmp 0),some (some 29,false)⟩,⟨some 32,.call ⟨.builtin .len, #[.tmp 31],#[89]⟩,some (some 29,false)⟩,⟨some 33,.binOp .geq 3 (.tmp 30) (.tmp 32) 3,some (some 29,false)⟩,⟨some 34,.pick (.tmp 29) (.const (.bool true)) (.tmp 33),none⟩]
def c81_r8:List SOp:=[⟨some 35,.move (.tmp 0),none⟩,⟨some 36,.move (.tmp 12),none⟩,⟨some 37,.indexAddr 89 (.tmp 35) (.tmp 36),none⟩,⟨some 38,.load 107 (.tmp 37),none⟩,⟨some 39,.move (.tmp 0),none⟩,⟨some 40,.move (.tmp 12),none⟩,⟨some 41,.indexAddr 89 (.tmp 39) (.tmp 40),none⟩,⟨some 42,.fieldAddr 107 (.tmp 41) 8,none⟩,⟨some 43,.load 42 (.tmp 42),none⟩,⟨some 44,.move (.tmp 2),none⟩,⟨some 45,.call ⟨.value (.func 72),#[.tmp 43,.tmp 44],#[42,3]⟩,none⟩,⟨some 46,.move (.tmp 0),none⟩,⟨some 47,.move (.tmp 12),none⟩,⟨some 48,.indexAddr 89 (.tmp 46) (.tmp 47),none⟩,⟨some 49,.fieldAddr 107 (.tmp 48) 8,none⟩,⟨some 50,.load 42 (.tmp 49),none⟩,⟨some 51,.call ⟨.builtin .len, #[.tmp 50],#[42]⟩,none⟩,⟨some 52,.makeSlice 68 (.tmp 51) (.tmp 51),none⟩,⟨some 53,.build 166 #[(0, (.tmp 38)), (1, (.tmp 45)), (2, (.tmp 52))],none⟩,⟨some 54,.box 166 (.tmp 53),none⟩,⟨some 13,.assign (.tmp 54),none⟩]
def c81_r9:List SOp:=[⟨some 55,.move (.tmp 7),none⟩,⟨some 56,.move (.tmp 7),none⟩,⟨some 57,.nilCheck (.tmp 56),none⟩,⟨some 58,.fieldAddr 163 (.tmp 57) 2,none⟩,⟨some 59,.load 161 (.tmp 58),none⟩,⟨some 60,.move (.tmp 13),none⟩,⟨some 61,.buildSlice 161 1 #[(0, (.tmp 60))],none⟩,⟨some 62,.call ⟨.builtin .append, #[.tmp 59,.tmp 61],#[161,161]⟩,none⟩,⟨some 63,.nilCheck (.tmp 55),none⟩,⟨some 64,.fieldAddr 163 (.tmp 63) 2,none⟩,⟨none,.store 161 (.tmp 64) (.tmp 62),none⟩]
def c81_r10:List SOp:=[⟨some 65,.move (.tmp 0),none⟩,⟨some 66,.move (.tmp 12),none⟩,⟨some 67,.indexAddr 89 (.tmp 65) (.tmp 66),none⟩,⟨some 68,.fieldAddr 107 (.tmp 67) 8,none⟩,⟨some 69,.load 42 (.tmp 68),none⟩,⟨some 70,.call ⟨.builtin .len, #[.tmp 69],#[42]⟩,none⟩,⟨some 71,.move (.const (.int .i64 0)),none⟩]
def c81_r11:List SOp:=[⟨some 72,.binOp .lss 3 (.tmp 71) (.tmp 70) 3,none⟩]
def c81_r12:List SOp:=[⟨some 73,.move (.tmp 71),none⟩,⟨some 74,.indexAddr 42 (.tmp 69) (.tmp 71),none⟩,⟨some 75,.load 52 (.tmp 74),none⟩,⟨some 15,.alloc 52,none⟩,⟨some 14,.assign (.tmp 73),none⟩,⟨none,.store 52 (.tmp 15) (.tmp 75),none⟩]
def c81_r13:List SOp:=[⟨some 76,.fieldAddr 52 (.tmp 15) 0,none⟩,⟨some 77,.load 9 (.tmp 76),none⟩,⟨some 78,.call ⟨.builtin .len, #[.tmp 77],#[9]⟩,none⟩,⟨some 16,.assign (.tmp 78),none⟩]
def c81_r14:List SOp:=[⟨some 79,.move (.tmp 16),none⟩,⟨some 80,.binOp .eql 3 (.tmp 79) (.const (.int .i64 0)) 3,none⟩,⟨some 81,.move (.tmp 80),none⟩,⟨some 82,.move (.tmp 16),some (some 81,false)⟩,⟨some 83,.binOp .gtr 3 (.tmp 82) (.const (.int .i64 16)) 3,some (some 81,false)⟩,⟨some 84,.pick (.tmp 81) (.const (.bool true)) (.tmp 83),none⟩]
def c81_r15:List SOp:=[⟨some 85,.move (.tmp 7),none⟩,⟨some 86,.move (.tmp 7),none⟩,⟨some 87,.nilCheck (.tmp 86),none⟩,⟨some 88,.fieldAddr 163 (.tmp 87) 1,none⟩,⟨some 89,.load 160 (.tmp 88),none⟩,⟨some 90,.move (.tmp 13),none⟩,⟨some 91,.move (.tmp 14),none⟩,⟨some 92,.build 168 #[(0, (.tmp 90)), (1, (.tmp 91))],none⟩,⟨some 93,.buildSlice 160 1 #[(0, (.tmp 92))],none⟩,⟨some 94,.call ⟨.builtin .append, #[.tmp 89,.tmp 93],#[160,160]⟩,none⟩,⟨some 95,.nilCheck (.tmp 85),none⟩,⟨some 96,.fieldAddr 163 (.tmp 95) 1,none⟩,⟨none,.store 160 (.tmp 96) (.tmp 94),none⟩]
def c81_r16:List SOp:=[⟨some 97,.move (.tmp 8),none⟩,⟨some 98,.fieldAddr 52 (.tmp 15) 0,none⟩,⟨some 99,.load 9 (.tmp 98),none⟩,⟨some 100,.buildSlice 38 1 #[(0, (.tmp 99))],none⟩,⟨some 101,.call ⟨.builtin .append, #[.tmp 97,.tmp 100],#[38,38]⟩,none⟩,⟨some 102,.move (.tmp 9),none⟩,⟨some 103,.fieldAddr 52 (.tmp 15) 0,none⟩,⟨some 104,.load 9 (.tmp 103),none⟩,⟨some 105,.call ⟨.value (.func 59),#[.tmp 104],#[9]⟩,none⟩,⟨some 106,.buildSlice 38 1 #[(0, (.tmp 105))],none⟩,⟨some 107,.call ⟨.builtin .append, #[.tmp 102,.tmp 106],#[38,38]⟩,none⟩,⟨some 108,.move (.tmp 10),none⟩,⟨some 109,.fieldAddr 52 (.tmp 15) 1,none⟩,⟨some 110,.load 4 (.tmp 109),none⟩,⟨some 111,.buildSlice 68 1 #[(0, (.tmp 110))],none⟩,⟨some 112,.call ⟨.builtin .append, #[.tmp 108,.tmp 111],#[68,68]⟩,none⟩,⟨some 8,.assign (.tmp 101),none⟩,⟨some 9,.assign (.tmp 107),none⟩,⟨some 10,.assign (.tmp 112),none⟩]
def c81_r17:List SOp:=[⟨some 113,.binOp .add 3 (.tmp 71) (.const (.int .i64 1)) 3,none⟩,⟨some 71,.move (.tmp 113),none⟩]
def c81_l11:SC:=(.seq (.reg c81_r11 none (some [0,2,7,8,9,10,13,21,22,23,69,70,71,72])) (.seq (.cond (.tmp 72) .skip (.exit 2) (some [0,2,7,8,9,10,13,21,22,23,69,70,71])) (.seq (.block 3 (.seq (.reg c81_r12 none (some [0,2,7,8,9,10,13,14,15,21,22,23,69,70,71])) (.seq (.seq (.reg c81_r13 none (some [0,2,7,8,9,10,13,14,15,16,21,22,23,69,70,71])) (.seq (.reg c81_r14 none (some [0,2,7,8,9,10,13,14,15,21,22,23,69,70,71,84])) (.cond (.tmp 84) (.exit 3) .skip (some [0,2,7,8,9,10,13,14,15,21,22,23,69,70,71])))) (.seq (.reg c81_r15 none (some [0,2,7,8,9,10,13,15,21,22,23,69,70,71])) (.reg c81_r16 (some [(7, 3), (7, 4), (13, 3), (13, 4), (13, 8), (13, 9), (13, 10)]) (some [0,2,7,8,9,10,13,21,22,23,69,70,71])))))) (.reg c81_r17 none (some [0,2,7,8,9,10,13,21,22,23,69,70,71])))))
def c81_r18:List SOp:=[⟨some 114,.binOp .add 3 (.tmp 23) (.const (.int .i64 1)) 3,none⟩,⟨some 23,.move (.tmp 114),none⟩]
def c81_l5:SC:=(.seq (.reg c81_r5 none (some [0,2,7,8,9,10,21,22,23,24])) (.seq (.cond (.tmp 24) .skip (.exit 0) (some [0,2,7,8,9,10,21,22,23])) (.seq (.block 1 (.seq (.reg c81_r6 none (some [0,2,7,8,9,10,12,21,22,23])) (.seq (.seq (.reg c81_r7 none (some [0,2,7,8,9,10,12,21,22,23,34])) (.cond (.tmp 34) (.exit 1) .skip (some [0,2,7,8,9,10,12,21,22,23]))) (.seq (.reg c81_r8 (some [(3, 10), (15, 10), (16, 10)]) (some [0,2,7,8,9,10,12,13,21,22,23])) (.seq (.reg c81_r9 none (some [0,2,7,8,9,10,12,13,21,22,23])) (.seq (.reg c81_r10 none (some [0,2,7,8,9,10,13,21,22,23,69,70,71])) (.block 2 (.loop c81_l11 (some [0,2,7,8,9,10,13,21,22,23,69,70,71]))))))))) (.reg c81_r18 none (some [0,2,7,8,9,10,21,22,23])))))
def c81_r19:List SOp:=[⟨some 116,.move (.tmp 9),none⟩,⟨some 117,.call ⟨.value (.func 52),#[(.tmp 116),(.const (.int .i64 4096))],#[38,3]⟩,none⟩,⟨some 115,.move (.tmp 117),none⟩,⟨some 118,.extract (.tmp 115) 0,none⟩,⟨some 119,.extract (.tmp 115) 1,none⟩,⟨some 17,.assign (.tmp 118),none⟩,⟨some 18,.assign (.tmp 119),none⟩]
def c81_r20:List SOp:=[⟨some 120,.move (.tmp 7),none⟩,⟨some 121,.move (.tmp 17),none⟩,⟨some 122,.move (.tmp 8),none⟩,⟨some 123,.move (.tmp 10),none⟩,⟨some 124,.call ⟨.value (.func 102),#[.tmp 121,.tmp 122,.tmp 123],#[57,38,68]⟩,none⟩,⟨some 125,.nilCheck (.tmp 120),none⟩,⟨some 126,.fieldAddr 163 (.tmp 125) 0,none⟩,⟨none,.store 69 (.tmp 126) (.tmp 124),none⟩]
def c81_r21:List SOp:=[⟨some 127,.move (.tmp 7),none⟩,⟨some 6,.assign (.tmp 127),none⟩]
def c81:SC:=(.seq (.reg c81_r0 none (some [0,1,2])) (.seq (.reg c81_r1 none (some [0,1,2,7])) (.seq (.reg c81_r2 none (some [0,1,2,7,8,9])) (.seq (.reg c81_r3 none (some [0,1,2,7,8,9,10])) (.seq (.seq (.reg c81_r4 none (some [0,2,7,8,9,10,21,22,23])) (.block 0 (.loop c81_l5 (some [0,2,7,8,9,10,21,22,23])))) (.seq (.reg c81_r19 none (some [7,8,10,17])) (.seq (.reg c81_r20 none (some [7])) (.seq (.reg c81_r21 none (some [6])) .ret))))))))
theorem c81_eq : ∃ code, Try.f81.body = some code ∧ compile H81 code = c81 :=⟨_,rfl,by kernel_rfl⟩
theorem c81_fn : Try.prog.funcs[81]? = some Try.f81:=by kernel_rfl
theorem c81_rs : Try.f81.results.toList = [.tmp 6]:=by kernel_rfl
theorem c81_ok : fnB Try.prog H81 Try.f81 = true:=by kernel_rfl
theorem c81_nt : Try.f81.ntmps = 128:=by kernel_rfl
def H82:Hint:=⟨[(2,[2,3]),(1,[4]),(0,[0])],[]⟩
def c82_r0:List SOp:=[⟨some 2,.assign (.const (.slice none 0 0)),none⟩,⟨some 3,.assign (.const (.int .i64 0)),none⟩]
def c82_r1:List SOp:=[⟨some 5,.move (.tmp 0),none⟩,⟨some 6,.call ⟨.value (.func 113),#[(.tmp 5),(.func 114)],#[91,170]⟩,none⟩,⟨some 4,.assign (.tmp 6),none⟩]
def c82_r2:List SOp:=[⟨some 7,.move (.tmp 4),none⟩,⟨some 8,.move (.tmp 4),none⟩,⟨some 9,.call ⟨.value (.func 115),#[.tmp 8],#[94]⟩,none⟩,⟨some 2,.assign (.tmp 7),none⟩,⟨some 3,.assign (.tmp 9),none⟩]
def c82:SC:=(.seq (.reg c82_r0 none (some [0])) (.seq (.reg c82_r1 none (some [4])) (.seq (.reg c82_r2 none (some [2,3])) .ret)))
theorem c82_eq : ∃ code, Try.f82.body = some code ∧ compile H82 code = c82 :=⟨_,rfl,by kernel_rfl⟩
theorem c82_fn : Try.prog.funcs[82]? = some Try.f82:=by kernel_rfl
theorem c82_rs : Try.f82.results.toList = [.tmp 2, .tmp 3]:=by kernel_rfl
theorem c82_ok : fnB Try.prog H82 Try.f82 = true:=by kernel_rfl
theorem c82_nt : Try.f82.ntmps = 10:=by kernel_rfl
def H83:Hint:=⟨[(16,[4,5]),(15,[0,10,51,52,53]),(14,[0,10,51,52,53]),(13,[0,10,13,51,52,53]),(12,[0,10,12,51,52,53]),(2000054,[0,10,51,52,53]),(11,[0,10,51,52,53,54]),(1000011,[0,10,51,52,53]),(10,[0,10,51,52,53]),(9,[0,6,10]),(8,[0,6,27,28,29]),(7,[0,6,27,28,29]),(6,[0,6,9,27,28,29]),(5,[0,6,8,27,28,29]),(2000030,[0,6,27,28,29]),(4,[0,6,27,28,29,30]),(1000004,[0,6,27,28,29]),(3,[0,6,27,28,29]),(2,[0,6]),(1,[0,1]),(0,[0,1])],[]⟩
def c83_r0:List SOp:=[⟨some 4,.assign (.const (.slice none 0 0)),none⟩,⟨some 5,.assign (.const (.int .i64 0)),none⟩]
def c83_r1:List SOp:=[⟨some 14,.move (.tmp 0),none⟩,⟨some 15,.nilCheck (.tmp 14),none⟩,⟨some 16,.fieldAddr 163 (.tmp 15) 3,none⟩,⟨some 17,.load 3 (.tmp 16),none⟩,⟨some 18,.binOp .add 3 (.tmp 17) (.const (.int .i64 1)) 3,none⟩,⟨some 19,.nilCheck (.tmp 14),none⟩,⟨some 20,.fieldAddr 163 (.tmp 19) 3,none⟩,⟨none,.store 3 (.tmp 20) (.tmp 18),none⟩]
def c83_r2:List SOp:=[⟨some 21,.move (.tmp 0),none⟩,⟨some 22,.nilCheck (.tmp 21),none⟩,⟨some 23,.fieldAddr 163 (.tmp 22) 0,none⟩,⟨some 24,.load 69 (.tmp 23),none⟩,⟨some 25,.move (.tmp 1),none⟩,⟨some 26,.call ⟨.value (.func 65),#[.tmp 24,.tmp 25],#[69,5]⟩,none⟩,⟨some 6,.assign (.tmp 26),none⟩]
def c83_r3:List SOp:=[⟨some 27,.move (.tmp 6),none⟩,⟨some 28,.call ⟨.builtin .len, #[.tmp 27],#[30]⟩,none⟩,⟨some 29,.move (.const (.int .i64 0)),none⟩]
def c83_r4:List SOp:=[⟨some 30,.binOp .lss 3 (.tmp 29) (.tmp 28) 3,none⟩]
def c83_r5:List SOp:=[⟨some 31,.indexAddr 30 (.tmp 27) (.tmp 29),none⟩,⟨some 32,.load 3 (.tmp 31),none⟩,⟨some 8,.assign (.tmp 32),none⟩]
def c83_r6:List SOp:=[⟨some 33,.move (.tmp 0),none⟩,⟨some 34,.nilCheck (.tmp 33),none⟩,⟨some 35,.fieldAddr 163 (.tmp 34) 1,none⟩,⟨some 36,.load 160 (.tmp 35),none⟩,⟨some 37,.move (.tmp 8),none⟩,⟨some 38,.indexAddr 160 (.tmp 36) (.tmp 37),none⟩,⟨some 39,.load 168 (.tmp 38),none⟩,⟨some 9,.alloc 168,none⟩,⟨none,.store 168 (.tmp 9) (.tmp 39),none⟩]
def c83_r7:List SOp:=[⟨some 40,.fieldAddr 168 (.tmp 9) 0,none⟩,⟨some 41,.load 164 (.tmp 40),none⟩,⟨some 42,.nilCheck (.tmp 41),none⟩,⟨some 43,.fieldAddr 166 (.tmp 42) 2,none⟩,⟨some 44,.load 68 (.tmp 43),none⟩,⟨some 45,.fieldAddr 168 (.tmp 9) 1,none⟩,⟨some 46,.load 3 (.tmp 45),none⟩,⟨some 47,.indexAddr 68 (.tmp 44) (.tmp 46),none⟩,⟨none,.store 4 (.tmp 47) (.const (.bool true)),none⟩]
def c83_r8:List SOp:=[⟨some 48,.binOp .add 3 (.tmp 29) (.const (.int .i64 1)) 3,none⟩,⟨some 29,.move (.tmp 48),none⟩]
def c83_l4:SC:=(.seq (.reg c83_r4 none (some [0,6,27,28,29,30])) (.seq (.cond (.tmp 30) .skip (.exit 0) (some [0,6,27,28,29])) (.seq (.block 1 (.seq (.reg c83_r5 none (some [0,6,8,27,28,29])) (.seq (.reg c83_r6 none (some [0,6,9,27,28,29])) (.reg c83_r7 none (some [0,6,27,28,29]))))) (.reg c83_r8 none (some [0,6,27,28,29])))))
def c83_r9:List SOp:=[⟨some 49,.move (.tmp 0),none⟩,⟨some 50,.call ⟨.value (.func 113),#[(.tmp 49),(.func 116)],#[91,170]⟩,none⟩,⟨some 10,.assign (.tmp 50),none⟩]
def c83_r10:List SOp:=[⟨some 51,.move (.tmp 6),none⟩,⟨some 52,.call ⟨.builtin .len, #[.tmp 51],#[30]⟩,none⟩,⟨some 53,.move (.const (.int .i64 0)),none⟩]
def c83_r11:List SOp:=[⟨some 54,.binOp .lss 3 (.tmp 53) (.tmp 52) 3,none⟩]
def c83_r12:List SOp:=[⟨some 55,.indexAddr 30 (.tmp 51) (.tmp 53),none⟩,⟨some 56,.load 3 (.tmp 55),none⟩,⟨some 12,.assign (.tmp 56),none⟩]
def c83_r13:List SOp:=[⟨some 57,.move (.tmp 0),none⟩,⟨some 58,.nilCheck (.tmp 57),none⟩,⟨some 59,.fieldAddr 163 (.tmp 58) 1,none⟩,⟨some 60,.load 160 (.tmp 59),none⟩,⟨some 61,.move (.tmp 12),none⟩,⟨some 62,.indexAddr 160 (.tmp 60) (.tmp 61),none⟩,⟨some 63,.load 168 (.tmp 62),none⟩,⟨some 13,.alloc 168,none⟩,⟨none,.store 168 (.tmp 13) (.tmp 63),none⟩]
def c83_r14:List SOp:=[⟨some 64,.fieldAddr 168 (.tmp 13) 0,none⟩,⟨some 65,.load 164 (.tmp 64),none⟩,⟨some 66,.nilCheck (.tmp 65),none⟩,⟨some 67,.fieldAddr 166 (.tmp 66) 2,none⟩,⟨some 68,.load 68 (.tmp 67),none⟩,⟨some 69,.fieldAddr 168 (.tmp 13) 1,none⟩,⟨some 70,.load 3 (.tmp 69),none⟩,⟨some 71,.indexAddr 68 (.tmp 68) (.tmp 70),none⟩,⟨none,.store 4 (.tmp 71) (.const (.bool false)),none⟩]
def c83_r15:List SOp:=[⟨some 72,.binOp .add 3 (.tmp 53) (.const (.int .i64 1)) 3,none⟩,⟨some 53,.move (.tmp 72),none⟩]
def c83_l11:SC:=(.seq (.reg c83_r11 none (some [0,10,51,52,53,54])) (.seq (.cond (.tmp 54) .skip (.exit 2) (some [0,10,51,52,53])) (.seq (.block 3 (.seq (.reg c83_r12 none (some [0,10,12,51,52,53])) (.seq (.reg c83_r13 none (some [0,10,13,51,52,53])) (.reg c83_r14 none (some [0,10,51,52,53]))))) (.reg c83_r15 none (some [0,10,51,52,53])))))
def c83_r16:List SOp:=[⟨some 73,.move (.tmp 10),none⟩,⟨some 74,.move (.tmp 10),none⟩,⟨some 75,.call ⟨.value (.func 115),#[.tmp 74],#[94]⟩,none⟩,⟨some 4,.assign (.tmp 73),none⟩,⟨some 5,.assign (.tmp 75),none⟩]
def c83:SC:=(.seq (.reg c83_r0 none (some [0,1])) (.seq (.reg c83_r1 none (some [0,1])) (.seq (.reg c83_r2 none (some [0,6])) (.seq (.seq (.reg c83_r3 none (some [0,6,27,28,29])) (.block 0 (.loop c83_l4 (some [0,6,27,28,29])))) (.seq (.reg c83_r9 none (some [0,6,10])) (.seq (.seq (.reg c83_r10 none (some [0,10,51,52,53])) (.block 2 (.loop c83_l11 (some [0,10,51,52,53])))) (.seq (.reg c83_r16 none (some [4,5])) .ret)))))))
theorem c83_eq : ∃ code, Try.f83.body = some code ∧ compile H83 code = c83 :=⟨_,rfl,by kernel_rfl⟩
theorem c83_fn : Try.prog.funcs[83]? = some Try.f83:=by kernel_rfl
theorem c83_rs : Try.f83.results.toList = [.tmp 4, .tmp 5]:=by kernel_rfl
theorem c83_ok : fnB Try.prog H83 Try.f83 = true:=by kernel_rfl
theorem c83_nt : Try.f83.ntmps = 76:=by kernel_rfl
def H84:Hint:=⟨[(1,[2]),(0,[0])],[]⟩
def c84_r0:List SOp:=[⟨some 2,.assign (.const (.int .i64 0)),none⟩]
def c84_r1:List SOp:=[⟨some 3,.move (.tmp 0),none⟩,⟨some 4,.nilCheck (.tmp 3),none⟩,⟨some 5,.fieldAddr 163 (.tmp 4) 3,none⟩,⟨some 6,.load 3 (.tmp 5),none⟩,⟨some 2,.assign (.tmp 6),none⟩]
def c84:SC:=(.seq (.reg c84_r0 none (some [0])) (.seq (.reg c84_r1 none (some [2])) .ret))
theorem c84_eq : ∃ code, Try.f84.body = some code ∧ compile H84 code = c84 :=⟨_,rfl,by kernel_rfl⟩
theorem c84_fn : Try.prog.funcs[84]? = some Try.f84:=by kernel_rfl
theorem c84_rs : Try.f84.results.toList = [.tmp 2]:=by kernel_rfl
theorem c84_ok : fnB Try.prog H84 Try.f84 = true:=by kernel_rfl
theorem c84_nt : Try.f84.ntmps = 7:=by kernel_rfl
def H92:Hint:=⟨[(1,[4]),(0,[0,1])],[]⟩
def c92_r0:List SOp:=[⟨some 4,.assign (.const (.bool false)),none⟩]
def c92_r1:List SOp:=[⟨some 5,.move (.tmp 1),none⟩,⟨some 6,.binOp .lss 3 (.tmp 5) (.const (.int .i64 0)) 3,none⟩,⟨some 7,.move (.tmp 6),none⟩,⟨some 8,.move (.tmp 1),some (some 7,false)⟩,⟨some 9,.move (.tmp 0),some (some 7,false)⟩,⟨some 10,.nilCheck (.tmp 9),some (some 7,false)⟩,⟨some 11,.fieldAddr 116 (.tmp 10) 1,some (some 7,false)⟩,⟨some 12,.load 114 (.tmp 11),some (some 7,false)⟩,⟨some 13,.call ⟨.builtin .len, #[.tmp 12],#[114]⟩,some (some 7,false)⟩,⟨some 14,.binOp .geq 3 (.tmp 8) (.tmp 13) 3,some (some 7,false)⟩,⟨some 15,.pick (.tmp 7) (.const (.bool true)) (.tmp 14),none⟩,⟨some 4,.assign (.tmp 15),none⟩]
def c92:SC:=(.seq (.reg c92_r0 none (some [0,1])) (.seq (.reg c92_r1 none (some [4])) .ret))
theorem c92_eq : ∃ code, Try.f92.body = some code ∧ compile H92 code = c92 :=⟨_,rfl,by kernel_rfl⟩
theorem c92_fn : Try.prog.funcs[92]? = some Try.f92:=by kernel_rfl
theorem c92_rs : Try.f92.results.toList = [.tmp 4]:=by kernel_rfl
theorem c92_ok : fnB Try.prog H92 Try.f92 = true:=by kernel_rfl
theorem c92_nt : Try.f92.ntmps = 16:=by kernel_rfl
def H93:Hint:=⟨[(3,[2]),(2,[2]),(2000004,[0]),(1,[0,4]),(0,[0])],[]⟩
def c93_r0:List SOp:=[⟨some 2,.assign (.const (.slice none 0 0)),none⟩]
def c93_r1:List SOp:=[⟨some 3,.move (.tmp 0),none⟩,⟨some 4,.binOp .eql 30 (.tmp 3) (.const (.slice none 0 0)) 30,none⟩]
def c93_r2:List SOp:=[⟨some 2,.assign (.const (.slice none 0 0)),none⟩]
def c93_r3:List SOp:=[⟨some 5,.buildSlice 30 0 #[],none⟩,⟨some 6,.move (.tmp 0),none⟩,⟨some 7,.call ⟨.builtin .append, #[.tmp 5,.tmp 6],#[30,30]⟩,none⟩,⟨some 2,.assign (.tmp 7),none⟩]
def c93:SC:=(.seq (.reg c93_r0 none (some [0])) (.seq (.seq (.reg c93_r1 none (some [0,4])) (.cond (.tmp 4) (.seq (.reg c93_r2 none (some [2])) .ret) .skip (some [0]))) (.seq (.reg c93_r3 none (some [2])) .ret)))
theorem c93_eq : ∃ code, Try.f93.body = some code ∧ compile H93 code = c93 :=⟨_,rfl,by kernel_rfl⟩
theorem c93_fn : Try.prog.funcs[93]? = some Try.f93:=by kernel_rfl
theorem c93_rs : Try.f93.results.toList = [.tmp 2]:=by kernel_rfl
theorem c93_ok : fnB Try.prog H93 Try.f93 = true:=by kernel_rfl
theorem c93_nt : Try.f93.ntmps = 8:=by kernel_rfl
def H100:Hint:=⟨[(18,[6]),(17,[0,1,2,7,8,69]),(16,[0,1,2,7,8,69]),(15,[0,1,2,7,8,10,69]),(14,[0,1,2,7,8,9,10,69]),(2000083,[0,1,2,7,8,9,10,69]),(13,[0,1,2,7,8,9,10,69,83]),(2000081,[0,1,2,7,8,9,10,69]),(12,[0,1,2,7,8,9,10,69,81]),(11,[0,1,2,7,8,9,10,11,69]),(10,[0,1,2,7,8,9,69]),(2000070,[0,1,2,7,8,69]),(9,[0,1,2,7,8,69,70]),(1000009,[0,1,2,7,8,69]),(8,[0,1,2,7,8,69]),(7,[0,1,2,7,8]),(5,[0,1,2,7]),(4,[0,1,2,7]),(3,[0,1,2,7]),(6,[0,1,2,7]),(2000020,[0,1,2,7]),(2,[0,1,2,7,20]),(1,[0,1,2,7]),(0,[0,1,2])],[(4,[(3,12),(3,15),(3,16)]),(6,[(3,7)])]⟩
def c100_r0:List SOp:=[⟨some 6,.assign (.const (.slice none 0 0)),none⟩]
def c100_r1:List SOp:=[⟨some 12,.move (.tmp 0),none⟩,⟨some 13,.nilCheck (.tmp 12),none⟩,⟨some 14,.fieldAddr 129 (.tmp 13) 1,none⟩,⟨some 15,.load 30 (.tmp 14),none⟩,⟨some 16,.move (.tmp 2),none⟩,⟨some 17,.indexAddr 30 (.tmp 15) (.tmp 16),none⟩,⟨some 18,.load 3 (.tmp 17),none⟩,⟨some 7,.assign (.tmp 18),none⟩]
def c100_r2:List SOp:=[⟨some 19,.move (.tmp 2),none⟩,⟨some 20,.binOp .gtr 3 (.tmp 19) (.const (.int .i64 0)) 3,none⟩]
def c100_r3:List SOp:=[⟨some 21,.move (.tmp 0),none⟩,⟨some 22,.nilCheck (.tmp 21),none⟩,⟨some 23,.fieldAddr 129 (.tmp 22) 0,none⟩,⟨some 24,.load 127 (.tmp 23),none⟩,⟨some 25,.move (.tmp 2),none⟩,⟨some 26,.move (.tmp 0),none⟩,⟨some 27,.nilCheck (.tmp 26),none⟩,⟨some 28,.fieldAddr 129 (.tmp 27) 0,none⟩,⟨some 29,.load 127 (.tmp 28),none⟩,⟨some 30,.move (.tmp 7),none⟩,⟨some 31,.indexAddr 127 (.tmp 29) (.tmp 30),none⟩,⟨some 32,.load 132 (.tmp 31),none⟩,⟨some 33,.indexAddr 127 (.tmp 24) (.tmp 25),none⟩,⟨none,.store 132 (.tmp 33) (.tmp 32),none⟩]
def c100_r4:List SOp:=[⟨some 34,.move (.tmp 0),none⟩,⟨some 35,.nilCheck (.tmp 34),none⟩,⟨some 36,.fieldAddr 129 (.tmp 35) 2,none⟩,⟨some 37,.load 44 (.tmp 36),none⟩,⟨some 38,.move (.tmp 2),none⟩,⟨some 39,.move (.tmp 0),none⟩,⟨some 40,.nilCheck (.tmp 39),none⟩,⟨some 41,.fieldAddr 129 (.tmp 40) 2,none⟩,⟨some 42,.load 44 (.tmp 41),none⟩,⟨some 43,.move (.tmp 7),none⟩,⟨some 44,.indexAddr 44 (.tmp 42) (.tmp 43),none⟩,⟨some 45,.load 30 (.tmp 44),none⟩,⟨some 46,.call ⟨.value (.func 93),#[.tmp 45],#[30]⟩,none⟩,⟨some 47,.move (.tmp 1),none⟩,⟨some 48,.move (.tmp 2),none⟩,⟨some 49,.call ⟨.value (.func 34),#[.tmp 47,.tmp 48],#[23,3]⟩,none⟩,⟨some 50,.call ⟨.builtin .append, #[.tmp 46,.tmp 49],#[30,30]⟩,none⟩,⟨some 51,.indexAddr 44 (.tmp 37) (.tmp 38),none⟩,⟨none,.store 30 (.tmp 51) (.tmp 50),none⟩]
def c100_r5:List SOp:=[⟨some 52,.move (.tmp 0),none⟩,⟨some 53,.nilCheck (.tmp 52),none⟩,⟨some 54,.fieldAddr 129 (.tmp 53) 2,none⟩,⟨some 55,.load 44 (.tmp 54),none⟩,⟨some 56,.move (.tmp 2),none⟩,⟨some 57,.indexAddr 44 (.tmp 55) (.tmp 56),none⟩,⟨some 58,.load 30 (.tmp 57),none⟩,⟨some 59,.call ⟨.value (.func 120),#[.tmp 58],#[30]⟩,none⟩]
def c100_r6:List SOp:=[⟨some 60,.move (.tmp 0),none⟩,⟨some 61,.nilCheck (.tmp 60),none⟩,⟨some 62,.fieldAddr 129 (.tmp 61) 2,none⟩,⟨some 63,.load 44 (.tmp 62),none⟩,⟨some 64,.move (.tmp 2),none⟩,⟨some 65,.move (.tmp 1),none⟩,⟨some 66,.move (.tmp 2),none⟩,⟨some 67,.call ⟨.value (.func 34),#[.tmp 65,.tmp 66],#[23,3]⟩,none⟩,⟨some 68,.indexAddr 44 (.tmp 63) (.tmp 64),none⟩,⟨none,.store 30 (.tmp 68) (.tmp 67),none⟩]
def c100_r7:List SOp:=[⟨some 8,.assign (.const (.slice none 0 0)),none⟩]
def c100_r8:List SOp:=[⟨some 69,.move (.const (.int .i64 0)),none⟩]
def c100_r9:List SOp:=[⟨some 70,.binOp .lss 3 (.tmp 69) (.const (.int .i64 256)) 3,none⟩]
def c100_r10:List SOp:=[⟨some 71,.move (.tmp 69),none⟩,⟨some 9,.assign (.tmp 71),none⟩]
def c100_r11:List SOp:=[⟨some 73,.move (.tmp 1),none⟩,⟨some 74,.move (.tmp 2),none⟩,⟨some 75,.move (.tmp 9),none⟩,⟨some 76,.convert 3 5 (.tmp 75),none⟩,⟨some 77,.call ⟨.value (.func 33),#[.tmp 73,.tmp 74,.tmp 76],#[23,3,5]⟩,none⟩,⟨some 72,.move (.tmp 77),none⟩,⟨some 78,.extract (.tmp 72) 0,none⟩,⟨some 79,.extract (.tmp 72) 1,none⟩,⟨some 10,.assign (.tmp 78),none⟩,⟨some 11,.assign (.tmp 79),none⟩]
def c100_r12:List SOp:=[⟨some 80,.move (.tmp 11),none⟩,⟨some 81,.unOp .not 4 (.tmp 80),none⟩]
def c100_r13:List SOp:=[⟨some 82,.move (.tmp 2),none⟩,⟨some 83,.binOp .gtr 3 (.tmp 82) (.const (.int .i64 0)) 3,none⟩]
def c100_r14:List SOp:=[⟨some 84,.move (.tmp 0),none⟩,⟨some 85,.nilCheck (.tmp 84),none⟩,⟨some 86,.fieldAddr 129 (.tmp 85) 1,none⟩,⟨some 87,.load 30 (.tmp 86),none⟩,⟨some 88,.move (.tmp 10),none⟩,⟨some 89,.move (.tmp 0),none⟩,⟨some 90,.nilCheck (.tmp 89),none⟩,⟨some 91,.fieldAddr 129 (.tmp 90) 0,none⟩,⟨some 92,.load 127 (.tmp 91),none⟩,⟨some 93,.move (.tmp 7),none⟩,⟨some 94,.move (.tmp 9),none⟩,⟨some 95,.indexAddr 127 (.tmp 92) (.tmp 93),none⟩,⟨some 96,.indexAddr 132 (.tmp 95) (.tmp 94),none⟩,⟨some 97,.load 131 (.tmp 96),none⟩,⟨some 98,.convert 131 3 (.tmp 97),none⟩,⟨some 99,.indexAddr 30 (.tmp 87) (.tmp 88),none⟩,⟨none,.store 3 (.tmp 99) (.tmp 98),none⟩]
def c100_r15:List SOp:=[⟨some 100,.move (.tmp 0),none⟩,⟨some 101,.nilCheck (.tmp 100),none⟩,⟨some 102,.fieldAddr 129 (.tmp 101) 0,none⟩,⟨some 103,.load 127 (.tmp 102),none⟩,⟨some 104,.move (.tmp 2),none⟩,⟨some 105,.move (.tmp 9),none⟩,⟨some 106,.move (.tmp 10),none⟩,⟨some 107,.convert 3 131 (.tmp 106),none⟩,⟨some 108,.indexAddr 127 (.tmp 103) (.tmp 104),none⟩,⟨some 109,.indexAddr 132 (.tmp 108) (.tmp 105),none⟩,⟨none,.store 131 (.tmp 109) (.tmp 107),none⟩]
def c100_r16:List SOp:=[⟨some 110,.move (.tmp 8),none⟩,⟨some 111,.move (.tmp 10),none⟩,⟨some 112,.buildSlice 30 1 #[(0, (.tmp 111))],none⟩,⟨some 113,.call ⟨.builtin .append, #[.tmp 110,.tmp 112],#[30,30]⟩,none⟩,⟨some 8,.assign (.tmp 113),none⟩]
def c100_r17:List SOp:=[⟨some 114,.binOp .add 3 (.tmp 69) (.const (.int .i64 1)) 3,none⟩,⟨some 69,.move (.tmp 114),none⟩]
def c100_l9:SC:=(.seq (.reg c100_r9 none (some [0,1,2,7,8,69,70])) (.seq (.cond (.tmp 70) .skip (.exit 0) (some [0,1,2,7,8,69])) (.seq (.block 1 (.seq (.reg c100_r10 none (some [0,1,2,7,8,9,69])) (.seq (.reg c100_r11 none (some [0,1,2,7,8,9,10,11,69])) (.seq (.seq (.reg c100_r12 none (some [0,1,2,7,8,9,10,69,81])) (.cond (.tmp 81) (.exit 1) .skip (some [0,1,2,7,8,9,10,69]))) (.seq (.seq (.reg c100_r13 none (some [0,1,2,7,8,9,10,69,83])) (.cond (.tmp 83) (.reg c100_r14 none (some [0,1,2,7,8,9,10,69])) .skip (some [0,1,2,7,8,9,10,69]))) (.seq (.reg c100_r15 none (some [0,1,2,7,8,10,69])) (.reg c100_r16 none (some [0,1,2,7,8,69])))))))) (.reg c100_r17 none (some [0,1,2,7,8,69])))))
def c100_r18:List SOp:=[⟨some 115,.move (.tmp 8),none⟩,⟨some 6,.assign (.tmp 115),none⟩]
def c100:SC:=(.seq (.reg c100_r0 none (some [0,1,2])) (.seq (.reg c100_r1 none (some [0,1,2,7])) (.seq (.seq (.reg c100_r2 none (some [0,1,2,7,20])) (.cond (.tmp 20) (.seq (.reg c100_r3 none (some [0,1,2,7])) (.seq (.reg c100_r4 (some [(3, 12), (3, 15), (3, 16)]) (some [0,1,2,7])) (.reg c100_r5 none (some [0,1,2,7])))) (.reg c100_r6 (some [(3, 7)]) (some [0,1,2,7])) (some [0,1,2,7]))) (.seq (.reg c100_r7 none (some [0,1,2,7,8])) (.seq (.seq (.reg c100_r8 none (some [0,1,2,7,8,69])) (.block 0 (.loop c100_l9 (some [0,1,2,7,8,69])))) (.seq (.reg c100_r18 none (some [6])) .ret))))))
theorem c100_eq : ∃ code, Try.f100.body = some code ∧ compile H100 code = c100 :=⟨_,rfl,by kernel_rfl⟩
theorem c100_fn : Try.prog.funcs[100]? = some Try.f100:=by kernel_rfl
theorem c100_rs : Try.f100.results.toList = [.tmp 6]:=by kernel_rfl
theorem c100_ok : fnB Try.prog H100 Try.f100 = true:=by kernel_rfl
theorem c100_nt : Try.f100.ntmps = 116:=by kernel_rfl
def H101:Hint:=⟨[(1,[4]),(0,[0,1])],[]⟩
def c101_r0:List SOp:=[⟨some 4,.assign (.const (.bool false)),none⟩]
def c101_r1:List SOp:=[⟨some 5,.move (.tmp 1),none⟩,⟨some 6,.binOp .lss 3 (.tmp 5) (.const (.int .i64 0)) 3,none⟩,⟨some 7,.move (.tmp 6),none⟩,⟨some 8,.move (.tmp 1),some (some 7,false)⟩,⟨some 9,.move (.tmp 0),some (some 7,false)⟩,⟨some 10,.nilCheck (.tmp 9),some (some 7,false)⟩,⟨some 11,.fieldAddr 129 (.tmp 10) 0,some (some 7,false)⟩,⟨some 12,.load 127 (.tmp 11),some (some 7,false)⟩,⟨some 13,.call ⟨.builtin .len, #[.tmp 12],#[127]⟩,some (some 7,false)⟩,⟨some 14,.binOp .geq 3 (.tmp 8) (.tmp 13) 3,some (some 7,false)⟩,⟨some 15,.pick (.tmp 7) (.const (.bool true)) (.tmp 14),none⟩,⟨some 4,.assign (.tmp 15),none⟩]
def c101:SC:=(.seq (.reg c101_r0 none (some [0,1])) (.seq (.reg c101_r1 none (some [4])) .ret))
theorem c101_eq : ∃ code, Try.f101.body = some code ∧ compile H101 code = c101 :=⟨_,rfl,by kernel_rfl⟩
theorem c101_fn : Try.prog.funcs[101]? = some Try.f101:=by kernel_rfl
theorem c101_rs : Try.f101.results.toList = [.tmp 4]:=by kernel_rfl
theorem c101_ok : fnB Try.prog H101 Try.f101 = true:=by kernel_rfl
theorem c101_nt : Try.f101.ntmps = 16:=by kernel_rfl
def H102:Hint:=⟨[(1,[6]),(0,[0,1,2])],[]⟩
def c102_r0:List SOp:=[⟨some 6,.assign (.const (.pointer none)),none⟩]
def c102_r1:List SOp:=[⟨some 7,.move (.tmp 0),none⟩,⟨some 8,.move (.tmp 1),none⟩,⟨some 9,.call ⟨.builtin .append, #[(.const (.slice none 0 0)),(.tmp 8)],#[38,38]⟩,none⟩,⟨some 10,.move (.tmp 2),none⟩,⟨some 11,.call ⟨.builtin .append, #[(.const (.slice none 0 0)),(.tmp 10)],#[68,68]⟩,none⟩,⟨some 12,.build 136 #[(0, (.tmp 7)), (1, (.tmp 9)), (2, (.tmp 11))],none⟩,⟨some 13,.box 136 (.tmp 12),none⟩,⟨some 6,.assign (.tmp 13),none⟩]
def c102:SC:=(.seq (.reg c102_r0 none (some [0,1,2])) (.seq (.reg c102_r1 none (some [6])) .ret))
theorem c102_eq : ∃ code, Try.f102.body = some code ∧ compile H102 code = c102 :=⟨_,rfl,by kernel_rfl⟩
theorem c102_fn : Try.prog.funcs[102]? = some Try.f102:=by kernel_rfl
theorem c102_rs : Try.f102.results.toList = [.tmp 6]:=by kernel_rfl
theorem c102_ok : fnB Try.prog H102 Try.f102 = true:=by kernel_rfl
theorem c102_nt : Try.f102.ntmps = 14:=by kernel_rfl
def H103:Hint:=⟨[(3,[2]),(2,[2]),(2000008,[0]),(1,[0,8]),(0,[0])],[]⟩
def c103_r0:List SOp:=[⟨some 2,.assign (.const (.int .u8 0)),none⟩]
def c103_r1:List SOp:=[⟨some 3,.move (.tmp 0),none⟩,⟨some 4,.binOp .geq 5 (.tmp 3) (.const (.int .u8 65)) 5,none⟩,⟨some 5,.move (.tmp 4),none⟩,⟨some 6,.move (.tmp 0),some (some 5,true)⟩,⟨some 7,.binOp .leq 5 (.tmp 6) (.const (.int .u8 90)) 5,some (some 5,true)⟩,⟨some 8,.pick (.tmp 5) (.tmp 7) (.const (.bool false)),none⟩]
def c103_r2:List SOp:=[⟨some 9,.move (.tmp 0),none⟩,⟨some 10,.binOp .sub 5 (.tmp 9) (.const (.int .u8 65)) 5,none⟩,⟨some 11,.binOp .add 5 (.tmp 10) (.const (.int .u8 97)) 5,none⟩,⟨some 2,.assign (.tmp 11),none⟩]
def c103_r3:List SOp:=[⟨some 12,.move (.tmp 0),none⟩,⟨some 2,.assign (.tmp 12),none⟩]
def c103:SC:=(.seq (.reg c103_r0 none (some [0])) (.seq (.seq (.reg c103_r1 none (some [0,8])) (.cond (.tmp 8) (.seq (.reg c103_r2 none (some [2])) .ret) .skip (some [0]))) (.seq (.reg c103_r3 none (some [2])) .ret)))
theorem c103_eq : ∃ code, Try.f103.body = some code ∧ compile H103 code = c103 :=⟨_,rfl,by kernel_rfl⟩
theorem c103_fn : Try.prog.funcs[103]? = some Try.f103:=by kernel_rfl
theorem c103_rs : Try.f103.results.toList = [.tmp 2]:=by kernel_rfl
theorem c103_ok : fnB Try.prog H103 Try.f103 = true:=by kernel_rfl
theorem c103_nt : Try.f103.ntmps = 13:=by kernel_rfl
def H104:Hint:=⟨[(7,[4]),(6,[0,1,7,8]),(5,[4]),(2000029,[0,1,7,8]),(4,[0,1,7,8,29]),(3,[0,1,5,7,8]),(2000009,[0,1,7,8]),(2,[0,1,7,8,9]),(1000002,[0,1,7,8]),(1,[0,1,7,8]),(0,[0,1])],[]⟩
def c104_r0:List SOp:=[⟨some 4,.assign (.const (.bool false)),none⟩]
def c104_r1:List SOp:=[⟨some 6,.move (.tmp 1),none⟩,⟨some 7,.call ⟨.builtin .len, #[.tmp 6],#[9]⟩,none⟩,⟨some 8,.move (.const (.int .i64 0)),none⟩]
def c104_r2:List SOp:=[⟨some 9,.binOp .lss 3 (.tmp 8) (.tmp 7) 3,none⟩]
def c104_r3:List SOp:=[⟨some 10,.move (.tmp 8),none⟩,⟨some 5,.assign (.tmp 10),none⟩]
def c104_r4:List SOp:=[⟨some 11,.move (.tmp 0),none⟩,⟨some 12,.move (.tmp 0),none⟩,⟨some 13,.nilCheck (.tmp 12),none⟩,⟨some 14,.fieldAddr 136 (.tmp 13) 4,none⟩,⟨some 15,.load 3 (.tmp 14),none⟩,⟨some 16,.move (.tmp 1),none⟩,⟨some 17,.call ⟨.builtin .len, #[.tmp 16],#[9]⟩,none⟩,⟨some 18,.binOp .sub 3 (.tmp 15) (.tmp 17) 3,none⟩,⟨some 19,.move (.tmp 5),none⟩,⟨some 20,.binOp .add 3 (.tmp 18) (.tmp 19) 3,none⟩,⟨some 21,.binOp .rem 3 (.tmp 20) (.const (.int .i64 16)) 3,none⟩,⟨some 22,.nilCheck (.tmp 11),none⟩,⟨some 23,.fieldAddr 136 (.tmp 22) 5,none⟩,⟨some 24,.indexAddr 134 (.tmp 23) (.tmp 21),none⟩,⟨some 25,.load 5 (.tmp 24),none⟩,⟨some 26,.move (.tmp 1),none⟩,⟨some 27,.move (.tmp 5),none⟩,⟨some 28,.index 9 (.tmp 26) (.tmp 27),none⟩,⟨some 29,.binOp .neq 5 (.tmp 25) (.tmp 28) 5,none⟩]
def c104_r5:List SOp:=[⟨some 4,.assign (.const (.bool false)),none⟩]
def c104_r6:List SOp:=[⟨some 30,.binOp .add 3 (.tmp 8) (.const (.int .i64 1)) 3,none⟩,⟨some 8,.move (.tmp 30),none⟩]
def c104_l2:SC:=(.seq (.reg c104_r2 none (some [0,1,7,8,9])) (.seq (.cond (.tmp 9) .skip (.exit 0) (some [0,1,7,8])) (.seq (.block 1 (.seq (.reg c104_r3 none (some [0,1,5,7,8])) (.seq (.reg c104_r4 none (some [0,1,7,8,29])) (.cond (.tmp 29) (.seq (.reg c104_r5 none (some [4])) .ret) .skip (some [0,1,7,8]))))) (.reg c104_r6 none (some [0,1,7,8])))))
def c104_r7:List SOp:=[⟨some 4,.assign (.const (.bool true)),none⟩]
def c104:SC:=(.seq (.reg c104_r0 none (some [0,1])) (.seq (.seq (.reg c104_r1 none (some [0,1,7,8])) (.block 0 (.loop c104_l2 (some [0,1,7,8])))) (.seq (.reg c104_r7 none (some [4])) .ret)))
theorem c104_eq : ∃ code, Try.f104.body = some code ∧ compile H104 code = c104 :=⟨_,rfl,by kernel_rfl⟩
theorem c104_fn : Try.prog.funcs[104]? = some Try.f104:=by kernel_rfl
theorem c104_rs : Try.f104.results.toList = [.tmp 4]:=by kernel_rfl
theorem c104_ok : fnB Try.prog H104 Try.f104 = true:=by kernel_rfl
theorem c104_nt : Try.f104.ntmps = 31:=by kernel_rfl
def H108:Hint:=⟨[(1,[4]),(0,[0,1,2])],[]⟩
def c108_r0:List SOp:=[⟨some 4,.assign (.const (.bool false)),none⟩]
def c108_r1:List SOp:=[⟨some 5,.move (.tmp 0),none⟩,⟨some 6,.nilCheck (.tmp 5),none⟩,⟨some 7,.fieldAddr 147 (.tmp 6) 1,none⟩,⟨some 8,.load 3 (.tmp 7),none⟩,⟨some 9,.load 68 (.tmp 1),none⟩,⟨some 10,.call ⟨.builtin .len, #[.tmp 9],#[68]⟩,none⟩,⟨some 11,.binOp .lss 3 (.tmp 8) (.tmp 10) 3,none⟩,⟨some 12,.move (.tmp 11),none⟩,⟨some 13,.load 68 (.tmp 1),some (some 12,true)⟩,⟨some 14,.move (.tmp 0),some (some 12,true)⟩,⟨some 15,.nilCheck (.tmp 14),some (some 12,true)⟩,⟨some 16,.fieldAddr 147 (.tmp 15) 1,some (some 12,true)⟩,⟨some 17,.load 3 (.tmp 16),some (some 12,true)⟩,⟨some 18,.indexAddr 68 (.tmp 13) (.tmp 17),some (some 12,true)⟩,⟨some 19,.load 4 (.tmp 18),some (some 12,true)⟩,⟨some 20,.pick (.tmp 12) (.tmp 19) (.const (.bool false)),none⟩,⟨some 21,.move (.tmp 20),none⟩,⟨some 22,.move (.tmp 0),some (some 21,true)⟩,⟨some 23,.nilCheck (.tmp 22),some (some 21,true)⟩,⟨some 24,.fieldAddr 147 (.tmp 23) 0,some (some 21,true)⟩,⟨some 25,.load 52 (.tmp 24),some (some 21,true)⟩,⟨some 26,.load 84 (.tmp 2),some (some 21,true)⟩,⟨some 27,.nilCheck (.tmp 26),some (some 21,true)⟩,⟨some 28,.fieldAddr 144 (.tmp 27) 1,some (some 21,true)⟩,⟨some 29,.load 3 (.tmp 28),some (some 21,true)⟩,⟨some 30,.call ⟨.value (.func 109),#[.tmp 25,.tmp 29],#[52,3]⟩,some (some 21,true)⟩,⟨some 31,.pick (.tmp 21) (.tmp 30) (.const (.bool false)),none⟩,⟨some 4,.assign (.tmp 31),none⟩]
def c108:SC:=(.seq (.reg c108_r0 none (some [0,1,2])) (.seq (.reg c108_r1 none (some [4])) .ret))
theorem c108_eq : ∃ code, Try.f108.body = some code ∧ compile H108 code = c108 :=⟨_,rfl,by kernel_rfl⟩
theorem c108_fn : Try.prog.funcs[108]? = some Try.f108:=by kernel_rfl
theorem c108_rs : Try.f108.results.toList = [.tmp 4]:=by kernel_rfl
theorem c108_ok : fnB Try.prog H108 Try.f108 = true:=by kernel_rfl
theorem c108_nt : Try.f108.ntmps = 32:=by kernel_rfl
def H109:Hint:=⟨[(1,[4]),(0,[1,2])],[]⟩
def c109_r0:List SOp:=[⟨some 2,.box 52 (.tmp 0),none⟩,⟨some 4,.assign (.const (.bool false)),none⟩]
def c109_r1:List SOp:=[⟨some 5,.fieldAddr 52 (.tmp 2) 5,none⟩,⟨some 6,.load 4 (.tmp 5),none⟩,⟨some 7,.move (.tmp 6),none⟩,⟨some 8,.move (.tmp 1),some (some 7,false)⟩,⟨some 9,.fieldAddr 52 (.tmp 2) 0,some (some 7,false)⟩,⟨some 10,.load 9 (.tmp 9),some (some 7,false)⟩,⟨some 11,.call ⟨.builtin .len, #[.tmp 10],#[9]⟩,some (some 7,false)⟩,⟨some 12,.binOp .sub 3 (.tmp 8) (.tmp 11) 3,some (some 7,false)⟩,⟨some 13,.fieldAddr 52 (.tmp 2) 3,some (some 7,false)⟩,⟨some 14,.load 3 (.tmp 13),some (some 7,false)⟩,⟨some 15,.binOp .geq 3 (.tmp 12) (.tmp 14) 3,some (some 7,false)⟩,⟨some 16,.move (.tmp 15),some (some 7,false)⟩,⟨some 17,.fieldAddr 52 (.tmp 2) 4,some (some 16,true)⟩,⟨some 18,.load 3 (.tmp 17),some (some 16,true)⟩,⟨some 19,.binOp .leq 3 (.tmp 18) (.const (.int .i64 0)) 3,some (some 16,true)⟩,⟨some 20,.move (.tmp 19),some (some 16,true)⟩,⟨some 21,.move (.tmp 1),some (some 20,false)⟩,⟨some 22,.fieldAddr 52 (.tmp 2) 3,some (some 20,false)⟩,⟨some 23,.load 3 (.tmp 22),some (some 20,false)⟩,⟨some 24,.fieldAddr 52 (.tmp 2) 4,some (some 20,false)⟩,⟨some 25,.load 3 (.tmp 24),some (some 20,false)⟩,⟨some 26,.binOp .add 3 (.tmp 23) (.tmp 25) 3,some (some 20,false)⟩,⟨some 27,.binOp .leq 3 (.tmp 21) (.tmp 26) 3,some (some 20,false)⟩,⟨some 28,.pick (.tmp 20) (.const (.bool true)) (.tmp 27),some (some 16,true)⟩,⟨some 29,.pick (.tmp 16) (.tmp 28) (.const (.bool false)),some (some 7,false)⟩,⟨some 30,.pick (.tmp 7) (.const (.bool true)) (.tmp 29),none⟩,⟨some 4,.assign (.tmp 30),none⟩]
def c109:SC:=(.seq (.reg c109_r0 none (some [1,2])) (.seq (.reg c109_r1 none (some [4])) .ret))
theorem c109_eq : ∃ code, Try.f109.body = some code ∧ compile H109 code = c109 :=⟨_,rfl,by kernel_rfl⟩
theorem c109_fn : Try.prog.funcs[109]? = some Try.f109:=by kernel_rfl
theorem c109_rs : Try.f109.results.toList = [.tmp 4]:=by kernel_rfl
theorem c109_ok : fnB Try.prog H109 Try.f109 = true:=by kernel_rfl
theorem c109_nt : Try.f109.ntmps = 31:=by kernel_rfl
def H110:Hint:=⟨[(8,[8]),(5,[0,2,3,9]),(7,[8]),(2000031,[0,2,3,9]),(6,[0,2,3,9,31]),(2000017,[0,2,3,9]),(4,[0,2,3,9,17]),(1000004,[0,2,3,9]),(3,[0,2,3,9]),(2,[8]),(2000011,[0,1,2,3]),(1,[0,1,2,3,11]),(0,[0,1,2,3])],[]⟩
def c110_r0:List SOp:=[⟨some 8,.assign (.const (.bool false)),none⟩]
def c110_r1:List SOp:=[⟨some 10,.move (.tmp 1),none⟩,⟨some 11,.binOp .eql 148 (.tmp 10) (.const (.pointer none)) 148,none⟩]
def c110_r2:List SOp:=[⟨some 8,.assign (.const (.bool false)),none⟩]
def c110_r3:List SOp:=[⟨some 12,.move (.tmp 1),none⟩,⟨some 13,.nilCheck (.tmp 12),none⟩,⟨some 14,.fieldAddr 147 (.tmp 13) 5,none⟩,⟨some 15,.load 145 (.tmp 14),none⟩,⟨some 9,.assign (.tmp 15),none⟩]
def c110_r4:List SOp:=[⟨some 16,.move (.tmp 9),none⟩,⟨some 17,.binOp .neq 145 (.tmp 16) (.const (.pointer none)) 145,none⟩]
def c110_r6:List SOp:=[⟨some 22,.move (.tmp 0),none⟩,⟨some 23,.nilCheck (.tmp 22),none⟩,⟨some 24,.fieldAddr 147 (.tmp 23) 0,none⟩,⟨some 25,.load 52 (.tmp 24),none⟩,⟨some 26,.move (.tmp 3),none⟩,⟨some 27,.move (.tmp 9),none⟩,⟨some 28,.nilCheck (.tmp 27),none⟩,⟨some 29,.fieldAddr 181 (.tmp 28) 0,none⟩,⟨some 30,.load 3 (.tmp 29),none⟩,⟨some 31,.call ⟨.value (.func 122),#[.tmp 25,.tmp 26,.tmp 30],#[52,3,3]⟩,none⟩]
def c110_r7:List SOp:=[⟨some 8,.assign (.const (.bool true)),none⟩]
def c110_r5:List SOp:=[⟨some 18,.move (.tmp 9),none⟩,⟨some 19,.nilCheck (.tmp 18),none⟩,⟨some 20,.fieldAddr 181 (.tmp 19) 1,none⟩,⟨some 21,.load 145 (.tmp 20),none⟩,⟨some 9,.assign (.tmp 21),none⟩]
def c110_l4:SC:=(.seq (.seq (.reg c110_r4 none (some [0,2,3,9,17])) (.cond (.tmp 17) .skip (.exit 0) (some [0,2,3,9]))) (.seq (.block 1 (.seq (.reg c110_r6 none (some [0,2,3,9,31])) (.cond (.tmp 31) (.seq (.reg c110_r7 none (some [8])) .ret) .skip (some [0,2,3,9])))) (.reg c110_r5 none (some [0,2,3,9]))))
def c110_r8:List SOp:=[⟨some 32,.move (.tmp 2),none⟩,⟨some 33,.move (.tmp 32),none⟩,⟨some 34,.move (.tmp 0),some (some 33,true)⟩,⟨some 35,.nilCheck (.tmp 34),some (some 33,true)⟩,⟨some 36,.fieldAddr 147 (.tmp 35) 0,some (some 33,true)⟩,⟨some 37,.load 52 (.tmp 36),some (some 33,true)⟩,⟨some 38,.move (.tmp 3),some (some 33,true)⟩,⟨some 39,.move (.tmp 3),some (some 33,true)⟩,⟨some 40,.call ⟨.value (.func 122),#[.tmp 37,.tmp 38,.tmp 39],#[52,3,3]⟩,some (some 33,true)⟩,⟨some 41,.pick (.tmp 33) (.tmp 40) (.const (.bool false)),none⟩,⟨some 8,.assign (.tmp 41),none⟩]
def c110:SC:=(.seq (.reg c110_r0 none (some [0,1,2,3])) (.seq (.seq (.reg c110_r1 none (some [0,1,2,3,11])) (.cond (.tmp 11) (.seq (.reg c110_r2 none (some [8])) .ret) .skip (some [0,1,2,3]))) (.seq (.seq (.reg c110_r3 none (some [0,2,3,9])) (.block 0 (.loop c110_l4 (some [0,2,3,9])))) (.seq (.reg c110_r8 none (some [8])) .ret))))
theorem c110_eq : ∃ code, Try.f110.body = some code ∧ compile H110 code = c110 :=⟨_,rfl,by kernel_rfl⟩
theorem c110_fn : Try.prog.funcs[110]? = some Try.f110:=by kernel_rfl
theorem c110_rs : Try.f110.results.toList = [.tmp 8]:=by kernel_rfl
theorem c110_ok : fnB Try.prog H110 Try.f110 = true:=by kernel_rfl
theorem c110_nt : Try.f110.ntmps = 42:=by kernel_rfl
def H111:Hint:=⟨[(13,[]),(12,[0]),(2000091,[]),(11,[0,1,6,91]),(9,[0,1,2,6]),(8,[0,1,2,6]),(10,[0,1,2,6]),(2000060,[0,1,2,6]),(7,[0,1,2,6,60]),(2000047,[0,1,2,6]),(6,[0,1,2,6,47]),(1000006,[0,1,2,6]),(5,[0,1,2,6]),(4,[0,1,2,6]),(3,[]),(2000028,[]),(2,[0,1,28]),(2000020,[0,1,2]),(1,[0,1,2,20]),(0,[0,1,2])],[]⟩
def c111_r0:List SOp:=[⟨some 7,.move (.tmp 0),none⟩,⟨some 8,.move (.tmp 0),none⟩,⟨some 9,.nilCheck (.tmp 8),none⟩,⟨some 10,.fieldAddr 147 (.tmp 9) 7,none⟩,⟨some 11,.load 4 (.tmp 10),none⟩,⟨some 12,.move (.tmp 11),none⟩,⟨some 13,.move (.tmp 2),some (some 12,false)⟩,⟨some 14,.pick (.tmp 12) (.const (.bool true)) (.tmp 13),none⟩,⟨some 15,.nilCheck (.tmp 7),none⟩,⟨some 16,.fieldAddr 147 (.tmp 15) 7,none⟩,⟨none,.store 4 (.tmp 16) (.tmp 14),none⟩]
def c111_r1:List SOp:=[⟨some 17,.move (.tmp 0),none⟩,⟨some 18,.nilCheck (.tmp 17),none⟩,⟨some 19,.fieldAddr 147 (.tmp 18) 4,none⟩,⟨some 20,.load 4 (.tmp 19),none⟩]
def c111_r2:List SOp:=[⟨some 21,.move (.tmp 2),none⟩,⟨some 22,.move (.tmp 21),none⟩,⟨some 23,.move (.tmp 0),some (some 22,true)⟩,⟨some 24,.nilCheck (.tmp 23),some (some 22,true)⟩,⟨some 25,.fieldAddr 147 (.tmp 24) 5,some (some 22,true)⟩,⟨some 26,.load 145 (.tmp 25),some (some 22,true)⟩,⟨some 27,.binOp .eql 145 (.tmp 26) (.const (.pointer none)) 145,some (some 22,true)⟩,⟨some 28,.pick (.tmp 22) (.tmp 27) (.const (.bool false)),none⟩]
def c111_r3:List SOp:=[⟨some 29,.move (.tmp 0),none⟩,⟨some 30,.move (.tmp 0),none⟩,⟨some 31,.move (.tmp 1),none⟩,⟨some 32,.build 181 #[(0, (.tmp 31))],none⟩,⟨some 33,.box 181 (.tmp 32),none⟩,⟨some 34,.nilCheck (.tmp 29),none⟩,⟨some 35,.fieldAddr 147 (.tmp 34) 5,none⟩,⟨none,.store 145 (.tmp 35) (.tmp 33),none⟩,⟨some 36,.nilCheck (.tmp 30),none⟩,⟨some 37,.fieldAddr 147 (.tmp 36) 6,none⟩,⟨none,.store 3 (.tmp 37) (.const (.int .i64 1)),none⟩]
def c111_r4:List SOp:=[⟨some 38,.move (.tmp 0),none⟩,⟨some 39,.nilCheck (.tmp 38),none⟩,⟨some 40,.fieldAddr 147 (.tmp 39) 5,none⟩,⟨some 6,.assign (.tmp 40),none⟩]
def c111_r5:List SOp:=[⟨some 41,.move (.tmp 0),none⟩,⟨some 42,.nilCheck (.tmp 41),none⟩,⟨some 43,.fieldAddr 147 (.tmp 42) 6,none⟩,⟨none,.store 3 (.tmp 43) (.const (.int .i64 0)),none⟩]
def c111_r6:List SOp:=[⟨some 44,.move (.tmp 6),none⟩,⟨some 45,.nilCheck (.tmp 44),none⟩,⟨some 46,.load 145 (.tmp 45),none⟩,⟨some 47,.binOp .neq 145 (.tmp 46) (.const (.pointer none)) 145,none⟩]
def c111_r7:List SOp:=[⟨some 48,.move (.tmp 6),none⟩,⟨some 49,.nilCheck (.tmp 48),none⟩,⟨some 50,.load 145 (.tmp 49),none⟩,⟨some 51,.nilCheck (.tmp 50),none⟩,⟨some 52,.fieldAddr 181 (.tmp 51) 0,none⟩,⟨some 53,.load 3 (.tmp 52),none⟩,⟨some 54,.move (.tmp 0),none⟩,⟨some 55,.nilCheck (.tmp 54),none⟩,⟨some 56,.fieldAddr 147 (.tmp 55) 3,none⟩,⟨some 57,.load 3 (.tmp 56),none⟩,⟨some 58,.binOp .add 3 (.tmp 53) (.tmp 57) 3,none⟩,⟨some 59,.move (.tmp 1),none⟩,⟨some 60,.binOp .gtr 3 (.tmp 58) (.tmp 59) 3,none⟩]
def c111_r8:List SOp:=[⟨some 61,.move (.tmp 6),none⟩,⟨some 62,.nilCheck (.tmp 61),none⟩,⟨some 63,.load 145 (.tmp 62),none⟩,⟨some 64,.nilCheck (.tmp 63),none⟩,⟨some 65,.fieldAddr 181 (.tmp 64) 1,none⟩,⟨some 6,.assign (.tmp 65),none⟩]
def c111_r9:List SOp:=[⟨some 66,.move (.tmp 0),none⟩,⟨some 67,.nilCheck (.tmp 66),none⟩,⟨some 68,.fieldAddr 147 (.tmp 67) 6,none⟩,⟨some 69,.load 3 (.tmp 68),none⟩,⟨some 70,.binOp .add 3 (.tmp 69) (.const (.int .i64 1)) 3,none⟩,⟨some 71,.nilCheck (.tmp 66),none⟩,⟨some 72,.fieldAddr 147 (.tmp 71) 6,none⟩,⟨none,.store 3 (.tmp 72) (.tmp 70),none⟩]
def c111_r10:List SOp:=[⟨some 73,.move (.tmp 6),none⟩,⟨some 74,.move (.tmp 6),none⟩,⟨some 75,.nilCheck (.tmp 74),none⟩,⟨some 76,.load 145 (.tmp 75),none⟩,⟨some 77,.nilCheck (.tmp 76),none⟩,⟨some 78,.fieldAddr 181 (.tmp 77) 1,none⟩,⟨some 79,.load 145 (.tmp 78),none⟩,⟨some 80,.nilCheck (.tmp 73),none⟩,⟨none,.store 145 (.tmp 80) (.tmp 79),none⟩]
def c111_l6:SC:=(.seq (.seq (.reg c111_r6 none (some [0,1,2,6,47])) (.cond (.tmp 47) .skip (.exit 0) (some [0,1,2,6]))) (.block 1 (.seq (.reg c111_r7 none (some [0,1,2,6,60])) (.cond (.tmp 60) (.seq (.reg c111_r8 none (some [0,1,2,6])) (.reg c111_r9 none (some [0,1,2,6]))) (.reg c111_r10 none (some [0,1,2,6])) (some [0,1,2,6])))))
def c111_r11:List SOp:=[⟨some 81,.move (.tmp 2),none⟩,⟨some 82,.move (.tmp 81),none⟩,⟨some 83,.move (.tmp 1),some (some 82,true)⟩,⟨some 84,.move (.tmp 0),some (some 82,true)⟩,⟨some 85,.nilCheck (.tmp 84),some (some 82,true)⟩,⟨some 86,.fieldAddr 147 (.tmp 85) 3,some (some 82,true)⟩,⟨some 87,.load 3 (.tmp 86),some (some 82,true)⟩,⟨some 88,.binOp .add 3 (.tmp 83) (.tmp 87) 3,some (some 82,true)⟩,⟨some 89,.move (.tmp 1),some (some 82,true)⟩,⟨some 90,.binOp .gtr 3 (.tmp 88) (.tmp 89) 3,some (some 82,true)⟩,⟨some 91,.pick (.tmp 82) (.tmp 90) (.const (.bool false)),none⟩]
def c111_r12:List SOp:=[⟨some 92,.move (.tmp 6),none⟩,⟨some 93,.move (.tmp 1),none⟩,⟨some 94,.build 181 #[(0, (.tmp 93))],none⟩,⟨some 95,.box 181 (.tmp 94),none⟩,⟨some 96,.nilCheck (.tmp 92),none⟩,⟨none,.store 145 (.tmp 96) (.tmp 95),none⟩]
def c111_r13:List SOp:=[⟨some 97,.move (.tmp 0),none⟩,⟨some 98,.nilCheck (.tmp 97),none⟩,⟨some 99,.fieldAddr 147 (.tmp 98) 6,none⟩,⟨some 100,.load 3 (.tmp 99),none⟩,⟨some 101,.binOp .add 3 (.tmp 100) (.const (.int .i64 1)) 3,none⟩,⟨some 102,.nilCheck (.tmp 97),none⟩,⟨some 103,.fieldAddr 147 (.tmp 102) 6,none⟩,⟨none,.store 3 (.tmp 103) (.tmp 101),none⟩]
def c111:SC:=(.seq (.reg c111_r0 none (some [0,1,2])) (.seq (.seq (.reg c111_r1 none (some [0,1,2,20])) (.cond (.tmp 20) (.seq (.seq (.reg c111_r2 none (some [0,1,28])) (.cond (.tmp 28) (.reg c111_r3 none (some [])) .skip (some []))) .ret) .skip (some [0,1,2]))) (.seq (.reg c111_r4 none (some [0,1,2,6])) (.seq (.reg c111_r5 none (some [0,1,2,6])) (.seq (.block 0 (.loop c111_l6 (some [0,1,2,6]))) (.seq (.reg c111_r11 none (some [0,1,6,91])) (.cond (.tmp 91) (.seq (.reg c111_r12 none (some [0])) (.reg c111_r13 none (some []))) .skip (some []))))))))
theorem c111_eq : ∃ code, Try.f111.body = some code ∧ compile H111 code = c111 :=⟨_,rfl,by kernel_rfl⟩
theorem c111_fn : Try.prog.funcs[111]? = some Try.f111:=by kernel_rfl
theorem c111_rs : Try.f111.results.toList = []:=by kernel_rfl
theorem c111_ok : fnB Try.prog H111 Try.f111 = true:=by kernel_rfl
theorem c111_nt : Try.f111.ntmps = 104:=by kernel_rfl
def H112:Hint:=⟨[(15,[2]),(6,[1,2,3,4]),(14,[1,2,3,4]),(2000082,[1,2,3,4]),(13,[1,2,3,4,82]),(10,[1,2,3,4,5,6]),(12,[1,2,3,4,5,6]),(11,[1,2,3,4,5,6,7]),(2000026,[1,2,3,4,5,6]),(9,[1,2,3,4,5,6,26]),(1000009,[1,2,3,4,5,6]),(8,[1,2,3,4,5,6]),(7,[1,2,3,4,5]),(2000019,[1,2,3,4]),(5,[1,2,3,4,19]),(1000005,[1,2,3,4]),(4,[1,2,3,4]),(3,[1,2,3]),(2,[2]),(2000010,[1,2]),(1,[1,2,10]),(0,[1,2])],[(14,[(1,14),(3,14),(7,14),(17,14),(21,14)])]⟩
def c112_r0:List SOp:=[⟨some 1,.box 102 (.tmp 0),none⟩,⟨some 2,.alloc 102,none⟩]
def c112_r1:List SOp:=[⟨some 8,.load 102 (.tmp 1),none⟩,⟨some 9,.call ⟨.value (.func 123),#[.tmp 8],#[102]⟩,none⟩,⟨some 10,.unOp .not 4 (.tmp 9),none⟩]
def c112_r2:List SOp:=[⟨some 11,.build 102 #[],none⟩,⟨none,.store 102 (.tmp 2) (.tmp 11),none⟩]
def c112_r3:List SOp:=[⟨some 12,.fieldAddr 102 (.tmp 1) 0,none⟩,⟨some 13,.load 4 (.tmp 12),none⟩,⟨some 14,.build 102 #[(0, (.tmp 13))],none⟩,⟨some 3,.alloc 102,none⟩,⟨none,.store 102 (.tmp 3) (.tmp 14),none⟩]
def c112_r4:List SOp:=[⟨some 4,.assign (.const (.int .i64 0)),none⟩]
def c112_r5:List SOp:=[⟨some 15,.move (.tmp 4),none⟩,⟨some 16,.fieldAddr 102 (.tmp 1) 1,none⟩,⟨some 17,.load 100 (.tmp 16),none⟩,⟨some 18,.call ⟨.builtin .len, #[.tmp 17],#[100]⟩,none⟩,⟨some 19,.binOp .lss 3 (.tmp 15) (.tmp 18) 3,none⟩]
def c112_r7:List SOp:=[⟨some 5,.assign (.const (.bool false)),none⟩]
def c112_r8:List SOp:=[⟨some 6,.assign (.const (.int .i64 0)),none⟩]
def c112_r9:List SOp:=[⟨some 22,.move (.tmp 6),none⟩,⟨some 23,.fieldAddr 102 (.tmp 1) 1,none⟩,⟨some 24,.load 100 (.tmp 23),none⟩,⟨some 25,.call ⟨.builtin .len, #[.tmp 24],#[100]⟩,none⟩,⟨some 26,.binOp .lss 3 (.tmp 22) (.tmp 25) 3,none⟩]
def c112_r11:List SOp:=[⟨some 29,.fieldAddr 102 (.tmp 1) 1,none⟩,⟨some 30,.load 100 (.tmp 29),none⟩,⟨some 31,.move (.tmp 4),none⟩,⟨some 32,.indexAddr 100 (.tmp 30) (.tmp 31),none⟩,⟨some 33,.load 158 (.tmp 32),none⟩,⟨some 34,.fieldAddr 102 (.tmp 1) 1,none⟩,⟨some 35,.load 100 (.tmp 34),none⟩,⟨some 36,.move (.tmp 6),none⟩,⟨some 37,.indexAddr 100 (.tmp 35) (.tmp 36),none⟩,⟨some 38,.load 158 (.tmp 37),none⟩,⟨some 39,.call ⟨.value (.func 124),#[.tmp 33,.tmp 38],#[158,158]⟩,none⟩,⟨some 40,.move (.tmp 39),none⟩,⟨some 41,.fieldAddr 102 (.tmp 1) 1,some (some 40,true)⟩,⟨some 42,.load 100 (.tmp 41),some (some 40,true)⟩,⟨some 43,.move (.tmp 6),some (some 40,true)⟩,⟨some 44,.indexAddr 100 (.tmp 42) (.tmp 43),some (some 40,true)⟩,⟨some 45,.load 158 (.tmp 44),some (some 40,true)⟩,⟨some 46,.fieldAddr 102 (.tmp 1) 1,some (some 40,true)⟩,⟨some 47,.load 100 (.tmp 46),some (some 40,true)⟩,⟨some 48,.move (.tmp 4),some (some 40,true)⟩,⟨some 49,.indexAddr 100 (.tmp 47) (.tmp 48),some (some 40,true)⟩,⟨some 50,.load 158 (.tmp 49),some (some 40,true)⟩,⟨some 51,.call ⟨.value (.func 124),#[.tmp 45,.tmp 50],#[158,158]⟩,some (some 40,true)⟩,⟨some 52,.pick (.tmp 40) (.tmp 51) (.const (.bool false)),none⟩,⟨some 7,.assign (.tmp 52),none⟩]
def c112_r12:List SOp:=[⟨some 53,.move (.tmp 5),none⟩,⟨some 54,.move (.tmp 53),none⟩,⟨some 55,.move (.tmp 6),some (some 54,false)⟩,⟨some 56,.move (.tmp 4),some (some 54,false)⟩,⟨some 57,.binOp .neq 3 (.tmp 55) (.tmp 56) 3,some (some 54,false)⟩,⟨some 58,.move (.tmp 57),some (some 54,false)⟩,⟨some 59,.fieldAddr 102 (.tmp 1) 1,some (some 58,true)⟩,⟨some 60,.load 100 (.tmp 59),some (some 58,true)⟩,⟨some 61,.move (.tmp 6),some (some 58,true)⟩,⟨some 62,.indexAddr 100 (.tmp 60) (.tmp 61),some (some 58,true)⟩,⟨some 63,.load 158 (.tmp 62),some (some 58,true)⟩,⟨some 64,.fieldAddr 102 (.tmp 1) 1,some (some 58,true)⟩,⟨some 65,.load 100 (.tmp 64),some (some 58,true)⟩,⟨some 66,.move (.tmp 4),some (some 58,true)⟩,⟨some 67,.indexAddr 100 (.tmp 65) (.tmp 66),some (some 58,true)⟩,⟨some 68,.load 158 (.tmp 67),some (some 58,true)⟩,⟨some 69,.call ⟨.value (.func 124),#[.tmp 63,.tmp 68],#[158,158]⟩,some (some 58,true)⟩,⟨some 70,.pick (.tmp 58) (.tmp 69) (.const (.bool false)),some (some 54,false)⟩,⟨some 71,.move (.tmp 70),some (some 54,false)⟩,⟨some 72,.move (.tmp 7),some (some 71,true)⟩,⟨some 73,.unOp .not 4 (.tmp 72),some (some 71,true)⟩,⟨some 74,.move (.tmp 73),some (some 71,true)⟩,⟨some 75,.move (.tmp 6),some (some 74,false)⟩,⟨some 76,.move (.tmp 4),some (some 74,false)⟩,⟨some 77,.binOp .lss 3 (.tmp 75) (.tmp 76) 3,some (some 74,false)⟩,⟨some 78,.pick (.tmp 74) (.const (.bool true)) (.tmp 77),some (some 71,true)⟩,⟨some 79,.pick (.tmp 71) (.tmp 78) (.const (.bool false)),some (some 54,false)⟩,⟨some 80,.pick (.tmp 54) (.const (.bool true)) (.tmp 79),none⟩,⟨some 5,.assign (.tmp 80),none⟩]
def c112_r10:List SOp:=[⟨some 27,.move (.tmp 6),none⟩,⟨some 28,.binOp .add 3 (.tmp 27) (.const (.int .i64 1)) 3,none⟩,⟨some 6,.assign (.tmp 28),none⟩]
def c112_l9:SC:=(.seq (.seq (.reg c112_r9 none (some [1,2,3,4,5,6,26])) (.cond (.tmp 26) .skip (.exit 2) (some [1,2,3,4,5,6]))) (.seq (.block 3 (.seq (.reg c112_r11 none (some [1,2,3,4,5,6,7])) (.reg c112_r12 none (some [1,2,3,4,5,6])))) (.reg c112_r10 none (some [1,2,3,4,5,6]))))
def c112_r13:List SOp:=[⟨some 81,.move (.tmp 5),none⟩,⟨some 82,.unOp .not 4 (.tmp 81),none⟩]
def c112_r14:List SOp:=[⟨some 83,.fieldAddr 102 (.tmp 3) 1,none⟩,⟨some 84,.load 100 (.tmp 83),none⟩,⟨some 85,.fieldAddr 102 (.tmp 1) 1,none⟩,⟨some 86,.load 100 (.tmp 85),none⟩,⟨some 87,.move (.tmp 4),none⟩,⟨some 88,.indexAddr 100 (.tmp 86) (.tmp 87),none⟩,⟨some 89,.fieldAddr 158 (.tmp 88) 0,none⟩,⟨some 90,.load 156 (.tmp 89),none⟩,⟨some 91,.fieldAddr 102 (.tmp 1) 1,none⟩,⟨some 92,.load 100 (.tmp 91),none⟩,⟨some 93,.move (.tmp 4),none⟩,⟨some 94,.indexAddr 100 (.tmp 92) (.tmp 93),none⟩,⟨some 95,.fieldAddr 158 (.tmp 94) 1,none⟩,⟨some 96,.load 3 (.tmp 95),none⟩,⟨some 97,.call ⟨.value (.func 125),#[.tmp 96],#[3]⟩,none⟩,⟨some 98,.binOp .and 156 (.tmp 90) (.tmp 97) 156,none⟩,⟨some 99,.fieldAddr 102 (.tmp 1) 1,none⟩,⟨some 100,.load 100 (.tmp 99),none⟩,⟨some 101,.move (.tmp 4),none⟩,⟨some 102,.indexAddr 100 (.tmp 100) (.tmp 101),none⟩,⟨some 103,.fieldAddr 158 (.tmp 102) 1,none⟩,⟨some 104,.load 3 (.tmp 103),none⟩,⟨some 105,.build 158 #[(0, (.tmp 98)), (1, (.tmp 104))],none⟩,⟨some 106,.buildSlice 100 1 #[(0, (.tmp 105))],none⟩,⟨some 107,.call ⟨.builtin .append, #[.tmp 84,.tmp 106],#[100,100]⟩,none⟩,⟨some 108,.fieldAddr 102 (.tmp 3) 1,none⟩,⟨none,.store 100 (.tmp 108) (.tmp 107),none⟩]
def c112_r6:List SOp:=[⟨some 20,.move (.tmp 4),none⟩,⟨some 21,.binOp .add 3 (.tmp 20) (.const (.int .i64 1)) 3,none⟩,⟨some 4,.assign (.tmp 21),none⟩]
def c112_l5:SC:=(.seq (.seq (.reg c112_r5 none (some [1,2,3,4,19])) (.cond (.tmp 19) .skip (.exit 0) (some [1,2,3,4]))) (.seq (.block 1 (.seq (.reg c112_r7 none (some [1,2,3,4,5])) (.seq (.seq (.reg c112_r8 none (some [1,2,3,4,5,6])) (.block 2 (.loop c112_l9 (some [1,2,3,4,5,6])))) (.seq (.reg c112_r13 none (some [1,2,3,4,82])) (.cond (.tmp 82) (.reg c112_r14 (some [(1, 14), (3, 14), (7, 14), (17, 14), (21, 14)]) (some [1,2,3,4])) .skip (some [1,2,3,4])))))) (.reg c112_r6 none (some [1,2,3,4]))))
def c112_r15:List SOp:=[⟨some 109,.load 102 (.tmp 3),none⟩,⟨none,.store 102 (.tmp 2) (.tmp 109),none⟩]
def c112:SC:=(.seq (.reg c112_r0 none (some [1,2])) (.seq (.seq (.reg c112_r1 none (some [1,2,10])) (.cond (.tmp 10) (.seq (.reg c112_r2 none (some [2])) .ret) .skip (some [1,2]))) (.seq (.reg c112_r3 none (some [1,2,3])) (.seq (.seq (.reg c112_r4 none (some [1,2,3,4])) (.block 0 (.loop c112_l5 (some [1,2,3,4])))) (.seq (.reg c112_r15 none (some [2])) .ret)))))
theorem c112_eq : ∃ code, Try.f112.body = some code ∧ compile H112 code = c112 :=⟨_,rfl,by kernel_rfl⟩
theorem c112_fn : Try.prog.funcs[112]? = some Try.f112:=by kernel_rfl
theorem c112_rs : Try.f112.results.toList = [.cell 2 102]:=by kernel_rfl
theorem c112_ok : fnB Try.prog H112 Try.f112 = true:=by kernel_rfl
theorem c112_nt : Try.f112.ntmps = 110:=by kernel_rfl
def H114:Hint:=⟨[(1,[2]),(0,[0])],[]⟩
def c114_r0:List SOp:=[⟨some 2,.assign (.const (.bool false)),none⟩]
def c114_r1:List SOp:=[⟨some 3,.move (.tmp 0),none⟩,⟨some 4,.nilCheck (.tmp 3),none⟩,⟨some 5,.fieldAddr 166 (.tmp 4) 1,none⟩,⟨some 6,.load 84 (.tmp 5),none⟩,⟨some 7,.call ⟨.value (.func 76),#[.tmp 6],#[84]⟩,none⟩,⟨some 2,.assign (.tmp 7),none⟩]
def c114:SC:=(.seq (.reg c114_r0 none (some [0])) (.seq (.reg c114_r1 none (some [2])) .ret))
theorem c114_eq : ∃ code, Try.f114.body = some code ∧ compile H114 code = c114 :=⟨_,rfl,by kernel_rfl⟩
theorem c114_fn : Try.prog.funcs[114]? = some Try.f114:=by kernel_rfl
theorem c114_rs : Try.f114.results.toList = [.tmp 2]:=by kernel_rfl
theorem c114_ok : fnB Try.prog H114 Try.f114 = true:=by kernel_rfl
theorem c114_nt : Try.f114.ntmps = 8:=by kernel_rfl
def H115:Hint:=⟨[(8,[2]),(7,[3,6,7,8]),(6,[3,6,7,8]),(2000015,[3,6,7,8]),(5,[3,5,6,7,8,15]),(4,[3,5,6,7,8]),(2000009,[3,6,7,8]),(3,[3,6,7,8,9]),(1000003,[3,6,7,8]),(2,[3,6,7,8]),(1,[0,3]),(0,[0])],[]⟩
def c115_r0:List SOp:=[⟨some 2,.assign (.const (.int .i64 0)),none⟩]
def c115_r1:List SOp:=[⟨some 3,.assign (.const (.int .i64 0)),none⟩]
def c115_r2:List SOp:=[⟨some 6,.move (.tmp 0),none⟩,⟨some 7,.call ⟨.builtin .len, #[.tmp 6],#[94]⟩,none⟩,⟨some 8,.move (.const (.int .i64 0)),none⟩]
def c115_r3:List SOp:=[⟨some 9,.binOp .lss 3 (.tmp 8) (.tmp 7) 3,none⟩]
def c115_r4:List SOp:=[⟨some 10,.indexAddr 94 (.tmp 6) (.tmp 8),none⟩,⟨some 11,.load 99 (.tmp 10),none⟩,⟨some 5,.alloc 99,none⟩,⟨none,.store 99 (.tmp 5) (.tmp 11),none⟩]
def c115_r5:List SOp:=[⟨some 12,.fieldAddr 99 (.tmp 5) 3,none⟩,⟨some 13,.load 3 (.tmp 12),none⟩,⟨some 14,.move (.tmp 3),none⟩,⟨some 15,.call ⟨.value (.func 78),#[.tmp 13,.tmp 14],#[3,3]⟩,none⟩]
def c115_r6:List SOp:=[⟨some 16,.fieldAddr 99 (.tmp 5) 3,none⟩,⟨some 17,.load 3 (.tmp 16),none⟩,⟨some 3,.assign (.tmp 17),none⟩]
def c115_r7:List SOp:=[⟨some 18,.binOp .add 3 (.tmp 8) (.const (.int .i64 1)) 3,none⟩,⟨some 8,.move (.tmp 18),none⟩]
def c115_l3:SC:=(.seq (.reg c115_r3 none (some [3,6,7,8,9])) (.seq (.cond (.tmp 9) .skip (.exit 0) (some [3,6,7,8])) (.seq (.block 1 (.seq (.reg c115_r4 none (some [3,5,6,7,8])) (.seq (.reg c115_r5 none (some [3,5,6,7,8,15])) (.cond (.tmp 15) (.reg c115_r6 none (some [3,6,7,8])) .skip (some [3,6,7,8]))))) (.reg c115_r7 none (some [3,6,7,8])))))
def c115_r8:List SOp:=[⟨some 19,.move (.tmp 3),none⟩,⟨some 2,.assign (.tmp 19),none⟩]
def c115:SC:=(.seq (.reg c115_r0 none (some [0])) (.seq (.reg c115_r1 none (some [0,3])) (.seq (.seq (.reg c115_r2 none (some [3,6,7,8])) (.block 0 (.loop c115_l3 (some [3,6,7,8])))) (.seq (.reg c115_r8 none (some [2])) .ret))))
theorem c115_eq : ∃ code, Try.f115.body = some code ∧ compile H115 code = c115 :=⟨_,rfl,by kernel_rfl⟩
theorem c115_fn : Try.prog.funcs[115]? = some Try.f115:=by kernel_rfl
theorem c115_rs : Try.f115.results.toList = [.tmp 2]:=by kernel_rfl
theorem c115_ok : fnB Try.prog H115 Try.f115 = true:=by kernel_rfl
theorem c115_nt : Try.f115.ntmps = 20:=by kernel_rfl
def H116:Hint:=⟨[(2,[2]),(1,[0]),(0,[0])],[]⟩
def c116_r0:List SOp:=[⟨some 2,.assign (.const (.bool false)),none⟩]
def c116_r1:List SOp:=[⟨some 3,.move (.tmp 0),none⟩,⟨some 4,.nilCheck (.tmp 3),none⟩,⟨some 5,.fieldAddr 166 (.tmp 4) 1,none⟩,⟨some 6,.load 84 (.tmp 5),none⟩,⟨some 7,.move (.tmp 0),none⟩,⟨some 8,.nilCheck (.tmp 7),none⟩,⟨some 9,.fieldAddr 166 (.tmp 8) 2,none⟩,⟨some 10,.load 68 (.tmp 9),none⟩,⟨some 11,.call ⟨.value (.func 73),#[.tmp 6,.tmp 10],#[84,68]⟩,none⟩]
def c116_r2:List SOp:=[⟨some 12,.move (.tmp 0),none⟩,⟨some 13,.nilCheck (.tmp 12),none⟩,⟨some 14,.fieldAddr 166 (.tmp 13) 1,none⟩,⟨some 15,.load 84 (.tmp 14),none⟩,⟨some 16,.call ⟨.value (.func 76),#[.tmp 15],#[84]⟩,none⟩,⟨some 2,.assign (.tmp 16),none⟩]
def c116:SC:=(.seq (.reg c116_r0 none (some [0])) (.seq (.reg c116_r1 none (some [0])) (.seq (.reg c116_r2 none (some [2])) .ret)))
theorem c116_eq : ∃ code, Try.f116.body = some code ∧ compile H116 code = c116 :=⟨_,rfl,by kernel_rfl⟩
theorem c116_fn : Try.prog.funcs[116]? = some Try.f116:=by kernel_rfl
theorem c116_rs : Try.f116.results.toList = [.tmp 2]:=by kernel_rfl
theorem c116_ok : fnB Try.prog H116 Try.f116 = true:=by kernel_rfl
theorem c116_nt : Try.f116.ntmps = 17:=by kernel_rfl
def H117:Hint:=⟨[(1,[2]),(0,[1])],[]⟩
def c117_r0:List SOp:=[⟨some 1,.box 91 (.tmp 0),none⟩,⟨some 2,.assign (.const .nilFunc),none⟩]
def c117_r1:List SOp:=[⟨some 3,.makeFunc (.func 126) #[] #[.tmp 1],none⟩,⟨some 2,.assign (.tmp 3),none⟩]
def c117:SC:=(.seq (.reg c117_r0 none (some [1])) (.seq (.reg c117_r1 none (some [2])) .ret))
theorem c117_eq : ∃ code, Try.f117.body = some code ∧ compile H117 code = c117 :=⟨_,rfl,by kernel_rfl⟩
theorem c117_fn : Try.prog.funcs[117]? = some Try.f117:=by kernel_rfl
theorem c117_rs : Try.f117.results.toList = [.tmp 2]:=by kernel_rfl
theorem c117_ok : fnB Try.prog H117 Try.f117 = true:=by kernel_rfl
theorem c117_nt : Try.f117.ntmps = 4:=by kernel_rfl
def H122:Hint:=⟨[(2,[6]),(1,[1,3,7]),(0,[1,2,3])],[]⟩
def c122_r0:List SOp:=[⟨some 3,.box 52 (.tmp 0),none⟩,⟨some 6,.assign (.const (.bool false)),none⟩]
def c122_r1:List SOp:=[⟨some 8,.move (.tmp 2),none⟩,⟨some 9,.fieldAddr 52 (.tmp 3) 6,none⟩,⟨some 10,.load 3 (.tmp 9),none⟩,⟨some 11,.binOp .add 3 (.tmp 8) (.tmp 10) 3,none⟩,⟨some 7,.assign (.tmp 11),none⟩]
def c122_r2:List SOp:=[⟨some 12,.move (.tmp 1),none⟩,⟨some 13,.fieldAddr 52 (.tmp 3) 0,none⟩,⟨some 14,.load 9 (.tmp 13),none⟩,⟨some 15,.call ⟨.builtin .len, #[.tmp 14],#[9]⟩,none⟩,⟨some 16,.binOp .sub 3 (.tmp 12) (.tmp 15) 3,none⟩,⟨some 17,.move (.tmp 7),none⟩,⟨some 18,.binOp .geq 3 (.tmp 16) (.tmp 17) 3,none⟩,⟨some 19,.move (.tmp 18),none⟩,⟨some 20,.fieldAddr 52 (.tmp 3) 7,some (some 19,true)⟩,⟨some 21,.load 3 (.tmp 20),some (some 19,true)⟩,⟨some 22,.binOp .leq 3 (.tmp 21) (.const (.int .i64 0)) 3,some (some 19,true)⟩,⟨some 23,.move (.tmp 22),some (some 19,true)⟩,⟨some 24,.move (.tmp 1),some (some 23,false)⟩,⟨some 25,.move (.tmp 7),some (some 23,false)⟩,⟨some 26,.fieldAddr 52 (.tmp 3) 7,some (some 23,false)⟩,⟨some 27,.load 3 (.tmp 26),some (some 23,false)⟩,⟨some 28,.binOp .add 3 (.tmp 25) (.tmp 27) 3,some (some 23,false)⟩,⟨some 29,.binOp .leq 3 (.tmp 24) (.tmp 28) 3,some (some 23,false)⟩,⟨some 30,.pick (.tmp 23) (.const (.bool true)) (.tmp 29),some (some 19,true)⟩,⟨some 31,.pick (.tmp 19) (.tmp 30) (.const (.bool false)),none⟩,⟨some 6,.assign (.tmp 31),none⟩]
def c122:SC:=(.seq (.reg c122_r0 none (some [1,2,3])) (.seq (.reg c122_r1 none (some [1,3,7])) (.seq (.reg c122_r2 none (some [6])) .ret)))
theorem c122_eq : ∃ code, Try.f122.body = some code ∧ compile H122 code = c122 :=⟨_,rfl,by kernel_rfl⟩
theorem c122_fn : Try.prog.funcs[122]? = some Try.f122:=by kernel_rfl
theorem c122_rs : Try.f122.results.toList = [.tmp 6]:=by kernel_rfl
theorem c122_ok : fnB Try.prog H122 Try.f122 = true:=by kernel_rfl
theorem c122_nt : Try.f122.ntmps = 32:=by kernel_rfl
def H123:Hint:=⟨[(6,[2]),(3,[1,3]),(5,[2]),(2000026,[1,3]),(4,[1,3,26]),(2000008,[1,3]),(2,[1,3,8]),(1000002,[1,3]),(1,[1,3]),(0,[1])],[]⟩
def c123_r0:List SOp:=[⟨some 1,.box 102 (.tmp 0),none⟩,⟨some 2,.assign (.const (.bool false)),none⟩]
def c123_r1:List SOp:=[⟨some 3,.assign (.const (.int .i64 0)),none⟩]
def c123_r2:List SOp:=[⟨some 4,.move (.tmp 3),none⟩,⟨some 5,.fieldAddr 102 (.tmp 1) 1,none⟩,⟨some 6,.load 100 (.tmp 5),none⟩,⟨some 7,.call ⟨.builtin .len, #[.tmp 6],#[100]⟩,none⟩,⟨some 8,.binOp .lss 3 (.tmp 4) (.tmp 7) 3,none⟩]
def c123_r4:List SOp:=[⟨some 11,.fieldAddr 102 (.tmp 1) 1,none⟩,⟨some 12,.load 100 (.tmp 11),none⟩,⟨some 13,.move (.tmp 3),none⟩,⟨some 14,.indexAddr 100 (.tmp 12) (.tmp 13),none⟩,⟨some 15,.fieldAddr 158 (.tmp 14) 1,none⟩,⟨some 16,.load 3 (.tmp 15),none⟩,⟨some 17,.binOp .lss 3 (.tmp 16) (.const (.int .i64 0)) 3,none⟩,⟨some 18,.move (.tmp 17),none⟩,⟨some 19,.fieldAddr 102 (.tmp 1) 1,some (some 18,false)⟩,⟨some 20,.load 100 (.tmp 19),some (some 18,false)⟩,⟨some 21,.move (.tmp 3),some (some 18,false)⟩,⟨some 22,.indexAddr 100 (.tmp 20) (.tmp 21),some (some 18,false)⟩,⟨some 23,.fieldAddr 158 (.tmp 22) 1,some (some 18,false)⟩,⟨some 24,.load 3 (.tmp 23),some (some 18,false)⟩,⟨some 25,.binOp .gtr 3 (.tmp 24) (.const (.int .i64 32)) 3,some (some 18,false)⟩,⟨some 26,.pick (.tmp 18) (.const (.bool true)) (.tmp 25),none⟩]
def c123_r5:List SOp:=[⟨some 2,.assign (.const (.bool false)),none⟩]
def c123_r3:List SOp:=[⟨some 9,.move (.tmp 3),none⟩,⟨some 10,.binOp .add 3 (.tmp 9) (.const (.int .i64 1)) 3,none⟩,⟨some 3,.assign (.tmp 10),none⟩]
def c123_l2:SC:=(.seq (.seq (.reg c123_r2 none (some [1,3,8])) (.cond (.tmp 8) .skip (.exit 0) (some [1,3]))) (.seq (.block 1 (.seq (.reg c123_r4 none (some [1,3,26])) (.cond (.tmp 26) (.seq (.reg c123_r5 none (some [2])) .ret) .skip (some [1,3])))) (.reg c123_r3 none (some [1,3]))))
def c123_r6:List SOp:=[⟨some 27,.fieldAddr 102 (.tmp 1) 1,none⟩,⟨some 28,.load 100 (.tmp 27),none⟩,⟨some 29,.call ⟨.builtin .len, #[.tmp 28],#[100]⟩,none⟩,⟨some 30,.binOp .leq 3 (.tmp 29) (.const (.int .i64 4)) 3,none⟩,⟨some 2,.assign (.tmp 30),none⟩]
def c123:SC:=(.seq (.reg c123_r0 none (some [1])) (.seq (.seq (.reg c123_r1 none (some [1,3])) (.block 0 (.loop c123_l2 (some [1,3])))) (.seq (.reg c123_r6 none (some [2])) .ret)))
theorem c123_eq : ∃ code, Try.f123.body = some code ∧ compile H123 code = c123 :=⟨_,rfl,by kernel_rfl⟩
theorem c123_fn : Try.prog.funcs[123]? = some Try.f123:=by kernel_rfl
theorem c123_rs : Try.f123.results.toList = [.tmp 2]:=by kernel_rfl
theorem c123_ok : fnB Try.prog H123 Try.f123 = true:=by kernel_rfl
theorem c123_nt : Try.f123.ntmps = 31:=by kernel_rfl
def H124:Hint:=⟨[(1,[4]),(0,[2,3])],[]⟩
def c124_r0:List SOp:=[⟨some 2,.box 158 (.tmp 0),none⟩,⟨some 3,.box 158 (.tmp 1),none⟩,⟨some 4,.assign (.const (.bool false)),none⟩]
def c124_r1:List SOp:=[⟨some 5,.fieldAddr 158 (.tmp 2) 1,none⟩,⟨some 6,.load 3 (.tmp 5),none⟩,⟨some 7,.fieldAddr 158 (.tmp 3) 1,none⟩,⟨some 8,.load 3 (.tmp 7),none⟩,⟨some 9,.binOp .leq 3 (.tmp 6) (.tmp 8) 3,none⟩,⟨some 10,.move (.tmp 9),none⟩,⟨some 11,.load 158 (.tmp 2),some (some 10,true)⟩,⟨some 12,.fieldAddr 158 (.tmp 3) 0,some (some 10,true)⟩,⟨some 13,.load 156 (.tmp 12),some (some 10,true)⟩,⟨some 14,.call ⟨.value (.func 130),#[.tmp 11,.tmp 13],#[158,156]⟩,some (some 10,true)⟩,⟨some 15,.pick (.tmp 10) (.tmp 14) (.const (.bool false)),none⟩,⟨some 4,.assign (.tmp 15),none⟩]
def c124:SC:=(.seq (.reg c124_r0 none (some [2,3])) (.seq (.reg c124_r1 none (some [4])) .ret))
theorem c124_eq : ∃ code, Try.f124.body = some code ∧ compile H124 code = c124 :=⟨_,rfl,by kernel_rfl⟩
theorem c124_fn : Try.prog.funcs[124]? = some Try.f124:=by kernel_rfl
theorem c124_rs : Try.f124.results.toList = [.tmp 4]:=by kernel_rfl
theorem c124_ok : fnB Try.prog H124 Try.f124 = true:=by kernel_rfl
theorem c124_nt : Try.f124.ntmps = 16:=by kernel_rfl
def H125:Hint:=⟨[(3,[2]),(2,[2]),(2000004,[0]),(1,[0,4]),(0,[0])],[]⟩
def c125_r0:List SOp:=[⟨some 2,.assign (.const (.int .u32 0)),none⟩]
def c125_r1:List SOp:=[⟨some 3,.move (.tmp 0),none⟩,⟨some 4,.binOp .leq 3 (.tmp 3) (.const (.int .i64 0)) 3,none⟩]
def c125_r2:List SOp:=[⟨some 2,.assign (.const (.int .u32 0)),none⟩]
def c125_r3:List SOp:=[⟨some 5,.move (.tmp 0),none⟩,⟨some 6,.binOp .sub 3 (.const (.int .i64 32)) (.tmp 5) 3,none⟩,⟨some 7,.convert 3 188 (.tmp 6),none⟩,⟨some 8,.binOp .shl 156 (.const (.int .u32 4294967295)) (.tmp 7) 188,none⟩,⟨some 2,.assign (.tmp 8),none⟩]
def c125:SC:=(.seq (.reg c125_r0 none (some [0])) (.seq (.seq (.reg c125_r1 none (some [0,4])) (.cond (.tmp 4) (.seq (.reg c125_r2 none (some [2])) .ret) .skip (some [0]))) (.seq (.reg c125_r3 none (some [2])) .ret)))
theorem c125_eq : ∃ code, Try.f125.body = some code ∧ compile H125 code = c125 :=⟨_,rfl,by kernel_rfl⟩
theorem c125_fn : Try.prog.funcs[125]? = some Try.f125:=by kernel_rfl
theorem c125_rs : Try.f125.results.toList = [.tmp 2]:=by kernel_rfl
theorem c125_ok : fnB Try.prog H125 Try.f125 = true:=by kernel_rfl
theorem c125_nt : Try.f125.ntmps = 9:=by kernel_rfl
def H126:Hint:=⟨[(4,[0,8,9,10]),(2000024,[0,8,9,10]),(3,[0,8,9,10,24]),(2,[0,4,8,9,10]),(2000011,[0,8,9,10]),(1,[0,8,9,10,11]),(1000001,[0,8,9,10]),(0,[0,8,9,10])],[]⟩
def c126_r0:List SOp:=[⟨some 5,.load 91 (.tmp 1),none⟩,⟨some 6,.nilCheck (.tmp 5),none⟩,⟨some 7,.fieldAddr 163 (.tmp 6) 2,none⟩,⟨some 8,.load 161 (.tmp 7),none⟩,⟨some 9,.call ⟨.builtin .len, #[.tmp 8],#[161]⟩,none⟩,⟨some 10,.move (.const (.int .i64 0)),none⟩]
def c126_r1:List SOp:=[⟨some 11,.binOp .lss 3 (.tmp 10) (.tmp 9) 3,none⟩]
def c126_r2:List SOp:=[⟨some 12,.indexAddr 161 (.tmp 8) (.tmp 10),none⟩,⟨some 13,.load 164 (.tmp 12),none⟩,⟨some 4,.assign (.tmp 13),none⟩]
def c126_r3:List SOp:=[⟨some 14,.move (.tmp 4),none⟩,⟨some 15,.nilCheck (.tmp 14),none⟩,⟨some 16,.fieldAddr 166 (.tmp 15) 3,none⟩,⟨some 17,.load 4 (.tmp 16),none⟩,⟨some 18,.unOp .not 4 (.tmp 17),none⟩,⟨some 19,.move (.tmp 18),none⟩,⟨some 20,.move (.tmp 0),some (some 19,true)⟩,⟨some 21,.move (.tmp 4),some (some 19,true)⟩,⟨some 22,.call ⟨.value (.tmp 20),#[.tmp 21],#[164]⟩,some (some 19,true)⟩,⟨some 23,.unOp .not 4 (.tmp 22),some (some 19,true)⟩,⟨some 24,.pick (.tmp 19) (.tmp 23) (.const (.bool false)),none⟩]
def c126_r4:List SOp:=[⟨some 25,.binOp .add 3 (.tmp 10) (.const (.int .i64 1)) 3,none⟩,⟨some 10,.move (.tmp 25),none⟩]
def c126_l1:SC:=(.seq (.reg c126_r1 none (some [0,8,9,10,11])) (.seq (.cond (.tmp 11) .skip (.exit 0) (some [0,8,9,10])) (.seq (.block 1 (.seq (.reg c126_r2 none (some [0,4,8,9,10])) (.seq (.reg c126_r3 none (some [0,8,9,10,24])) (.cond (.tmp 24) .ret .skip (some [0,8,9,10]))))) (.reg c126_r4 none (some [0,8,9,10])))))
def c126:SC:=(.seq (.reg c126_r0 none (some [0,8,9,10])) (.block 0 (.loop c126_l1 (some [0,8,9,10]))))
theorem c126_eq : ∃ code, Try.f126.body = some code ∧ compile H126 code = c126 :=⟨_,rfl,by kernel_rfl⟩
theorem c126_fn : Try.prog.funcs[126]? = some Try.f126:=by kernel_rfl
theorem c126_rs : Try.f126.results.toList = []:=by kernel_rfl
theorem c126_ok : fnB Try.prog H126 Try.f126 = true:=by kernel_rfl
theorem c126_nt : Try.f126.ntmps = 26:=by kernel_rfl
def H130:Hint:=⟨[(1,[4]),(0,[1,2])],[(1,[(1,6)])]⟩
def c130_r0:List SOp:=[⟨some 2,.box 158 (.tmp 0),none⟩,⟨some 4,.assign (.const (.bool false)),none⟩]
def c130_r1:List SOp:=[⟨some 5,.fieldAddr 158 (.tmp 2) 0,none⟩,⟨some 6,.load 156 (.tmp 5),none⟩,⟨some 7,.move (.tmp 1),none⟩,⟨some 8,.binOp .xor 156 (.tmp 6) (.tmp 7) 156,none⟩,⟨some 9,.fieldAddr 158 (.tmp 2) 1,none⟩,⟨some 10,.load 3 (.tmp 9),none⟩,⟨some 11,.call ⟨.value (.func 125),#[.tmp 10],#[3]⟩,none⟩,⟨some 12,.binOp .and 156 (.tmp 8) (.tmp 11) 156,none⟩,⟨some 13,.binOp .eql 156 (.tmp 12) (.const (.int .u32 0)) 156,none⟩,⟨some 4,.assign (.tmp 13),none⟩]
def c130:SC:=(.seq (.reg c130_r0 none (some [1,2])) (.seq (.reg c130_r1 (some [(1, 6)]) (some [4])) .ret))
theorem c130_eq : ∃ code, Try.f130.body = some code ∧ compile H130 code = c130 :=⟨_,rfl,by kernel_rfl⟩
theorem c130_fn : Try.prog.funcs[130]? = some Try.f130:=by kernel_rfl
theorem c130_rs : Try.f130.results.toList = [.tmp 4]:=by kernel_rfl
theorem c130_ok : fnB Try.prog H130 Try.f130 = true:=by kernel_rfl
theorem c130_nt : Try.f130.ntmps = 14:=by kernel_rfl
end Go.AM
