/-
  Printed by program (wip/tools/print.sh): compiled code.
-/
import Derived.Test.YtfmfkpmohlhajaaGreatDoorAMb
import Derived.Test.YtfmfkpmohlhajaaGreatDoorProg
namespace Go.AM
open Go Go.Proofs
set_option maxRecDepth 100000
def H6:Hint:=⟨[(3,[0]),(2,[2,3,4]),(1,[1]),(0,[])],[]⟩
def c6_r0:List SOp:=[⟨some 0,.assign (.const (.bool false)),none⟩]
def c6_r1:List SOp:=[⟨some 5,.call ⟨.value (.func 9),#[(.const (.int .i64 0)),(.const (.int .u32 100))],#[3,28]⟩,none⟩,⟨some 6,.call ⟨.value (.func 11),#[(.const (.int .i64 0)), (.const (.int .i64 0)), (.const (.int .i64 16)), (.const (.int .u32 101)), (.const (.int .u32 5001)), (.const (.string ⟨#[97]⟩))],#[3,3,3,28,28,9]⟩,none⟩,⟨some 7,.build 32 #[(0, (.const (.int .i64 1))), (2, (.tmp 6))],none⟩,⟨some 8,.buildSlice 26 1 #[(0, (.tmp 7))],none⟩,⟨some 9,.call ⟨.builtin .append, #[.tmp 5,.tmp 8],#[26,26]⟩,none⟩,⟨some 1,.assign (.tmp 9),none⟩]
def c6_r2:List SOp:=[⟨some 11,.call ⟨.value (.func 13),#[],#[]⟩,none⟩,⟨some 12,.move (.tmp 1),none⟩,⟨some 13,.call ⟨.value (.func 12),#[.tmp 11,.tmp 12],#[40,26]⟩,none⟩,⟨some 10,.move (.tmp 13),none⟩,⟨some 14,.extract (.tmp 10) 0,none⟩,⟨some 15,.extract (.tmp 10) 1,none⟩,⟨some 16,.extract (.tmp 10) 2,none⟩,⟨some 3,.alloc 35,none⟩,⟨some 2,.assign (.tmp 14),none⟩,⟨none,.store 35 (.tmp 3) (.tmp 15),none⟩,⟨some 4,.assign (.tmp 16),none⟩]
def c6_r3:List SOp:=[⟨some 17,.move (.tmp 4),none⟩,⟨some 18,.binOp .eql 36 (.tmp 17) (.const (.int .i64 0)) 36,none⟩,⟨some 19,.move (.tmp 18),none⟩,⟨some 20,.move (.tmp 2),some (some 19,true)⟩,⟨some 21,.call ⟨.builtin .len, #[.tmp 20],#[33]⟩,some (some 19,true)⟩,⟨some 22,.binOp .eql 3 (.tmp 21) (.const (.int .i64 4)) 3,some (some 19,true)⟩,⟨some 23,.pick (.tmp 19) (.tmp 22) (.const (.bool false)),none⟩,⟨some 24,.move (.tmp 23),none⟩,⟨some 25,.fieldAddr 35 (.tmp 3) 1,some (some 24,true)⟩,⟨some 26,.load 3 (.tmp 25),some (some 24,true)⟩,⟨some 27,.binOp .eql 3 (.tmp 26) (.const (.int .i64 4)) 3,some (some 24,true)⟩,⟨some 28,.pick (.tmp 24) (.tmp 27) (.const (.bool false)),none⟩,⟨some 29,.move (.tmp 28),none⟩,⟨some 30,.move (.tmp 2),some (some 29,true)⟩,⟨some 31,.call ⟨.value (.func 14),#[(.const (.int .i64 0))],#[3]⟩,some (some 29,true)⟩,⟨some 32,.call ⟨.value (.func 15),#[(.tmp 30),(.tmp 31),(.const (.int .u32 101))],#[33,43,28]⟩,some (some 29,true)⟩,⟨some 33,.binOp .eql 9 (.tmp 32) (.const (.string ⟨#[97]⟩)) 9,some (some 29,true)⟩,⟨some 34,.pick (.tmp 29) (.tmp 33) (.const (.bool false)),none⟩,⟨some 0,.assign (.tmp 34),none⟩]
def c6:SC:=(.seq (.reg c6_r0 none (some [])) (.seq (.reg c6_r1 none (some [1])) (.seq (.reg c6_r2 none (some [2,3,4])) (.seq (.reg c6_r3 none (some [0])) .ret))))
theorem c6_eq : ∃ code, Tryz.f6.body = some code ∧ compile H6 code = c6 :=⟨_,rfl,by kernel_rfl⟩
theorem c6_fn : Tryz.prog.funcs[6]? = some Tryz.f6:=by kernel_rfl
theorem c6_rs : Tryz.f6.results.toList = [.tmp 0]:=by kernel_rfl
theorem c6_ok : fnB Tryz.prog H6 Tryz.f6 = true:=by kernel_rfl
theorem c6_nt : Tryz.f6.ntmps = 35:=by kernel_rfl
def H7:Hint:=⟨[(6,[4]),(4,[0,1,5,6]),(5,[0,1,5,6]),(2000014,[0,1,5,6]),(3,[0,1,5,6,14]),(1000003,[0,1,5,6]),(2,[0,1,5,6]),(1,[0,1,5]),(0,[0,1])],[]⟩
def c7_r0:List SOp:=[⟨some 4,.assign (.const (.string ⟨#[]⟩)),none⟩]
def c7_r1:List SOp:=[⟨some 5,.assign (.const (.slice none 0 0)),none⟩]
def c7_r2:List SOp:=[⟨some 6,.assign (.const (.int .i64 0)),none⟩]
def c7_r3:List SOp:=[⟨some 7,.move (.tmp 6),none⟩,⟨some 8,.move (.tmp 1),none⟩,⟨some 9,.binOp .lss 3 (.tmp 7) (.tmp 8) 3,none⟩,⟨some 10,.move (.tmp 9),none⟩,⟨some 11,.move (.tmp 0),some (some 10,true)⟩,⟨some 12,.call ⟨.builtin .len, #[.tmp 11],#[22]⟩,some (some 10,true)⟩,⟨some 13,.binOp .gtr 3 (.tmp 12) (.const (.int .i64 0)) 3,some (some 10,true)⟩,⟨some 14,.pick (.tmp 10) (.tmp 13) (.const (.bool false)),none⟩]
def c7_r5:List SOp:=[⟨some 17,.move (.tmp 5),none⟩,⟨some 18,.move (.tmp 0),none⟩,⟨some 19,.move (.tmp 6),none⟩,⟨some 20,.move (.tmp 0),none⟩,⟨some 21,.call ⟨.builtin .len, #[.tmp 20],#[22]⟩,none⟩,⟨some 22,.binOp .rem 3 (.tmp 19) (.tmp 21) 3,none⟩,⟨some 23,.indexAddr 22 (.tmp 18) (.tmp 22),none⟩,⟨some 24,.load 3 (.tmp 23),none⟩,⟨some 25,.call ⟨.value (.func 8),#[(.tmp 24),(.const (.int .i64 1073741824))],#[3,3]⟩,none⟩,⟨some 26,.move (.tmp 6),none⟩,⟨some 27,.move (.tmp 6),none⟩,⟨some 28,.binOp .mul 3 (.tmp 26) (.tmp 27) 3,none⟩,⟨some 29,.binOp .quo 3 (.tmp 28) (.const (.int .i64 3)) 3,none⟩,⟨some 30,.binOp .add 3 (.tmp 25) (.tmp 29) 3,none⟩,⟨some 31,.call ⟨.value (.func 8),#[(.tmp 30),(.const (.int .i64 4))],#[3,3]⟩,none⟩,⟨some 32,.index 9 (.const (.string ⟨#[97,98,99,65]⟩)) (.tmp 31),none⟩,⟨some 33,.buildSlice 54 1 #[(0, (.tmp 32))],none⟩,⟨some 34,.call ⟨.builtin .append, #[.tmp 17,.tmp 33],#[54,54]⟩,none⟩,⟨some 5,.assign (.tmp 34),none⟩]
def c7_r4:List SOp:=[⟨some 15,.move (.tmp 6),none⟩,⟨some 16,.binOp .add 3 (.tmp 15) (.const (.int .i64 1)) 3,none⟩,⟨some 6,.assign (.tmp 16),none⟩]
def c7_l3:SC:=(.seq (.seq (.reg c7_r3 none (some [0,1,5,6,14])) (.cond (.tmp 14) .skip (.exit 0) (some [0,1,5,6]))) (.seq (.block 1 (.reg c7_r5 none (some [0,1,5,6]))) (.reg c7_r4 none (some [0,1,5,6]))))
def c7_r6:List SOp:=[⟨some 35,.move (.tmp 5),none⟩,⟨some 36,.convert 54 9 (.tmp 35),none⟩,⟨some 4,.assign (.tmp 36),none⟩]
def c7:SC:=(.seq (.reg c7_r0 none (some [0,1])) (.seq (.reg c7_r1 none (some [0,1,5])) (.seq (.seq (.reg c7_r2 none (some [0,1,5,6])) (.block 0 (.loop c7_l3 (some [0,1,5,6])))) (.seq (.reg c7_r6 none (some [4])) .ret))))
theorem c7_eq : ∃ code, Tryz.f7.body = some code ∧ compile H7 code = c7 :=⟨_,rfl,by kernel_rfl⟩
theorem c7_fn : Tryz.prog.funcs[7]? = some Tryz.f7:=by kernel_rfl
theorem c7_rs : Tryz.f7.results.toList = [.tmp 4]:=by kernel_rfl
theorem c7_ok : fnB Tryz.prog H7 Tryz.f7 = true:=by kernel_rfl
theorem c7_nt : Tryz.f7.ntmps = 37:=by kernel_rfl
def H8:Hint:=⟨[(4,[4]),(3,[5]),(2000010,[5]),(2,[1,5,10]),(1,[1,5]),(0,[0,1])],[]⟩
def c8_r0:List SOp:=[⟨some 4,.assign (.const (.int .i64 0)),none⟩]
def c8_r1:List SOp:=[⟨some 6,.move (.tmp 0),none⟩,⟨some 7,.move (.tmp 1),none⟩,⟨some 8,.binOp .rem 3 (.tmp 6) (.tmp 7) 3,none⟩,⟨some 5,.assign (.tmp 8),none⟩]
def c8_r2:List SOp:=[⟨some 9,.move (.tmp 5),none⟩,⟨some 10,.binOp .lss 3 (.tmp 9) (.const (.int .i64 0)) 3,none⟩]
def c8_r3:List SOp:=[⟨some 11,.move (.tmp 5),none⟩,⟨some 12,.move (.tmp 1),none⟩,⟨some 13,.binOp .add 3 (.tmp 11) (.tmp 12) 3,none⟩,⟨some 5,.assign (.tmp 13),none⟩]
def c8_r4:List SOp:=[⟨some 14,.move (.tmp 5),none⟩,⟨some 4,.assign (.tmp 14),none⟩]
def c8:SC:=(.seq (.reg c8_r0 none (some [0,1])) (.seq (.reg c8_r1 none (some [1,5])) (.seq (.seq (.reg c8_r2 none (some [1,5,10])) (.cond (.tmp 10) (.reg c8_r3 none (some [5])) .skip (some [5]))) (.seq (.reg c8_r4 none (some [4])) .ret))))
theorem c8_eq : ∃ code, Tryz.f8.body = some code ∧ compile H8 code = c8 :=⟨_,rfl,by kernel_rfl⟩
theorem c8_fn : Tryz.prog.funcs[8]? = some Tryz.f8:=by kernel_rfl
theorem c8_rs : Tryz.f8.results.toList = [.tmp 4]:=by kernel_rfl
theorem c8_ok : fnB Tryz.prog H8 Tryz.f8 = true:=by kernel_rfl
theorem c8_nt : Tryz.f8.ntmps = 15:=by kernel_rfl
def H9:Hint:=⟨[(1,[4]),(0,[0,1])],[]⟩
def c9_r0:List SOp:=[⟨some 4,.assign (.const (.slice none 0 0)),none⟩]
def c9_r1:List SOp:=[⟨some 5,.move (.tmp 0),none⟩,⟨some 6,.move (.tmp 1),none⟩,⟨some 7,.call ⟨.value (.func 11),#[(.const (.int .i64 0)), (.tmp 5), (.const (.int .i64 2)), (.tmp 6), (.const (.int .u32 0)), (.const (.string ⟨#[]⟩))],#[3,3,3,28,28,9]⟩,none⟩,⟨some 8,.build 32 #[(0, (.const (.int .i64 1))), (1, (.const (.int .i64 0))), (2, (.tmp 7))],none⟩,⟨some 9,.move (.tmp 0),none⟩,⟨some 10,.move (.tmp 1),none⟩,⟨some 11,.binOp .add 28 (.tmp 10) (.const (.int .u32 1)) 28,none⟩,⟨some 12,.call ⟨.value (.func 11),#[(.const (.int .i64 1)), (.tmp 9), (.const (.int .i64 18)), (.const (.int .u32 5000)), (.tmp 11), (.const (.string ⟨#[]⟩))],#[3,3,3,28,28,9]⟩,none⟩,⟨some 13,.build 32 #[(0, (.const (.int .i64 1))), (1, (.const (.int .i64 1))), (2, (.tmp 12))],none⟩,⟨some 14,.move (.tmp 0),none⟩,⟨some 15,.move (.tmp 1),none⟩,⟨some 16,.binOp .add 28 (.tmp 15) (.const (.int .u32 1)) 28,none⟩,⟨some 17,.call ⟨.value (.func 11),#[(.const (.int .i64 0)), (.tmp 14), (.const (.int .i64 16)), (.tmp 16), (.const (.int .u32 5001)), (.const (.string ⟨#[]⟩))],#[3,3,3,28,28,9]⟩,none⟩,⟨some 18,.build 32 #[(0, (.const (.int .i64 1))), (1, (.const (.int .i64 0))), (2, (.tmp 17))],none⟩,⟨some 19,.buildSlice 26 3 #[(0, (.tmp 8)), (1, (.tmp 13)), (2, (.tmp 18))],none⟩,⟨some 4,.assign (.tmp 19),none⟩]
def c9:SC:=(.seq (.reg c9_r0 none (some [0,1])) (.seq (.reg c9_r1 none (some [4])) .ret))
theorem c9_eq : ∃ code, Tryz.f9.body = some code ∧ compile H9 code = c9 :=⟨_,rfl,by kernel_rfl⟩
theorem c9_fn : Tryz.prog.funcs[9]? = some Tryz.f9:=by kernel_rfl
theorem c9_rs : Tryz.f9.results.toList = [.tmp 4]:=by kernel_rfl
theorem c9_ok : fnB Tryz.prog H9 Tryz.f9 = true:=by kernel_rfl
theorem c9_nt : Tryz.f9.ntmps = 20:=by kernel_rfl
def H10:Hint:=⟨[(21,[8]),(5,[0,1,2,3,9,10,11]),(20,[0,1,2,3,9,10,11]),(19,[0,1,2,3,9,10,11,13]),(2000085,[0,1,2,3,9,10,11,13]),(18,[0,1,2,3,9,10,11,13,16,85]),(17,[0,1,2,3,9,10,11,12,13,16]),(16,[0,1,2,3,9,10,11,12,13]),(2000071,[0,1,2,3,9,10,11,12,13]),(15,[0,1,2,3,9,10,11,12,13,15,71]),(14,[0,1,2,3,9,10,11,12,13,15]),(13,[0,1,2,3,9,10,11,12,13,15]),(12,[0,1,2,3,9,10,11,12,13,14]),(2000044,[0,1,2,3,9,10,11,12,13,14]),(11,[0,1,2,3,9,10,11,12,13,14,44]),(10,[0,1,2,3,9,10,11,12,13,14]),(9,[0,1,2,3,9,10,11,12,13]),(8,[0,1,2,3,9,10,11,12]),(2000026,[0,1,2,3,9,10,11,12]),(7,[0,1,2,3,9,10,11,12,26]),(6,[0,1,2,3,9,10,11,12]),(2000020,[0,1,2,3,9,10,11]),(4,[0,1,2,3,9,10,11,20]),(1000004,[0,1,2,3,9,10,11]),(3,[0,1,2,3,9,10,11]),(2,[0,1,2,3,9,10]),(1,[0,1,2,3,9]),(0,[0,1,2,3])],[]⟩
def c10_r0:List SOp:=[⟨some 8,.assign (.const (.slice none 0 0)),none⟩]
def c10_r1:List SOp:=[⟨some 9,.assign (.const (.slice none 0 0)),none⟩]
def c10_r2:List SOp:=[⟨some 10,.assign (.const (.int .i64 0)),none⟩]
def c10_r3:List SOp:=[⟨some 11,.assign (.const (.int .i64 0)),none⟩]
def c10_r4:List SOp:=[⟨some 17,.move (.tmp 10),none⟩,⟨some 18,.move (.tmp 0),none⟩,⟨some 19,.call ⟨.builtin .len, #[.tmp 18],#[9]⟩,none⟩,⟨some 20,.binOp .lss 3 (.tmp 17) (.tmp 19) 3,none⟩]
def c10_r6:List SOp:=[⟨some 12,.assign (.const (.int .i64 0)),none⟩]
def c10_r7:List SOp:=[⟨some 23,.move (.tmp 11),none⟩,⟨some 24,.move (.tmp 3),none⟩,⟨some 25,.call ⟨.builtin .len, #[.tmp 24],#[22]⟩,none⟩,⟨some 26,.binOp .lss 3 (.tmp 23) (.tmp 25) 3,none⟩]
def c10_r8:List SOp:=[⟨some 27,.move (.tmp 3),none⟩,⟨some 28,.move (.tmp 11),none⟩,⟨some 29,.indexAddr 22 (.tmp 27) (.tmp 28),none⟩,⟨some 30,.load 3 (.tmp 29),none⟩,⟨some 31,.call ⟨.value (.func 8),#[(.tmp 30),(.const (.int .i64 1048576))],#[3,3]⟩,none⟩,⟨some 12,.assign (.tmp 31),none⟩]
def c10_r9:List SOp:=[⟨some 32,.move (.tmp 12),none⟩,⟨some 33,.binOp .rem 3 (.tmp 32) (.const (.int .i64 9)) 3,none⟩,⟨some 34,.binOp .add 3 (.const (.int .i64 1)) (.tmp 33) 3,none⟩,⟨some 35,.move (.tmp 0),none⟩,⟨some 36,.call ⟨.builtin .len, #[.tmp 35],#[9]⟩,none⟩,⟨some 37,.move (.tmp 10),none⟩,⟨some 38,.binOp .sub 3 (.tmp 36) (.tmp 37) 3,none⟩,⟨some 39,.call ⟨.builtin .min, #[.tmp 34,.tmp 38],#[3,3]⟩,none⟩,⟨some 13,.assign (.tmp 39),none⟩]
def c10_r10:List SOp:=[⟨some 40,.move (.tmp 10),none⟩,⟨some 14,.assign (.tmp 40),none⟩]
def c10_r11:List SOp:=[⟨some 41,.move (.tmp 12),none⟩,⟨some 42,.binOp .quo 3 (.tmp 41) (.const (.int .i64 9)) 3,none⟩,⟨some 43,.binOp .rem 3 (.tmp 42) (.const (.int .i64 4)) 3,none⟩,⟨some 44,.binOp .eql 3 (.tmp 43) (.const (.int .i64 0)) 3,none⟩]
def c10_r12:List SOp:=[⟨some 45,.move (.tmp 10),none⟩,⟨some 46,.move (.tmp 12),none⟩,⟨some 47,.binOp .quo 3 (.tmp 46) (.const (.int .i64 36)) 3,none⟩,⟨some 48,.binOp .rem 3 (.tmp 47) (.const (.int .i64 5)) 3,none⟩,⟨some 49,.binOp .sub 3 (.tmp 45) (.tmp 48) 3,none⟩,⟨some 50,.call ⟨.builtin .max, #[(.tmp 49),(.const (.int .i64 0))],#[3,3]⟩,none⟩,⟨some 14,.assign (.tmp 50),none⟩]
def c10_r13:List SOp:=[⟨some 51,.move (.tmp 1),none⟩,⟨some 52,.move (.tmp 2),none⟩,⟨some 53,.move (.tmp 14),none⟩,⟨some 54,.convert 3 28 (.tmp 53),none⟩,⟨some 55,.binOp .add 28 (.tmp 52) (.tmp 54) 28,none⟩,⟨some 56,.move (.tmp 0),none⟩,⟨some 57,.move (.tmp 14),none⟩,⟨some 58,.move (.tmp 10),none⟩,⟨some 59,.move (.tmp 13),none⟩,⟨some 60,.binOp .add 3 (.tmp 58) (.tmp 59) 3,none⟩,⟨some 61,.slice 9 (.tmp 56) (some (.tmp 57)) (some (.tmp 60)) none,none⟩,⟨some 62,.call ⟨.value (.func 11),#[(.const (.int .i64 0)),(.tmp 51),(.const (.int .i64 24)),(.tmp 55),(.const (.int .u32 5001)),(.tmp 61)],#[3,3,3,28,28,9]⟩,none⟩,⟨some 63,.build 32 #[(0, (.const (.int .i64 1))), (2, (.tmp 62))],none⟩,⟨some 15,.alloc 32,none⟩,⟨none,.store 32 (.tmp 15) (.tmp 63),none⟩]
def c10_r14:List SOp:=[⟨some 64,.move (.tmp 9),none⟩,⟨some 65,.load 32 (.tmp 15),none⟩,⟨some 66,.buildSlice 26 1 #[(0, (.tmp 65))],none⟩,⟨some 67,.call ⟨.builtin .append, #[.tmp 64,.tmp 66],#[26,26]⟩,none⟩,⟨some 9,.assign (.tmp 67),none⟩]
def c10_r15:List SOp:=[⟨some 68,.move (.tmp 12),none⟩,⟨some 69,.binOp .quo 3 (.tmp 68) (.const (.int .i64 180)) 3,none⟩,⟨some 70,.binOp .rem 3 (.tmp 69) (.const (.int .i64 5)) 3,none⟩,⟨some 71,.binOp .eql 3 (.tmp 70) (.const (.int .i64 0)) 3,none⟩]
def c10_r16:List SOp:=[⟨some 72,.move (.tmp 9),none⟩,⟨some 73,.load 32 (.tmp 15),none⟩,⟨some 74,.buildSlice 26 1 #[(0, (.tmp 73))],none⟩,⟨some 75,.call ⟨.builtin .append, #[.tmp 72,.tmp 74],#[26,26]⟩,none⟩,⟨some 9,.assign (.tmp 75),none⟩]
def c10_r17:List SOp:=[⟨some 76,.move (.tmp 9),none⟩,⟨some 77,.call ⟨.builtin .len, #[.tmp 76],#[26]⟩,none⟩,⟨some 16,.assign (.tmp 77),none⟩]
def c10_r18:List SOp:=[⟨some 78,.move (.tmp 12),none⟩,⟨some 79,.binOp .quo 3 (.tmp 78) (.const (.int .i64 900)) 3,none⟩,⟨some 80,.binOp .rem 3 (.tmp 79) (.const (.int .i64 3)) 3,none⟩,⟨some 81,.binOp .eql 3 (.tmp 80) (.const (.int .i64 0)) 3,none⟩,⟨some 82,.move (.tmp 81),none⟩,⟨some 83,.move (.tmp 16),some (some 82,true)⟩,⟨some 84,.binOp .gtr 3 (.tmp 83) (.const (.int .i64 1)) 3,some (some 82,true)⟩,⟨some 85,.pick (.tmp 82) (.tmp 84) (.const (.bool false)),none⟩]
def c10_r19:List SOp:=[⟨some 86,.move (.tmp 9),none⟩,⟨some 87,.move (.tmp 16),none⟩,⟨some 88,.binOp .sub 3 (.tmp 87) (.const (.int .i64 1)) 3,none⟩,⟨some 89,.move (.tmp 9),none⟩,⟨some 90,.move (.tmp 16),none⟩,⟨some 91,.binOp .sub 3 (.tmp 90) (.const (.int .i64 2)) 3,none⟩,⟨some 92,.move (.tmp 9),none⟩,⟨some 93,.move (.tmp 16),none⟩,⟨some 94,.binOp .sub 3 (.tmp 93) (.const (.int .i64 2)) 3,none⟩,⟨some 95,.indexAddr 26 (.tmp 92) (.tmp 94),none⟩,⟨some 96,.load 32 (.tmp 95),none⟩,⟨some 97,.move (.tmp 9),none⟩,⟨some 98,.move (.tmp 16),none⟩,⟨some 99,.binOp .sub 3 (.tmp 98) (.const (.int .i64 1)) 3,none⟩,⟨some 100,.indexAddr 26 (.tmp 97) (.tmp 99),none⟩,⟨some 101,.load 32 (.tmp 100),none⟩,⟨some 102,.indexAddr 26 (.tmp 86) (.tmp 88),none⟩,⟨none,.store 32 (.tmp 102) (.tmp 96),none⟩,⟨some 103,.indexAddr 26 (.tmp 89) (.tmp 91),none⟩,⟨none,.store 32 (.tmp 103) (.tmp 101),none⟩]
def c10_r20:List SOp:=[⟨some 104,.move (.tmp 10),none⟩,⟨some 105,.move (.tmp 13),none⟩,⟨some 106,.binOp .add 3 (.tmp 104) (.tmp 105) 3,none⟩,⟨some 10,.assign (.tmp 106),none⟩]
def c10_r5:List SOp:=[⟨some 21,.move (.tmp 11),none⟩,⟨some 22,.binOp .add 3 (.tmp 21) (.const (.int .i64 1)) 3,none⟩,⟨some 11,.assign (.tmp 22),none⟩]
def c10_l4:SC:=(.seq (.seq (.reg c10_r4 none (some [0,1,2,3,9,10,11,20])) (.cond (.tmp 20) .skip (.exit 0) (some [0,1,2,3,9,10,11]))) (.seq (.block 1 (.seq (.reg c10_r6 none (some [0,1,2,3,9,10,11,12])) (.seq (.seq (.reg c10_r7 none (some [0,1,2,3,9,10,11,12,26])) (.cond (.tmp 26) (.reg c10_r8 none (some [0,1,2,3,9,10,11,12])) .skip (some [0,1,2,3,9,10,11,12]))) (.seq (.reg c10_r9 none (some [0,1,2,3,9,10,11,12,13])) (.seq (.reg c10_r10 none (some [0,1,2,3,9,10,11,12,13,14])) (.seq (.seq (.reg c10_r11 none (some [0,1,2,3,9,10,11,12,13,14,44])) (.cond (.tmp 44) (.reg c10_r12 none (some [0,1,2,3,9,10,11,12,13,14])) .skip (some [0,1,2,3,9,10,11,12,13,14]))) (.seq (.reg c10_r13 none (some [0,1,2,3,9,10,11,12,13,15])) (.seq (.reg c10_r14 none (some [0,1,2,3,9,10,11,12,13,15])) (.seq (.seq (.reg c10_r15 none (some [0,1,2,3,9,10,11,12,13,15,71])) (.cond (.tmp 71) (.reg c10_r16 none (some [0,1,2,3,9,10,11,12,13])) .skip (some [0,1,2,3,9,10,11,12,13]))) (.seq (.seq (.reg c10_r17 none (some [0,1,2,3,9,10,11,12,13,16])) (.seq (.reg c10_r18 none (some [0,1,2,3,9,10,11,13,16,85])) (.cond (.tmp 85) (.reg c10_r19 none (some [0,1,2,3,9,10,11,13])) .skip (some [0,1,2,3,9,10,11,13])))) (.reg c10_r20 none (some [0,1,2,3,9,10,11])))))))))))) (.reg c10_r5 none (some [0,1,2,3,9,10,11]))))
def c10_r21:List SOp:=[⟨some 107,.move (.tmp 9),none⟩,⟨some 8,.assign (.tmp 107),none⟩]
def c10:SC:=(.seq (.reg c10_r0 none (some [0,1,2,3])) (.seq (.reg c10_r1 none (some [0,1,2,3,9])) (.seq (.reg c10_r2 none (some [0,1,2,3,9,10])) (.seq (.seq (.reg c10_r3 none (some [0,1,2,3,9,10,11])) (.block 0 (.loop c10_l4 (some [0,1,2,3,9,10,11])))) (.seq (.reg c10_r21 none (some [8])) .ret)))))
theorem c10_eq : ∃ code, Tryz.f10.body = some code ∧ compile H10 code = c10 :=⟨_,rfl,by kernel_rfl⟩
theorem c10_fn : Tryz.prog.funcs[10]? = some Tryz.f10:=by kernel_rfl
theorem c10_rs : Tryz.f10.results.toList = [.tmp 8]:=by kernel_rfl
theorem c10_ok : fnB Tryz.prog H10 Tryz.f10 = true:=by kernel_rfl
theorem c10_nt : Tryz.f10.ntmps = 108:=by kernel_rfl
def H11:Hint:=⟨[(4,[12]),(3,[0,5,13]),(2000021,[0,5,13]),(2,[0,5,13,21]),(1,[0,5,13]),(0,[0,1,2,3,4,5])],[(4,[(4,1),(4,3)])]⟩
def c11_r0:List SOp:=[⟨some 12,.assign (.const (.string ⟨#[]⟩)),none⟩]
def c11_r1:List SOp:=[⟨some 14,.move (.tmp 1),none⟩,⟨some 15,.binOp .add 3 (.const (.int .i64 1000)) (.tmp 14) 3,none⟩,⟨some 16,.move (.tmp 3),none⟩,⟨some 17,.move (.tmp 4),none⟩,⟨some 18,.move (.tmp 2),none⟩,⟨some 19,.build 56 #[(0, (.tmp 15)), (1, (.const (.int .i64 80))), (2, (.tmp 16)), (3, (.tmp 17)), (4, (.tmp 18)), (5, (.const (.int .i64 1000)))],none⟩,⟨some 13,.alloc 56,none⟩,⟨none,.store 56 (.tmp 13) (.tmp 19),none⟩]
def c11_r2:List SOp:=[⟨some 20,.move (.tmp 0),none⟩,⟨some 21,.binOp .eql 3 (.tmp 20) (.const (.int .i64 1)) 3,none⟩]
def c11_r3:List SOp:=[⟨some 22,.fieldAddr 56 (.tmp 13) 1,none⟩,⟨some 23,.load 3 (.tmp 22),none⟩,⟨some 24,.fieldAddr 56 (.tmp 13) 0,none⟩,⟨some 25,.load 3 (.tmp 24),none⟩,⟨some 26,.fieldAddr 56 (.tmp 13) 0,none⟩,⟨none,.store 3 (.tmp 26) (.tmp 23),none⟩,⟨some 27,.fieldAddr 56 (.tmp 13) 1,none⟩,⟨none,.store 3 (.tmp 27) (.tmp 25),none⟩]
def c11_r4:List SOp:=[⟨some 28,.move (.tmp 0),none⟩,⟨some 29,.call ⟨.value (.func 19),#[.tmp 28],#[3]⟩,none⟩,⟨some 30,.move (.tmp 0),none⟩,⟨some 31,.call ⟨.value (.func 20),#[(.tmp 30),(.const (.int .i64 6))],#[3,3]⟩,none⟩,⟨some 32,.load 56 (.tmp 13),none⟩,⟨some 33,.move (.tmp 5),none⟩,⟨some 34,.call ⟨.value (.func 18),#[.tmp 29,.tmp 31,.tmp 32,.tmp 33],#[60,63,56,9]⟩,none⟩,⟨some 12,.assign (.tmp 34),none⟩]
def c11:SC:=(.seq (.reg c11_r0 none (some [0,1,2,3,4,5])) (.seq (.reg c11_r1 none (some [0,5,13])) (.seq (.seq (.reg c11_r2 none (some [0,5,13,21])) (.cond (.tmp 21) (.reg c11_r3 none (some [0,5,13])) .skip (some [0,5,13]))) (.seq (.reg c11_r4 (some [(4, 1), (4, 3)]) (some [12])) .ret))))
theorem c11_eq : ∃ code, Tryz.f11.body = some code ∧ compile H11 code = c11 :=⟨_,rfl,by kernel_rfl⟩
theorem c11_fn : Tryz.prog.funcs[11]? = some Tryz.f11:=by kernel_rfl
theorem c11_rs : Tryz.f11.results.toList = [.tmp 12]:=by kernel_rfl
theorem c11_ok : fnB Tryz.prog H11 Tryz.f11 = true:=by kernel_rfl
theorem c11_nt : Tryz.f11.ntmps = 35:=by kernel_rfl
def H12:Hint:=⟨[(10,[4,5,6]),(9,[5,7,9,25,26,27]),(8,[5,7,9,25,26,27]),(7,[5,7,9,11,25,26,27]),(2000028,[5,7,9,25,26,27]),(6,[5,7,9,25,26,27,28]),(1000006,[5,7,9,25,26,27]),(5,[5,7,9,25,26,27]),(4,[1,5,7,9]),(3,[4,5,6]),(2000018,[1,5,7]),(2,[1,5,7,8,18]),(1,[1,5,7,8]),(0,[1,2,5])],[]⟩
def c12_r0:List SOp:=[⟨some 2,.box 40 (.tmp 0),none⟩,⟨some 4,.assign (.const (.slice none 0 0)),none⟩,⟨some 5,.alloc 35,none⟩,⟨some 6,.assign (.const (.int .i64 0)),none⟩]
def c12_r1:List SOp:=[⟨some 13,.load 40 (.tmp 2),none⟩,⟨some 14,.call ⟨.value (.func 21),#[.tmp 13],#[40]⟩,none⟩,⟨some 12,.move (.tmp 14),none⟩,⟨some 15,.extract (.tmp 12) 0,none⟩,⟨some 16,.extract (.tmp 12) 1,none⟩,⟨some 7,.assign (.tmp 15),none⟩,⟨some 8,.assign (.tmp 16),none⟩]
def c12_r2:List SOp:=[⟨some 17,.move (.tmp 8),none⟩,⟨some 18,.binOp .neq 36 (.tmp 17) (.const (.int .i64 0)) 36,none⟩]
def c12_r3:List SOp:=[⟨some 19,.build 35 #[],none⟩,⟨some 20,.move (.tmp 8),none⟩,⟨some 4,.assign (.const (.slice none 0 0)),none⟩,⟨none,.store 35 (.tmp 5) (.tmp 19),none⟩,⟨some 6,.assign (.tmp 20),none⟩]
def c12_r4:List SOp:=[⟨some 9,.assign (.const (.slice none 0 0)),none⟩]
def c12_r5:List SOp:=[⟨some 21,.move (.tmp 1),none⟩,⟨some 22,.move (.tmp 1),none⟩,⟨some 23,.call ⟨.builtin .len, #[.tmp 22],#[26]⟩,none⟩,⟨some 24,.call ⟨.builtin .min, #[(.tmp 23),(.const (.int .i64 300))],#[3,3]⟩,none⟩,⟨some 25,.slice 26 (.tmp 21) none (some (.tmp 24)) none,none⟩,⟨some 26,.call ⟨.builtin .len, #[.tmp 25],#[26]⟩,none⟩,⟨some 27,.move (.const (.int .i64 0)),none⟩]
def c12_r6:List SOp:=[⟨some 28,.binOp .lss 3 (.tmp 27) (.tmp 26) 3,none⟩]
def c12_r7:List SOp:=[⟨some 29,.indexAddr 26 (.tmp 25) (.tmp 27),none⟩,⟨some 30,.load 32 (.tmp 29),none⟩,⟨some 11,.alloc 32,none⟩,⟨none,.store 32 (.tmp 11) (.tmp 30),none⟩]
def c12_r8:List SOp:=[⟨some 31,.move (.tmp 9),none⟩,⟨some 32,.move (.tmp 7),none⟩,⟨some 33,.load 32 (.tmp 11),none⟩,⟨some 34,.call ⟨.value (.func 22),#[.tmp 32,.tmp 33],#[65,32]⟩,none⟩,⟨some 35,.buildSlice 33 1 #[(0, (.tmp 34))],none⟩,⟨some 36,.call ⟨.builtin .append, #[.tmp 31,.tmp 35],#[33,33]⟩,none⟩,⟨some 9,.assign (.tmp 36),none⟩]
def c12_r9:List SOp:=[⟨some 37,.binOp .add 3 (.tmp 27) (.const (.int .i64 1)) 3,none⟩,⟨some 27,.move (.tmp 37),none⟩]
def c12_l6:SC:=(.seq (.reg c12_r6 none (some [5,7,9,25,26,27,28])) (.seq (.cond (.tmp 28) .skip (.exit 0) (some [5,7,9,25,26,27])) (.seq (.block 1 (.seq (.reg c12_r7 none (some [5,7,9,11,25,26,27])) (.reg c12_r8 none (some [5,7,9,25,26,27])))) (.reg c12_r9 none (some [5,7,9,25,26,27])))))
def c12_r10:List SOp:=[⟨some 38,.move (.tmp 9),none⟩,⟨some 39,.move (.tmp 7),none⟩,⟨some 40,.call ⟨.value (.func 23),#[.tmp 39],#[65]⟩,none⟩,⟨some 4,.assign (.tmp 38),none⟩,⟨none,.store 35 (.tmp 5) (.tmp 40),none⟩,⟨some 6,.assign (.const (.int .i64 0)),none⟩]
def c12:SC:=(.seq (.reg c12_r0 none (some [1,2,5])) (.seq (.reg c12_r1 none (some [1,5,7,8])) (.seq (.seq (.reg c12_r2 none (some [1,5,7,8,18])) (.cond (.tmp 18) (.seq (.reg c12_r3 none (some [4,5,6])) .ret) .skip (some [1,5,7]))) (.seq (.reg c12_r4 none (some [1,5,7,9])) (.seq (.seq (.reg c12_r5 none (some [5,7,9,25,26,27])) (.block 0 (.loop c12_l6 (some [5,7,9,25,26,27])))) (.seq (.reg c12_r10 none (some [4,5,6])) .ret))))))
theorem c12_eq : ∃ code, Tryz.f12.body = some code ∧ compile H12 code = c12 :=⟨_,rfl,by kernel_rfl⟩
theorem c12_fn : Tryz.prog.funcs[12]? = some Tryz.f12:=by kernel_rfl
theorem c12_rs : Tryz.f12.results.toList = [.tmp 4, .cell 5 35, .tmp 6]:=by kernel_rfl
theorem c12_ok : fnB Tryz.prog H12 Tryz.f12 = true:=by kernel_rfl
theorem c12_nt : Tryz.f12.ntmps = 41:=by kernel_rfl
def H13:Hint:=⟨[(1,[0]),(0,[0])],[]⟩
def c13_r0:List SOp:=[⟨some 0,.alloc 40,none⟩]
def c13_r1:List SOp:=[⟨some 1,.build 40 #[(0, (.const (.int .i64 60))), (1, (.const (.int .i64 30))), (2, (.const (.int .i64 1000))), (3, (.const (.int .i64 1000))), (4, (.const (.int .i64 32))), (5, (.const (.int .i64 4000))), (6, (.const (.int .i64 100000))), (7, (.const (.int .i64 100000))), (8, (.const (.int .i64 100000)))],none⟩,⟨none,.store 40 (.tmp 0) (.tmp 1),none⟩]
def c13:SC:=(.seq (.reg c13_r0 none (some [0])) (.seq (.reg c13_r1 none (some [0])) .ret))
theorem c13_eq : ∃ code, Tryz.f13.body = some code ∧ compile H13 code = c13 :=⟨_,rfl,by kernel_rfl⟩
theorem c13_fn : Tryz.prog.funcs[13]? = some Tryz.f13:=by kernel_rfl
theorem c13_rs : Tryz.f13.results.toList = [.cell 0 40]:=by kernel_rfl
theorem c13_ok : fnB Tryz.prog H13 Tryz.f13 = true:=by kernel_rfl
theorem c13_nt : Tryz.f13.ntmps = 2:=by kernel_rfl
def H14:Hint:=⟨[(1,[2]),(0,[0,2])],[]⟩
def c14_r0:List SOp:=[⟨some 2,.alloc 43,none⟩]
def c14_r1:List SOp:=[⟨some 3,.move (.tmp 0),none⟩,⟨some 4,.binOp .add 3 (.const (.int .i64 1000)) (.tmp 3) 3,none⟩,⟨some 5,.build 43 #[(0, (.const (.int .i64 6))), (1, (.const (.int .u32 167772161))), (2, (.const (.int .u32 167772162))), (3, (.tmp 4)), (4, (.const (.int .i64 80)))],none⟩,⟨none,.store 43 (.tmp 2) (.tmp 5),none⟩]
def c14:SC:=(.seq (.reg c14_r0 none (some [0,2])) (.seq (.reg c14_r1 none (some [2])) .ret))
theorem c14_eq : ∃ code, Tryz.f14.body = some code ∧ compile H14 code = c14 :=⟨_,rfl,by kernel_rfl⟩
theorem c14_fn : Tryz.prog.funcs[14]? = some Tryz.f14:=by kernel_rfl
theorem c14_rs : Tryz.f14.results.toList = [.cell 2 43]:=by kernel_rfl
theorem c14_ok : fnB Tryz.prog H14 Tryz.f14 = true:=by kernel_rfl
theorem c14_nt : Tryz.f14.ntmps = 6:=by kernel_rfl
def H16:Hint:=⟨[(7,[2]),(6,[3,6,7,8]),(5,[3,6,7,8]),(4,[3,5,6,7,8]),(2000009,[3,6,7,8]),(3,[3,6,7,8,9]),(1000003,[3,6,7,8]),(2,[3,6,7,8]),(1,[0,3]),(0,[0])],[]⟩
def c16_r0:List SOp:=[⟨some 2,.assign (.const (.slice none 0 0)),none⟩]
def c16_r1:List SOp:=[⟨some 3,.assign (.const (.slice none 0 0)),none⟩]
def c16_r2:List SOp:=[⟨some 6,.move (.tmp 0),none⟩,⟨some 7,.call ⟨.builtin .len, #[.tmp 6],#[33]⟩,none⟩,⟨some 8,.move (.const (.int .i64 0)),none⟩]
def c16_r3:List SOp:=[⟨some 9,.binOp .lss 3 (.tmp 8) (.tmp 7) 3,none⟩]
def c16_r4:List SOp:=[⟨some 10,.indexAddr 33 (.tmp 6) (.tmp 8),none⟩,⟨some 11,.load 70 (.tmp 10),none⟩,⟨some 5,.alloc 70,none⟩,⟨none,.store 70 (.tmp 5) (.tmp 11),none⟩]
def c16_r5:List SOp:=[⟨some 12,.move (.tmp 3),none⟩,⟨some 13,.fieldAddr 70 (.tmp 5) 1,none⟩,⟨some 14,.load 46 (.tmp 13),none⟩,⟨some 15,.call ⟨.builtin .append, #[.tmp 12,.tmp 14],#[46,46]⟩,none⟩,⟨some 3,.assign (.tmp 15),none⟩]
def c16_r6:List SOp:=[⟨some 16,.binOp .add 3 (.tmp 8) (.const (.int .i64 1)) 3,none⟩,⟨some 8,.move (.tmp 16),none⟩]
def c16_l3:SC:=(.seq (.reg c16_r3 none (some [3,6,7,8,9])) (.seq (.cond (.tmp 9) .skip (.exit 0) (some [3,6,7,8])) (.seq (.block 1 (.seq (.reg c16_r4 none (some [3,5,6,7,8])) (.reg c16_r5 none (some [3,6,7,8])))) (.reg c16_r6 none (some [3,6,7,8])))))
def c16_r7:List SOp:=[⟨some 17,.move (.tmp 3),none⟩,⟨some 2,.assign (.tmp 17),none⟩]
def c16:SC:=(.seq (.reg c16_r0 none (some [0])) (.seq (.reg c16_r1 none (some [0,3])) (.seq (.seq (.reg c16_r2 none (some [3,6,7,8])) (.block 0 (.loop c16_l3 (some [3,6,7,8])))) (.seq (.reg c16_r7 none (some [2])) .ret))))
theorem c16_eq : ∃ code, Tryz.f16.body = some code ∧ compile H16 code = c16 :=⟨_,rfl,by kernel_rfl⟩
theorem c16_fn : Tryz.prog.funcs[16]? = some Tryz.f16:=by kernel_rfl
theorem c16_rs : Tryz.f16.results.toList = [.tmp 2]:=by kernel_rfl
theorem c16_ok : fnB Tryz.prog H16 Tryz.f16 = true:=by kernel_rfl
theorem c16_nt : Tryz.f16.ntmps = 18:=by kernel_rfl
def H18:Hint:=⟨[(4,[8]),(3,[8]),(2000022,[4,5,9]),(2,[4,5,9,22]),(1,[4,5,9,10]),(0,[3,4,5,6])],[]⟩
def c18_r0:List SOp:=[⟨some 4,.box 60 (.tmp 0),none⟩,⟨some 5,.box 63 (.tmp 1),none⟩,⟨some 6,.box 56 (.tmp 2),none⟩,⟨some 8,.assign (.const (.string ⟨#[]⟩)),none⟩]
def c18_r1:List SOp:=[⟨some 12,.fieldAddr 63 (.tmp 5) 7,none⟩,⟨some 13,.load 28 (.tmp 12),none⟩,⟨some 14,.fieldAddr 63 (.tmp 5) 8,none⟩,⟨some 15,.load 28 (.tmp 14),none⟩,⟨some 16,.load 56 (.tmp 6),none⟩,⟨some 17,.move (.tmp 3),none⟩,⟨some 18,.call ⟨.value (.func 27),#[.tmp 13,.tmp 15,.tmp 16,.tmp 17],#[28,28,56,9]⟩,none⟩,⟨some 11,.move (.tmp 18),none⟩,⟨some 19,.extract (.tmp 11) 0,none⟩,⟨some 20,.extract (.tmp 11) 1,none⟩,⟨some 9,.assign (.tmp 19),none⟩,⟨some 10,.assign (.tmp 20),none⟩]
def c18_r2:List SOp:=[⟨some 21,.move (.tmp 10),none⟩,⟨some 22,.binOp .neq 36 (.tmp 21) (.const (.int .i64 0)) 36,none⟩]
def c18_r3:List SOp:=[⟨some 8,.assign (.const (.string ⟨#[]⟩)),none⟩]
def c18_r4:List SOp:=[⟨some 23,.load 60 (.tmp 4),none⟩,⟨some 24,.load 63 (.tmp 5),none⟩,⟨some 25,.move (.tmp 9),none⟩,⟨some 26,.call ⟨.value (.func 28),#[.tmp 23,.tmp 24,.tmp 25],#[60,63,9]⟩,none⟩,⟨some 8,.assign (.tmp 26),none⟩]
def c18:SC:=(.seq (.reg c18_r0 none (some [3,4,5,6])) (.seq (.reg c18_r1 none (some [4,5,9,10])) (.seq (.seq (.reg c18_r2 none (some [4,5,9,22])) (.cond (.tmp 22) (.seq (.reg c18_r3 none (some [8])) .ret) .skip (some [4,5,9]))) (.seq (.reg c18_r4 none (some [8])) .ret))))
theorem c18_eq : ∃ code, Tryz.f18.body = some code ∧ compile H18 code = c18 :=⟨_,rfl,by kernel_rfl⟩
theorem c18_fn : Tryz.prog.funcs[18]? = some Tryz.f18:=by kernel_rfl
theorem c18_rs : Tryz.f18.results.toList = [.tmp 8]:=by kernel_rfl
theorem c18_ok : fnB Tryz.prog H18 Tryz.f18 = true:=by kernel_rfl
theorem c18_nt : Tryz.f18.ntmps = 27:=by kernel_rfl
def H19:Hint:=⟨[(3,[2]),(2,[2,3]),(1,[0,2,3]),(0,[0,2])],[]⟩
def c19_r0:List SOp:=[⟨some 2,.alloc 60,none⟩]
def c19_r1:List SOp:=[⟨some 4,.build 60 #[(2, (.const (.int .i64 2048)))],none⟩,⟨some 3,.alloc 60,none⟩,⟨none,.store 60 (.tmp 3) (.tmp 4),none⟩]
def c19_r2:List SOp:=[⟨some 5,.move (.tmp 0),none⟩,⟨some 6,.binOp .add 3 (.const (.int .i64 1)) (.tmp 5) 3,none⟩,⟨some 7,.convert 3 5 (.tmp 6),none⟩,⟨some 8,.move (.tmp 0),none⟩,⟨some 9,.binOp .sub 3 (.const (.int .i64 2)) (.tmp 8) 3,none⟩,⟨some 10,.convert 3 5 (.tmp 9),none⟩,⟨some 11,.fieldAddr 60 (.tmp 3) 1,none⟩,⟨some 12,.indexAddr 58 (.tmp 11) (.const (.int .i64 5)),none⟩,⟨none,.store 5 (.tmp 12) (.tmp 7),none⟩,⟨some 13,.fieldAddr 60 (.tmp 3) 0,none⟩,⟨some 14,.indexAddr 58 (.tmp 13) (.const (.int .i64 5)),none⟩,⟨none,.store 5 (.tmp 14) (.tmp 10),none⟩]
def c19_r3:List SOp:=[⟨some 15,.load 60 (.tmp 3),none⟩,⟨none,.store 60 (.tmp 2) (.tmp 15),none⟩]
def c19:SC:=(.seq (.reg c19_r0 none (some [0,2])) (.seq (.reg c19_r1 none (some [0,2,3])) (.seq (.reg c19_r2 none (some [2,3])) (.seq (.reg c19_r3 none (some [2])) .ret))))
theorem c19_eq : ∃ code, Tryz.f19.body = some code ∧ compile H19 code = c19 :=⟨_,rfl,by kernel_rfl⟩
theorem c19_fn : Tryz.prog.funcs[19]? = some Tryz.f19:=by kernel_rfl
theorem c19_rs : Tryz.f19.results.toList = [.cell 2 60]:=by kernel_rfl
theorem c19_ok : fnB Tryz.prog H19 Tryz.f19 = true:=by kernel_rfl
theorem c19_nt : Tryz.f19.ntmps = 16:=by kernel_rfl
def H20:Hint:=⟨[(4,[4]),(3,[4,5]),(2000009,[4,5]),(2,[4,5,9]),(1,[0,4,5]),(0,[0,1,4])],[]⟩
def c20_r0:List SOp:=[⟨some 4,.alloc 63,none⟩]
def c20_r1:List SOp:=[⟨some 6,.move (.tmp 1),none⟩,⟨some 7,.build 63 #[(5, (.const (.int .i64 64))), (6, (.tmp 6)), (7, (.const (.int .u32 167772161))), (8, (.const (.int .u32 167772162)))],none⟩,⟨some 5,.alloc 63,none⟩,⟨none,.store 63 (.tmp 5) (.tmp 7),none⟩]
def c20_r2:List SOp:=[⟨some 8,.move (.tmp 0),none⟩,⟨some 9,.binOp .eql 3 (.tmp 8) (.const (.int .i64 1)) 3,none⟩]
def c20_r3:List SOp:=[⟨some 10,.fieldAddr 63 (.tmp 5) 8,none⟩,⟨some 11,.load 28 (.tmp 10),none⟩,⟨some 12,.fieldAddr 63 (.tmp 5) 7,none⟩,⟨some 13,.load 28 (.tmp 12),none⟩,⟨some 14,.fieldAddr 63 (.tmp 5) 7,none⟩,⟨none,.store 28 (.tmp 14) (.tmp 11),none⟩,⟨some 15,.fieldAddr 63 (.tmp 5) 8,none⟩,⟨none,.store 28 (.tmp 15) (.tmp 13),none⟩]
def c20_r4:List SOp:=[⟨some 16,.load 63 (.tmp 5),none⟩,⟨none,.store 63 (.tmp 4) (.tmp 16),none⟩]
def c20:SC:=(.seq (.reg c20_r0 none (some [0,1,4])) (.seq (.reg c20_r1 none (some [0,4,5])) (.seq (.seq (.reg c20_r2 none (some [4,5,9])) (.cond (.tmp 9) (.reg c20_r3 none (some [4,5])) .skip (some [4,5]))) (.seq (.reg c20_r4 none (some [4])) .ret))))
theorem c20_eq : ∃ code, Tryz.f20.body = some code ∧ compile H20 code = c20 :=⟨_,rfl,by kernel_rfl⟩
theorem c20_fn : Tryz.prog.funcs[20]? = some Tryz.f20:=by kernel_rfl
theorem c20_rs : Tryz.f20.results.toList = [.cell 4 63]:=by kernel_rfl
theorem c20_ok : fnB Tryz.prog H20 Tryz.f20 = true:=by kernel_rfl
theorem c20_nt : Tryz.f20.ntmps = 17:=by kernel_rfl
def H21:Hint:=⟨[(3,[2,3]),(2,[2,3]),(2000006,[1]),(1,[1,6]),(0,[1])],[(3,[(0,5),(7,5),(9,5),(0,10),(12,5),(12,10),(0,13)])]⟩
def c21_r0:List SOp:=[⟨some 1,.box 40 (.tmp 0),none⟩,⟨some 2,.assign (.const (.pointer none)),none⟩,⟨some 3,.assign (.const (.int .i64 0)),none⟩]
def c21_r1:List SOp:=[⟨some 4,.load 40 (.tmp 1),none⟩,⟨some 5,.call ⟨.value (.func 29),#[.tmp 4],#[40]⟩,none⟩,⟨some 6,.unOp .not 4 (.tmp 5),none⟩]
def c21_r2:List SOp:=[⟨some 2,.assign (.const (.pointer none)),none⟩,⟨some 3,.assign (.const (.int .i64 1)),none⟩]
def c21_r3:List SOp:=[⟨some 7,.load 40 (.tmp 1),none⟩,⟨some 8,.fieldAddr 40 (.tmp 1) 1,none⟩,⟨some 9,.load 3 (.tmp 8),none⟩,⟨some 10,.fieldAddr 40 (.tmp 1) 7,none⟩,⟨some 11,.load 3 (.tmp 10),none⟩,⟨some 12,.call ⟨.value (.func 30),#[.tmp 9,.tmp 11],#[3,3]⟩,none⟩,⟨some 13,.fieldAddr 40 (.tmp 1) 0,none⟩,⟨some 14,.load 3 (.tmp 13),none⟩,⟨some 15,.fieldAddr 40 (.tmp 1) 6,none⟩,⟨some 16,.load 3 (.tmp 15),none⟩,⟨some 17,.call ⟨.value (.func 31),#[.tmp 14,.tmp 16],#[3,3]⟩,none⟩,⟨some 18,.fieldAddr 40 (.tmp 1) 8,none⟩,⟨some 19,.load 3 (.tmp 18),none⟩,⟨some 20,.call ⟨.value (.func 32),#[.tmp 19],#[3]⟩,none⟩,⟨some 21,.makeMap 91 none,none⟩,⟨some 22,.build 94 #[(0, (.tmp 7)), (2, (.const (.int .i64 1))), (3, (.tmp 12)), (4, (.tmp 17)), (5, (.tmp 20)), (6, (.tmp 21))],none⟩,⟨some 23,.box 94 (.tmp 22),none⟩,⟨some 2,.assign (.tmp 23),none⟩,⟨some 3,.assign (.const (.int .i64 0)),none⟩]
def c21:SC:=(.seq (.reg c21_r0 none (some [1])) (.seq (.seq (.reg c21_r1 none (some [1,6])) (.cond (.tmp 6) (.seq (.reg c21_r2 none (some [2,3])) .ret) .skip (some [1]))) (.seq (.reg c21_r3 (some [(0, 5), (7, 5), (9, 5), (0, 10), (12, 5), (12, 10), (0, 13)]) (some [2,3])) .ret)))
theorem c21_eq : ∃ code, Tryz.f21.body = some code ∧ compile H21 code = c21 :=⟨_,rfl,by kernel_rfl⟩
theorem c21_fn : Tryz.prog.funcs[21]? = some Tryz.f21:=by kernel_rfl
theorem c21_rs : Tryz.f21.results.toList = [.tmp 2, .tmp 3]:=by kernel_rfl
theorem c21_ok : fnB Tryz.prog H21 Tryz.f21 = true:=by kernel_rfl
theorem c21_nt : Tryz.f21.ntmps = 24:=by kernel_rfl
def H22:Hint:=⟨[(4,[4]),(3,[3,4,5]),(2,[4]),(2000013,[2,3,4]),(1,[2,3,4,13]),(0,[2,3,4])],[]⟩
def c22_r0:List SOp:=[⟨some 2,.box 65 (.tmp 0),none⟩,⟨some 3,.box 32 (.tmp 1),none⟩,⟨some 4,.alloc 70,none⟩]
def c22_r1:List SOp:=[⟨some 6,.fieldAddr 32 (.tmp 3) 0,none⟩,⟨some 7,.load 3 (.tmp 6),none⟩,⟨some 8,.binOp .lss 3 (.tmp 7) (.const (.int .i64 0)) 3,none⟩,⟨some 9,.move (.tmp 8),none⟩,⟨some 10,.fieldAddr 32 (.tmp 3) 0,some (some 9,false)⟩,⟨some 11,.load 3 (.tmp 10),some (some 9,false)⟩,⟨some 12,.binOp .geq 3 (.tmp 11) (.const (.int .i64 6)) 3,some (some 9,false)⟩,⟨some 13,.pick (.tmp 9) (.const (.bool true)) (.tmp 12),none⟩]
def c22_r2:List SOp:=[⟨some 14,.build 70 #[],none⟩,⟨none,.store 70 (.tmp 4) (.tmp 14),none⟩]
def c22_r3:List SOp:=[⟨some 15,.makeFunc (.func 34) #[] #[.tmp 2,.tmp 3],none⟩,⟨some 16,.makeFunc (.func 36) #[] #[.tmp 2,.tmp 3],none⟩,⟨some 17,.makeFunc (.func 38) #[] #[.tmp 2,.tmp 3],none⟩,⟨some 18,.load 65 (.tmp 2),none⟩,⟨some 19,.makeFunc (.func 40) #[.tmp 18] #[],none⟩,⟨some 20,.load 65 (.tmp 2),none⟩,⟨some 21,.makeFunc (.func 41) #[.tmp 20] #[],none⟩,⟨some 22,.build 99 #[(0, (.func 33)), (1, (.tmp 15)), (2, (.tmp 16)), (3, (.tmp 17)), (4, (.tmp 19)), (5, (.tmp 21))],none⟩,⟨some 5,.alloc 99,none⟩,⟨none,.store 99 (.tmp 5) (.tmp 22),none⟩]
def c22_r4:List SOp:=[⟨some 23,.fieldAddr 32 (.tmp 3) 0,none⟩,⟨some 24,.load 3 (.tmp 23),none⟩,⟨some 25,.indexAddr 99 (.tmp 5) (.tmp 24),none⟩,⟨some 26,.load 95 (.tmp 25),none⟩,⟨some 27,.call ⟨.value (.tmp 26),#[],#[]⟩,none⟩,⟨none,.store 70 (.tmp 4) (.tmp 27),none⟩]
def c22:SC:=(.seq (.reg c22_r0 none (some [2,3,4])) (.seq (.seq (.reg c22_r1 none (some [2,3,4,13])) (.cond (.tmp 13) (.seq (.reg c22_r2 none (some [4])) .ret) .skip (some [2,3,4]))) (.seq (.reg c22_r3 none (some [3,4,5])) (.seq (.reg c22_r4 none (some [4])) .ret))))
theorem c22_eq : ∃ code, Tryz.f22.body = some code ∧ compile H22 code = c22 :=⟨_,rfl,by kernel_rfl⟩
theorem c22_fn : Tryz.prog.funcs[22]? = some Tryz.f22:=by kernel_rfl
theorem c22_rs : Tryz.f22.results.toList = [.cell 4 70]:=by kernel_rfl
theorem c22_ok : fnB Tryz.prog H22 Tryz.f22 = true:=by kernel_rfl
theorem c22_nt : Tryz.f22.ntmps = 28:=by kernel_rfl
def H23:Hint:=⟨[(1,[2]),(0,[0,2])],[]⟩
def c23_r0:List SOp:=[⟨some 2,.alloc 35,none⟩]
def c23_r1:List SOp:=[⟨some 3,.move (.tmp 0),none⟩,⟨some 4,.nilCheck (.tmp 3),none⟩,⟨some 5,.fieldAddr 94 (.tmp 4) 7,none⟩,⟨some 6,.load 35 (.tmp 5),none⟩,⟨none,.store 35 (.tmp 2) (.tmp 6),none⟩]
def c23:SC:=(.seq (.reg c23_r0 none (some [0,2])) (.seq (.reg c23_r1 none (some [2])) .ret))
theorem c23_eq : ∃ code, Tryz.f23.body = some code ∧ compile H23 code = c23 :=⟨_,rfl,by kernel_rfl⟩
theorem c23_fn : Tryz.prog.funcs[23]? = some Tryz.f23:=by kernel_rfl
theorem c23_rs : Tryz.f23.results.toList = [.cell 2 35]:=by kernel_rfl
theorem c23_ok : fnB Tryz.prog H23 Tryz.f23 = true:=by kernel_rfl
theorem c23_nt : Tryz.f23.ntmps = 7:=by kernel_rfl
def H24:Hint:=⟨[(1,[2]),(0,[1])],[]⟩
def c24_r0:List SOp:=[⟨some 1,.box 33 (.tmp 0),none⟩,⟨some 2,.assign (.const .nilFunc),none⟩]
def c24_r1:List SOp:=[⟨some 3,.makeFunc (.func 42) #[] #[.tmp 1],none⟩,⟨some 2,.assign (.tmp 3),none⟩]
def c24:SC:=(.seq (.reg c24_r0 none (some [1])) (.seq (.reg c24_r1 none (some [2])) .ret))
theorem c24_eq : ∃ code, Tryz.f24.body = some code ∧ compile H24 code = c24 :=⟨_,rfl,by kernel_rfl⟩
theorem c24_fn : Tryz.prog.funcs[24]? = some Tryz.f24:=by kernel_rfl
theorem c24_rs : Tryz.f24.results.toList = [.tmp 2]:=by kernel_rfl
theorem c24_ok : fnB Tryz.prog H24 Tryz.f24 = true:=by kernel_rfl
theorem c24_nt : Tryz.f24.ntmps = 4:=by kernel_rfl
def H25:Hint:=⟨[(2,[6]),(1,[0,1,2]),(0,[0,1,2])],[]⟩
def c25_r0:List SOp:=[⟨some 6,.assign (.const (.int .i64 0)),none⟩]
def c25_r1:List SOp:=[⟨some 7,.move (.tmp 2),none⟩,⟨some 8,.call ⟨.builtin .min, #[(.tmp 7),(.const (.int .i64 1099511627776))],#[3,3]⟩,none⟩,⟨some 9,.call ⟨.builtin .max, #[(.const (.int .i64 0)),(.tmp 8)],#[3,3]⟩,none⟩,⟨some 2,.assign (.tmp 9),none⟩]
def c25_r2:List SOp:=[⟨some 10,.move (.tmp 2),none⟩,⟨some 11,.move (.tmp 1),none⟩,⟨some 12,.move (.tmp 0),none⟩,⟨some 13,.move (.tmp 2),none⟩,⟨some 14,.call ⟨.value (.func 45),#[.tmp 12,.tmp 13],#[28,3]⟩,none⟩,⟨some 15,.call ⟨.value (.func 44),#[.tmp 11,.tmp 14],#[28,28]⟩,none⟩,⟨some 16,.binOp .add 3 (.tmp 10) (.tmp 15) 3,none⟩,⟨some 6,.assign (.tmp 16),none⟩]
def c25:SC:=(.seq (.reg c25_r0 none (some [0,1,2])) (.seq (.reg c25_r1 none (some [0,1,2])) (.seq (.reg c25_r2 none (some [6])) .ret)))
theorem c25_eq : ∃ code, Tryz.f25.body = some code ∧ compile H25 code = c25 :=⟨_,rfl,by kernel_rfl⟩
theorem c25_fn : Tryz.prog.funcs[25]? = some Tryz.f25:=by kernel_rfl
theorem c25_rs : Tryz.f25.results.toList = [.tmp 6]:=by kernel_rfl
theorem c25_ok : fnB Tryz.prog H25 Tryz.f25 = true:=by kernel_rfl
theorem c25_nt : Tryz.f25.ntmps = 17:=by kernel_rfl
def H27:Hint:=⟨[(7,[8,9]),(6,[0,1,10,11]),(5,[0,1,3,6,10]),(2,[8,9]),(4,[8,9]),(2000016,[0,1,3,6]),(3,[0,1,3,6,16]),(2000012,[0,1,3,6]),(1,[0,1,3,6,12]),(0,[0,1,3,6])],[(5,[(4,2),(8,2),(8,5),(13,2),(13,5),(13,10),(18,2),(18,5),(18,10),(18,15),(19,2),(19,5),(19,10),(19,15),(26,2),(26,5),(26,10),(26,15),(26,23),(30,2),(30,5),(30,10),(30,15),(30,23),(30,27)])]⟩
def c27_r0:List SOp:=[⟨some 6,.box 56 (.tmp 2),none⟩,⟨some 8,.assign (.const (.string ⟨#[]⟩)),none⟩,⟨some 9,.assign (.const (.int .i64 0)),none⟩]
def c27_r1:List SOp:=[⟨some 13,.load 56 (.tmp 6),none⟩,⟨some 14,.call ⟨.value (.func 46),#[.tmp 13],#[56]⟩,none⟩,⟨some 15,.unOp .not 4 (.tmp 14),none⟩,⟨some 12,.assign (.tmp 15),none⟩]
def c27_r2:List SOp:=[⟨some 8,.assign (.const (.string ⟨#[]⟩)),none⟩,⟨some 9,.assign (.const (.int .i64 1)),none⟩]
def c27_r3:List SOp:=[⟨some 17,.move (.tmp 3),none⟩,⟨some 18,.call ⟨.builtin .len, #[.tmp 17],#[9]⟩,none⟩,⟨some 19,.fieldAddr 56 (.tmp 6) 6,none⟩,⟨some 20,.load 9 (.tmp 19),none⟩,⟨some 21,.call ⟨.builtin .len, #[.tmp 20],#[9]⟩,none⟩,⟨some 22,.binOp .sub 3 (.const (.int .i64 1980)) (.tmp 21) 3,none⟩,⟨some 23,.binOp .gtr 3 (.tmp 18) (.tmp 22) 3,none⟩,⟨some 16,.assign (.tmp 23),none⟩]
def c27_r4:List SOp:=[⟨some 8,.assign (.const (.string ⟨#[]⟩)),none⟩,⟨some 9,.assign (.const (.int .i64 5)),none⟩]
def c27_r5:List SOp:=[⟨some 24,.fieldAddr 56 (.tmp 6) 0,none⟩,⟨some 25,.load 3 (.tmp 24),none⟩,⟨some 26,.call ⟨.value (.func 47),#[(.tmp 25),(.const (.int .i64 2))],#[3,3]⟩,none⟩,⟨some 27,.fieldAddr 56 (.tmp 6) 1,none⟩,⟨some 28,.load 3 (.tmp 27),none⟩,⟨some 29,.call ⟨.value (.func 47),#[(.tmp 28),(.const (.int .i64 2))],#[3,3]⟩,none⟩,⟨some 30,.binOp .add 9 (.tmp 26) (.tmp 29) 9,none⟩,⟨some 31,.fieldAddr 56 (.tmp 6) 2,none⟩,⟨some 32,.load 28 (.tmp 31),none⟩,⟨some 33,.convert 28 3 (.tmp 32),none⟩,⟨some 34,.call ⟨.value (.func 47),#[(.tmp 33),(.const (.int .i64 4))],#[3,3]⟩,none⟩,⟨some 35,.binOp .add 9 (.tmp 30) (.tmp 34) 9,none⟩,⟨some 36,.fieldAddr 56 (.tmp 6) 3,none⟩,⟨some 37,.load 28 (.tmp 36),none⟩,⟨some 38,.convert 28 3 (.tmp 37),none⟩,⟨some 39,.call ⟨.value (.func 47),#[(.tmp 38),(.const (.int .i64 4))],#[3,3]⟩,none⟩,⟨some 40,.binOp .add 9 (.tmp 35) (.tmp 39) 9,none⟩,⟨some 41,.fieldAddr 56 (.tmp 6) 6,none⟩,⟨some 42,.load 9 (.tmp 41),none⟩,⟨some 43,.call ⟨.builtin .len, #[.tmp 42],#[9]⟩,none⟩,⟨some 44,.binOp .add 3 (.const (.int .i64 20)) (.tmp 43) 3,none⟩,⟨some 45,.binOp .quo 3 (.tmp 44) (.const (.int .i64 4)) 3,none⟩,⟨some 46,.binOp .mul 3 (.tmp 45) (.const (.int .i64 16)) 3,none⟩,⟨some 47,.call ⟨.value (.func 47),#[(.tmp 46),(.const (.int .i64 1))],#[3,3]⟩,none⟩,⟨some 48,.binOp .add 9 (.tmp 40) (.tmp 47) 9,none⟩,⟨some 49,.fieldAddr 56 (.tmp 6) 4,none⟩,⟨some 50,.load 3 (.tmp 49),none⟩,⟨some 51,.call ⟨.value (.func 47),#[(.tmp 50),(.const (.int .i64 1))],#[3,3]⟩,none⟩,⟨some 52,.binOp .add 9 (.tmp 48) (.tmp 51) 9,none⟩,⟨some 53,.fieldAddr 56 (.tmp 6) 5,none⟩,⟨some 54,.load 3 (.tmp 53),none⟩,⟨some 55,.call ⟨.value (.func 47),#[(.tmp 54),(.const (.int .i64 2))],#[3,3]⟩,none⟩,⟨some 56,.binOp .add 9 (.tmp 52) (.tmp 55) 9,none⟩,⟨some 10,.assign (.tmp 56),none⟩]
def c27_r6:List SOp:=[⟨some 57,.fieldAddr 56 (.tmp 6) 6,none⟩,⟨some 58,.load 9 (.tmp 57),none⟩,⟨some 59,.binOp .add 9 (.const (.string ⟨#[0,0]⟩)) (.tmp 58) 9,none⟩,⟨some 60,.move (.tmp 3),none⟩,⟨some 61,.binOp .add 9 (.tmp 59) (.tmp 60) 9,none⟩,⟨some 11,.assign (.tmp 61),none⟩]
def c27_r7:List SOp:=[⟨some 62,.move (.tmp 10),none⟩,⟨some 63,.move (.tmp 0),none⟩,⟨some 64,.move (.tmp 1),none⟩,⟨some 65,.move (.tmp 10),none⟩,⟨some 66,.binOp .add 9 (.tmp 65) (.const (.string ⟨#[0,0]⟩)) 9,none⟩,⟨some 67,.move (.tmp 11),none⟩,⟨some 68,.binOp .add 9 (.tmp 66) (.tmp 67) 9,none⟩,⟨some 69,.call ⟨.value (.func 48),#[(.tmp 63),(.tmp 64),(.const (.int .i64 6)),(.tmp 68)],#[28,28,3,9]⟩,none⟩,⟨some 70,.call ⟨.value (.func 47),#[(.tmp 69),(.const (.int .i64 2))],#[3,3]⟩,none⟩,⟨some 71,.binOp .add 9 (.tmp 62) (.tmp 70) 9,none⟩,⟨some 72,.move (.tmp 11),none⟩,⟨some 73,.binOp .add 9 (.tmp 71) (.tmp 72) 9,none⟩,⟨some 8,.assign (.tmp 73),none⟩,⟨some 9,.assign (.const (.int .i64 0)),none⟩]
def c27:SC:=(.seq (.reg c27_r0 none (some [0,1,3,6])) (.seq (.block 0 (.seq (.reg c27_r1 none (some [0,1,3,6,12])) (.cond (.tmp 12) (.seq (.reg c27_r2 none (some [8,9])) .ret) (.seq (.reg c27_r3 none (some [0,1,3,6,16])) (.cond (.tmp 16) (.seq (.reg c27_r4 none (some [8,9])) .ret) .skip (some [0,1,3,6]))) (some [0,1,3,6])))) (.seq (.reg c27_r5 (some [(4, 2), (8, 2), (8, 5), (13, 2), (13, 5), (13, 10), (18, 2), (18, 5), (18, 10), (18, 15), (19, 2), (19, 5), (19, 10), (19, 15), (26, 2), (26, 5), (26, 10), (26, 15), (26, 23), (30, 2), (30, 5), (30, 10), (30, 15), (30, 23), (30, 27)]) (some [0,1,3,6,10])) (.seq (.reg c27_r6 none (some [0,1,10,11])) (.seq (.reg c27_r7 none (some [8,9])) .ret)))))
theorem c27_eq : ∃ code, Tryz.f27.body = some code ∧ compile H27 code = c27 :=⟨_,rfl,by kernel_rfl⟩
theorem c27_fn : Tryz.prog.funcs[27]? = some Tryz.f27:=by kernel_rfl
theorem c27_rs : Tryz.f27.results.toList = [.tmp 8, .tmp 9]:=by kernel_rfl
theorem c27_ok : fnB Tryz.prog H27 Tryz.f27 = true:=by kernel_rfl
theorem c27_nt : Tryz.f27.ntmps = 74:=by kernel_rfl
def H28:Hint:=⟨[(4,[6]),(3,[6]),(2000016,[3,7]),(2,[3,7,16]),(1,[3,7,8]),(0,[2,3,4])],[]⟩
def c28_r0:List SOp:=[⟨some 3,.box 60 (.tmp 0),none⟩,⟨some 4,.box 63 (.tmp 1),none⟩,⟨some 6,.assign (.const (.string ⟨#[]⟩)),none⟩]
def c28_r1:List SOp:=[⟨some 10,.load 63 (.tmp 4),none⟩,⟨some 11,.move (.tmp 2),none⟩,⟨some 12,.call ⟨.value (.func 49),#[.tmp 10,.tmp 11],#[63,9]⟩,none⟩,⟨some 9,.move (.tmp 12),none⟩,⟨some 13,.extract (.tmp 9) 0,none⟩,⟨some 14,.extract (.tmp 9) 1,none⟩,⟨some 7,.assign (.tmp 13),none⟩,⟨some 8,.assign (.tmp 14),none⟩]
def c28_r2:List SOp:=[⟨some 15,.move (.tmp 8),none⟩,⟨some 16,.binOp .neq 36 (.tmp 15) (.const (.int .i64 0)) 36,none⟩]
def c28_r3:List SOp:=[⟨some 6,.assign (.const (.string ⟨#[]⟩)),none⟩]
def c28_r4:List SOp:=[⟨some 17,.load 60 (.tmp 3),none⟩,⟨some 18,.move (.tmp 7),none⟩,⟨some 19,.call ⟨.value (.func 50),#[.tmp 17,.tmp 18],#[60,9]⟩,none⟩,⟨some 6,.assign (.tmp 19),none⟩]
def c28:SC:=(.seq (.reg c28_r0 none (some [2,3,4])) (.seq (.reg c28_r1 none (some [3,7,8])) (.seq (.seq (.reg c28_r2 none (some [3,7,16])) (.cond (.tmp 16) (.seq (.reg c28_r3 none (some [6])) .ret) .skip (some [3,7]))) (.seq (.reg c28_r4 none (some [6])) .ret))))
theorem c28_eq : ∃ code, Tryz.f28.body = some code ∧ compile H28 code = c28 :=⟨_,rfl,by kernel_rfl⟩
theorem c28_fn : Tryz.prog.funcs[28]? = some Tryz.f28:=by kernel_rfl
theorem c28_rs : Tryz.f28.results.toList = [.tmp 6]:=by kernel_rfl
theorem c28_ok : fnB Tryz.prog H28 Tryz.f28 = true:=by kernel_rfl
theorem c28_nt : Tryz.f28.ntmps = 20:=by kernel_rfl
def H29:Hint:=⟨[(2,[2]),(1,[1,3]),(0,[1])],[]⟩
def c29_r0:List SOp:=[⟨some 1,.box 40 (.tmp 0),none⟩,⟨some 2,.assign (.const (.bool false)),none⟩]
def c29_r1:List SOp:=[⟨some 4,.fieldAddr 40 (.tmp 1) 0,none⟩,⟨some 5,.load 3 (.tmp 4),none⟩,⟨some 6,.call ⟨.value (.func 51),#[(.tmp 5),(.const (.int .i64 1)),(.const (.int .i64 64))],#[3,3,3]⟩,none⟩,⟨some 7,.move (.tmp 6),none⟩,⟨some 8,.fieldAddr 40 (.tmp 1) 1,some (some 7,true)⟩,⟨some 9,.load 3 (.tmp 8),some (some 7,true)⟩,⟨some 10,.call ⟨.value (.func 51),#[(.tmp 9),(.const (.int .i64 1)),(.const (.int .i64 32))],#[3,3,3]⟩,some (some 7,true)⟩,⟨some 11,.pick (.tmp 7) (.tmp 10) (.const (.bool false)),none⟩,⟨some 12,.move (.tmp 11),none⟩,⟨some 13,.fieldAddr 40 (.tmp 1) 2,some (some 12,true)⟩,⟨some 14,.load 3 (.tmp 13),some (some 12,true)⟩,⟨some 15,.call ⟨.value (.func 51),#[(.tmp 14),(.const (.int .i64 0)),(.const (.int .i64 1024))],#[3,3,3]⟩,some (some 12,true)⟩,⟨some 16,.pick (.tmp 12) (.tmp 15) (.const (.bool false)),none⟩,⟨some 17,.move (.tmp 16),none⟩,⟨some 18,.fieldAddr 40 (.tmp 1) 3,some (some 17,true)⟩,⟨some 19,.load 3 (.tmp 18),some (some 17,true)⟩,⟨some 20,.call ⟨.value (.func 51),#[(.tmp 19),(.const (.int .i64 0)),(.const (.int .i64 1024))],#[3,3,3]⟩,some (some 17,true)⟩,⟨some 21,.pick (.tmp 17) (.tmp 20) (.const (.bool false)),none⟩,⟨some 22,.move (.tmp 21),none⟩,⟨some 23,.fieldAddr 40 (.tmp 1) 4,some (some 22,true)⟩,⟨some 24,.load 3 (.tmp 23),some (some 22,true)⟩,⟨some 25,.call ⟨.value (.func 51),#[(.tmp 24),(.const (.int .i64 1)),(.const (.int .i64 32))],#[3,3,3]⟩,some (some 22,true)⟩,⟨some 26,.pick (.tmp 22) (.tmp 25) (.const (.bool false)),none⟩,⟨some 27,.move (.tmp 26),none⟩,⟨some 28,.fieldAddr 40 (.tmp 1) 5,some (some 27,true)⟩,⟨some 29,.load 3 (.tmp 28),some (some 27,true)⟩,⟨some 30,.call ⟨.value (.func 51),#[(.tmp 29),(.const (.int .i64 1)),(.const (.int .i64 4096))],#[3,3,3]⟩,some (some 27,true)⟩,⟨some 31,.pick (.tmp 27) (.tmp 30) (.const (.bool false)),none⟩,⟨some 3,.assign (.tmp 31),none⟩]
def c29_r2:List SOp:=[⟨some 32,.move (.tmp 3),none⟩,⟨some 33,.move (.tmp 32),none⟩,⟨some 34,.fieldAddr 40 (.tmp 1) 6,some (some 33,true)⟩,⟨some 35,.load 3 (.tmp 34),some (some 33,true)⟩,⟨some 36,.call ⟨.value (.func 51),#[(.tmp 35),(.const (.int .i64 1)),(.const (.int .i64 100000))],#[3,3,3]⟩,some (some 33,true)⟩,⟨some 37,.pick (.tmp 33) (.tmp 36) (.const (.bool false)),none⟩,⟨some 38,.move (.tmp 37),none⟩,⟨some 39,.fieldAddr 40 (.tmp 1) 7,some (some 38,true)⟩,⟨some 40,.load 3 (.tmp 39),some (some 38,true)⟩,⟨some 41,.call ⟨.value (.func 51),#[(.tmp 40),(.const (.int .i64 1)),(.const (.int .i64 100000))],#[3,3,3]⟩,some (some 38,true)⟩,⟨some 42,.pick (.tmp 38) (.tmp 41) (.const (.bool false)),none⟩,⟨some 43,.move (.tmp 42),none⟩,⟨some 44,.fieldAddr 40 (.tmp 1) 8,some (some 43,true)⟩,⟨some 45,.load 3 (.tmp 44),some (some 43,true)⟩,⟨some 46,.call ⟨.value (.func 51),#[(.tmp 45),(.const (.int .i64 1)),(.const (.int .i64 100000))],#[3,3,3]⟩,some (some 43,true)⟩,⟨some 47,.pick (.tmp 43) (.tmp 46) (.const (.bool false)),none⟩,⟨some 2,.assign (.tmp 47),none⟩]
def c29:SC:=(.seq (.reg c29_r0 none (some [1])) (.seq (.reg c29_r1 none (some [1,3])) (.seq (.reg c29_r2 none (some [2])) .ret)))
theorem c29_eq : ∃ code, Tryz.f29.body = some code ∧ compile H29 code = c29 :=⟨_,rfl,by kernel_rfl⟩
theorem c29_fn : Tryz.prog.funcs[29]? = some Tryz.f29:=by kernel_rfl
theorem c29_rs : Tryz.f29.results.toList = [.tmp 2]:=by kernel_rfl
theorem c29_ok : fnB Tryz.prog H29 Tryz.f29 = true:=by kernel_rfl
theorem c29_nt : Tryz.f29.ntmps = 48:=by kernel_rfl
def H30:Hint:=⟨[(1,[4]),(0,[0,1])],[]⟩
def c30_r0:List SOp:=[⟨some 4,.assign (.const (.pointer none)),none⟩]
def c30_r1:List SOp:=[⟨some 5,.move (.tmp 0),none⟩,⟨some 6,.call ⟨.value (.func 52),#[(.tmp 5),(.const (.int .i64 32))],#[3,3]⟩,none⟩,⟨some 7,.move (.tmp 1),none⟩,⟨some 8,.call ⟨.value (.func 52),#[(.tmp 7),(.const (.int .i64 100000))],#[3,3]⟩,none⟩,⟨some 9,.makeMap 112 none,none⟩,⟨some 10,.build 114 #[(0, (.tmp 6)), (1, (.tmp 8)), (2, (.tmp 9))],none⟩,⟨some 11,.box 114 (.tmp 10),none⟩,⟨some 4,.assign (.tmp 11),none⟩]
def c30:SC:=(.seq (.reg c30_r0 none (some [0,1])) (.seq (.reg c30_r1 none (some [4])) .ret))
theorem c30_eq : ∃ code, Tryz.f30.body = some code ∧ compile H30 code = c30 :=⟨_,rfl,by kernel_rfl⟩
theorem c30_fn : Tryz.prog.funcs[30]? = some Tryz.f30:=by kernel_rfl
theorem c30_rs : Tryz.f30.results.toList = [.tmp 4]:=by kernel_rfl
theorem c30_ok : fnB Tryz.prog H30 Tryz.f30 = true:=by kernel_rfl
theorem c30_nt : Tryz.f30.ntmps = 12:=by kernel_rfl
def H31:Hint:=⟨[(3,[4]),(2,[0,1,5]),(1,[0,1,5]),(0,[0,1])],[]⟩
def c31_r0:List SOp:=[⟨some 4,.assign (.const (.pointer none)),none⟩]
def c31_r1:List SOp:=[⟨some 6,.build 117 #[],none⟩,⟨some 7,.box 117 (.tmp 6),none⟩,⟨some 5,.assign (.tmp 7),none⟩]
def c31_r2:List SOp:=[⟨some 8,.move (.tmp 5),none⟩,⟨some 9,.move (.tmp 5),none⟩,⟨some 10,.move (.tmp 5),none⟩,⟨some 11,.move (.tmp 5),none⟩,⟨some 12,.nilCheck (.tmp 8),none⟩,⟨some 13,.fieldAddr 117 (.tmp 12) 3,none⟩,⟨none,.store 115 (.tmp 13) (.tmp 10),none⟩,⟨some 14,.nilCheck (.tmp 9),none⟩,⟨some 15,.fieldAddr 117 (.tmp 14) 4,none⟩,⟨none,.store 115 (.tmp 15) (.tmp 11),none⟩]
def c31_r3:List SOp:=[⟨some 16,.move (.tmp 0),none⟩,⟨some 17,.call ⟨.value (.func 53),#[(.tmp 16),(.const (.int .i64 64))],#[3,3]⟩,none⟩,⟨some 18,.move (.tmp 1),none⟩,⟨some 19,.call ⟨.value (.func 53),#[(.tmp 18),(.const (.int .i64 100000))],#[3,3]⟩,none⟩,⟨some 20,.move (.tmp 5),none⟩,⟨some 21,.makeMap 118 none,none⟩,⟨some 22,.build 120 #[(0, (.tmp 17)), (1, (.tmp 19)), (4, (.tmp 20)), (5, (.tmp 21))],none⟩,⟨some 23,.box 120 (.tmp 22),none⟩,⟨some 4,.assign (.tmp 23),none⟩]
def c31:SC:=(.seq (.reg c31_r0 none (some [0,1])) (.seq (.reg c31_r1 none (some [0,1,5])) (.seq (.reg c31_r2 none (some [0,1,5])) (.seq (.reg c31_r3 none (some [4])) .ret))))
theorem c31_eq : ∃ code, Tryz.f31.body = some code ∧ compile H31 code = c31 :=⟨_,rfl,by kernel_rfl⟩
theorem c31_fn : Tryz.prog.funcs[31]? = some Tryz.f31:=by kernel_rfl
theorem c31_rs : Tryz.f31.results.toList = [.tmp 4]:=by kernel_rfl
theorem c31_ok : fnB Tryz.prog H31 Tryz.f31 = true:=by kernel_rfl
theorem c31_nt : Tryz.f31.ntmps = 24:=by kernel_rfl
def H32:Hint:=⟨[(4,[2]),(3,[4]),(2,[3,4]),(1,[3]),(0,[0])],[]⟩
def c32_r0:List SOp:=[⟨some 2,.assign (.const (.pointer none)),none⟩]
def c32_r1:List SOp:=[⟨some 5,.move (.tmp 0),none⟩,⟨some 6,.call ⟨.builtin .min, #[(.tmp 5),(.const (.int .i64 100000))],#[3,3]⟩,none⟩,⟨some 7,.call ⟨.builtin .max, #[(.const (.int .i64 1)),(.tmp 6)],#[3,3]⟩,none⟩,⟨some 3,.alloc 3,none⟩,⟨none,.store 3 (.tmp 3) (.tmp 7),none⟩]
def c32_r2:List SOp:=[⟨some 8,.build 124 #[],none⟩,⟨some 9,.box 124 (.tmp 8),none⟩,⟨some 4,.alloc 89,none⟩,⟨none,.store 89 (.tmp 4) (.tmp 9),none⟩]
def c32_r3:List SOp:=[⟨some 10,.load 89 (.tmp 4),none⟩,⟨some 11,.makeFunc (.func 54) #[] #[.tmp 4,.tmp 3],none⟩,⟨some 12,.nilCheck (.tmp 10),none⟩,⟨some 13,.fieldAddr 124 (.tmp 12) 1,none⟩,⟨none,.store 121 (.tmp 13) (.tmp 11),none⟩]
def c32_r4:List SOp:=[⟨some 14,.load 89 (.tmp 4),none⟩,⟨some 2,.assign (.tmp 14),none⟩]
def c32:SC:=(.seq (.reg c32_r0 none (some [0])) (.seq (.reg c32_r1 none (some [3])) (.seq (.reg c32_r2 none (some [3,4])) (.seq (.reg c32_r3 none (some [4])) (.seq (.reg c32_r4 none (some [2])) .ret)))))
theorem c32_eq : ∃ code, Tryz.f32.body = some code ∧ compile H32 code = c32 :=⟨_,rfl,by kernel_rfl⟩
theorem c32_fn : Tryz.prog.funcs[32]? = some Tryz.f32:=by kernel_rfl
theorem c32_rs : Tryz.f32.results.toList = [.tmp 2]:=by kernel_rfl
theorem c32_ok : fnB Tryz.prog H32 Tryz.f32 = true:=by kernel_rfl
theorem c32_nt : Tryz.f32.ntmps = 15:=by kernel_rfl
def H34:Hint:=⟨[(1,[2]),(0,[0,1,2])],[]⟩
def c34_r0:List SOp:=[⟨some 2,.alloc 70,none⟩]
def c34_r1:List SOp:=[⟨some 3,.load 65 (.tmp 0),none⟩,⟨some 4,.fieldAddr 32 (.tmp 1) 1,none⟩,⟨some 5,.load 3 (.tmp 4),none⟩,⟨some 6,.fieldAddr 32 (.tmp 1) 2,none⟩,⟨some 7,.load 9 (.tmp 6),none⟩,⟨some 8,.call ⟨.value (.func 35),#[.tmp 3,.tmp 5,.tmp 7],#[65,3,9]⟩,none⟩,⟨none,.store 70 (.tmp 2) (.tmp 8),none⟩]
def c34:SC:=(.seq (.reg c34_r0 none (some [0,1,2])) (.seq (.reg c34_r1 none (some [2])) .ret))
theorem c34_eq : ∃ code, Tryz.f34.body = some code ∧ compile H34 code = c34 :=⟨_,rfl,by kernel_rfl⟩
theorem c34_fn : Tryz.prog.funcs[34]? = some Tryz.f34:=by kernel_rfl
theorem c34_rs : Tryz.f34.results.toList = [.cell 2 70]:=by kernel_rfl
theorem c34_ok : fnB Tryz.prog H34 Tryz.f34 = true:=by kernel_rfl
theorem c34_nt : Tryz.f34.ntmps = 9:=by kernel_rfl
def H35:Hint:=⟨[(8,[6]),(7,[6,7,43,44,45]),(2000052,[6,7,43,44,45]),(6,[6,7,43,44,45,52]),(5,[6,7,9,43,44,45]),(2000046,[6,7,43,44,45]),(4,[6,7,43,44,45,46]),(1000004,[6,7,43,44,45]),(3,[6,7,43,44,45]),(2,[0,6,7]),(1,[0,1,2,6]),(0,[0,1,2,6])],[]⟩
def c35_r0:List SOp:=[⟨some 6,.alloc 70,none⟩]
def c35_r1:List SOp:=[⟨some 10,.move (.tmp 0),none⟩,⟨some 11,.nilCheck (.tmp 10),none⟩,⟨some 12,.fieldAddr 94 (.tmp 11) 7,none⟩,⟨some 13,.fieldAddr 35 (.tmp 12) 0,none⟩,⟨some 14,.load 3 (.tmp 13),none⟩,⟨some 15,.binOp .add 3 (.tmp 14) (.const (.int .i64 1)) 3,none⟩,⟨some 16,.nilCheck (.tmp 10),none⟩,⟨some 17,.fieldAddr 94 (.tmp 16) 7,none⟩,⟨some 18,.fieldAddr 35 (.tmp 17) 0,none⟩,⟨none,.store 3 (.tmp 18) (.tmp 15),none⟩]
def c35_r2:List SOp:=[⟨some 19,.move (.tmp 1),none⟩,⟨some 20,.move (.tmp 2),none⟩,⟨some 21,.build 130 #[(0, (.tmp 19)), (1, (.tmp 20))],none⟩,⟨some 22,.box 130 (.tmp 21),none⟩,⟨some 7,.assign (.tmp 22),none⟩]
def c35_r3:List SOp:=[⟨some 23,.move (.tmp 0),none⟩,⟨some 24,.makeFunc (.func 55) #[.tmp 23] #[],none⟩,⟨some 25,.move (.tmp 0),none⟩,⟨some 26,.makeFunc (.func 56) #[.tmp 25] #[],none⟩,⟨some 27,.move (.tmp 0),none⟩,⟨some 28,.makeFunc (.func 57) #[.tmp 27] #[],none⟩,⟨some 29,.move (.tmp 0),none⟩,⟨some 30,.makeFunc (.func 58) #[.tmp 29] #[],none⟩,⟨some 31,.move (.tmp 0),none⟩,⟨some 32,.makeFunc (.func 59) #[.tmp 31] #[],none⟩,⟨some 33,.move (.tmp 0),none⟩,⟨some 34,.makeFunc (.func 60) #[.tmp 33] #[],none⟩,⟨some 35,.move (.tmp 0),none⟩,⟨some 36,.makeFunc (.func 61) #[.tmp 35] #[],none⟩,⟨some 37,.move (.tmp 0),none⟩,⟨some 38,.makeFunc (.func 62) #[.tmp 37] #[],none⟩,⟨some 39,.move (.tmp 0),none⟩,⟨some 40,.makeFunc (.func 63) #[.tmp 39] #[],none⟩,⟨some 41,.move (.tmp 0),none⟩,⟨some 42,.makeFunc (.func 64) #[.tmp 41] #[],none⟩,⟨some 43,.buildSlice 132 10 #[(0, (.tmp 24)), (1, (.tmp 26)), (2, (.tmp 28)), (3, (.tmp 30)), (4, (.tmp 32)), (5, (.tmp 34)), (6, (.tmp 36)), (7, (.tmp 38)), (8, (.tmp 40)), (9, (.tmp 42))],none⟩,⟨some 44,.call ⟨.builtin .len, #[.tmp 43],#[132]⟩,none⟩,⟨some 45,.move (.const (.int .i64 0)),none⟩]
def c35_r4:List SOp:=[⟨some 46,.binOp .lss 3 (.tmp 45) (.tmp 44) 3,none⟩]
def c35_r5:List SOp:=[⟨some 47,.indexAddr 132 (.tmp 43) (.tmp 45),none⟩,⟨some 48,.load 131 (.tmp 47),none⟩,⟨some 9,.assign (.tmp 48),none⟩]
def c35_r6:List SOp:=[⟨some 49,.move (.tmp 9),none⟩,⟨some 50,.move (.tmp 7),none⟩,⟨some 51,.call ⟨.value (.tmp 49),#[.tmp 50],#[127]⟩,none⟩,⟨some 52,.unOp .not 4 (.tmp 51),none⟩]
def c35_r7:List SOp:=[⟨some 53,.binOp .add 3 (.tmp 45) (.const (.int .i64 1)) 3,none⟩,⟨some 45,.move (.tmp 53),none⟩]
def c35_l4:SC:=(.seq (.reg c35_r4 none (some [6,7,43,44,45,46])) (.seq (.cond (.tmp 46) .skip (.exit 0) (some [6,7,43,44,45])) (.seq (.block 1 (.seq (.reg c35_r5 none (some [6,7,9,43,44,45])) (.seq (.reg c35_r6 none (some [6,7,43,44,45,52])) (.cond (.tmp 52) (.exit 0) .skip (some [6,7,43,44,45]))))) (.reg c35_r7 none (some [6,7,43,44,45])))))
def c35_r8:List SOp:=[⟨some 54,.move (.tmp 7),none⟩,⟨some 55,.nilCheck (.tmp 54),none⟩,⟨some 56,.fieldAddr 130 (.tmp 55) 12,none⟩,⟨some 57,.load 70 (.tmp 56),none⟩,⟨none,.store 70 (.tmp 6) (.tmp 57),none⟩]
def c35:SC:=(.seq (.reg c35_r0 none (some [0,1,2,6])) (.seq (.reg c35_r1 none (some [0,1,2,6])) (.seq (.reg c35_r2 none (some [0,6,7])) (.seq (.seq (.reg c35_r3 none (some [6,7,43,44,45])) (.block 0 (.loop c35_l4 (some [6,7,43,44,45])))) (.seq (.reg c35_r8 none (some [6])) .ret)))))
theorem c35_eq : ∃ code, Tryz.f35.body = some code ∧ compile H35 code = c35 :=⟨_,rfl,by kernel_rfl⟩
theorem c35_fn : Tryz.prog.funcs[35]? = some Tryz.f35:=by kernel_rfl
theorem c35_rs : Tryz.f35.results.toList = [.cell 6 70]:=by kernel_rfl
theorem c35_ok : fnB Tryz.prog H35 Tryz.f35 = true:=by kernel_rfl
theorem c35_nt : Tryz.f35.ntmps = 58:=by kernel_rfl
def H42:Hint:=⟨[(9,[0,9,10,11]),(8,[0,9,10,11,16,17,18]),(2000034,[0,9,10,11,16,17,18]),(7,[0,9,10,11,16,17,18,34]),(6,[0,7,8,9,10,11,16,17,18]),(5,[0,6,9,10,11,16,17,18]),(2000019,[0,9,10,11,16,17,18]),(4,[0,9,10,11,16,17,18,19]),(1000004,[0,9,10,11,16,17,18]),(3,[0,9,10,11,16,17,18]),(2,[0,4,9,10,11]),(2000012,[0,9,10,11]),(1,[0,9,10,11,12]),(1000001,[0,9,10,11]),(0,[0,9,10,11])],[]⟩
def c42_r0:List SOp:=[⟨some 9,.load 33 (.tmp 1),none⟩,⟨some 10,.call ⟨.builtin .len, #[.tmp 9],#[33]⟩,none⟩,⟨some 11,.move (.const (.int .i64 0)),none⟩]
def c42_r1:List SOp:=[⟨some 12,.binOp .lss 3 (.tmp 11) (.tmp 10) 3,none⟩]
def c42_r2:List SOp:=[⟨some 13,.indexAddr 33 (.tmp 9) (.tmp 11),none⟩,⟨some 14,.load 70 (.tmp 13),none⟩,⟨some 4,.alloc 70,none⟩,⟨none,.store 70 (.tmp 4) (.tmp 14),none⟩]
def c42_r3:List SOp:=[⟨some 15,.fieldAddr 70 (.tmp 4) 0,none⟩,⟨some 16,.load 68 (.tmp 15),none⟩,⟨some 17,.call ⟨.builtin .len, #[.tmp 16],#[68]⟩,none⟩,⟨some 18,.move (.const (.int .i64 0)),none⟩]
def c42_r4:List SOp:=[⟨some 19,.binOp .lss 3 (.tmp 18) (.tmp 17) 3,none⟩]
def c42_r5:List SOp:=[⟨some 20,.indexAddr 68 (.tmp 16) (.tmp 18),none⟩,⟨some 21,.load 102 (.tmp 20),none⟩,⟨some 6,.alloc 102,none⟩,⟨none,.store 102 (.tmp 6) (.tmp 21),none⟩]
def c42_r6:List SOp:=[⟨some 23,.fieldAddr 102 (.tmp 6) 1,none⟩,⟨some 24,.load 9 (.tmp 23),none⟩,⟨some 25,.call ⟨.value (.func 43),#[.tmp 24],#[9]⟩,none⟩,⟨some 22,.move (.tmp 25),none⟩,⟨some 26,.extract (.tmp 22) 0,none⟩,⟨some 27,.extract (.tmp 22) 1,none⟩,⟨some 7,.alloc 78,none⟩,⟨none,.store 78 (.tmp 7) (.tmp 26),none⟩,⟨some 8,.assign (.tmp 27),none⟩]
def c42_r7:List SOp:=[⟨some 28,.move (.tmp 8),none⟩,⟨some 29,.move (.tmp 28),none⟩,⟨some 30,.move (.tmp 0),some (some 29,true)⟩,⟨some 31,.load 78 (.tmp 7),some (some 29,true)⟩,⟨some 32,.call ⟨.value (.tmp 30),#[.tmp 31],#[78]⟩,some (some 29,true)⟩,⟨some 33,.unOp .not 4 (.tmp 32),some (some 29,true)⟩,⟨some 34,.pick (.tmp 29) (.tmp 33) (.const (.bool false)),none⟩]
def c42_r8:List SOp:=[⟨some 35,.binOp .add 3 (.tmp 18) (.const (.int .i64 1)) 3,none⟩,⟨some 18,.move (.tmp 35),none⟩]
def c42_l4:SC:=(.seq (.reg c42_r4 none (some [0,9,10,11,16,17,18,19])) (.seq (.cond (.tmp 19) .skip (.exit 2) (some [0,9,10,11,16,17,18])) (.seq (.block 3 (.seq (.reg c42_r5 none (some [0,6,9,10,11,16,17,18])) (.seq (.reg c42_r6 none (some [0,7,8,9,10,11,16,17,18])) (.seq (.reg c42_r7 none (some [0,9,10,11,16,17,18,34])) (.cond (.tmp 34) .ret .skip (some [0,9,10,11,16,17,18])))))) (.reg c42_r8 none (some [0,9,10,11,16,17,18])))))
def c42_r9:List SOp:=[⟨some 36,.binOp .add 3 (.tmp 11) (.const (.int .i64 1)) 3,none⟩,⟨some 11,.move (.tmp 36),none⟩]
def c42_l1:SC:=(.seq (.reg c42_r1 none (some [0,9,10,11,12])) (.seq (.cond (.tmp 12) .skip (.exit 0) (some [0,9,10,11])) (.seq (.block 1 (.seq (.reg c42_r2 none (some [0,4,9,10,11])) (.seq (.reg c42_r3 none (some [0,9,10,11,16,17,18])) (.block 2 (.loop c42_l4 (some [0,9,10,11,16,17,18])))))) (.reg c42_r9 none (some [0,9,10,11])))))
def c42:SC:=(.seq (.reg c42_r0 none (some [0,9,10,11])) (.block 0 (.loop c42_l1 (some [0,9,10,11]))))
theorem c42_eq : ∃ code, Tryz.f42.body = some code ∧ compile H42 code = c42 :=⟨_,rfl,by kernel_rfl⟩
theorem c42_fn : Tryz.prog.funcs[42]? = some Tryz.f42:=by kernel_rfl
theorem c42_rs : Tryz.f42.results.toList = []:=by kernel_rfl
theorem c42_ok : fnB Tryz.prog H42 Tryz.f42 = true:=by kernel_rfl
theorem c42_nt : Tryz.f42.ntmps = 37:=by kernel_rfl
def H43:Hint:=⟨[(8,[2,3]),(7,[2,6,7,8,9]),(6,[2,3]),(2000036,[2,5,7]),(5,[2,5,7,36]),(4,[2,5,6,7]),(3,[2,3]),(2000022,[2,5]),(2,[2,5,22]),(1,[2,4,5,6]),(0,[0,2])],[]⟩
def c43_r0:List SOp:=[⟨some 2,.alloc 78,none⟩,⟨some 3,.assign (.const (.bool false)),none⟩]
def c43_r1:List SOp:=[⟨some 11,.move (.tmp 0),none⟩,⟨some 12,.call ⟨.value (.func 76),#[.tmp 11],#[9]⟩,none⟩,⟨some 10,.move (.tmp 12),none⟩,⟨some 13,.extract (.tmp 10) 0,none⟩,⟨some 14,.extract (.tmp 10) 1,none⟩,⟨some 15,.extract (.tmp 10) 2,none⟩,⟨some 4,.alloc 60,none⟩,⟨none,.store 60 (.tmp 4) (.tmp 13),none⟩,⟨some 5,.assign (.tmp 14),none⟩,⟨some 6,.assign (.tmp 15),none⟩]
def c43_r2:List SOp:=[⟨some 16,.move (.tmp 6),none⟩,⟨some 17,.binOp .neq 36 (.tmp 16) (.const (.int .i64 0)) 36,none⟩,⟨some 18,.move (.tmp 17),none⟩,⟨some 19,.fieldAddr 60 (.tmp 4) 2,some (some 18,false)⟩,⟨some 20,.load 3 (.tmp 19),some (some 18,false)⟩,⟨some 21,.binOp .neq 3 (.tmp 20) (.const (.int .i64 2048)) 3,some (some 18,false)⟩,⟨some 22,.pick (.tmp 18) (.const (.bool true)) (.tmp 21),none⟩]
def c43_r3:List SOp:=[⟨some 23,.build 78 #[],none⟩,⟨none,.store 78 (.tmp 2) (.tmp 23),none⟩,⟨some 3,.assign (.const (.bool false)),none⟩]
def c43_r4:List SOp:=[⟨some 25,.move (.tmp 5),none⟩,⟨some 26,.call ⟨.value (.func 77),#[.tmp 25],#[9]⟩,none⟩,⟨some 24,.move (.tmp 26),none⟩,⟨some 27,.extract (.tmp 24) 0,none⟩,⟨some 28,.extract (.tmp 24) 1,none⟩,⟨some 29,.extract (.tmp 24) 2,none⟩,⟨some 7,.alloc 63,none⟩,⟨none,.store 63 (.tmp 7) (.tmp 27),none⟩,⟨some 5,.assign (.tmp 28),none⟩,⟨some 6,.assign (.tmp 29),none⟩]
def c43_r5:List SOp:=[⟨some 30,.move (.tmp 6),none⟩,⟨some 31,.binOp .neq 36 (.tmp 30) (.const (.int .i64 0)) 36,none⟩,⟨some 32,.move (.tmp 31),none⟩,⟨some 33,.fieldAddr 63 (.tmp 7) 6,some (some 32,false)⟩,⟨some 34,.load 3 (.tmp 33),some (some 32,false)⟩,⟨some 35,.binOp .neq 3 (.tmp 34) (.const (.int .i64 6)) 3,some (some 32,false)⟩,⟨some 36,.pick (.tmp 32) (.const (.bool true)) (.tmp 35),none⟩]
def c43_r6:List SOp:=[⟨some 37,.build 78 #[],none⟩,⟨none,.store 78 (.tmp 2) (.tmp 37),none⟩,⟨some 3,.assign (.const (.bool false)),none⟩]
def c43_r7:List SOp:=[⟨some 39,.fieldAddr 63 (.tmp 7) 7,none⟩,⟨some 40,.load 28 (.tmp 39),none⟩,⟨some 41,.fieldAddr 63 (.tmp 7) 8,none⟩,⟨some 42,.load 28 (.tmp 41),none⟩,⟨some 43,.move (.tmp 5),none⟩,⟨some 44,.call ⟨.value (.func 78),#[.tmp 40,.tmp 42,.tmp 43],#[28,28,9]⟩,none⟩,⟨some 38,.move (.tmp 44),none⟩,⟨some 45,.extract (.tmp 38) 0,none⟩,⟨some 46,.extract (.tmp 38) 1,none⟩,⟨some 47,.extract (.tmp 38) 2,none⟩,⟨some 8,.alloc 56,none⟩,⟨none,.store 56 (.tmp 8) (.tmp 45),none⟩,⟨some 9,.assign (.tmp 46),none⟩,⟨some 6,.assign (.tmp 47),none⟩]
def c43_r8:List SOp:=[⟨some 48,.fieldAddr 63 (.tmp 7) 6,none⟩,⟨some 49,.load 3 (.tmp 48),none⟩,⟨some 50,.fieldAddr 63 (.tmp 7) 7,none⟩,⟨some 51,.load 28 (.tmp 50),none⟩,⟨some 52,.fieldAddr 63 (.tmp 7) 8,none⟩,⟨some 53,.load 28 (.tmp 52),none⟩,⟨some 54,.fieldAddr 56 (.tmp 8) 0,none⟩,⟨some 55,.load 3 (.tmp 54),none⟩,⟨some 56,.fieldAddr 56 (.tmp 8) 1,none⟩,⟨some 57,.load 3 (.tmp 56),none⟩,⟨some 58,.build 43 #[(0, (.tmp 49)), (1, (.tmp 51)), (2, (.tmp 53)), (3, (.tmp 55)), (4, (.tmp 57))],none⟩,⟨some 59,.load 56 (.tmp 8),none⟩,⟨some 60,.move (.tmp 9),none⟩,⟨some 61,.build 78 #[(0, (.tmp 58)), (1, (.tmp 59)), (2, (.tmp 60))],none⟩,⟨some 62,.move (.tmp 6),none⟩,⟨some 63,.binOp .eql 36 (.tmp 62) (.const (.int .i64 0)) 36,none⟩,⟨none,.store 78 (.tmp 2) (.tmp 61),none⟩,⟨some 3,.assign (.tmp 63),none⟩]
def c43:SC:=(.seq (.reg c43_r0 none (some [0,2])) (.seq (.reg c43_r1 none (some [2,4,5,6])) (.seq (.seq (.reg c43_r2 none (some [2,5,22])) (.cond (.tmp 22) (.seq (.reg c43_r3 none (some [2,3])) .ret) .skip (some [2,5]))) (.seq (.reg c43_r4 none (some [2,5,6,7])) (.seq (.seq (.reg c43_r5 none (some [2,5,7,36])) (.cond (.tmp 36) (.seq (.reg c43_r6 none (some [2,3])) .ret) .skip (some [2,5,7]))) (.seq (.reg c43_r7 none (some [2,6,7,8,9])) (.seq (.reg c43_r8 none (some [2,3])) .ret)))))))
theorem c43_eq : ∃ code, Tryz.f43.body = some code ∧ compile H43 code = c43 :=⟨_,rfl,by kernel_rfl⟩
theorem c43_fn : Tryz.prog.funcs[43]? = some Tryz.f43:=by kernel_rfl
theorem c43_rs : Tryz.f43.results.toList = [.cell 2 78, .tmp 3]:=by kernel_rfl
theorem c43_ok : fnB Tryz.prog H43 Tryz.f43 = true:=by kernel_rfl
theorem c43_nt : Tryz.f43.ntmps = 64:=by kernel_rfl
def H44:Hint:=⟨[(1,[4]),(0,[0,1])],[]⟩
def c44_r0:List SOp:=[⟨some 4,.assign (.const (.int .i64 0)),none⟩]
def c44_r1:List SOp:=[⟨some 5,.move (.tmp 0),none⟩,⟨some 6,.move (.tmp 1),none⟩,⟨some 7,.binOp .sub 28 (.tmp 5) (.tmp 6) 28,none⟩,⟨some 8,.call ⟨.value (.func 80),#[.tmp 7],#[28]⟩,none⟩,⟨some 9,.call ⟨.value (.func 79),#[.tmp 8],#[21]⟩,none⟩,⟨some 4,.assign (.tmp 9),none⟩]
def c44:SC:=(.seq (.reg c44_r0 none (some [0,1])) (.seq (.reg c44_r1 none (some [4])) .ret))
theorem c44_eq : ∃ code, Tryz.f44.body = some code ∧ compile H44 code = c44 :=⟨_,rfl,by kernel_rfl⟩
theorem c44_fn : Tryz.prog.funcs[44]? = some Tryz.f44:=by kernel_rfl
theorem c44_rs : Tryz.f44.results.toList = [.tmp 4]:=by kernel_rfl
theorem c44_ok : fnB Tryz.prog H44 Tryz.f44 = true:=by kernel_rfl
theorem c44_nt : Tryz.f44.ntmps = 10:=by kernel_rfl
def H45:Hint:=⟨[(1,[4]),(0,[0,1])],[]⟩
def c45_r0:List SOp:=[⟨some 4,.assign (.const (.int .u32 0)),none⟩]
def c45_r1:List SOp:=[⟨some 5,.move (.tmp 0),none⟩,⟨some 6,.move (.tmp 1),none⟩,⟨some 7,.call ⟨.value (.func 81),#[.tmp 6],#[3]⟩,none⟩,⟨some 8,.binOp .add 28 (.tmp 5) (.tmp 7) 28,none⟩,⟨some 4,.assign (.tmp 8),none⟩]
def c45:SC:=(.seq (.reg c45_r0 none (some [0,1])) (.seq (.reg c45_r1 none (some [4])) .ret))
theorem c45_eq : ∃ code, Tryz.f45.body = some code ∧ compile H45 code = c45 :=⟨_,rfl,by kernel_rfl⟩
theorem c45_fn : Tryz.prog.funcs[45]? = some Tryz.f45:=by kernel_rfl
theorem c45_rs : Tryz.f45.results.toList = [.tmp 4]:=by kernel_rfl
theorem c45_ok : fnB Tryz.prog H45 Tryz.f45 = true:=by kernel_rfl
theorem c45_nt : Tryz.f45.ntmps = 9:=by kernel_rfl
def H46:Hint:=⟨[(1,[2]),(0,[1])],[]⟩
def c46_r0:List SOp:=[⟨some 1,.box 56 (.tmp 0),none⟩,⟨some 2,.assign (.const (.bool false)),none⟩]
def c46_r1:List SOp:=[⟨some 3,.fieldAddr 56 (.tmp 1) 0,none⟩,⟨some 4,.load 3 (.tmp 3),none⟩,⟨some 5,.binOp .geq 3 (.tmp 4) (.const (.int .i64 0)) 3,none⟩,⟨some 6,.move (.tmp 5),none⟩,⟨some 7,.fieldAddr 56 (.tmp 1) 0,some (some 6,true)⟩,⟨some 8,.load 3 (.tmp 7),some (some 6,true)⟩,⟨some 9,.binOp .leq 3 (.tmp 8) (.const (.int .i64 65535)) 3,some (some 6,true)⟩,⟨some 10,.pick (.tmp 6) (.tmp 9) (.const (.bool false)),none⟩,⟨some 11,.move (.tmp 10),none⟩,⟨some 12,.fieldAddr 56 (.tmp 1) 1,some (some 11,true)⟩,⟨some 13,.load 3 (.tmp 12),some (some 11,true)⟩,⟨some 14,.binOp .geq 3 (.tmp 13) (.const (.int .i64 0)) 3,some (some 11,true)⟩,⟨some 15,.pick (.tmp 11) (.tmp 14) (.const (.bool false)),none⟩,⟨some 16,.move (.tmp 15),none⟩,⟨some 17,.fieldAddr 56 (.tmp 1) 1,some (some 16,true)⟩,⟨some 18,.load 3 (.tmp 17),some (some 16,true)⟩,⟨some 19,.binOp .leq 3 (.tmp 18) (.const (.int .i64 65535)) 3,some (some 16,true)⟩,⟨some 20,.pick (.tmp 16) (.tmp 19) (.const (.bool false)),none⟩,⟨some 21,.move (.tmp 20),none⟩,⟨some 22,.fieldAddr 56 (.tmp 1) 5,some (some 21,true)⟩,⟨some 23,.load 3 (.tmp 22),some (some 21,true)⟩,⟨some 24,.binOp .geq 3 (.tmp 23) (.const (.int .i64 0)) 3,some (some 21,true)⟩,⟨some 25,.pick (.tmp 21) (.tmp 24) (.const (.bool false)),none⟩,⟨some 26,.move (.tmp 25),none⟩,⟨some 27,.fieldAddr 56 (.tmp 1) 5,some (some 26,true)⟩,⟨some 28,.load 3 (.tmp 27),some (some 26,true)⟩,⟨some 29,.binOp .leq 3 (.tmp 28) (.const (.int .i64 65535)) 3,some (some 26,true)⟩,⟨some 30,.pick (.tmp 26) (.tmp 29) (.const (.bool false)),none⟩,⟨some 31,.move (.tmp 30),none⟩,⟨some 32,.fieldAddr 56 (.tmp 1) 4,some (some 31,true)⟩,⟨some 33,.load 3 (.tmp 32),some (some 31,true)⟩,⟨some 34,.binOp .geq 3 (.tmp 33) (.const (.int .i64 0)) 3,some (some 31,true)⟩,⟨some 35,.pick (.tmp 31) (.tmp 34) (.const (.bool false)),none⟩,⟨some 36,.move (.tmp 35),none⟩,⟨some 37,.fieldAddr 56 (.tmp 1) 4,some (some 36,true)⟩,⟨some 38,.load 3 (.tmp 37),some (some 36,true)⟩,⟨some 39,.binOp .leq 3 (.tmp 38) (.const (.int .i64 63)) 3,some (some 36,true)⟩,⟨some 40,.pick (.tmp 36) (.tmp 39) (.const (.bool false)),none⟩,⟨some 41,.move (.tmp 40),none⟩,⟨some 42,.fieldAddr 56 (.tmp 1) 6,some (some 41,true)⟩,⟨some 43,.load 9 (.tmp 42),some (some 41,true)⟩,⟨some 44,.call ⟨.builtin .len, #[.tmp 43],#[9]⟩,some (some 41,true)⟩,⟨some 45,.binOp .leq 3 (.tmp 44) (.const (.int .i64 40)) 3,some (some 41,true)⟩,⟨some 46,.pick (.tmp 41) (.tmp 45) (.const (.bool false)),none⟩,⟨some 47,.move (.tmp 46),none⟩,⟨some 48,.fieldAddr 56 (.tmp 1) 6,some (some 47,true)⟩,⟨some 49,.load 9 (.tmp 48),some (some 47,true)⟩,⟨some 50,.call ⟨.builtin .len, #[.tmp 49],#[9]⟩,some (some 47,true)⟩,⟨some 51,.binOp .rem 3 (.tmp 50) (.const (.int .i64 4)) 3,some (some 47,true)⟩,⟨some 52,.binOp .eql 3 (.tmp 51) (.const (.int .i64 0)) 3,some (some 47,true)⟩,⟨some 53,.pick (.tmp 47) (.tmp 52) (.const (.bool false)),none⟩,⟨some 2,.assign (.tmp 53),none⟩]
def c46:SC:=(.seq (.reg c46_r0 none (some [1])) (.seq (.reg c46_r1 none (some [2])) .ret))
theorem c46_eq : ∃ code, Tryz.f46.body = some code ∧ compile H46 code = c46 :=⟨_,rfl,by kernel_rfl⟩
theorem c46_fn : Tryz.prog.funcs[46]? = some Tryz.f46:=by kernel_rfl
theorem c46_rs : Tryz.f46.results.toList = [.tmp 2]:=by kernel_rfl
theorem c46_ok : fnB Tryz.prog H46 Tryz.f46 = true:=by kernel_rfl
theorem c46_nt : Tryz.f46.ntmps = 54:=by kernel_rfl
def H47:Hint:=⟨[(7,[4]),(4,[0,1,5,6]),(6,[0,1,5,6]),(5,[0,1,5,6]),(2000013,[0,1,5,6]),(3,[0,1,5,6,13]),(1000003,[0,1,5,6]),(2,[0,1,5,6]),(1,[0,1,5]),(0,[0,1])],[]⟩
def c47_r0:List SOp:=[⟨some 4,.assign (.const (.string ⟨#[]⟩)),none⟩]
def c47_r1:List SOp:=[⟨some 5,.assign (.const (.string ⟨#[]⟩)),none⟩]
def c47_r2:List SOp:=[⟨some 6,.assign (.const (.int .i64 0)),none⟩]
def c47_r3:List SOp:=[⟨some 7,.move (.tmp 6),none⟩,⟨some 8,.move (.tmp 1),none⟩,⟨some 9,.binOp .lss 3 (.tmp 7) (.tmp 8) 3,none⟩,⟨some 10,.move (.tmp 9),none⟩,⟨some 11,.move (.tmp 6),some (some 10,true)⟩,⟨some 12,.binOp .lss 3 (.tmp 11) (.const (.int .i64 8)) 3,some (some 10,true)⟩,⟨some 13,.pick (.tmp 10) (.tmp 12) (.const (.bool false)),none⟩]
def c47_r5:List SOp:=[⟨some 16,.move (.tmp 0),none⟩,⟨some 17,.convert 3 5 (.tmp 16),none⟩,⟨some 18,.buildSlice 54 1 #[(0, (.tmp 17))],none⟩,⟨some 19,.convert 54 9 (.tmp 18),none⟩,⟨some 20,.move (.tmp 5),none⟩,⟨some 21,.binOp .add 9 (.tmp 19) (.tmp 20) 9,none⟩,⟨some 5,.assign (.tmp 21),none⟩]
def c47_r6:List SOp:=[⟨some 22,.move (.tmp 0),none⟩,⟨some 23,.binOp .shr 3 (.tmp 22) (.const (.int .u64 8)) 165,none⟩,⟨some 0,.assign (.tmp 23),none⟩]
def c47_r4:List SOp:=[⟨some 14,.move (.tmp 6),none⟩,⟨some 15,.binOp .add 3 (.tmp 14) (.const (.int .i64 1)) 3,none⟩,⟨some 6,.assign (.tmp 15),none⟩]
def c47_l3:SC:=(.seq (.seq (.reg c47_r3 none (some [0,1,5,6,13])) (.cond (.tmp 13) .skip (.exit 0) (some [0,1,5,6]))) (.seq (.block 1 (.seq (.reg c47_r5 none (some [0,1,5,6])) (.reg c47_r6 none (some [0,1,5,6])))) (.reg c47_r4 none (some [0,1,5,6]))))
def c47_r7:List SOp:=[⟨some 24,.move (.tmp 5),none⟩,⟨some 4,.assign (.tmp 24),none⟩]
def c47:SC:=(.seq (.reg c47_r0 none (some [0,1])) (.seq (.reg c47_r1 none (some [0,1,5])) (.seq (.seq (.reg c47_r2 none (some [0,1,5,6])) (.block 0 (.loop c47_l3 (some [0,1,5,6])))) (.seq (.reg c47_r7 none (some [4])) .ret))))
theorem c47_eq : ∃ code, Tryz.f47.body = some code ∧ compile H47 code = c47 :=⟨_,rfl,by kernel_rfl⟩
theorem c47_fn : Tryz.prog.funcs[47]? = some Tryz.f47:=by kernel_rfl
theorem c47_rs : Tryz.f47.results.toList = [.tmp 4]:=by kernel_rfl
theorem c47_ok : fnB Tryz.prog H47 Tryz.f47 = true:=by kernel_rfl
theorem c47_nt : Tryz.f47.ntmps = 25:=by kernel_rfl
def H48:Hint:=⟨[(1,[8]),(0,[0,1,2,3])],[]⟩
def c48_r0:List SOp:=[⟨some 8,.assign (.const (.int .i64 0)),none⟩]
def c48_r1:List SOp:=[⟨some 9,.move (.tmp 0),none⟩,⟨some 10,.convert 28 3 (.tmp 9),none⟩,⟨some 11,.call ⟨.value (.func 47),#[(.tmp 10),(.const (.int .i64 4))],#[3,3]⟩,none⟩,⟨some 12,.move (.tmp 1),none⟩,⟨some 13,.convert 28 3 (.tmp 12),none⟩,⟨some 14,.call ⟨.value (.func 47),#[(.tmp 13),(.const (.int .i64 4))],#[3,3]⟩,none⟩,⟨some 15,.binOp .add 9 (.tmp 11) (.tmp 14) 9,none⟩,⟨some 16,.move (.tmp 2),none⟩,⟨some 17,.call ⟨.value (.func 47),#[(.tmp 16),(.const (.int .i64 2))],#[3,3]⟩,none⟩,⟨some 18,.binOp .add 9 (.tmp 15) (.tmp 17) 9,none⟩,⟨some 19,.move (.tmp 3),none⟩,⟨some 20,.call ⟨.builtin .len, #[.tmp 19],#[9]⟩,none⟩,⟨some 21,.call ⟨.value (.func 47),#[(.tmp 20),(.const (.int .i64 2))],#[3,3]⟩,none⟩,⟨some 22,.binOp .add 9 (.tmp 18) (.tmp 21) 9,none⟩,⟨some 23,.move (.tmp 3),none⟩,⟨some 24,.binOp .add 9 (.tmp 22) (.tmp 23) 9,none⟩,⟨some 25,.call ⟨.value (.func 82),#[.tmp 24],#[9]⟩,none⟩,⟨some 8,.assign (.tmp 25),none⟩]
def c48:SC:=(.seq (.reg c48_r0 none (some [0,1,2,3])) (.seq (.reg c48_r1 none (some [8])) .ret))
theorem c48_eq : ∃ code, Tryz.f48.body = some code ∧ compile H48 code = c48 :=⟨_,rfl,by kernel_rfl⟩
theorem c48_fn : Tryz.prog.funcs[48]? = some Tryz.f48:=by kernel_rfl
theorem c48_rs : Tryz.f48.results.toList = [.tmp 8]:=by kernel_rfl
theorem c48_ok : fnB Tryz.prog H48 Tryz.f48 = true:=by kernel_rfl
theorem c48_nt : Tryz.f48.ntmps = 26:=by kernel_rfl
def H49:Hint:=⟨[(13,[4,5]),(12,[1,8,9]),(11,[1,2,8]),(10,[1,2,6,7]),(2000030,[1,2,6,7]),(9,[1,2,6,7,30]),(8,[1,2,6,7]),(2000026,[1,2,6,7]),(7,[1,2,6,7,26]),(6,[1,2,6,7]),(5,[1,2,6]),(2,[4,5]),(4,[4,5]),(2000014,[1,2]),(3,[1,2,14]),(2000010,[1,2]),(1,[1,2,10]),(0,[1,2])],[(11,[(5,3),(10,3),(10,6),(15,3),(15,6),(15,12),(22,3),(22,6),(22,12),(22,16),(22,19),(26,3),(26,6),(26,12),(26,16),(26,19),(26,23)]),(12,[(5,3),(10,3),(10,7)])]⟩
def c49_r0:List SOp:=[⟨some 2,.box 63 (.tmp 0),none⟩,⟨some 4,.assign (.const (.string ⟨#[]⟩)),none⟩,⟨some 5,.assign (.const (.int .i64 0)),none⟩]
def c49_r1:List SOp:=[⟨some 11,.load 63 (.tmp 2),none⟩,⟨some 12,.call ⟨.value (.func 83),#[.tmp 11],#[63]⟩,none⟩,⟨some 13,.unOp .not 4 (.tmp 12),none⟩,⟨some 10,.assign (.tmp 13),none⟩]
def c49_r2:List SOp:=[⟨some 4,.assign (.const (.string ⟨#[]⟩)),none⟩,⟨some 5,.assign (.const (.int .i64 1)),none⟩]
def c49_r3:List SOp:=[⟨some 15,.move (.tmp 1),none⟩,⟨some 16,.call ⟨.builtin .len, #[.tmp 15],#[9]⟩,none⟩,⟨some 17,.binOp .gtr 3 (.tmp 16) (.const (.int .i64 2000)) 3,none⟩,⟨some 14,.assign (.tmp 17),none⟩]
def c49_r4:List SOp:=[⟨some 4,.assign (.const (.string ⟨#[]⟩)),none⟩,⟨some 5,.assign (.const (.int .i64 5)),none⟩]
def c49_r5:List SOp:=[⟨some 18,.fieldAddr 63 (.tmp 2) 9,none⟩,⟨some 19,.load 9 (.tmp 18),none⟩,⟨some 20,.call ⟨.builtin .len, #[.tmp 19],#[9]⟩,none⟩,⟨some 21,.binOp .add 3 (.const (.int .i64 20)) (.tmp 20) 3,none⟩,⟨some 6,.assign (.tmp 21),none⟩]
def c49_r6:List SOp:=[⟨some 22,.fieldAddr 63 (.tmp 2) 4,none⟩,⟨some 23,.load 3 (.tmp 22),none⟩,⟨some 24,.binOp .quo 3 (.tmp 23) (.const (.int .i64 8)) 3,none⟩,⟨some 7,.assign (.tmp 24),none⟩]
def c49_r7:List SOp:=[⟨some 25,.fieldAddr 63 (.tmp 2) 3,none⟩,⟨some 26,.load 4 (.tmp 25),none⟩]
def c49_r8:List SOp:=[⟨some 27,.move (.tmp 7),none⟩,⟨some 28,.binOp .add 3 (.tmp 27) (.const (.int .i64 16384)) 3,none⟩,⟨some 7,.assign (.tmp 28),none⟩]
def c49_r9:List SOp:=[⟨some 29,.fieldAddr 63 (.tmp 2) 2,none⟩,⟨some 30,.load 4 (.tmp 29),none⟩]
def c49_r10:List SOp:=[⟨some 31,.move (.tmp 7),none⟩,⟨some 32,.binOp .add 3 (.tmp 31) (.const (.int .i64 8192)) 3,none⟩,⟨some 7,.assign (.tmp 32),none⟩]
def c49_r11:List SOp:=[⟨some 33,.move (.tmp 6),none⟩,⟨some 34,.binOp .quo 3 (.tmp 33) (.const (.int .i64 4)) 3,none⟩,⟨some 35,.binOp .add 3 (.const (.int .i64 64)) (.tmp 34) 3,none⟩,⟨some 36,.call ⟨.value (.func 47),#[(.tmp 35),(.const (.int .i64 1))],#[3,3]⟩,none⟩,⟨some 37,.fieldAddr 63 (.tmp 2) 0,none⟩,⟨some 38,.load 3 (.tmp 37),none⟩,⟨some 39,.call ⟨.value (.func 47),#[(.tmp 38),(.const (.int .i64 1))],#[3,3]⟩,none⟩,⟨some 40,.binOp .add 9 (.tmp 36) (.tmp 39) 9,none⟩,⟨some 41,.move (.tmp 6),none⟩,⟨some 42,.move (.tmp 1),none⟩,⟨some 43,.call ⟨.builtin .len, #[.tmp 42],#[9]⟩,none⟩,⟨some 44,.binOp .add 3 (.tmp 41) (.tmp 43) 3,none⟩,⟨some 45,.call ⟨.value (.func 47),#[(.tmp 44),(.const (.int .i64 2))],#[3,3]⟩,none⟩,⟨some 46,.binOp .add 9 (.tmp 40) (.tmp 45) 9,none⟩,⟨some 47,.fieldAddr 63 (.tmp 2) 1,none⟩,⟨some 48,.load 3 (.tmp 47),none⟩,⟨some 49,.call ⟨.value (.func 47),#[(.tmp 48),(.const (.int .i64 2))],#[3,3]⟩,none⟩,⟨some 50,.binOp .add 9 (.tmp 46) (.tmp 49) 9,none⟩,⟨some 51,.move (.tmp 7),none⟩,⟨some 52,.call ⟨.value (.func 47),#[(.tmp 51),(.const (.int .i64 2))],#[3,3]⟩,none⟩,⟨some 53,.binOp .add 9 (.tmp 50) (.tmp 52) 9,none⟩,⟨some 54,.fieldAddr 63 (.tmp 2) 5,none⟩,⟨some 55,.load 3 (.tmp 54),none⟩,⟨some 56,.call ⟨.value (.func 47),#[(.tmp 55),(.const (.int .i64 1))],#[3,3]⟩,none⟩,⟨some 57,.binOp .add 9 (.tmp 53) (.tmp 56) 9,none⟩,⟨some 58,.fieldAddr 63 (.tmp 2) 6,none⟩,⟨some 59,.load 3 (.tmp 58),none⟩,⟨some 60,.call ⟨.value (.func 47),#[(.tmp 59),(.const (.int .i64 1))],#[3,3]⟩,none⟩,⟨some 61,.binOp .add 9 (.tmp 57) (.tmp 60) 9,none⟩,⟨some 8,.assign (.tmp 61),none⟩]
def c49_r12:List SOp:=[⟨some 62,.fieldAddr 63 (.tmp 2) 7,none⟩,⟨some 63,.load 28 (.tmp 62),none⟩,⟨some 64,.convert 28 3 (.tmp 63),none⟩,⟨some 65,.call ⟨.value (.func 47),#[(.tmp 64),(.const (.int .i64 4))],#[3,3]⟩,none⟩,⟨some 66,.fieldAddr 63 (.tmp 2) 8,none⟩,⟨some 67,.load 28 (.tmp 66),none⟩,⟨some 68,.convert 28 3 (.tmp 67),none⟩,⟨some 69,.call ⟨.value (.func 47),#[(.tmp 68),(.const (.int .i64 4))],#[3,3]⟩,none⟩,⟨some 70,.binOp .add 9 (.tmp 65) (.tmp 69) 9,none⟩,⟨some 71,.fieldAddr 63 (.tmp 2) 9,none⟩,⟨some 72,.load 9 (.tmp 71),none⟩,⟨some 73,.binOp .add 9 (.tmp 70) (.tmp 72) 9,none⟩,⟨some 9,.assign (.tmp 73),none⟩]
def c49_r13:List SOp:=[⟨some 74,.move (.tmp 8),none⟩,⟨some 75,.move (.tmp 8),none⟩,⟨some 76,.binOp .add 9 (.tmp 75) (.const (.string ⟨#[0,0]⟩)) 9,none⟩,⟨some 77,.move (.tmp 9),none⟩,⟨some 78,.binOp .add 9 (.tmp 76) (.tmp 77) 9,none⟩,⟨some 79,.call ⟨.value (.func 82),#[.tmp 78],#[9]⟩,none⟩,⟨some 80,.call ⟨.value (.func 47),#[(.tmp 79),(.const (.int .i64 2))],#[3,3]⟩,none⟩,⟨some 81,.binOp .add 9 (.tmp 74) (.tmp 80) 9,none⟩,⟨some 82,.move (.tmp 9),none⟩,⟨some 83,.binOp .add 9 (.tmp 81) (.tmp 82) 9,none⟩,⟨some 84,.move (.tmp 1),none⟩,⟨some 85,.binOp .add 9 (.tmp 83) (.tmp 84) 9,none⟩,⟨some 4,.assign (.tmp 85),none⟩,⟨some 5,.assign (.const (.int .i64 0)),none⟩]
def c49:SC:=(.seq (.reg c49_r0 none (some [1,2])) (.seq (.block 0 (.seq (.reg c49_r1 none (some [1,2,10])) (.cond (.tmp 10) (.seq (.reg c49_r2 none (some [4,5])) .ret) (.seq (.reg c49_r3 none (some [1,2,14])) (.cond (.tmp 14) (.seq (.reg c49_r4 none (some [4,5])) .ret) .skip (some [1,2]))) (some [1,2])))) (.seq (.reg c49_r5 none (some [1,2,6])) (.seq (.reg c49_r6 none (some [1,2,6,7])) (.seq (.seq (.reg c49_r7 none (some [1,2,6,7,26])) (.cond (.tmp 26) (.reg c49_r8 none (some [1,2,6,7])) .skip (some [1,2,6,7]))) (.seq (.seq (.reg c49_r9 none (some [1,2,6,7,30])) (.cond (.tmp 30) (.reg c49_r10 none (some [1,2,6,7])) .skip (some [1,2,6,7]))) (.seq (.reg c49_r11 (some [(5, 3), (10, 3), (10, 6), (15, 3), (15, 6), (15, 12), (22, 3), (22, 6), (22, 12), (22, 16), (22, 19), (26, 3), (26, 6), (26, 12), (26, 16), (26, 19), (26, 23)]) (some [1,2,8])) (.seq (.reg c49_r12 (some [(5, 3), (10, 3), (10, 7)]) (some [1,8,9])) (.seq (.reg c49_r13 none (some [4,5])) .ret)))))))))
theorem c49_eq : ∃ code, Tryz.f49.body = some code ∧ compile H49 code = c49 :=⟨_,rfl,by kernel_rfl⟩
theorem c49_fn : Tryz.prog.funcs[49]? = some Tryz.f49:=by kernel_rfl
theorem c49_rs : Tryz.f49.results.toList = [.tmp 4, .tmp 5]:=by kernel_rfl
theorem c49_ok : fnB Tryz.prog H49 Tryz.f49 = true:=by kernel_rfl
theorem c49_nt : Tryz.f49.ntmps = 86:=by kernel_rfl
def H50:Hint:=⟨[(1,[4]),(0,[1,2])],[(1,[(4,2),(8,2),(8,5)])]⟩
def c50_r0:List SOp:=[⟨some 2,.box 60 (.tmp 0),none⟩,⟨some 4,.assign (.const (.string ⟨#[]⟩)),none⟩]
def c50_r1:List SOp:=[⟨some 5,.fieldAddr 60 (.tmp 2) 0,none⟩,⟨some 6,.load 58 (.tmp 5),none⟩,⟨some 7,.call ⟨.value (.func 84),#[.tmp 6],#[58]⟩,none⟩,⟨some 8,.fieldAddr 60 (.tmp 2) 1,none⟩,⟨some 9,.load 58 (.tmp 8),none⟩,⟨some 10,.call ⟨.value (.func 84),#[.tmp 9],#[58]⟩,none⟩,⟨some 11,.binOp .add 9 (.tmp 7) (.tmp 10) 9,none⟩,⟨some 12,.fieldAddr 60 (.tmp 2) 2,none⟩,⟨some 13,.load 3 (.tmp 12),none⟩,⟨some 14,.call ⟨.value (.func 47),#[(.tmp 13),(.const (.int .i64 2))],#[3,3]⟩,none⟩,⟨some 15,.binOp .add 9 (.tmp 11) (.tmp 14) 9,none⟩,⟨some 16,.move (.tmp 1),none⟩,⟨some 17,.binOp .add 9 (.tmp 15) (.tmp 16) 9,none⟩,⟨some 4,.assign (.tmp 17),none⟩]
def c50:SC:=(.seq (.reg c50_r0 none (some [1,2])) (.seq (.reg c50_r1 (some [(4, 2), (8, 2), (8, 5)]) (some [4])) .ret))
theorem c50_eq : ∃ code, Tryz.f50.body = some code ∧ compile H50 code = c50 :=⟨_,rfl,by kernel_rfl⟩
theorem c50_fn : Tryz.prog.funcs[50]? = some Tryz.f50:=by kernel_rfl
theorem c50_rs : Tryz.f50.results.toList = [.tmp 4]:=by kernel_rfl
theorem c50_ok : fnB Tryz.prog H50 Tryz.f50 = true:=by kernel_rfl
theorem c50_nt : Tryz.f50.ntmps = 18:=by kernel_rfl
def H51:Hint:=⟨[(1,[6]),(0,[0,1,2])],[]⟩
def c51_r0:List SOp:=[⟨some 6,.assign (.const (.bool false)),none⟩]
def c51_r1:List SOp:=[⟨some 7,.move (.tmp 0),none⟩,⟨some 8,.move (.tmp 1),none⟩,⟨some 9,.binOp .geq 3 (.tmp 7) (.tmp 8) 3,none⟩,⟨some 10,.move (.tmp 9),none⟩,⟨some 11,.move (.tmp 0),some (some 10,true)⟩,⟨some 12,.move (.tmp 2),some (some 10,true)⟩,⟨some 13,.binOp .leq 3 (.tmp 11) (.tmp 12) 3,some (some 10,true)⟩,⟨some 14,.pick (.tmp 10) (.tmp 13) (.const (.bool false)),none⟩,⟨some 6,.assign (.tmp 14),none⟩]
def c51:SC:=(.seq (.reg c51_r0 none (some [0,1,2])) (.seq (.reg c51_r1 none (some [6])) .ret))
theorem c51_eq : ∃ code, Tryz.f51.body = some code ∧ compile H51 code = c51 :=⟨_,rfl,by kernel_rfl⟩
theorem c51_fn : Tryz.prog.funcs[51]? = some Tryz.f51:=by kernel_rfl
theorem c51_rs : Tryz.f51.results.toList = [.tmp 6]:=by kernel_rfl
theorem c51_ok : fnB Tryz.prog H51 Tryz.f51 = true:=by kernel_rfl
theorem c51_nt : Tryz.f51.ntmps = 15:=by kernel_rfl
def H52:Hint:=⟨[(1,[4]),(0,[0,1])],[]⟩
def c52_r0:List SOp:=[⟨some 4,.assign (.const (.int .i64 0)),none⟩]
def c52_r1:List SOp:=[⟨some 5,.move (.tmp 0),none⟩,⟨some 6,.move (.tmp 1),none⟩,⟨some 7,.call ⟨.builtin .min, #[.tmp 5,.tmp 6],#[3,3]⟩,none⟩,⟨some 8,.call ⟨.builtin .max, #[(.const (.int .i64 1)),(.tmp 7)],#[3,3]⟩,none⟩,⟨some 4,.assign (.tmp 8),none⟩]
def c52:SC:=(.seq (.reg c52_r0 none (some [0,1])) (.seq (.reg c52_r1 none (some [4])) .ret))
theorem c52_eq : ∃ code, Tryz.f52.body = some code ∧ compile H52 code = c52 :=⟨_,rfl,by kernel_rfl⟩
theorem c52_fn : Tryz.prog.funcs[52]? = some Tryz.f52:=by kernel_rfl
theorem c52_rs : Tryz.f52.results.toList = [.tmp 4]:=by kernel_rfl
theorem c52_ok : fnB Tryz.prog H52 Tryz.f52 = true:=by kernel_rfl
theorem c52_nt : Tryz.f52.ntmps = 9:=by kernel_rfl
def H53:Hint:=⟨[(1,[4]),(0,[0,1])],[]⟩
def c53_r0:List SOp:=[⟨some 4,.assign (.const (.int .i64 0)),none⟩]
def c53_r1:List SOp:=[⟨some 5,.move (.tmp 0),none⟩,⟨some 6,.move (.tmp 1),none⟩,⟨some 7,.call ⟨.builtin .min, #[.tmp 5,.tmp 6],#[3,3]⟩,none⟩,⟨some 8,.call ⟨.builtin .max, #[(.const (.int .i64 1)),(.tmp 7)],#[3,3]⟩,none⟩,⟨some 4,.assign (.tmp 8),none⟩]
def c53:SC:=(.seq (.reg c53_r0 none (some [0,1])) (.seq (.reg c53_r1 none (some [4])) .ret))
theorem c53_eq : ∃ code, Tryz.f53.body = some code ∧ compile H53 code = c53 :=⟨_,rfl,by kernel_rfl⟩
theorem c53_fn : Tryz.prog.funcs[53]? = some Tryz.f53:=by kernel_rfl
theorem c53_rs : Tryz.f53.results.toList = [.tmp 4]:=by kernel_rfl
theorem c53_ok : fnB Tryz.prog H53 Tryz.f53 = true:=by kernel_rfl
theorem c53_nt : Tryz.f53.ntmps = 9:=by kernel_rfl
def H55:Hint:=⟨[(7,[4]),(6,[]),(5,[4]),(2000035,[1,5,6]),(4,[0,1,5,6,35]),(3,[0,1,5,6,7]),(2,[4]),(2000019,[0,1]),(1,[0,1,19]),(0,[0,1])],[]⟩
def c55_r0:List SOp:=[⟨some 4,.assign (.const (.bool false)),none⟩]
def c55_r1:List SOp:=[⟨some 8,.move (.tmp 1),none⟩,⟨some 9,.nilCheck (.tmp 8),none⟩,⟨some 10,.fieldAddr 130 (.tmp 9) 0,none⟩,⟨some 11,.load 3 (.tmp 10),none⟩,⟨some 12,.binOp .neq 3 (.tmp 11) (.const (.int .i64 0)) 3,none⟩,⟨some 13,.move (.tmp 12),none⟩,⟨some 14,.move (.tmp 1),some (some 13,true)⟩,⟨some 15,.nilCheck (.tmp 14),some (some 13,true)⟩,⟨some 16,.fieldAddr 130 (.tmp 15) 0,some (some 13,true)⟩,⟨some 17,.load 3 (.tmp 16),some (some 13,true)⟩,⟨some 18,.binOp .neq 3 (.tmp 17) (.const (.int .i64 1)) 3,some (some 13,true)⟩,⟨some 19,.pick (.tmp 13) (.tmp 18) (.const (.bool false)),none⟩]
def c55_r2:List SOp:=[⟨some 20,.move (.tmp 0),none⟩,⟨some 21,.nilCheck (.tmp 20),none⟩,⟨some 22,.fieldAddr 94 (.tmp 21) 7,none⟩,⟨some 23,.fieldAddr 35 (.tmp 22) 2,none⟩,⟨some 24,.call ⟨.value (.func 85),#[.tmp 23],#[170]⟩,none⟩,⟨some 4,.assign (.tmp 24),none⟩]
def c55_r3:List SOp:=[⟨some 26,.move (.tmp 1),none⟩,⟨some 27,.nilCheck (.tmp 26),none⟩,⟨some 28,.fieldAddr 130 (.tmp 27) 1,none⟩,⟨some 29,.load 9 (.tmp 28),none⟩,⟨some 30,.call ⟨.value (.func 76),#[.tmp 29],#[9]⟩,none⟩,⟨some 25,.move (.tmp 30),none⟩,⟨some 31,.extract (.tmp 25) 0,none⟩,⟨some 32,.extract (.tmp 25) 1,none⟩,⟨some 33,.extract (.tmp 25) 2,none⟩,⟨some 5,.alloc 60,none⟩,⟨none,.store 60 (.tmp 5) (.tmp 31),none⟩,⟨some 6,.assign (.tmp 32),none⟩,⟨some 7,.assign (.tmp 33),none⟩]
def c55_r4:List SOp:=[⟨some 34,.move (.tmp 7),none⟩,⟨some 35,.binOp .neq 36 (.tmp 34) (.const (.int .i64 0)) 36,none⟩]
def c55_r5:List SOp:=[⟨some 36,.move (.tmp 0),none⟩,⟨some 37,.nilCheck (.tmp 36),none⟩,⟨some 38,.fieldAddr 94 (.tmp 37) 7,none⟩,⟨some 39,.fieldAddr 35 (.tmp 38) 2,none⟩,⟨some 40,.call ⟨.value (.func 85),#[.tmp 39],#[170]⟩,none⟩,⟨some 4,.assign (.tmp 40),none⟩]
def c55_r6:List SOp:=[⟨some 41,.move (.tmp 1),none⟩,⟨some 42,.move (.tmp 1),none⟩,⟨some 43,.load 60 (.tmp 5),none⟩,⟨some 44,.move (.tmp 6),none⟩,⟨some 45,.nilCheck (.tmp 41),none⟩,⟨some 46,.fieldAddr 130 (.tmp 45) 2,none⟩,⟨none,.store 60 (.tmp 46) (.tmp 43),none⟩,⟨some 47,.nilCheck (.tmp 42),none⟩,⟨some 48,.fieldAddr 130 (.tmp 47) 4,none⟩,⟨none,.store 9 (.tmp 48) (.tmp 44),none⟩]
def c55_r7:List SOp:=[⟨some 4,.assign (.const (.bool true)),none⟩]
def c55:SC:=(.seq (.reg c55_r0 none (some [0,1])) (.seq (.seq (.reg c55_r1 none (some [0,1,19])) (.cond (.tmp 19) (.seq (.reg c55_r2 none (some [4])) .ret) .skip (some [0,1]))) (.seq (.reg c55_r3 none (some [0,1,5,6,7])) (.seq (.seq (.reg c55_r4 none (some [0,1,5,6,35])) (.cond (.tmp 35) (.seq (.reg c55_r5 none (some [4])) .ret) .skip (some [1,5,6]))) (.seq (.reg c55_r6 none (some [])) (.seq (.reg c55_r7 none (some [4])) .ret))))))
theorem c55_eq : ∃ code, Tryz.f55.body = some code ∧ compile H55 code = c55 :=⟨_,rfl,by kernel_rfl⟩
theorem c55_fn : Tryz.prog.funcs[55]? = some Tryz.f55:=by kernel_rfl
theorem c55_rs : Tryz.f55.results.toList = [.tmp 4]:=by kernel_rfl
theorem c55_ok : fnB Tryz.prog H55 Tryz.f55 = true:=by kernel_rfl
theorem c55_nt : Tryz.f55.ntmps = 49:=by kernel_rfl
def H56:Hint:=⟨[(3,[4]),(2,[4]),(2000010,[]),(1,[0,1,10]),(0,[0,1])],[]⟩
def c56_r0:List SOp:=[⟨some 4,.assign (.const (.bool false)),none⟩]
def c56_r1:List SOp:=[⟨some 5,.move (.tmp 1),none⟩,⟨some 6,.nilCheck (.tmp 5),none⟩,⟨some 7,.fieldAddr 130 (.tmp 6) 2,none⟩,⟨some 8,.fieldAddr 60 (.tmp 7) 2,none⟩,⟨some 9,.load 3 (.tmp 8),none⟩,⟨some 10,.binOp .neq 3 (.tmp 9) (.const (.int .i64 2048)) 3,none⟩]
def c56_r2:List SOp:=[⟨some 11,.move (.tmp 0),none⟩,⟨some 12,.move (.tmp 1),none⟩,⟨some 13,.move (.tmp 1),none⟩,⟨some 14,.nilCheck (.tmp 13),none⟩,⟨some 15,.fieldAddr 130 (.tmp 14) 1,none⟩,⟨some 16,.load 9 (.tmp 15),none⟩,⟨some 17,.call ⟨.value (.func 86),#[.tmp 11,.tmp 12,.tmp 16],#[65,127,9]⟩,none⟩,⟨some 4,.assign (.tmp 17),none⟩]
def c56_r3:List SOp:=[⟨some 4,.assign (.const (.bool true)),none⟩]
def c56:SC:=(.seq (.reg c56_r0 none (some [0,1])) (.seq (.seq (.reg c56_r1 none (some [0,1,10])) (.cond (.tmp 10) (.seq (.reg c56_r2 none (some [4])) .ret) .skip (some []))) (.seq (.reg c56_r3 none (some [4])) .ret)))
theorem c56_eq : ∃ code, Tryz.f56.body = some code ∧ compile H56 code = c56 :=⟨_,rfl,by kernel_rfl⟩
theorem c56_fn : Tryz.prog.funcs[56]? = some Tryz.f56:=by kernel_rfl
theorem c56_rs : Tryz.f56.results.toList = [.tmp 4]:=by kernel_rfl
theorem c56_ok : fnB Tryz.prog H56 Tryz.f56 = true:=by kernel_rfl
theorem c56_nt : Tryz.f56.ntmps = 18:=by kernel_rfl
def H57:Hint:=⟨[(5,[4]),(4,[]),(3,[4]),(2000018,[1,5,6]),(2,[0,1,5,6,18]),(1,[0,1,5,6,7]),(0,[0,1])],[]⟩
def c57_r0:List SOp:=[⟨some 4,.assign (.const (.bool false)),none⟩]
def c57_r1:List SOp:=[⟨some 9,.move (.tmp 1),none⟩,⟨some 10,.nilCheck (.tmp 9),none⟩,⟨some 11,.fieldAddr 130 (.tmp 10) 4,none⟩,⟨some 12,.load 9 (.tmp 11),none⟩,⟨some 13,.call ⟨.value (.func 77),#[.tmp 12],#[9]⟩,none⟩,⟨some 8,.move (.tmp 13),none⟩,⟨some 14,.extract (.tmp 8) 0,none⟩,⟨some 15,.extract (.tmp 8) 1,none⟩,⟨some 16,.extract (.tmp 8) 2,none⟩,⟨some 5,.alloc 63,none⟩,⟨none,.store 63 (.tmp 5) (.tmp 14),none⟩,⟨some 6,.assign (.tmp 15),none⟩,⟨some 7,.assign (.tmp 16),none⟩]
def c57_r2:List SOp:=[⟨some 17,.move (.tmp 7),none⟩,⟨some 18,.binOp .neq 36 (.tmp 17) (.const (.int .i64 0)) 36,none⟩]
def c57_r3:List SOp:=[⟨some 19,.move (.tmp 0),none⟩,⟨some 20,.nilCheck (.tmp 19),none⟩,⟨some 21,.fieldAddr 94 (.tmp 20) 7,none⟩,⟨some 22,.fieldAddr 35 (.tmp 21) 2,none⟩,⟨some 23,.call ⟨.value (.func 85),#[.tmp 22],#[170]⟩,none⟩,⟨some 4,.assign (.tmp 23),none⟩]
def c57_r4:List SOp:=[⟨some 24,.move (.tmp 1),none⟩,⟨some 25,.move (.tmp 1),none⟩,⟨some 26,.load 63 (.tmp 5),none⟩,⟨some 27,.move (.tmp 6),none⟩,⟨some 28,.nilCheck (.tmp 24),none⟩,⟨some 29,.fieldAddr 130 (.tmp 28) 3,none⟩,⟨none,.store 63 (.tmp 29) (.tmp 26),none⟩,⟨some 30,.nilCheck (.tmp 25),none⟩,⟨some 31,.fieldAddr 130 (.tmp 30) 4,none⟩,⟨none,.store 9 (.tmp 31) (.tmp 27),none⟩]
def c57_r5:List SOp:=[⟨some 4,.assign (.const (.bool true)),none⟩]
def c57:SC:=(.seq (.reg c57_r0 none (some [0,1])) (.seq (.reg c57_r1 none (some [0,1,5,6,7])) (.seq (.seq (.reg c57_r2 none (some [0,1,5,6,18])) (.cond (.tmp 18) (.seq (.reg c57_r3 none (some [4])) .ret) .skip (some [1,5,6]))) (.seq (.reg c57_r4 none (some [])) (.seq (.reg c57_r5 none (some [4])) .ret)))))
theorem c57_eq : ∃ code, Tryz.f57.body = some code ∧ compile H57 code = c57 :=⟨_,rfl,by kernel_rfl⟩
theorem c57_fn : Tryz.prog.funcs[57]? = some Tryz.f57:=by kernel_rfl
theorem c57_rs : Tryz.f57.results.toList = [.tmp 4]:=by kernel_rfl
theorem c57_ok : fnB Tryz.prog H57 Tryz.f57 = true:=by kernel_rfl
theorem c57_nt : Tryz.f57.ntmps = 32:=by kernel_rfl
def H58:Hint:=⟨[(10,[4]),(9,[6]),(6,[4]),(8,[4]),(2000056,[1,5,6]),(7,[0,1,5,6,56]),(2000048,[1,5,6]),(5,[0,1,5,6,7,48]),(4,[0,1,5,6,7]),(3,[0,1]),(2,[4]),(2000021,[0,1]),(1,[0,1,21]),(0,[0,1])],[]⟩
def c58_r0:List SOp:=[⟨some 4,.assign (.const (.bool false)),none⟩]
def c58_r1:List SOp:=[⟨some 8,.move (.tmp 1),none⟩,⟨some 9,.nilCheck (.tmp 8),none⟩,⟨some 10,.fieldAddr 130 (.tmp 9) 3,none⟩,⟨some 11,.fieldAddr 63 (.tmp 10) 2,none⟩,⟨some 12,.load 4 (.tmp 11),none⟩,⟨some 13,.unOp .not 4 (.tmp 12),none⟩,⟨some 14,.move (.tmp 13),none⟩,⟨some 15,.move (.tmp 1),some (some 14,true)⟩,⟨some 16,.nilCheck (.tmp 15),some (some 14,true)⟩,⟨some 17,.fieldAddr 130 (.tmp 16) 3,some (some 14,true)⟩,⟨some 18,.fieldAddr 63 (.tmp 17) 4,some (some 14,true)⟩,⟨some 19,.load 3 (.tmp 18),some (some 14,true)⟩,⟨some 20,.binOp .eql 3 (.tmp 19) (.const (.int .i64 0)) 3,some (some 14,true)⟩,⟨some 21,.pick (.tmp 14) (.tmp 20) (.const (.bool false)),none⟩]
def c58_r2:List SOp:=[⟨some 4,.assign (.const (.bool true)),none⟩]
def c58_r3:List SOp:=[⟨some 22,.move (.tmp 0),none⟩,⟨some 23,.nilCheck (.tmp 22),none⟩,⟨some 24,.fieldAddr 94 (.tmp 23) 7,none⟩,⟨some 25,.fieldAddr 35 (.tmp 24) 12,none⟩,⟨some 26,.load 3 (.tmp 25),none⟩,⟨some 27,.binOp .add 3 (.tmp 26) (.const (.int .i64 1)) 3,none⟩,⟨some 28,.nilCheck (.tmp 22),none⟩,⟨some 29,.fieldAddr 94 (.tmp 28) 7,none⟩,⟨some 30,.fieldAddr 35 (.tmp 29) 12,none⟩,⟨none,.store 3 (.tmp 30) (.tmp 27),none⟩]
def c58_r4:List SOp:=[⟨some 32,.move (.tmp 0),none⟩,⟨some 33,.nilCheck (.tmp 32),none⟩,⟨some 34,.fieldAddr 94 (.tmp 33) 3,none⟩,⟨some 35,.load 85 (.tmp 34),none⟩,⟨some 36,.move (.tmp 1),none⟩,⟨some 37,.nilCheck (.tmp 36),none⟩,⟨some 38,.fieldAddr 130 (.tmp 37) 3,none⟩,⟨some 39,.load 63 (.tmp 38),none⟩,⟨some 40,.move (.tmp 1),none⟩,⟨some 41,.nilCheck (.tmp 40),none⟩,⟨some 42,.fieldAddr 130 (.tmp 41) 4,none⟩,⟨some 43,.load 9 (.tmp 42),none⟩,⟨some 44,.call ⟨.value (.func 87),#[.tmp 35,.tmp 39,.tmp 43],#[85,63,9]⟩,none⟩,⟨some 31,.move (.tmp 44),none⟩,⟨some 45,.extract (.tmp 31) 0,none⟩,⟨some 46,.extract (.tmp 31) 1,none⟩,⟨some 47,.extract (.tmp 31) 2,none⟩,⟨some 5,.assign (.tmp 45),none⟩,⟨some 6,.assign (.tmp 46),none⟩,⟨some 7,.assign (.tmp 47),none⟩]
def c58_r5:List SOp:=[⟨some 49,.move (.tmp 7),none⟩,⟨some 50,.binOp .eql 36 (.tmp 49) (.const (.int .i64 10)) 36,none⟩,⟨some 48,.assign (.tmp 50),none⟩]
def c58_r6:List SOp:=[⟨some 51,.move (.tmp 0),none⟩,⟨some 52,.nilCheck (.tmp 51),none⟩,⟨some 53,.fieldAddr 94 (.tmp 52) 7,none⟩,⟨some 54,.fieldAddr 35 (.tmp 53) 8,none⟩,⟨some 55,.call ⟨.value (.func 85),#[.tmp 54],#[170]⟩,none⟩,⟨some 4,.assign (.tmp 55),none⟩]
def c58_r7:List SOp:=[⟨some 57,.move (.tmp 7),none⟩,⟨some 58,.binOp .neq 36 (.tmp 57) (.const (.int .i64 0)) 36,none⟩,⟨some 56,.assign (.tmp 58),none⟩]
def c58_r8:List SOp:=[⟨some 59,.move (.tmp 0),none⟩,⟨some 60,.nilCheck (.tmp 59),none⟩,⟨some 61,.fieldAddr 94 (.tmp 60) 7,none⟩,⟨some 62,.fieldAddr 35 (.tmp 61) 2,none⟩,⟨some 63,.call ⟨.value (.func 85),#[.tmp 62],#[170]⟩,none⟩,⟨some 4,.assign (.tmp 63),none⟩]
def c58_r9:List SOp:=[⟨some 64,.move (.tmp 1),none⟩,⟨some 65,.move (.tmp 1),none⟩,⟨some 66,.move (.tmp 1),none⟩,⟨some 67,.move (.tmp 5),none⟩,⟨some 68,.nilCheck (.tmp 64),none⟩,⟨some 69,.fieldAddr 130 (.tmp 68) 4,none⟩,⟨none,.store 9 (.tmp 69) (.tmp 67),none⟩,⟨some 70,.nilCheck (.tmp 65),none⟩,⟨some 71,.fieldAddr 130 (.tmp 70) 3,none⟩,⟨some 72,.fieldAddr 63 (.tmp 71) 2,none⟩,⟨none,.store 4 (.tmp 72) (.const (.bool false)),none⟩,⟨some 73,.nilCheck (.tmp 66),none⟩,⟨some 74,.fieldAddr 130 (.tmp 73) 3,none⟩,⟨some 75,.fieldAddr 63 (.tmp 74) 4,none⟩,⟨none,.store 3 (.tmp 75) (.const (.int .i64 0)),none⟩]
def c58_r10:List SOp:=[⟨some 76,.move (.tmp 6),none⟩,⟨some 4,.assign (.tmp 76),none⟩]
def c58:SC:=(.seq (.reg c58_r0 none (some [0,1])) (.seq (.seq (.reg c58_r1 none (some [0,1,21])) (.cond (.tmp 21) (.seq (.reg c58_r2 none (some [4])) .ret) .skip (some [0,1]))) (.seq (.reg c58_r3 none (some [0,1])) (.seq (.reg c58_r4 none (some [0,1,5,6,7])) (.seq (.block 0 (.seq (.reg c58_r5 none (some [0,1,5,6,7,48])) (.cond (.tmp 48) (.seq (.reg c58_r6 none (some [4])) .ret) (.seq (.reg c58_r7 none (some [0,1,5,6,56])) (.cond (.tmp 56) (.seq (.reg c58_r8 none (some [4])) .ret) .skip (some [1,5,6]))) (some [1,5,6])))) (.seq (.reg c58_r9 none (some [6])) (.seq (.reg c58_r10 none (some [4])) .ret)))))))
theorem c58_eq : ∃ code, Tryz.f58.body = some code ∧ compile H58 code = c58 :=⟨_,rfl,by kernel_rfl⟩
theorem c58_fn : Tryz.prog.funcs[58]? = some Tryz.f58:=by kernel_rfl
theorem c58_rs : Tryz.f58.results.toList = [.tmp 4]:=by kernel_rfl
theorem c58_ok : fnB Tryz.prog H58 Tryz.f58 = true:=by kernel_rfl
theorem c58_nt : Tryz.f58.ntmps = 77:=by kernel_rfl
def H59:Hint:=⟨[(16,[4]),(15,[4]),(2000143,[]),(14,[0,143]),(8,[0,6]),(7,[0,1,6]),(11,[0,6]),(10,[0,1,5,6]),(13,[0,6]),(5,[4]),(2000128,[0,6]),(12,[0,1,128]),(2000092,[0,6]),(9,[0,1,5,30,92]),(2000047,[0,6]),(6,[0,1,5,30,47]),(4,[0,1,5,30]),(3,[0,1,5]),(2,[0,1,5]),(1,[0,1]),(0,[0,1])],[(11,[(5,9)])]⟩
def c59_r0:List SOp:=[⟨some 4,.assign (.const (.bool false)),none⟩]
def c59_r1:List SOp:=[⟨some 7,.move (.tmp 1),none⟩,⟨some 8,.move (.tmp 1),none⟩,⟨some 9,.nilCheck (.tmp 8),none⟩,⟨some 10,.fieldAddr 130 (.tmp 9) 3,none⟩,⟨some 11,.fieldAddr 63 (.tmp 10) 6,none⟩,⟨some 12,.load 3 (.tmp 11),none⟩,⟨some 13,.move (.tmp 1),none⟩,⟨some 14,.nilCheck (.tmp 13),none⟩,⟨some 15,.fieldAddr 130 (.tmp 14) 3,none⟩,⟨some 16,.fieldAddr 63 (.tmp 15) 7,none⟩,⟨some 17,.load 28 (.tmp 16),none⟩,⟨some 18,.move (.tmp 1),none⟩,⟨some 19,.nilCheck (.tmp 18),none⟩,⟨some 20,.fieldAddr 130 (.tmp 19) 3,none⟩,⟨some 21,.fieldAddr 63 (.tmp 20) 8,none⟩,⟨some 22,.load 28 (.tmp 21),none⟩,⟨some 23,.build 43 #[(0, (.tmp 12)), (1, (.tmp 17)), (2, (.tmp 22))],none⟩,⟨some 24,.nilCheck (.tmp 7),none⟩,⟨some 25,.fieldAddr 130 (.tmp 24) 7,none⟩,⟨none,.store 43 (.tmp 25) (.tmp 23),none⟩]
def c59_r2:List SOp:=[⟨some 5,.alloc 175,none⟩]
def c59_r3:List SOp:=[⟨some 6,.assign (.const (.int .i64 0)),none⟩]
def c59_r4:List SOp:=[⟨some 26,.move (.tmp 1),none⟩,⟨some 27,.nilCheck (.tmp 26),none⟩,⟨some 28,.fieldAddr 130 (.tmp 27) 3,none⟩,⟨some 29,.fieldAddr 63 (.tmp 28) 6,none⟩,⟨some 30,.load 3 (.tmp 29),none⟩]
def c59_r6:List SOp:=[⟨some 48,.binOp .eql 3 (.tmp 30) (.const (.int .i64 6)) 3,none⟩,⟨some 47,.assign (.tmp 48),none⟩]
def c59_r7:List SOp:=[⟨some 50,.move (.tmp 1),none⟩,⟨some 51,.move (.tmp 1),none⟩,⟨some 52,.move (.tmp 1),none⟩,⟨some 53,.nilCheck (.tmp 52),none⟩,⟨some 54,.fieldAddr 130 (.tmp 53) 3,none⟩,⟨some 55,.fieldAddr 63 (.tmp 54) 7,none⟩,⟨some 56,.load 28 (.tmp 55),none⟩,⟨some 57,.move (.tmp 1),none⟩,⟨some 58,.nilCheck (.tmp 57),none⟩,⟨some 59,.fieldAddr 130 (.tmp 58) 3,none⟩,⟨some 60,.fieldAddr 63 (.tmp 59) 8,none⟩,⟨some 61,.load 28 (.tmp 60),none⟩,⟨some 62,.move (.tmp 1),none⟩,⟨some 63,.nilCheck (.tmp 62),none⟩,⟨some 64,.fieldAddr 130 (.tmp 63) 4,none⟩,⟨some 65,.load 9 (.tmp 64),none⟩,⟨some 66,.call ⟨.value (.func 78),#[.tmp 56,.tmp 61,.tmp 65],#[28,28,9]⟩,none⟩,⟨some 49,.move (.tmp 66),none⟩,⟨some 67,.extract (.tmp 49) 0,none⟩,⟨some 68,.extract (.tmp 49) 1,none⟩,⟨some 69,.extract (.tmp 49) 2,none⟩,⟨some 70,.nilCheck (.tmp 50),none⟩,⟨some 71,.fieldAddr 130 (.tmp 70) 5,none⟩,⟨none,.store 56 (.tmp 71) (.tmp 67),none⟩,⟨some 72,.nilCheck (.tmp 51),none⟩,⟨some 73,.fieldAddr 130 (.tmp 72) 6,none⟩,⟨none,.store 9 (.tmp 73) (.tmp 68),none⟩,⟨some 6,.assign (.tmp 69),none⟩]
def c59_r8:List SOp:=[⟨some 74,.move (.tmp 1),none⟩,⟨some 75,.move (.tmp 1),none⟩,⟨some 76,.move (.tmp 1),none⟩,⟨some 77,.nilCheck (.tmp 76),none⟩,⟨some 78,.fieldAddr 130 (.tmp 77) 5,none⟩,⟨some 79,.fieldAddr 56 (.tmp 78) 0,none⟩,⟨some 80,.load 3 (.tmp 79),none⟩,⟨some 81,.move (.tmp 1),none⟩,⟨some 82,.nilCheck (.tmp 81),none⟩,⟨some 83,.fieldAddr 130 (.tmp 82) 5,none⟩,⟨some 84,.fieldAddr 56 (.tmp 83) 1,none⟩,⟨some 85,.load 3 (.tmp 84),none⟩,⟨some 86,.nilCheck (.tmp 74),none⟩,⟨some 87,.fieldAddr 130 (.tmp 86) 7,none⟩,⟨some 88,.fieldAddr 43 (.tmp 87) 3,none⟩,⟨none,.store 3 (.tmp 88) (.tmp 80),none⟩,⟨some 89,.nilCheck (.tmp 75),none⟩,⟨some 90,.fieldAddr 130 (.tmp 89) 7,none⟩,⟨some 91,.fieldAddr 43 (.tmp 90) 4,none⟩,⟨none,.store 3 (.tmp 91) (.tmp 85),none⟩]
def c59_r9:List SOp:=[⟨some 93,.binOp .eql 3 (.tmp 30) (.const (.int .i64 17)) 3,none⟩,⟨some 92,.assign (.tmp 93),none⟩]
def c59_r10:List SOp:=[⟨some 95,.move (.tmp 1),none⟩,⟨some 96,.move (.tmp 1),none⟩,⟨some 97,.nilCheck (.tmp 96),none⟩,⟨some 98,.fieldAddr 130 (.tmp 97) 3,none⟩,⟨some 99,.fieldAddr 63 (.tmp 98) 7,none⟩,⟨some 100,.load 28 (.tmp 99),none⟩,⟨some 101,.move (.tmp 1),none⟩,⟨some 102,.nilCheck (.tmp 101),none⟩,⟨some 103,.fieldAddr 130 (.tmp 102) 3,none⟩,⟨some 104,.fieldAddr 63 (.tmp 103) 8,none⟩,⟨some 105,.load 28 (.tmp 104),none⟩,⟨some 106,.move (.tmp 1),none⟩,⟨some 107,.nilCheck (.tmp 106),none⟩,⟨some 108,.fieldAddr 130 (.tmp 107) 4,none⟩,⟨some 109,.load 9 (.tmp 108),none⟩,⟨some 110,.call ⟨.value (.func 88),#[.tmp 100,.tmp 105,.tmp 109],#[28,28,9]⟩,none⟩,⟨some 94,.move (.tmp 110),none⟩,⟨some 111,.extract (.tmp 94) 0,none⟩,⟨some 112,.extract (.tmp 94) 1,none⟩,⟨some 113,.extract (.tmp 94) 2,none⟩,⟨none,.store 175 (.tmp 5) (.tmp 111),none⟩,⟨some 114,.nilCheck (.tmp 95),none⟩,⟨some 115,.fieldAddr 130 (.tmp 114) 6,none⟩,⟨none,.store 9 (.tmp 115) (.tmp 112),none⟩,⟨some 6,.assign (.tmp 113),none⟩]
def c59_r11:List SOp:=[⟨some 116,.move (.tmp 1),none⟩,⟨some 117,.move (.tmp 1),none⟩,⟨some 118,.fieldAddr 175 (.tmp 5) 0,none⟩,⟨some 119,.load 3 (.tmp 118),none⟩,⟨some 120,.fieldAddr 175 (.tmp 5) 1,none⟩,⟨some 121,.load 3 (.tmp 120),none⟩,⟨some 122,.nilCheck (.tmp 116),none⟩,⟨some 123,.fieldAddr 130 (.tmp 122) 7,none⟩,⟨some 124,.fieldAddr 43 (.tmp 123) 3,none⟩,⟨none,.store 3 (.tmp 124) (.tmp 119),none⟩,⟨some 125,.nilCheck (.tmp 117),none⟩,⟨some 126,.fieldAddr 130 (.tmp 125) 7,none⟩,⟨some 127,.fieldAddr 43 (.tmp 126) 4,none⟩,⟨none,.store 3 (.tmp 127) (.tmp 121),none⟩]
def c59_r12:List SOp:=[⟨some 129,.binOp .eql 3 (.tmp 30) (.const (.int .i64 1)) 3,none⟩,⟨some 128,.assign (.tmp 129),none⟩]
def c59_r13:List SOp:=[⟨some 131,.move (.tmp 1),none⟩,⟨some 132,.move (.tmp 1),none⟩,⟨some 133,.nilCheck (.tmp 132),none⟩,⟨some 134,.fieldAddr 130 (.tmp 133) 4,none⟩,⟨some 135,.load 9 (.tmp 134),none⟩,⟨some 136,.call ⟨.value (.func 89),#[.tmp 135],#[9]⟩,none⟩,⟨some 130,.move (.tmp 136),none⟩,⟨some 137,.extract (.tmp 130) 0,none⟩,⟨some 138,.extract (.tmp 130) 1,none⟩,⟨some 139,.extract (.tmp 130) 2,none⟩,⟨some 140,.nilCheck (.tmp 131),none⟩,⟨some 141,.fieldAddr 130 (.tmp 140) 6,none⟩,⟨none,.store 9 (.tmp 141) (.tmp 138),none⟩,⟨some 6,.assign (.tmp 139),none⟩]
def c59_r5:List SOp:=[⟨some 31,.move (.tmp 0),none⟩,⟨some 32,.move (.tmp 1),none⟩,⟨some 33,.move (.tmp 1),none⟩,⟨some 34,.nilCheck (.tmp 33),none⟩,⟨some 35,.fieldAddr 130 (.tmp 34) 2,none⟩,⟨some 36,.load 60 (.tmp 35),none⟩,⟨some 37,.move (.tmp 1),none⟩,⟨some 38,.nilCheck (.tmp 37),none⟩,⟨some 39,.fieldAddr 130 (.tmp 38) 3,none⟩,⟨some 40,.load 63 (.tmp 39),none⟩,⟨some 41,.move (.tmp 1),none⟩,⟨some 42,.nilCheck (.tmp 41),none⟩,⟨some 43,.fieldAddr 130 (.tmp 42) 4,none⟩,⟨some 44,.load 9 (.tmp 43),none⟩,⟨some 45,.call ⟨.value (.func 90),#[.tmp 36,.tmp 40,.tmp 44],#[60,63,9]⟩,none⟩,⟨some 46,.call ⟨.value (.func 86),#[.tmp 31,.tmp 32,.tmp 45],#[65,127,9]⟩,none⟩,⟨some 4,.assign (.tmp 46),none⟩]
def c59_r14:List SOp:=[⟨some 142,.move (.tmp 6),none⟩,⟨some 143,.binOp .neq 36 (.tmp 142) (.const (.int .i64 0)) 36,none⟩]
def c59_r15:List SOp:=[⟨some 144,.move (.tmp 0),none⟩,⟨some 145,.nilCheck (.tmp 144),none⟩,⟨some 146,.fieldAddr 94 (.tmp 145) 7,none⟩,⟨some 147,.fieldAddr 35 (.tmp 146) 2,none⟩,⟨some 148,.call ⟨.value (.func 85),#[.tmp 147],#[170]⟩,none⟩,⟨some 4,.assign (.tmp 148),none⟩]
def c59_r16:List SOp:=[⟨some 4,.assign (.const (.bool true)),none⟩]
def c59:SC:=(.seq (.reg c59_r0 none (some [0,1])) (.seq (.reg c59_r1 none (some [0,1])) (.seq (.reg c59_r2 none (some [0,1,5])) (.seq (.reg c59_r3 none (some [0,1,5])) (.seq (.seq (.reg c59_r4 none (some [0,1,5,30])) (.block 0 (.seq (.reg c59_r6 none (some [0,1,5,30,47])) (.cond (.tmp 47) (.seq (.reg c59_r7 none (some [0,1,6])) (.reg c59_r8 none (some [0,6]))) (.seq (.reg c59_r9 none (some [0,1,5,30,92])) (.cond (.tmp 92) (.seq (.reg c59_r10 none (some [0,1,5,6])) (.reg c59_r11 (some [(5, 9)]) (some [0,6]))) (.seq (.reg c59_r12 none (some [0,1,128])) (.cond (.tmp 128) (.reg c59_r13 none (some [0,6])) (.seq (.reg c59_r5 none (some [4])) .ret) (some [0,6]))) (some [0,6]))) (some [0,6]))))) (.seq (.seq (.reg c59_r14 none (some [0,143])) (.cond (.tmp 143) (.seq (.reg c59_r15 none (some [4])) .ret) .skip (some []))) (.seq (.reg c59_r16 none (some [4])) .ret)))))))
theorem c59_eq : ∃ code, Tryz.f59.body = some code ∧ compile H59 code = c59 :=⟨_,rfl,by kernel_rfl⟩
theorem c59_fn : Tryz.prog.funcs[59]? = some Tryz.f59:=by kernel_rfl
theorem c59_rs : Tryz.f59.results.toList = [.tmp 4]:=by kernel_rfl
theorem c59_ok : fnB Tryz.prog H59 Tryz.f59 = true:=by kernel_rfl
theorem c59_nt : Tryz.f59.ntmps = 149:=by kernel_rfl
def H60:Hint:=⟨[(3,[4]),(2,[4]),(2000013,[]),(1,[0,13]),(0,[0,1])],[]⟩
def c60_r0:List SOp:=[⟨some 4,.assign (.const (.bool false)),none⟩]
def c60_r1:List SOp:=[⟨some 5,.move (.tmp 0),none⟩,⟨some 6,.nilCheck (.tmp 5),none⟩,⟨some 7,.fieldAddr 94 (.tmp 6) 5,none⟩,⟨some 8,.load 89 (.tmp 7),none⟩,⟨some 9,.move (.tmp 1),none⟩,⟨some 10,.nilCheck (.tmp 9),none⟩,⟨some 11,.fieldAddr 130 (.tmp 10) 7,none⟩,⟨some 12,.load 43 (.tmp 11),none⟩,⟨some 13,.call ⟨.value (.func 91),#[.tmp 8,.tmp 12],#[89,43]⟩,none⟩]
def c60_r2:List SOp:=[⟨some 14,.move (.tmp 0),none⟩,⟨some 15,.nilCheck (.tmp 14),none⟩,⟨some 16,.fieldAddr 94 (.tmp 15) 7,none⟩,⟨some 17,.fieldAddr 35 (.tmp 16) 3,none⟩,⟨some 18,.call ⟨.value (.func 85),#[.tmp 17],#[170]⟩,none⟩,⟨some 4,.assign (.tmp 18),none⟩]
def c60_r3:List SOp:=[⟨some 4,.assign (.const (.bool true)),none⟩]
def c60:SC:=(.seq (.reg c60_r0 none (some [0,1])) (.seq (.seq (.reg c60_r1 none (some [0,13])) (.cond (.tmp 13) (.seq (.reg c60_r2 none (some [4])) .ret) .skip (some []))) (.seq (.reg c60_r3 none (some [4])) .ret)))
theorem c60_eq : ∃ code, Tryz.f60.body = some code ∧ compile H60 code = c60 :=⟨_,rfl,by kernel_rfl⟩
theorem c60_fn : Tryz.prog.funcs[60]? = some Tryz.f60:=by kernel_rfl
theorem c60_rs : Tryz.f60.results.toList = [.tmp 4]:=by kernel_rfl
theorem c60_ok : fnB Tryz.prog H60 Tryz.f60 = true:=by kernel_rfl
theorem c60_nt : Tryz.f60.ntmps = 19:=by kernel_rfl
def H61:Hint:=⟨[(19,[4]),(18,[]),(17,[1,5,9]),(16,[0,1,5,9,112]),(15,[0,1,5,9,112]),(14,[0,1,5,9,10,112]),(2000113,[0,1,5,9,112]),(13,[0,1,5,9,112,113]),(1000013,[0,1,5,9,112]),(12,[0,1,5,9,112]),(11,[0,1,5,9]),(10,[0,1,5]),(9,[0,1,5,8]),(2000087,[0,1,5]),(8,[0,1,5,8,87]),(7,[0,1,5,8]),(6,[4]),(2000068,[0,1]),(5,[0,1,68]),(4,[4]),(3,[1]),(2000024,[0,1]),(2,[0,1,5,6,24]),(1,[0,1,5,6,7]),(0,[0,1])],[]⟩
def c61_r0:List SOp:=[⟨some 4,.assign (.const (.bool false)),none⟩]
def c61_r1:List SOp:=[⟨some 12,.move (.tmp 0),none⟩,⟨some 13,.nilCheck (.tmp 12),none⟩,⟨some 14,.fieldAddr 94 (.tmp 13) 4,none⟩,⟨some 15,.load 87 (.tmp 14),none⟩,⟨some 16,.move (.tmp 1),none⟩,⟨some 17,.nilCheck (.tmp 16),none⟩,⟨some 18,.fieldAddr 130 (.tmp 17) 7,none⟩,⟨some 19,.load 43 (.tmp 18),none⟩,⟨some 20,.call ⟨.value (.func 92),#[.tmp 15,.tmp 19],#[87,43]⟩,none⟩,⟨some 11,.move (.tmp 20),none⟩,⟨some 21,.extract (.tmp 11) 0,none⟩,⟨some 22,.extract (.tmp 11) 1,none⟩,⟨some 23,.extract (.tmp 11) 2,none⟩,⟨some 5,.assign (.tmp 21),none⟩,⟨some 6,.assign (.tmp 22),none⟩,⟨some 7,.assign (.tmp 23),none⟩]
def c61_r2:List SOp:=[⟨some 24,.move (.tmp 7),none⟩]
def c61_r3:List SOp:=[⟨some 25,.move (.tmp 1),none⟩,⟨some 26,.move (.tmp 1),none⟩,⟨some 27,.move (.tmp 1),none⟩,⟨some 28,.move (.tmp 5),none⟩,⟨some 29,.move (.tmp 6),none⟩,⟨some 30,.move (.tmp 0),none⟩,⟨some 31,.nilCheck (.tmp 30),none⟩,⟨some 32,.fieldAddr 94 (.tmp 31) 6,none⟩,⟨some 33,.load 91 (.tmp 32),none⟩,⟨some 34,.move (.tmp 5),none⟩,⟨some 35,.lookup 91 (.tmp 33) (.tmp 34) false,none⟩,⟨some 36,.nilCheck (.tmp 25),none⟩,⟨some 37,.fieldAddr 130 (.tmp 36) 8,none⟩,⟨none,.store 3 (.tmp 37) (.tmp 28),none⟩,⟨some 38,.nilCheck (.tmp 26),none⟩,⟨some 39,.fieldAddr 130 (.tmp 38) 9,none⟩,⟨none,.store 3 (.tmp 39) (.tmp 29),none⟩,⟨some 40,.nilCheck (.tmp 27),none⟩,⟨some 41,.fieldAddr 130 (.tmp 40) 11,none⟩,⟨none,.store 128 (.tmp 41) (.tmp 35),none⟩]
def c61_r4:List SOp:=[⟨some 42,.move (.tmp 1),none⟩,⟨some 43,.nilCheck (.tmp 42),none⟩,⟨some 44,.fieldAddr 130 (.tmp 43) 11,none⟩,⟨some 45,.load 128 (.tmp 44),none⟩,⟨some 46,.binOp .neq 128 (.tmp 45) (.const (.pointer none)) 128,none⟩,⟨some 4,.assign (.tmp 46),none⟩]
def c61_r5:List SOp:=[⟨some 47,.move (.tmp 1),none⟩,⟨some 48,.nilCheck (.tmp 47),none⟩,⟨some 49,.fieldAddr 130 (.tmp 48) 7,none⟩,⟨some 50,.fieldAddr 43 (.tmp 49) 0,none⟩,⟨some 51,.load 3 (.tmp 50),none⟩,⟨some 52,.binOp .eql 3 (.tmp 51) (.const (.int .i64 6)) 3,none⟩,⟨some 53,.move (.tmp 52),none⟩,⟨some 54,.move (.tmp 1),some (some 53,true)⟩,⟨some 55,.nilCheck (.tmp 54),some (some 53,true)⟩,⟨some 56,.fieldAddr 130 (.tmp 55) 5,some (some 53,true)⟩,⟨some 57,.fieldAddr 56 (.tmp 56) 4,some (some 53,true)⟩,⟨some 58,.load 3 (.tmp 57),some (some 53,true)⟩,⟨some 59,.binOp .andNot 3 (.tmp 58) (.const (.int .i64 8)) 3,some (some 53,true)⟩,⟨some 60,.binOp .neq 3 (.tmp 59) (.const (.int .i64 2)) 3,some (some 53,true)⟩,⟨some 61,.move (.tmp 60),some (some 53,true)⟩,⟨some 62,.move (.tmp 1),some (some 61,false)⟩,⟨some 63,.nilCheck (.tmp 62),some (some 61,false)⟩,⟨some 64,.fieldAddr 130 (.tmp 63) 6,some (some 61,false)⟩,⟨some 65,.load 9 (.tmp 64),some (some 61,false)⟩,⟨some 66,.binOp .neq 9 (.tmp 65) (.const (.string ⟨#[]⟩)) 9,some (some 61,false)⟩,⟨some 67,.pick (.tmp 61) (.const (.bool true)) (.tmp 66),some (some 53,true)⟩,⟨some 68,.pick (.tmp 53) (.tmp 67) (.const (.bool false)),none⟩]
def c61_r6:List SOp:=[⟨some 69,.move (.tmp 0),none⟩,⟨some 70,.nilCheck (.tmp 69),none⟩,⟨some 71,.fieldAddr 94 (.tmp 70) 7,none⟩,⟨some 72,.fieldAddr 35 (.tmp 71) 5,none⟩,⟨some 73,.call ⟨.value (.func 85),#[.tmp 72],#[170]⟩,none⟩,⟨some 4,.assign (.tmp 73),none⟩]
def c61_r7:List SOp:=[⟨some 75,.move (.tmp 0),none⟩,⟨some 76,.nilCheck (.tmp 75),none⟩,⟨some 77,.fieldAddr 94 (.tmp 76) 4,none⟩,⟨some 78,.load 87 (.tmp 77),none⟩,⟨some 79,.move (.tmp 1),none⟩,⟨some 80,.nilCheck (.tmp 79),none⟩,⟨some 81,.fieldAddr 130 (.tmp 80) 7,none⟩,⟨some 82,.load 43 (.tmp 81),none⟩,⟨some 83,.call ⟨.value (.func 93),#[.tmp 78,.tmp 82],#[87,43]⟩,none⟩,⟨some 74,.move (.tmp 83),none⟩,⟨some 84,.extract (.tmp 74) 0,none⟩,⟨some 85,.extract (.tmp 74) 1,none⟩,⟨some 5,.assign (.tmp 84),none⟩,⟨some 8,.assign (.tmp 85),none⟩]
def c61_r8:List SOp:=[⟨some 86,.move (.tmp 8),none⟩,⟨some 87,.binOp .gtr 3 (.tmp 86) (.const (.int .i64 0)) 3,none⟩]
def c61_r9:List SOp:=[⟨some 88,.move (.tmp 0),none⟩,⟨some 89,.nilCheck (.tmp 88),none⟩,⟨some 90,.fieldAddr 94 (.tmp 89) 7,none⟩,⟨some 91,.fieldAddr 35 (.tmp 90) 10,none⟩,⟨some 92,.load 3 (.tmp 91),none⟩,⟨some 93,.binOp .add 3 (.tmp 92) (.const (.int .i64 1)) 3,none⟩,⟨some 94,.nilCheck (.tmp 88),none⟩,⟨some 95,.fieldAddr 94 (.tmp 94) 7,none⟩,⟨some 96,.fieldAddr 35 (.tmp 95) 10,none⟩,⟨none,.store 3 (.tmp 96) (.tmp 93),none⟩]
def c61_r10:List SOp:=[⟨some 97,.move (.tmp 0),none⟩,⟨some 98,.nilCheck (.tmp 97),none⟩,⟨some 99,.fieldAddr 94 (.tmp 98) 6,none⟩,⟨some 100,.load 91 (.tmp 99),none⟩,⟨some 101,.move (.tmp 8),none⟩,⟨none,.call ⟨.builtin .delete, #[.tmp 100,.tmp 101],#[91,3]⟩,none⟩]
def c61_r11:List SOp:=[⟨some 102,.move (.tmp 1),none⟩,⟨some 103,.nilCheck (.tmp 102),none⟩,⟨some 104,.fieldAddr 130 (.tmp 103) 7,none⟩,⟨some 105,.load 43 (.tmp 104),none⟩,⟨some 106,.move (.tmp 0),none⟩,⟨some 107,.nilCheck (.tmp 106),none⟩,⟨some 108,.fieldAddr 94 (.tmp 107) 1,none⟩,⟨some 109,.load 92 (.tmp 108),none⟩,⟨some 110,.build 190 #[(0, (.tmp 105)), (1, (.tmp 109))],none⟩,⟨some 111,.box 190 (.tmp 110),none⟩,⟨some 9,.assign (.tmp 111),none⟩]
def c61_r12:List SOp:=[⟨some 112,.move (.const (.int .i64 0)),none⟩]
def c61_r13:List SOp:=[⟨some 113,.binOp .lss 3 (.tmp 112) (.const (.int .i64 2)) 3,none⟩]
def c61_r14:List SOp:=[⟨some 114,.move (.tmp 112),none⟩,⟨some 10,.assign (.tmp 114),none⟩]
def c61_r15:List SOp:=[⟨some 115,.move (.tmp 9),none⟩,⟨some 116,.move (.tmp 10),none⟩,⟨some 117,.move (.tmp 9),none⟩,⟨some 118,.nilCheck (.tmp 117),none⟩,⟨some 119,.fieldAddr 190 (.tmp 118) 1,none⟩,⟨some 120,.load 92 (.tmp 119),none⟩,⟨some 121,.move (.tmp 9),none⟩,⟨some 122,.nilCheck (.tmp 121),none⟩,⟨some 123,.fieldAddr 190 (.tmp 122) 0,none⟩,⟨some 124,.load 43 (.tmp 123),none⟩,⟨some 125,.move (.tmp 10),none⟩,⟨some 126,.call ⟨.value (.func 94),#[.tmp 120,.tmp 124,.tmp 125],#[92,43,3]⟩,none⟩,⟨some 127,.nilCheck (.tmp 115),none⟩,⟨some 128,.fieldAddr 190 (.tmp 127) 2,none⟩,⟨some 129,.indexAddr 184 (.tmp 128) (.tmp 116),none⟩,⟨none,.store 22 (.tmp 129) (.tmp 126),none⟩]
def c61_r16:List SOp:=[⟨some 130,.binOp .add 3 (.tmp 112) (.const (.int .i64 1)) 3,none⟩,⟨some 112,.move (.tmp 130),none⟩]
def c61_l13:SC:=(.seq (.reg c61_r13 none (some [0,1,5,9,112,113])) (.seq (.cond (.tmp 113) .skip (.exit 0) (some [0,1,5,9,112])) (.seq (.block 1 (.seq (.reg c61_r14 none (some [0,1,5,9,10,112])) (.reg c61_r15 none (some [0,1,5,9,112])))) (.reg c61_r16 none (some [0,1,5,9,112])))))
def c61_r17:List SOp:=[⟨some 131,.move (.tmp 0),none⟩,⟨some 132,.nilCheck (.tmp 131),none⟩,⟨some 133,.fieldAddr 94 (.tmp 132) 6,none⟩,⟨some 134,.load 91 (.tmp 133),none⟩,⟨some 135,.move (.tmp 5),none⟩,⟨some 136,.move (.tmp 9),none⟩,⟨none,.mapUpdate 91 (.tmp 134) (.tmp 135) (.tmp 136),none⟩]
def c61_r18:List SOp:=[⟨some 137,.move (.tmp 1),none⟩,⟨some 138,.move (.tmp 1),none⟩,⟨some 139,.move (.tmp 1),none⟩,⟨some 140,.move (.tmp 1),none⟩,⟨some 141,.move (.tmp 5),none⟩,⟨some 142,.move (.tmp 9),none⟩,⟨some 143,.nilCheck (.tmp 137),none⟩,⟨some 144,.fieldAddr 130 (.tmp 143) 8,none⟩,⟨none,.store 3 (.tmp 144) (.tmp 141),none⟩,⟨some 145,.nilCheck (.tmp 138),none⟩,⟨some 146,.fieldAddr 130 (.tmp 145) 9,none⟩,⟨none,.store 3 (.tmp 146) (.const (.int .i64 0)),none⟩,⟨some 147,.nilCheck (.tmp 139),none⟩,⟨some 148,.fieldAddr 130 (.tmp 147) 11,none⟩,⟨none,.store 128 (.tmp 148) (.tmp 142),none⟩,⟨some 149,.nilCheck (.tmp 140),none⟩,⟨some 150,.fieldAddr 130 (.tmp 149) 10,none⟩,⟨none,.store 4 (.tmp 150) (.const (.bool true)),none⟩]
def c61_r19:List SOp:=[⟨some 4,.assign (.const (.bool true)),none⟩]
def c61:SC:=(.seq (.reg c61_r0 none (some [0,1])) (.seq (.reg c61_r1 none (some [0,1,5,6,7])) (.seq (.seq (.reg c61_r2 none (some [0,1,5,6,24])) (.cond (.tmp 24) (.seq (.reg c61_r3 none (some [1])) (.seq (.reg c61_r4 none (some [4])) .ret)) .skip (some [0,1]))) (.seq (.seq (.reg c61_r5 none (some [0,1,68])) (.cond (.tmp 68) (.seq (.reg c61_r6 none (some [4])) .ret) .skip (some [0,1]))) (.seq (.reg c61_r7 none (some [0,1,5,8])) (.seq (.seq (.reg c61_r8 none (some [0,1,5,8,87])) (.cond (.tmp 87) (.seq (.reg c61_r9 none (some [0,1,5,8])) (.reg c61_r10 none (some [0,1,5]))) .skip (some [0,1,5]))) (.seq (.reg c61_r11 none (some [0,1,5,9])) (.seq (.seq (.reg c61_r12 none (some [0,1,5,9,112])) (.block 0 (.loop c61_l13 (some [0,1,5,9,112])))) (.seq (.reg c61_r17 none (some [1,5,9])) (.seq (.reg c61_r18 none (some [])) (.seq (.reg c61_r19 none (some [4])) .ret)))))))))))
theorem c61_eq : ∃ code, Tryz.f61.body = some code ∧ compile H61 code = c61 :=⟨_,rfl,by kernel_rfl⟩
theorem c61_fn : Tryz.prog.funcs[61]? = some Tryz.f61:=by kernel_rfl
theorem c61_rs : Tryz.f61.results.toList = [.tmp 4]:=by kernel_rfl
theorem c61_ok : fnB Tryz.prog H61 Tryz.f61 = true:=by kernel_rfl
theorem c61_nt : Tryz.f61.ntmps = 151:=by kernel_rfl
def H62:Hint:=⟨[(3,[4]),(2,[4]),(2000011,[]),(1,[0,11]),(0,[0,1])],[]⟩
def c62_r0:List SOp:=[⟨some 4,.assign (.const (.bool false)),none⟩]
def c62_r1:List SOp:=[⟨some 5,.move (.tmp 1),none⟩,⟨some 6,.nilCheck (.tmp 5),none⟩,⟨some 7,.fieldAddr 130 (.tmp 6) 11,none⟩,⟨some 8,.load 128 (.tmp 7),none⟩,⟨some 9,.nilCheck (.tmp 8),none⟩,⟨some 10,.fieldAddr 190 (.tmp 9) 5,none⟩,⟨some 11,.load 4 (.tmp 10),none⟩]
def c62_r2:List SOp:=[⟨some 12,.move (.tmp 0),none⟩,⟨some 13,.nilCheck (.tmp 12),none⟩,⟨some 14,.fieldAddr 94 (.tmp 13) 7,none⟩,⟨some 15,.fieldAddr 35 (.tmp 14) 4,none⟩,⟨some 16,.call ⟨.value (.func 85),#[.tmp 15],#[170]⟩,none⟩,⟨some 4,.assign (.tmp 16),none⟩]
def c62_r3:List SOp:=[⟨some 4,.assign (.const (.bool true)),none⟩]
def c62:SC:=(.seq (.reg c62_r0 none (some [0,1])) (.seq (.seq (.reg c62_r1 none (some [0,11])) (.cond (.tmp 11) (.seq (.reg c62_r2 none (some [4])) .ret) .skip (some []))) (.seq (.reg c62_r3 none (some [4])) .ret)))
theorem c62_eq : ∃ code, Tryz.f62.body = some code ∧ compile H62 code = c62 :=⟨_,rfl,by kernel_rfl⟩
theorem c62_fn : Tryz.prog.funcs[62]? = some Tryz.f62:=by kernel_rfl
theorem c62_rs : Tryz.f62.results.toList = [.tmp 4]:=by kernel_rfl
theorem c62_ok : fnB Tryz.prog H62 Tryz.f62 = true:=by kernel_rfl
theorem c62_nt : Tryz.f62.ntmps = 17:=by kernel_rfl
def H63:Hint:=⟨[(18,[4]),(15,[0]),(17,[0]),(12,[4]),(2000118,[0]),(16,[0,1,118]),(2000097,[0]),(14,[0,1,78,97]),(2000095,[0]),(13,[0,1,78,95]),(11,[0,1,78]),(8,[0,1,5,7,8]),(10,[0,1,5,7,8]),(9,[0,1,5,6,7,8]),(2000060,[0,1,5,8]),(7,[0,1,5,7,8,60]),(1000007,[0,1,5,7,8]),(6,[0,1,5,7,8]),(5,[0,1,5,7]),(4,[0,1,5,6,7]),(3,[0,1,5]),(2,[4]),(2000014,[0,1]),(1,[0,1,14]),(0,[0,1])],[(15,[(4,17)])]⟩
def c63_r0:List SOp:=[⟨some 4,.assign (.const (.bool false)),none⟩]
def c63_r1:List SOp:=[⟨some 9,.move (.tmp 1),none⟩,⟨some 10,.nilCheck (.tmp 9),none⟩,⟨some 11,.fieldAddr 130 (.tmp 10) 7,none⟩,⟨some 12,.fieldAddr 43 (.tmp 11) 0,none⟩,⟨some 13,.load 3 (.tmp 12),none⟩,⟨some 14,.binOp .eql 3 (.tmp 13) (.const (.int .i64 6)) 3,none⟩]
def c63_r2:List SOp:=[⟨some 4,.assign (.const (.bool true)),none⟩]
def c63_r3:List SOp:=[⟨some 15,.move (.tmp 1),none⟩,⟨some 16,.nilCheck (.tmp 15),none⟩,⟨some 17,.fieldAddr 130 (.tmp 16) 11,none⟩,⟨some 18,.load 128 (.tmp 17),none⟩,⟨some 19,.nilCheck (.tmp 18),none⟩,⟨some 20,.fieldAddr 190 (.tmp 19) 1,none⟩,⟨some 21,.load 92 (.tmp 20),none⟩,⟨some 22,.move (.tmp 1),none⟩,⟨some 23,.nilCheck (.tmp 22),none⟩,⟨some 24,.fieldAddr 130 (.tmp 23) 11,none⟩,⟨some 25,.load 128 (.tmp 24),none⟩,⟨some 26,.move (.tmp 1),none⟩,⟨some 27,.nilCheck (.tmp 26),none⟩,⟨some 28,.fieldAddr 130 (.tmp 27) 9,none⟩,⟨some 29,.load 3 (.tmp 28),none⟩,⟨some 30,.nilCheck (.tmp 25),none⟩,⟨some 31,.fieldAddr 190 (.tmp 30) 2,none⟩,⟨some 32,.indexAddr 184 (.tmp 31) (.tmp 29),none⟩,⟨some 33,.load 22 (.tmp 32),none⟩,⟨some 34,.move (.tmp 0),none⟩,⟨some 35,.nilCheck (.tmp 34),none⟩,⟨some 36,.fieldAddr 94 (.tmp 35) 0,none⟩,⟨some 37,.fieldAddr 40 (.tmp 36) 4,none⟩,⟨some 38,.load 3 (.tmp 37),none⟩,⟨some 39,.call ⟨.value (.func 95),#[.tmp 21,.tmp 33,.tmp 38],#[92,22,3]⟩,none⟩,⟨some 5,.assign (.tmp 39),none⟩]
def c63_r4:List SOp:=[⟨some 41,.move (.tmp 5),none⟩,⟨some 42,.call ⟨.value (.func 96),#[.tmp 41],#[187]⟩,none⟩,⟨some 40,.move (.tmp 42),none⟩,⟨some 43,.extract (.tmp 40) 0,none⟩,⟨some 44,.extract (.tmp 40) 1,none⟩,⟨some 6,.assign (.tmp 43),none⟩,⟨some 7,.assign (.tmp 44),none⟩]
def c63_r5:List SOp:=[⟨some 45,.move (.tmp 0),none⟩,⟨some 46,.move (.tmp 1),none⟩,⟨some 47,.move (.tmp 6),none⟩,⟨some 48,.call ⟨.value (.func 97),#[.tmp 45,.tmp 46,.tmp 47],#[65,127,46]⟩,none⟩]
def c63_r6:List SOp:=[⟨some 8,.assign (.const (.int .i64 0)),none⟩]
def c63_r7:List SOp:=[⟨some 49,.move (.tmp 8),none⟩,⟨some 50,.move (.tmp 1),none⟩,⟨some 51,.nilCheck (.tmp 50),none⟩,⟨some 52,.fieldAddr 130 (.tmp 51) 6,none⟩,⟨some 53,.load 9 (.tmp 52),none⟩,⟨some 54,.call ⟨.builtin .len, #[.tmp 53],#[9]⟩,none⟩,⟨some 55,.binOp .lss 3 (.tmp 49) (.tmp 54) 3,none⟩,⟨some 56,.move (.tmp 55),none⟩,⟨some 57,.move (.tmp 7),some (some 56,true)⟩,⟨some 58,.call ⟨.value (.func 98),#[(.tmp 57),(.const (.int .i64 1))],#[3,3]⟩,some (some 56,true)⟩,⟨some 59,.unOp .not 4 (.tmp 58),some (some 56,true)⟩,⟨some 60,.pick (.tmp 56) (.tmp 59) (.const (.bool false)),none⟩]
def c63_r9:List SOp:=[⟨some 64,.move (.tmp 5),none⟩,⟨some 65,.move (.tmp 1),none⟩,⟨some 66,.nilCheck (.tmp 65),none⟩,⟨some 67,.fieldAddr 130 (.tmp 66) 6,none⟩,⟨some 68,.load 9 (.tmp 67),none⟩,⟨some 69,.move (.tmp 8),none⟩,⟨some 70,.index 9 (.tmp 68) (.tmp 69),none⟩,⟨some 71,.call ⟨.value (.func 99),#[.tmp 64,.tmp 70],#[187,5]⟩,none⟩,⟨some 63,.move (.tmp 71),none⟩,⟨some 72,.extract (.tmp 63) 0,none⟩,⟨some 73,.extract (.tmp 63) 1,none⟩,⟨some 6,.assign (.tmp 72),none⟩,⟨some 7,.assign (.tmp 73),none⟩]
def c63_r10:List SOp:=[⟨some 74,.move (.tmp 0),none⟩,⟨some 75,.move (.tmp 1),none⟩,⟨some 76,.move (.tmp 6),none⟩,⟨some 77,.call ⟨.value (.func 97),#[.tmp 74,.tmp 75,.tmp 76],#[65,127,46]⟩,none⟩]
def c63_r8:List SOp:=[⟨some 61,.move (.tmp 8),none⟩,⟨some 62,.binOp .add 3 (.tmp 61) (.const (.int .i64 1)) 3,none⟩,⟨some 8,.assign (.tmp 62),none⟩]
def c63_l7:SC:=(.seq (.seq (.reg c63_r7 none (some [0,1,5,7,8,60])) (.cond (.tmp 60) .skip (.exit 0) (some [0,1,5,8]))) (.seq (.block 1 (.seq (.reg c63_r9 none (some [0,1,5,6,7,8])) (.reg c63_r10 none (some [0,1,5,7,8])))) (.reg c63_r8 none (some [0,1,5,7,8]))))
def c63_r11:List SOp:=[⟨some 78,.move (.tmp 7),none⟩]
def c63_r13:List SOp:=[⟨some 96,.binOp .eql 3 (.tmp 78) (.const (.int .i64 2)) 3,none⟩,⟨some 95,.assign (.tmp 96),none⟩]
def c63_r14:List SOp:=[⟨some 98,.binOp .eql 3 (.tmp 78) (.const (.int .i64 3)) 3,none⟩,⟨some 97,.assign (.tmp 98),none⟩]
def c63_r15:List SOp:=[⟨some 99,.move (.tmp 1),none⟩,⟨some 100,.move (.tmp 1),none⟩,⟨some 101,.nilCheck (.tmp 100),none⟩,⟨some 102,.fieldAddr 130 (.tmp 101) 0,none⟩,⟨some 103,.load 3 (.tmp 102),none⟩,⟨some 104,.move (.tmp 1),none⟩,⟨some 105,.nilCheck (.tmp 104),none⟩,⟨some 106,.fieldAddr 130 (.tmp 105) 2,none⟩,⟨some 107,.load 60 (.tmp 106),none⟩,⟨some 108,.move (.tmp 1),none⟩,⟨some 109,.nilCheck (.tmp 108),none⟩,⟨some 110,.fieldAddr 130 (.tmp 109) 3,none⟩,⟨some 111,.load 63 (.tmp 110),none⟩,⟨some 112,.move (.tmp 1),none⟩,⟨some 113,.nilCheck (.tmp 112),none⟩,⟨some 114,.fieldAddr 130 (.tmp 113) 4,none⟩,⟨some 115,.load 9 (.tmp 114),none⟩,⟨some 116,.call ⟨.value (.func 101),#[.tmp 107,.tmp 111,.tmp 115],#[60,63,9]⟩,none⟩,⟨some 117,.call ⟨.value (.func 100),#[.tmp 99,.tmp 103,.tmp 116],#[127,3,9]⟩,none⟩]
def c63_r16:List SOp:=[⟨some 119,.binOp .eql 3 (.tmp 78) (.const (.int .i64 4)) 3,none⟩,⟨some 118,.assign (.tmp 119),none⟩]
def c63_r17:List SOp:=[⟨some 120,.move (.tmp 0),none⟩,⟨some 121,.nilCheck (.tmp 120),none⟩,⟨some 122,.fieldAddr 94 (.tmp 121) 5,none⟩,⟨some 123,.load 89 (.tmp 122),none⟩,⟨some 124,.move (.tmp 1),none⟩,⟨some 125,.nilCheck (.tmp 124),none⟩,⟨some 126,.fieldAddr 130 (.tmp 125) 11,none⟩,⟨some 127,.load 128 (.tmp 126),none⟩,⟨some 128,.nilCheck (.tmp 127),none⟩,⟨some 129,.fieldAddr 190 (.tmp 128) 0,none⟩,⟨some 130,.load 43 (.tmp 129),none⟩,⟨some 131,.call ⟨.value (.func 102),#[.tmp 123,.tmp 130],#[89,43]⟩,none⟩]
def c63_r12:List SOp:=[⟨some 79,.move (.tmp 0),none⟩,⟨some 80,.move (.tmp 1),none⟩,⟨some 81,.move (.tmp 1),none⟩,⟨some 82,.nilCheck (.tmp 81),none⟩,⟨some 83,.fieldAddr 130 (.tmp 82) 2,none⟩,⟨some 84,.load 60 (.tmp 83),none⟩,⟨some 85,.move (.tmp 1),none⟩,⟨some 86,.nilCheck (.tmp 85),none⟩,⟨some 87,.fieldAddr 130 (.tmp 86) 3,none⟩,⟨some 88,.load 63 (.tmp 87),none⟩,⟨some 89,.move (.tmp 1),none⟩,⟨some 90,.nilCheck (.tmp 89),none⟩,⟨some 91,.fieldAddr 130 (.tmp 90) 4,none⟩,⟨some 92,.load 9 (.tmp 91),none⟩,⟨some 93,.call ⟨.value (.func 90),#[.tmp 84,.tmp 88,.tmp 92],#[60,63,9]⟩,none⟩,⟨some 94,.call ⟨.value (.func 86),#[.tmp 79,.tmp 80,.tmp 93],#[65,127,9]⟩,none⟩,⟨some 4,.assign (.tmp 94),none⟩]
def c63_r18:List SOp:=[⟨some 132,.move (.tmp 0),none⟩,⟨some 133,.nilCheck (.tmp 132),none⟩,⟨some 134,.fieldAddr 94 (.tmp 133) 7,none⟩,⟨some 135,.fieldAddr 35 (.tmp 134) 4,none⟩,⟨some 136,.call ⟨.value (.func 85),#[.tmp 135],#[170]⟩,none⟩,⟨some 4,.assign (.tmp 136),none⟩]
def c63:SC:=(.seq (.reg c63_r0 none (some [0,1])) (.seq (.seq (.reg c63_r1 none (some [0,1,14])) (.cond (.tmp 14) (.seq (.reg c63_r2 none (some [4])) .ret) .skip (some [0,1]))) (.seq (.reg c63_r3 none (some [0,1,5])) (.seq (.reg c63_r4 none (some [0,1,5,6,7])) (.seq (.reg c63_r5 none (some [0,1,5,7])) (.seq (.seq (.reg c63_r6 none (some [0,1,5,7,8])) (.block 0 (.loop c63_l7 (some [0,1,5,7,8])))) (.seq (.seq (.reg c63_r11 none (some [0,1,78])) (.block 2 (.seq (.reg c63_r13 none (some [0,1,78,95])) (.cond (.tmp 95) .skip (.seq (.reg c63_r14 none (some [0,1,78,97])) (.cond (.tmp 97) (.reg c63_r15 (some [(4, 17)]) (some [0])) (.seq (.reg c63_r16 none (some [0,1,118])) (.cond (.tmp 118) (.reg c63_r17 none (some [0])) (.seq (.reg c63_r12 none (some [4])) .ret) (some [0]))) (some [0]))) (some [0]))))) (.seq (.reg c63_r18 none (some [4])) .ret))))))))
theorem c63_eq : ∃ code, Tryz.f63.body = some code ∧ compile H63 code = c63 :=⟨_,rfl,by kernel_rfl⟩
theorem c63_fn : Tryz.prog.funcs[63]? = some Tryz.f63:=by kernel_rfl
theorem c63_rs : Tryz.f63.results.toList = [.tmp 4]:=by kernel_rfl
theorem c63_ok : fnB Tryz.prog H63 Tryz.f63 = true:=by kernel_rfl
theorem c63_nt : Tryz.f63.ntmps = 137:=by kernel_rfl
def H64:Hint:=⟨[(7,[4]),(2,[4]),(4,[4]),(6,[4]),(2000019,[0,1]),(5,[0,1,19]),(2000013,[0,1]),(3,[0,1,13]),(2000005,[0,1]),(1,[0,1,5]),(0,[0,1])],[]⟩
def c64_r0:List SOp:=[⟨some 4,.assign (.const (.bool false)),none⟩]
def c64_r1:List SOp:=[⟨some 6,.move (.tmp 1),none⟩,⟨some 7,.nilCheck (.tmp 6),none⟩,⟨some 8,.fieldAddr 130 (.tmp 7) 10,none⟩,⟨some 9,.load 4 (.tmp 8),none⟩,⟨some 5,.assign (.tmp 9),none⟩]
def c64_r2:List SOp:=[⟨some 10,.move (.tmp 0),none⟩,⟨some 11,.move (.tmp 1),none⟩,⟨some 12,.call ⟨.value (.func 103),#[.tmp 10,.tmp 11],#[65,127]⟩,none⟩,⟨some 4,.assign (.tmp 12),none⟩]
def c64_r3:List SOp:=[⟨some 14,.move (.tmp 1),none⟩,⟨some 15,.call ⟨.value (.func 104),#[(.tmp 14),(.const (.int .i64 4))],#[127,3]⟩,none⟩,⟨some 13,.assign (.tmp 15),none⟩]
def c64_r4:List SOp:=[⟨some 16,.move (.tmp 0),none⟩,⟨some 17,.move (.tmp 1),none⟩,⟨some 18,.call ⟨.value (.func 105),#[.tmp 16,.tmp 17],#[65,127]⟩,none⟩,⟨some 4,.assign (.tmp 18),none⟩]
def c64_r5:List SOp:=[⟨some 20,.move (.tmp 1),none⟩,⟨some 21,.call ⟨.value (.func 104),#[(.tmp 20),(.const (.int .i64 2))],#[127,3]⟩,none⟩,⟨some 19,.assign (.tmp 21),none⟩]
def c64_r6:List SOp:=[⟨some 22,.move (.tmp 0),none⟩,⟨some 23,.move (.tmp 1),none⟩,⟨some 24,.call ⟨.value (.func 106),#[.tmp 22,.tmp 23],#[65,127]⟩,none⟩,⟨some 4,.assign (.tmp 24),none⟩]
def c64_r7:List SOp:=[⟨some 25,.move (.tmp 0),none⟩,⟨some 26,.move (.tmp 1),none⟩,⟨some 27,.call ⟨.value (.func 107),#[.tmp 25,.tmp 26],#[65,127]⟩,none⟩,⟨some 4,.assign (.tmp 27),none⟩]
def c64:SC:=(.seq (.reg c64_r0 none (some [0,1])) (.seq (.block 0 (.seq (.reg c64_r1 none (some [0,1,5])) (.cond (.tmp 5) (.seq (.reg c64_r2 none (some [4])) .ret) (.seq (.reg c64_r3 none (some [0,1,13])) (.cond (.tmp 13) (.seq (.reg c64_r4 none (some [4])) .ret) (.seq (.reg c64_r5 none (some [0,1,19])) (.cond (.tmp 19) (.seq (.reg c64_r6 none (some [4])) .ret) .skip (some [0,1]))) (some [0,1]))) (some [0,1])))) (.seq (.reg c64_r7 none (some [4])) .ret)))
theorem c64_eq : ∃ code, Tryz.f64.body = some code ∧ compile H64 code = c64 :=⟨_,rfl,by kernel_rfl⟩
theorem c64_fn : Tryz.prog.funcs[64]? = some Tryz.f64:=by kernel_rfl
theorem c64_rs : Tryz.f64.results.toList = [.tmp 4]:=by kernel_rfl
theorem c64_ok : fnB Tryz.prog H64 Tryz.f64 = true:=by kernel_rfl
theorem c64_nt : Tryz.f64.ntmps = 28:=by kernel_rfl
def H71:Hint:=⟨[(23,[4,5]),(22,[6,12,13]),(21,[6,12,13,14]),(2000061,[6,12,13]),(20,[6,12,13,61]),(1000020,[6,12,13]),(19,[6,12,13]),(18,[6,12]),(17,[4,5]),(2000049,[6,11]),(16,[6,11,49]),(15,[1,6,11]),(14,[1,6,30,31,32]),(13,[4,5]),(2000043,[1,6,30,31,32]),(12,[1,6,30,31,32,43]),(11,[1,6,30,31,32]),(10,[1,6,10,30,31,32]),(2000033,[1,6,30,31,32]),(9,[1,6,30,31,32,33]),(1000009,[1,6,30,31,32]),(8,[1,6,30,31,32]),(7,[0,1,6,16,17,18]),(6,[4,5]),(2000028,[0,1,6,16,17,18]),(5,[0,1,6,16,17,18,28]),(4,[0,1,6,8,16,17,18]),(2000019,[0,1,6,16,17,18]),(3,[0,1,6,16,17,18,19]),(1000003,[0,1,6,16,17,18]),(2,[0,1,6,16,17,18]),(1,[0,1,6]),(0,[0,1])],[]⟩
def c71_r0:List SOp:=[⟨some 4,.assign (.const (.pointer none)),none⟩,⟨some 5,.assign (.const (.int .i64 0)),none⟩]
def c71_r1:List SOp:=[⟨some 15,.call ⟨.value (.func 115),#[],#[]⟩,none⟩,⟨some 6,.assign (.tmp 15),none⟩]
def c71_r2:List SOp:=[⟨some 16,.move (.tmp 0),none⟩,⟨some 17,.call ⟨.builtin .len, #[.tmp 16],#[138]⟩,none⟩,⟨some 18,.move (.const (.int .i64 0)),none⟩]
def c71_r3:List SOp:=[⟨some 19,.binOp .lss 3 (.tmp 18) (.tmp 17) 3,none⟩]
def c71_r4:List SOp:=[⟨some 20,.indexAddr 138 (.tmp 16) (.tmp 18),none⟩,⟨some 21,.load 9 (.tmp 20),none⟩,⟨some 8,.assign (.tmp 21),none⟩]
def c71_r5:List SOp:=[⟨some 22,.move (.tmp 8),none⟩,⟨some 23,.binOp .eql 9 (.tmp 22) (.const (.string ⟨#[]⟩)) 9,none⟩,⟨some 24,.move (.tmp 23),none⟩,⟨some 25,.move (.tmp 8),some (some 24,false)⟩,⟨some 26,.call ⟨.builtin .len, #[.tmp 25],#[9]⟩,some (some 24,false)⟩,⟨some 27,.binOp .gtr 3 (.tmp 26) (.const (.int .i64 16)) 3,some (some 24,false)⟩,⟨some 28,.pick (.tmp 24) (.const (.bool true)) (.tmp 27),none⟩]
def c71_r6:List SOp:=[⟨some 4,.assign (.const (.pointer none)),none⟩,⟨some 5,.assign (.const (.int .i64 1)),none⟩]
def c71_r7:List SOp:=[⟨some 29,.binOp .add 3 (.tmp 18) (.const (.int .i64 1)) 3,none⟩,⟨some 18,.move (.tmp 29),none⟩]
def c71_l3:SC:=(.seq (.reg c71_r3 none (some [0,1,6,16,17,18,19])) (.seq (.cond (.tmp 19) .skip (.exit 0) (some [0,1,6,16,17,18])) (.seq (.block 1 (.seq (.reg c71_r4 none (some [0,1,6,8,16,17,18])) (.seq (.reg c71_r5 none (some [0,1,6,16,17,18,28])) (.cond (.tmp 28) (.seq (.reg c71_r6 none (some [4,5])) .ret) .skip (some [0,1,6,16,17,18]))))) (.reg c71_r7 none (some [0,1,6,16,17,18])))))
def c71_r8:List SOp:=[⟨some 30,.move (.tmp 0),none⟩,⟨some 31,.call ⟨.builtin .len, #[.tmp 30],#[138]⟩,none⟩,⟨some 32,.move (.const (.int .i64 0)),none⟩]
def c71_r9:List SOp:=[⟨some 33,.binOp .lss 3 (.tmp 32) (.tmp 31) 3,none⟩]
def c71_r10:List SOp:=[⟨some 34,.indexAddr 138 (.tmp 30) (.tmp 32),none⟩,⟨some 35,.load 9 (.tmp 34),none⟩,⟨some 10,.assign (.tmp 35),none⟩]
def c71_r11:List SOp:=[⟨some 36,.move (.tmp 6),none⟩,⟨some 37,.move (.tmp 10),none⟩,⟨some 38,.call ⟨.value (.func 116),#[.tmp 36,.tmp 37],#[218,9]⟩,none⟩]
def c71_r12:List SOp:=[⟨some 39,.move (.tmp 6),none⟩,⟨some 40,.call ⟨.value (.func 117),#[.tmp 39],#[218]⟩,none⟩,⟨some 41,.move (.tmp 1),none⟩,⟨some 42,.call ⟨.builtin .min, #[(.tmp 41),(.const (.int .i64 4096))],#[3,3]⟩,none⟩,⟨some 43,.binOp .gtr 3 (.tmp 40) (.tmp 42) 3,none⟩]
def c71_r13:List SOp:=[⟨some 4,.assign (.const (.pointer none)),none⟩,⟨some 5,.assign (.const (.int .i64 9)),none⟩]
def c71_r14:List SOp:=[⟨some 44,.binOp .add 3 (.tmp 32) (.const (.int .i64 1)) 3,none⟩,⟨some 32,.move (.tmp 44),none⟩]
def c71_l9:SC:=(.seq (.reg c71_r9 none (some [1,6,30,31,32,33])) (.seq (.cond (.tmp 33) .skip (.exit 2) (some [1,6,30,31,32])) (.seq (.block 3 (.seq (.reg c71_r10 none (some [1,6,10,30,31,32])) (.seq (.reg c71_r11 none (some [1,6,30,31,32])) (.seq (.reg c71_r12 none (some [1,6,30,31,32,43])) (.cond (.tmp 43) (.seq (.reg c71_r13 none (some [4,5])) .ret) .skip (some [1,6,30,31,32])))))) (.reg c71_r14 none (some [1,6,30,31,32])))))
def c71_r15:List SOp:=[⟨some 45,.move (.tmp 6),none⟩,⟨some 46,.call ⟨.value (.func 117),#[.tmp 45],#[218]⟩,none⟩,⟨some 11,.assign (.tmp 46),none⟩]
def c71_r16:List SOp:=[⟨some 47,.move (.tmp 11),none⟩,⟨some 48,.move (.tmp 1),none⟩,⟨some 49,.binOp .gtr 3 (.tmp 47) (.tmp 48) 3,none⟩]
def c71_r17:List SOp:=[⟨some 4,.assign (.const (.pointer none)),none⟩,⟨some 5,.assign (.const (.int .i64 9)),none⟩]
def c71_r18:List SOp:=[⟨some 50,.move (.tmp 11),none⟩,⟨some 51,.makeSlice 220 (.tmp 50) (.tmp 50),none⟩,⟨some 52,.move (.tmp 11),none⟩,⟨some 53,.makeSlice 22 (.tmp 52) (.tmp 52),none⟩,⟨some 54,.move (.tmp 11),none⟩,⟨some 55,.makeSlice 221 (.tmp 54) (.tmp 54),none⟩,⟨some 56,.build 223 #[(0, (.tmp 51)), (1, (.tmp 53)), (2, (.tmp 55))],none⟩,⟨some 57,.box 223 (.tmp 56),none⟩,⟨some 12,.assign (.tmp 57),none⟩]
def c71_r19:List SOp:=[⟨some 58,.buildSlice 22 1 #[(0, (.const (.int .i64 0)))],none⟩,⟨some 13,.assign (.tmp 58),none⟩]
def c71_r20:List SOp:=[⟨some 59,.move (.tmp 13),none⟩,⟨some 60,.call ⟨.builtin .len, #[.tmp 59],#[22]⟩,none⟩,⟨some 61,.binOp .gtr 3 (.tmp 60) (.const (.int .i64 0)) 3,none⟩]
def c71_r21:List SOp:=[⟨some 62,.move (.tmp 13),none⟩,⟨some 63,.indexAddr 22 (.tmp 62) (.const (.int .i64 0)),none⟩,⟨some 64,.load 3 (.tmp 63),none⟩,⟨some 14,.assign (.tmp 64),none⟩]
def c71_r22:List SOp:=[⟨some 65,.move (.tmp 13),none⟩,⟨some 66,.slice 22 (.tmp 65) (some (.const (.int .i64 1))) none none,none⟩,⟨some 67,.move (.tmp 12),none⟩,⟨some 68,.move (.tmp 6),none⟩,⟨some 69,.move (.tmp 14),none⟩,⟨some 70,.call ⟨.value (.func 118),#[.tmp 67,.tmp 68,.tmp 69],#[151,218,3]⟩,none⟩,⟨some 71,.call ⟨.builtin .append, #[.tmp 66,.tmp 70],#[22,22]⟩,none⟩,⟨some 13,.assign (.tmp 71),none⟩]
def c71_l20:SC:=(.seq (.seq (.reg c71_r20 none (some [6,12,13,61])) (.cond (.tmp 61) .skip (.exit 4) (some [6,12,13]))) (.block 5 (.seq (.reg c71_r21 none (some [6,12,13,14])) (.reg c71_r22 none (some [6,12,13])))))
def c71_r23:List SOp:=[⟨some 72,.move (.tmp 12),none⟩,⟨some 4,.assign (.tmp 72),none⟩,⟨some 5,.assign (.const (.int .i64 0)),none⟩]
def c71:SC:=(.seq (.reg c71_r0 none (some [0,1])) (.seq (.reg c71_r1 none (some [0,1,6])) (.seq (.seq (.reg c71_r2 none (some [0,1,6,16,17,18])) (.block 0 (.loop c71_l3 (some [0,1,6,16,17,18])))) (.seq (.seq (.reg c71_r8 none (some [1,6,30,31,32])) (.block 2 (.loop c71_l9 (some [1,6,30,31,32])))) (.seq (.reg c71_r15 none (some [1,6,11])) (.seq (.seq (.reg c71_r16 none (some [6,11,49])) (.cond (.tmp 49) (.seq (.reg c71_r17 none (some [4,5])) .ret) .skip (some [6,11]))) (.seq (.reg c71_r18 none (some [6,12])) (.seq (.seq (.reg c71_r19 none (some [6,12,13])) (.block 4 (.loop c71_l20 (some [6,12,13])))) (.seq (.reg c71_r23 none (some [4,5])) .ret)))))))))
theorem c71_eq : ∃ code, Tryz.f71.body = some code ∧ compile H71 code = c71 :=⟨_,rfl,by kernel_rfl⟩
theorem c71_fn : Tryz.prog.funcs[71]? = some Tryz.f71:=by kernel_rfl
theorem c71_rs : Tryz.f71.results.toList = [.tmp 4, .tmp 5]:=by kernel_rfl
theorem c71_ok : fnB Tryz.prog H71 Tryz.f71 = true:=by kernel_rfl
theorem c71_nt : Tryz.f71.ntmps = 73:=by kernel_rfl
def H76:Hint:=⟨[(9,[2,3,4]),(8,[0,2,5]),(7,[0,2,5]),(6,[0,2,5]),(5,[0,2,5]),(2,[2,3,4]),(4,[2,3,4]),(2000011,[0,2]),(3,[0,2,11]),(2000006,[0,2]),(1,[0,2,6]),(0,[0,2])],[]⟩
def c76_r0:List SOp:=[⟨some 2,.alloc 60,none⟩,⟨some 3,.assign (.const (.string ⟨#[]⟩)),none⟩,⟨some 4,.assign (.const (.int .i64 0)),none⟩]
def c76_r1:List SOp:=[⟨some 7,.move (.tmp 0),none⟩,⟨some 8,.call ⟨.builtin .len, #[.tmp 7],#[9]⟩,none⟩,⟨some 9,.binOp .lss 3 (.tmp 8) (.const (.int .i64 14)) 3,none⟩,⟨some 6,.assign (.tmp 9),none⟩]
def c76_r2:List SOp:=[⟨some 10,.build 60 #[],none⟩,⟨none,.store 60 (.tmp 2) (.tmp 10),none⟩,⟨some 3,.assign (.const (.string ⟨#[]⟩)),none⟩,⟨some 4,.assign (.const (.int .i64 2)),none⟩]
def c76_r3:List SOp:=[⟨some 12,.move (.tmp 0),none⟩,⟨some 13,.call ⟨.builtin .len, #[.tmp 12],#[9]⟩,none⟩,⟨some 14,.binOp .gtr 3 (.tmp 13) (.const (.int .i64 3000)) 3,none⟩,⟨some 11,.assign (.tmp 14),none⟩]
def c76_r4:List SOp:=[⟨some 15,.build 60 #[],none⟩,⟨none,.store 60 (.tmp 2) (.tmp 15),none⟩,⟨some 3,.assign (.const (.string ⟨#[]⟩)),none⟩,⟨some 4,.assign (.const (.int .i64 5)),none⟩]
def c76_r5:List SOp:=[⟨some 5,.alloc 60,none⟩]
def c76_r6:List SOp:=[⟨some 16,.fieldAddr 60 (.tmp 5) 0,none⟩,⟨some 17,.slice 58 (.tmp 16) none none none,none⟩,⟨some 18,.move (.tmp 0),none⟩,⟨some 19,.call ⟨.builtin .copy, #[.tmp 17,.tmp 18],#[54,9]⟩,none⟩]
def c76_r7:List SOp:=[⟨some 20,.fieldAddr 60 (.tmp 5) 1,none⟩,⟨some 21,.slice 58 (.tmp 20) none none none,none⟩,⟨some 22,.move (.tmp 0),none⟩,⟨some 23,.slice 9 (.tmp 22) (some (.const (.int .i64 6))) none none,none⟩,⟨some 24,.call ⟨.builtin .copy, #[.tmp 21,.tmp 23],#[54,9]⟩,none⟩]
def c76_r8:List SOp:=[⟨some 25,.move (.tmp 0),none⟩,⟨some 26,.slice 9 (.tmp 25) (some (.const (.int .i64 12))) (some (.const (.int .i64 14))) none,none⟩,⟨some 27,.call ⟨.value (.func 120),#[.tmp 26],#[9]⟩,none⟩,⟨some 28,.fieldAddr 60 (.tmp 5) 2,none⟩,⟨none,.store 3 (.tmp 28) (.tmp 27),none⟩]
def c76_r9:List SOp:=[⟨some 29,.load 60 (.tmp 5),none⟩,⟨some 30,.move (.tmp 0),none⟩,⟨some 31,.slice 9 (.tmp 30) (some (.const (.int .i64 14))) none none,none⟩,⟨none,.store 60 (.tmp 2) (.tmp 29),none⟩,⟨some 3,.assign (.tmp 31),none⟩,⟨some 4,.assign (.const (.int .i64 0)),none⟩]
def c76:SC:=(.seq (.reg c76_r0 none (some [0,2])) (.seq (.block 0 (.seq (.reg c76_r1 none (some [0,2,6])) (.cond (.tmp 6) (.seq (.reg c76_r2 none (some [2,3,4])) .ret) (.seq (.reg c76_r3 none (some [0,2,11])) (.cond (.tmp 11) (.seq (.reg c76_r4 none (some [2,3,4])) .ret) .skip (some [0,2]))) (some [0,2])))) (.seq (.reg c76_r5 none (some [0,2,5])) (.seq (.reg c76_r6 none (some [0,2,5])) (.seq (.reg c76_r7 none (some [0,2,5])) (.seq (.reg c76_r8 none (some [0,2,5])) (.seq (.reg c76_r9 none (some [2,3,4])) .ret)))))))
theorem c76_eq : ∃ code, Tryz.f76.body = some code ∧ compile H76 code = c76 :=⟨_,rfl,by kernel_rfl⟩
theorem c76_fn : Tryz.prog.funcs[76]? = some Tryz.f76:=by kernel_rfl
theorem c76_rs : Tryz.f76.results.toList = [.cell 2 60, .tmp 3, .tmp 4]:=by kernel_rfl
theorem c76_ok : fnB Tryz.prog H76 Tryz.f76 = true:=by kernel_rfl
theorem c76_nt : Tryz.f76.ntmps = 32:=by kernel_rfl
def H77:Hint:=⟨[(9,[2,3,4]),(8,[0,2,8]),(7,[0,2,7]),(6,[0,2,9,10,11]),(5,[2,3,4]),(2000018,[0,2,9,10,11]),(4,[0,2,6,9,10,11,18]),(3,[0,2,6,9,10,11]),(2000012,[0,2,9,10,11]),(2,[0,2,9,10,11,12]),(1000002,[0,2,9,10,11]),(1,[0,2,9,10,11]),(0,[0,2])],[(5,[(2,3)]),(9,[(0,3),(0,5)])]⟩
def c77_r0:List SOp:=[⟨some 2,.alloc 63,none⟩,⟨some 3,.assign (.const (.string ⟨#[]⟩)),none⟩,⟨some 4,.assign (.const (.int .i64 0)),none⟩]
def c77_r1:List SOp:=[⟨some 9,.call ⟨.value (.func 121),#[],#[]⟩,none⟩,⟨some 10,.call ⟨.builtin .len, #[.tmp 9],#[225]⟩,none⟩,⟨some 11,.move (.const (.int .i64 0)),none⟩]
def c77_r2:List SOp:=[⟨some 12,.binOp .lss 3 (.tmp 11) (.tmp 10) 3,none⟩]
def c77_r3:List SOp:=[⟨some 13,.indexAddr 225 (.tmp 9) (.tmp 11),none⟩,⟨some 14,.load 229 (.tmp 13),none⟩,⟨some 6,.alloc 229,none⟩,⟨none,.store 229 (.tmp 6) (.tmp 14),none⟩]
def c77_r4:List SOp:=[⟨some 15,.fieldAddr 229 (.tmp 6) 0,none⟩,⟨some 16,.load 227 (.tmp 15),none⟩,⟨some 17,.move (.tmp 0),none⟩,⟨some 18,.call ⟨.value (.tmp 16),#[.tmp 17],#[9]⟩,none⟩]
def c77_r5:List SOp:=[⟨some 19,.build 63 #[],none⟩,⟨some 20,.fieldAddr 229 (.tmp 6) 1,none⟩,⟨some 21,.load 36 (.tmp 20),none⟩,⟨none,.store 63 (.tmp 2) (.tmp 19),none⟩,⟨some 3,.assign (.const (.string ⟨#[]⟩)),none⟩,⟨some 4,.assign (.tmp 21),none⟩]
def c77_r6:List SOp:=[⟨some 22,.binOp .add 3 (.tmp 11) (.const (.int .i64 1)) 3,none⟩,⟨some 11,.move (.tmp 22),none⟩]
def c77_l2:SC:=(.seq (.reg c77_r2 none (some [0,2,9,10,11,12])) (.seq (.cond (.tmp 12) .skip (.exit 0) (some [0,2,9,10,11])) (.seq (.block 1 (.seq (.reg c77_r3 none (some [0,2,6,9,10,11])) (.seq (.reg c77_r4 none (some [0,2,6,9,10,11,18])) (.cond (.tmp 18) (.seq (.reg c77_r5 (some [(2, 3)]) (some [2,3,4])) .ret) .skip (some [0,2,9,10,11]))))) (.reg c77_r6 none (some [0,2,9,10,11])))))
def c77_r7:List SOp:=[⟨some 23,.move (.tmp 0),none⟩,⟨some 24,.slice 9 (.tmp 23) (some (.const (.int .i64 6))) (some (.const (.int .i64 8))) none,none⟩,⟨some 25,.call ⟨.value (.func 120),#[.tmp 24],#[9]⟩,none⟩,⟨some 7,.assign (.tmp 25),none⟩]
def c77_r8:List SOp:=[⟨some 26,.move (.tmp 0),none⟩,⟨some 27,.index 9 (.tmp 26) (.const (.int .i64 1)),none⟩,⟨some 28,.convert 5 3 (.tmp 27),none⟩,⟨some 29,.move (.tmp 0),none⟩,⟨some 30,.slice 9 (.tmp 29) (some (.const (.int .i64 4))) (some (.const (.int .i64 6))) none,none⟩,⟨some 31,.call ⟨.value (.func 120),#[.tmp 30],#[9]⟩,none⟩,⟨some 32,.move (.tmp 7),none⟩,⟨some 33,.binOp .and 3 (.tmp 32) (.const (.int .i64 8192)) 3,none⟩,⟨some 34,.binOp .neq 3 (.tmp 33) (.const (.int .i64 0)) 3,none⟩,⟨some 35,.move (.tmp 7),none⟩,⟨some 36,.binOp .and 3 (.tmp 35) (.const (.int .i64 16384)) 3,none⟩,⟨some 37,.binOp .neq 3 (.tmp 36) (.const (.int .i64 0)) 3,none⟩,⟨some 38,.move (.tmp 7),none⟩,⟨some 39,.binOp .and 3 (.tmp 38) (.const (.int .i64 8191)) 3,none⟩,⟨some 40,.binOp .mul 3 (.tmp 39) (.const (.int .i64 8)) 3,none⟩,⟨some 41,.move (.tmp 0),none⟩,⟨some 42,.index 9 (.tmp 41) (.const (.int .i64 8)),none⟩,⟨some 43,.convert 5 3 (.tmp 42),none⟩,⟨some 44,.move (.tmp 0),none⟩,⟨some 45,.index 9 (.tmp 44) (.const (.int .i64 9)),none⟩,⟨some 46,.convert 5 3 (.tmp 45),none⟩,⟨some 47,.move (.tmp 0),none⟩,⟨some 48,.slice 9 (.tmp 47) (some (.const (.int .i64 12))) (some (.const (.int .i64 16))) none,none⟩,⟨some 49,.call ⟨.value (.func 120),#[.tmp 48],#[9]⟩,none⟩,⟨some 50,.convert 3 28 (.tmp 49),none⟩,⟨some 51,.move (.tmp 0),none⟩,⟨some 52,.slice 9 (.tmp 51) (some (.const (.int .i64 16))) (some (.const (.int .i64 20))) none,none⟩,⟨some 53,.call ⟨.value (.func 120),#[.tmp 52],#[9]⟩,none⟩,⟨some 54,.convert 3 28 (.tmp 53),none⟩,⟨some 55,.move (.tmp 0),none⟩,⟨some 56,.move (.tmp 0),none⟩,⟨some 57,.call ⟨.value (.func 122),#[.tmp 56],#[9]⟩,none⟩,⟨some 58,.slice 9 (.tmp 55) (some (.const (.int .i64 20))) (some (.tmp 57)) none,none⟩,⟨some 59,.build 63 #[(0, (.tmp 28)), (1, (.tmp 31)), (2, (.tmp 34)), (3, (.tmp 37)), (4, (.tmp 40)), (5, (.tmp 43)), (6, (.tmp 46)), (7, (.tmp 50)), (8, (.tmp 54)), (9, (.tmp 58))],none⟩,⟨some 8,.alloc 63,none⟩,⟨none,.store 63 (.tmp 8) (.tmp 59),none⟩]
def c77_r9:List SOp:=[⟨some 60,.load 63 (.tmp 8),none⟩,⟨some 61,.move (.tmp 0),none⟩,⟨some 62,.move (.tmp 0),none⟩,⟨some 63,.call ⟨.value (.func 122),#[.tmp 62],#[9]⟩,none⟩,⟨some 64,.move (.tmp 0),none⟩,⟨some 65,.call ⟨.value (.func 123),#[.tmp 64],#[9]⟩,none⟩,⟨some 66,.slice 9 (.tmp 61) (some (.tmp 63)) (some (.tmp 65)) none,none⟩,⟨none,.store 63 (.tmp 2) (.tmp 60),none⟩,⟨some 3,.assign (.tmp 66),none⟩,⟨some 4,.assign (.const (.int .i64 0)),none⟩]
def c77:SC:=(.seq (.reg c77_r0 none (some [0,2])) (.seq (.seq (.reg c77_r1 none (some [0,2,9,10,11])) (.block 0 (.loop c77_l2 (some [0,2,9,10,11])))) (.seq (.reg c77_r7 none (some [0,2,7])) (.seq (.reg c77_r8 none (some [0,2,8])) (.seq (.reg c77_r9 (some [(0, 3), (0, 5)]) (some [2,3,4])) .ret)))))
theorem c77_eq : ∃ code, Tryz.f77.body = some code ∧ compile H77 code = c77 :=⟨_,rfl,by kernel_rfl⟩
theorem c77_fn : Tryz.prog.funcs[77]? = some Tryz.f77:=by kernel_rfl
theorem c77_rs : Tryz.f77.results.toList = [.cell 2 63, .tmp 3, .tmp 4]:=by kernel_rfl
theorem c77_ok : fnB Tryz.prog H77 Tryz.f77 = true:=by kernel_rfl
theorem c77_nt : Tryz.f77.ntmps = 67:=by kernel_rfl
def H78:Hint:=⟨[(9,[6,7,8]),(8,[2,6,9,11]),(7,[2,6,9,11]),(6,[2,6,9,11]),(5,[2,6,9,11]),(4,[6,7,8]),(2000019,[2,6,9]),(3,[2,6,9,10,19]),(2,[2,6,9,10]),(1,[2,6,9]),(0,[0,1,2,6])],[]⟩
def c78_r0:List SOp:=[⟨some 6,.alloc 56,none⟩,⟨some 7,.assign (.const (.string ⟨#[]⟩)),none⟩,⟨some 8,.assign (.const (.int .i64 0)),none⟩]
def c78_r1:List SOp:=[⟨some 12,.move (.tmp 0),none⟩,⟨some 13,.move (.tmp 1),none⟩,⟨some 14,.build 231 #[(1, (.tmp 12)), (2, (.tmp 13))],none⟩,⟨some 9,.alloc 231,none⟩,⟨none,.store 231 (.tmp 9) (.tmp 14),none⟩]
def c78_r2:List SOp:=[⟨some 15,.load 231 (.tmp 9),none⟩,⟨some 16,.move (.tmp 2),none⟩,⟨some 17,.call ⟨.value (.func 124),#[.tmp 15,.tmp 16],#[231,9]⟩,none⟩,⟨some 10,.assign (.tmp 17),none⟩]
def c78_r3:List SOp:=[⟨some 18,.move (.tmp 10),none⟩,⟨some 19,.binOp .neq 36 (.tmp 18) (.const (.int .i64 0)) 36,none⟩]
def c78_r4:List SOp:=[⟨some 20,.build 56 #[],none⟩,⟨some 21,.move (.tmp 10),none⟩,⟨none,.store 56 (.tmp 6) (.tmp 20),none⟩,⟨some 7,.assign (.const (.string ⟨#[]⟩)),none⟩,⟨some 8,.assign (.tmp 21),none⟩]
def c78_r5:List SOp:=[⟨some 22,.move (.tmp 2),none⟩,⟨some 23,.index 9 (.tmp 22) (.const (.int .i64 12)),none⟩,⟨some 24,.convert 5 3 (.tmp 23),none⟩,⟨some 25,.binOp .shr 3 (.tmp 24) (.const (.int .u64 4)) 165,none⟩,⟨some 26,.binOp .mul 3 (.tmp 25) (.const (.int .i64 4)) 3,none⟩,⟨some 11,.assign (.tmp 26),none⟩]
def c78_r6:List SOp:=[⟨some 27,.move (.tmp 2),none⟩,⟨some 28,.slice 9 (.tmp 27) (some (.const (.int .i64 0))) (some (.const (.int .i64 2))) none,none⟩,⟨some 29,.call ⟨.value (.func 120),#[.tmp 28],#[9]⟩,none⟩,⟨some 30,.move (.tmp 2),none⟩,⟨some 31,.slice 9 (.tmp 30) (some (.const (.int .i64 2))) (some (.const (.int .i64 4))) none,none⟩,⟨some 32,.call ⟨.value (.func 120),#[.tmp 31],#[9]⟩,none⟩,⟨some 33,.fieldAddr 231 (.tmp 9) 0,none⟩,⟨some 34,.fieldAddr 56 (.tmp 33) 0,none⟩,⟨none,.store 3 (.tmp 34) (.tmp 29),none⟩,⟨some 35,.fieldAddr 231 (.tmp 9) 0,none⟩,⟨some 36,.fieldAddr 56 (.tmp 35) 1,none⟩,⟨none,.store 3 (.tmp 36) (.tmp 32),none⟩]
def c78_r7:List SOp:=[⟨some 37,.move (.tmp 2),none⟩,⟨some 38,.slice 9 (.tmp 37) (some (.const (.int .i64 4))) (some (.const (.int .i64 8))) none,none⟩,⟨some 39,.call ⟨.value (.func 120),#[.tmp 38],#[9]⟩,none⟩,⟨some 40,.convert 3 28 (.tmp 39),none⟩,⟨some 41,.move (.tmp 2),none⟩,⟨some 42,.slice 9 (.tmp 41) (some (.const (.int .i64 8))) (some (.const (.int .i64 12))) none,none⟩,⟨some 43,.call ⟨.value (.func 120),#[.tmp 42],#[9]⟩,none⟩,⟨some 44,.convert 3 28 (.tmp 43),none⟩,⟨some 45,.fieldAddr 231 (.tmp 9) 0,none⟩,⟨some 46,.fieldAddr 56 (.tmp 45) 2,none⟩,⟨none,.store 28 (.tmp 46) (.tmp 40),none⟩,⟨some 47,.fieldAddr 231 (.tmp 9) 0,none⟩,⟨some 48,.fieldAddr 56 (.tmp 47) 3,none⟩,⟨none,.store 28 (.tmp 48) (.tmp 44),none⟩]
def c78_r8:List SOp:=[⟨some 49,.move (.tmp 2),none⟩,⟨some 50,.index 9 (.tmp 49) (.const (.int .i64 13)),none⟩,⟨some 51,.convert 5 3 (.tmp 50),none⟩,⟨some 52,.move (.tmp 2),none⟩,⟨some 53,.slice 9 (.tmp 52) (some (.const (.int .i64 14))) (some (.const (.int .i64 16))) none,none⟩,⟨some 54,.call ⟨.value (.func 120),#[.tmp 53],#[9]⟩,none⟩,⟨some 55,.move (.tmp 2),none⟩,⟨some 56,.move (.tmp 11),none⟩,⟨some 57,.slice 9 (.tmp 55) (some (.const (.int .i64 20))) (some (.tmp 56)) none,none⟩,⟨some 58,.fieldAddr 231 (.tmp 9) 0,none⟩,⟨some 59,.fieldAddr 56 (.tmp 58) 4,none⟩,⟨none,.store 3 (.tmp 59) (.tmp 51),none⟩,⟨some 60,.fieldAddr 231 (.tmp 9) 0,none⟩,⟨some 61,.fieldAddr 56 (.tmp 60) 5,none⟩,⟨none,.store 3 (.tmp 61) (.tmp 54),none⟩,⟨some 62,.fieldAddr 231 (.tmp 9) 0,none⟩,⟨some 63,.fieldAddr 56 (.tmp 62) 6,none⟩,⟨none,.store 9 (.tmp 63) (.tmp 57),none⟩]
def c78_r9:List SOp:=[⟨some 64,.fieldAddr 231 (.tmp 9) 0,none⟩,⟨some 65,.load 56 (.tmp 64),none⟩,⟨some 66,.move (.tmp 2),none⟩,⟨some 67,.move (.tmp 11),none⟩,⟨some 68,.slice 9 (.tmp 66) (some (.tmp 67)) none none,none⟩,⟨none,.store 56 (.tmp 6) (.tmp 65),none⟩,⟨some 7,.assign (.tmp 68),none⟩,⟨some 8,.assign (.const (.int .i64 0)),none⟩]
def c78:SC:=(.seq (.reg c78_r0 none (some [0,1,2,6])) (.seq (.reg c78_r1 none (some [2,6,9])) (.seq (.seq (.reg c78_r2 none (some [2,6,9,10])) (.seq (.reg c78_r3 none (some [2,6,9,10,19])) (.cond (.tmp 19) (.seq (.reg c78_r4 none (some [6,7,8])) .ret) .skip (some [2,6,9])))) (.seq (.reg c78_r5 none (some [2,6,9,11])) (.seq (.reg c78_r6 none (some [2,6,9,11])) (.seq (.reg c78_r7 none (some [2,6,9,11])) (.seq (.reg c78_r8 none (some [2,6,9,11])) (.seq (.reg c78_r9 none (some [6,7,8])) .ret))))))))
theorem c78_eq : ∃ code, Tryz.f78.body = some code ∧ compile H78 code = c78 :=⟨_,rfl,by kernel_rfl⟩
theorem c78_fn : Tryz.prog.funcs[78]? = some Tryz.f78:=by kernel_rfl
theorem c78_rs : Tryz.f78.results.toList = [.cell 6 56, .tmp 7, .tmp 8]:=by kernel_rfl
theorem c78_ok : fnB Tryz.prog H78 Tryz.f78 = true:=by kernel_rfl
theorem c78_nt : Tryz.f78.ntmps = 69:=by kernel_rfl
def H79:Hint:=⟨[(1,[2]),(0,[0])],[]⟩
def c79_r0:List SOp:=[⟨some 2,.assign (.const (.int .i64 0)),none⟩]
def c79_r1:List SOp:=[⟨some 3,.move (.tmp 0),none⟩,⟨some 4,.convert 21 3 (.tmp 3),none⟩,⟨some 2,.assign (.tmp 4),none⟩]
def c79:SC:=(.seq (.reg c79_r0 none (some [0])) (.seq (.reg c79_r1 none (some [2])) .ret))
theorem c79_eq : ∃ code, Tryz.f79.body = some code ∧ compile H79 code = c79 :=⟨_,rfl,by kernel_rfl⟩
theorem c79_fn : Tryz.prog.funcs[79]? = some Tryz.f79:=by kernel_rfl
theorem c79_rs : Tryz.f79.results.toList = [.tmp 2]:=by kernel_rfl
theorem c79_ok : fnB Tryz.prog H79 Tryz.f79 = true:=by kernel_rfl
theorem c79_nt : Tryz.f79.ntmps = 5:=by kernel_rfl
def H80:Hint:=⟨[(1,[2]),(0,[0])],[]⟩
def c80_r0:List SOp:=[⟨some 2,.assign (.const (.int .i32 0)),none⟩]
def c80_r1:List SOp:=[⟨some 3,.move (.tmp 0),none⟩,⟨some 4,.convert 28 21 (.tmp 3),none⟩,⟨some 2,.assign (.tmp 4),none⟩]
def c80:SC:=(.seq (.reg c80_r0 none (some [0])) (.seq (.reg c80_r1 none (some [2])) .ret))
theorem c80_eq : ∃ code, Tryz.f80.body = some code ∧ compile H80 code = c80 :=⟨_,rfl,by kernel_rfl⟩
theorem c80_fn : Tryz.prog.funcs[80]? = some Tryz.f80:=by kernel_rfl
theorem c80_rs : Tryz.f80.results.toList = [.tmp 2]:=by kernel_rfl
theorem c80_ok : fnB Tryz.prog H80 Tryz.f80 = true:=by kernel_rfl
theorem c80_nt : Tryz.f80.ntmps = 5:=by kernel_rfl
def H81:Hint:=⟨[(1,[2]),(0,[0])],[]⟩
def c81_r0:List SOp:=[⟨some 2,.assign (.const (.int .u32 0)),none⟩]
def c81_r1:List SOp:=[⟨some 3,.move (.tmp 0),none⟩,⟨some 4,.convert 3 28 (.tmp 3),none⟩,⟨some 2,.assign (.tmp 4),none⟩]
def c81:SC:=(.seq (.reg c81_r0 none (some [0])) (.seq (.reg c81_r1 none (some [2])) .ret))
theorem c81_eq : ∃ code, Tryz.f81.body = some code ∧ compile H81 code = c81 :=⟨_,rfl,by kernel_rfl⟩
theorem c81_fn : Tryz.prog.funcs[81]? = some Tryz.f81:=by kernel_rfl
theorem c81_rs : Tryz.f81.results.toList = [.tmp 2]:=by kernel_rfl
theorem c81_ok : fnB Tryz.prog H81 Tryz.f81 = true:=by kernel_rfl
theorem c81_nt : Tryz.f81.ntmps = 5:=by kernel_rfl
def H82:Hint:=⟨[(9,[2]),(4,[0,3,4]),(8,[0,3,4]),(7,[0,3,4,5]),(2000021,[0,3,4,5]),(6,[0,3,4,5,21]),(5,[0,3,4,5]),(2000009,[0,3,4]),(3,[0,3,4,9]),(1000003,[0,3,4]),(2,[0,3,4]),(1,[0,3]),(0,[0])],[]⟩
def c82_r0:List SOp:=[⟨some 2,.assign (.const (.int .i64 0)),none⟩]
def c82_r1:List SOp:=[⟨some 3,.assign (.const (.int .i64 0)),none⟩]
def c82_r2:List SOp:=[⟨some 4,.assign (.const (.int .i64 0)),none⟩]
def c82_r3:List SOp:=[⟨some 6,.move (.tmp 4),none⟩,⟨some 7,.move (.tmp 0),none⟩,⟨some 8,.call ⟨.builtin .len, #[.tmp 7],#[9]⟩,none⟩,⟨some 9,.binOp .lss 3 (.tmp 6) (.tmp 8) 3,none⟩]
def c82_r5:List SOp:=[⟨some 12,.move (.tmp 0),none⟩,⟨some 13,.move (.tmp 4),none⟩,⟨some 14,.index 9 (.tmp 12) (.tmp 13),none⟩,⟨some 15,.convert 5 3 (.tmp 14),none⟩,⟨some 16,.binOp .shl 3 (.tmp 15) (.const (.int .u64 8)) 165,none⟩,⟨some 5,.assign (.tmp 16),none⟩]
def c82_r6:List SOp:=[⟨some 17,.move (.tmp 4),none⟩,⟨some 18,.binOp .add 3 (.tmp 17) (.const (.int .i64 1)) 3,none⟩,⟨some 19,.move (.tmp 0),none⟩,⟨some 20,.call ⟨.builtin .len, #[.tmp 19],#[9]⟩,none⟩,⟨some 21,.binOp .lss 3 (.tmp 18) (.tmp 20) 3,none⟩]
def c82_r7:List SOp:=[⟨some 22,.move (.tmp 5),none⟩,⟨some 23,.move (.tmp 0),none⟩,⟨some 24,.move (.tmp 4),none⟩,⟨some 25,.binOp .add 3 (.tmp 24) (.const (.int .i64 1)) 3,none⟩,⟨some 26,.index 9 (.tmp 23) (.tmp 25),none⟩,⟨some 27,.convert 5 3 (.tmp 26),none⟩,⟨some 28,.binOp .add 3 (.tmp 22) (.tmp 27) 3,none⟩,⟨some 5,.assign (.tmp 28),none⟩]
def c82_r8:List SOp:=[⟨some 29,.move (.tmp 3),none⟩,⟨some 30,.move (.tmp 5),none⟩,⟨some 31,.call ⟨.value (.func 125),#[.tmp 29,.tmp 30],#[3,3]⟩,none⟩,⟨some 3,.assign (.tmp 31),none⟩]
def c82_r4:List SOp:=[⟨some 10,.move (.tmp 4),none⟩,⟨some 11,.binOp .add 3 (.tmp 10) (.const (.int .i64 2)) 3,none⟩,⟨some 4,.assign (.tmp 11),none⟩]
def c82_l3:SC:=(.seq (.seq (.reg c82_r3 none (some [0,3,4,9])) (.cond (.tmp 9) .skip (.exit 0) (some [0,3,4]))) (.seq (.block 1 (.seq (.reg c82_r5 none (some [0,3,4,5])) (.seq (.seq (.reg c82_r6 none (some [0,3,4,5,21])) (.cond (.tmp 21) (.reg c82_r7 none (some [0,3,4,5])) .skip (some [0,3,4,5]))) (.reg c82_r8 none (some [0,3,4]))))) (.reg c82_r4 none (some [0,3,4]))))
def c82_r9:List SOp:=[⟨some 32,.move (.tmp 3),none⟩,⟨some 33,.binOp .sub 3 (.const (.int .i64 65535)) (.tmp 32) 3,none⟩,⟨some 2,.assign (.tmp 33),none⟩]
def c82:SC:=(.seq (.reg c82_r0 none (some [0])) (.seq (.reg c82_r1 none (some [0,3])) (.seq (.seq (.reg c82_r2 none (some [0,3,4])) (.block 0 (.loop c82_l3 (some [0,3,4])))) (.seq (.reg c82_r9 none (some [2])) .ret))))
theorem c82_eq : ∃ code, Tryz.f82.body = some code ∧ compile H82 code = c82 :=⟨_,rfl,by kernel_rfl⟩
theorem c82_fn : Tryz.prog.funcs[82]? = some Tryz.f82:=by kernel_rfl
theorem c82_rs : Tryz.f82.results.toList = [.tmp 2]:=by kernel_rfl
theorem c82_ok : fnB Tryz.prog H82 Tryz.f82 = true:=by kernel_rfl
theorem c82_nt : Tryz.f82.ntmps = 34:=by kernel_rfl
def H83:Hint:=⟨[(1,[2]),(0,[1])],[]⟩
def c83_r0:List SOp:=[⟨some 1,.box 63 (.tmp 0),none⟩,⟨some 2,.assign (.const (.bool false)),none⟩]
def c83_r1:List SOp:=[⟨some 3,.fieldAddr 63 (.tmp 1) 0,none⟩,⟨some 4,.load 3 (.tmp 3),none⟩,⟨some 5,.binOp .geq 3 (.tmp 4) (.const (.int .i64 0)) 3,none⟩,⟨some 6,.move (.tmp 5),none⟩,⟨some 7,.fieldAddr 63 (.tmp 1) 0,some (some 6,true)⟩,⟨some 8,.load 3 (.tmp 7),some (some 6,true)⟩,⟨some 9,.binOp .leq 3 (.tmp 8) (.const (.int .i64 255)) 3,some (some 6,true)⟩,⟨some 10,.pick (.tmp 6) (.tmp 9) (.const (.bool false)),none⟩,⟨some 11,.move (.tmp 10),none⟩,⟨some 12,.fieldAddr 63 (.tmp 1) 5,some (some 11,true)⟩,⟨some 13,.load 3 (.tmp 12),some (some 11,true)⟩,⟨some 14,.binOp .geq 3 (.tmp 13) (.const (.int .i64 0)) 3,some (some 11,true)⟩,⟨some 15,.pick (.tmp 11) (.tmp 14) (.const (.bool false)),none⟩,⟨some 16,.move (.tmp 15),none⟩,⟨some 17,.fieldAddr 63 (.tmp 1) 5,some (some 16,true)⟩,⟨some 18,.load 3 (.tmp 17),some (some 16,true)⟩,⟨some 19,.binOp .leq 3 (.tmp 18) (.const (.int .i64 255)) 3,some (some 16,true)⟩,⟨some 20,.pick (.tmp 16) (.tmp 19) (.const (.bool false)),none⟩,⟨some 21,.move (.tmp 20),none⟩,⟨some 22,.fieldAddr 63 (.tmp 1) 6,some (some 21,true)⟩,⟨some 23,.load 3 (.tmp 22),some (some 21,true)⟩,⟨some 24,.binOp .geq 3 (.tmp 23) (.const (.int .i64 0)) 3,some (some 21,true)⟩,⟨some 25,.pick (.tmp 21) (.tmp 24) (.const (.bool false)),none⟩,⟨some 26,.move (.tmp 25),none⟩,⟨some 27,.fieldAddr 63 (.tmp 1) 6,some (some 26,true)⟩,⟨some 28,.load 3 (.tmp 27),some (some 26,true)⟩,⟨some 29,.binOp .leq 3 (.tmp 28) (.const (.int .i64 255)) 3,some (some 26,true)⟩,⟨some 30,.pick (.tmp 26) (.tmp 29) (.const (.bool false)),none⟩,⟨some 31,.move (.tmp 30),none⟩,⟨some 32,.fieldAddr 63 (.tmp 1) 1,some (some 31,true)⟩,⟨some 33,.load 3 (.tmp 32),some (some 31,true)⟩,⟨some 34,.binOp .geq 3 (.tmp 33) (.const (.int .i64 0)) 3,some (some 31,true)⟩,⟨some 35,.pick (.tmp 31) (.tmp 34) (.const (.bool false)),none⟩,⟨some 36,.move (.tmp 35),none⟩,⟨some 37,.fieldAddr 63 (.tmp 1) 1,some (some 36,true)⟩,⟨some 38,.load 3 (.tmp 37),some (some 36,true)⟩,⟨some 39,.binOp .leq 3 (.tmp 38) (.const (.int .i64 65535)) 3,some (some 36,true)⟩,⟨some 40,.pick (.tmp 36) (.tmp 39) (.const (.bool false)),none⟩,⟨some 41,.move (.tmp 40),none⟩,⟨some 42,.fieldAddr 63 (.tmp 1) 4,some (some 41,true)⟩,⟨some 43,.load 3 (.tmp 42),some (some 41,true)⟩,⟨some 44,.binOp .geq 3 (.tmp 43) (.const (.int .i64 0)) 3,some (some 41,true)⟩,⟨some 45,.pick (.tmp 41) (.tmp 44) (.const (.bool false)),none⟩,⟨some 46,.move (.tmp 45),none⟩,⟨some 47,.fieldAddr 63 (.tmp 1) 4,some (some 46,true)⟩,⟨some 48,.load 3 (.tmp 47),some (some 46,true)⟩,⟨some 49,.binOp .leq 3 (.tmp 48) (.const (.int .i64 65528)) 3,some (some 46,true)⟩,⟨some 50,.pick (.tmp 46) (.tmp 49) (.const (.bool false)),none⟩,⟨some 51,.move (.tmp 50),none⟩,⟨some 52,.fieldAddr 63 (.tmp 1) 4,some (some 51,true)⟩,⟨some 53,.load 3 (.tmp 52),some (some 51,true)⟩,⟨some 54,.binOp .rem 3 (.tmp 53) (.const (.int .i64 8)) 3,some (some 51,true)⟩,⟨some 55,.binOp .eql 3 (.tmp 54) (.const (.int .i64 0)) 3,some (some 51,true)⟩,⟨some 56,.pick (.tmp 51) (.tmp 55) (.const (.bool false)),none⟩,⟨some 57,.move (.tmp 56),none⟩,⟨some 58,.fieldAddr 63 (.tmp 1) 9,some (some 57,true)⟩,⟨some 59,.load 9 (.tmp 58),some (some 57,true)⟩,⟨some 60,.call ⟨.builtin .len, #[.tmp 59],#[9]⟩,some (some 57,true)⟩,⟨some 61,.binOp .leq 3 (.tmp 60) (.const (.int .i64 40)) 3,some (some 57,true)⟩,⟨some 62,.pick (.tmp 57) (.tmp 61) (.const (.bool false)),none⟩,⟨some 63,.move (.tmp 62),none⟩,⟨some 64,.fieldAddr 63 (.tmp 1) 9,some (some 63,true)⟩,⟨some 65,.load 9 (.tmp 64),some (some 63,true)⟩,⟨some 66,.call ⟨.builtin .len, #[.tmp 65],#[9]⟩,some (some 63,true)⟩,⟨some 67,.binOp .rem 3 (.tmp 66) (.const (.int .i64 4)) 3,some (some 63,true)⟩,⟨some 68,.binOp .eql 3 (.tmp 67) (.const (.int .i64 0)) 3,some (some 63,true)⟩,⟨some 69,.pick (.tmp 63) (.tmp 68) (.const (.bool false)),none⟩,⟨some 2,.assign (.tmp 69),none⟩]
def c83:SC:=(.seq (.reg c83_r0 none (some [1])) (.seq (.reg c83_r1 none (some [2])) .ret))
theorem c83_eq : ∃ code, Tryz.f83.body = some code ∧ compile H83 code = c83 :=⟨_,rfl,by kernel_rfl⟩
theorem c83_fn : Tryz.prog.funcs[83]? = some Tryz.f83:=by kernel_rfl
theorem c83_rs : Tryz.f83.results.toList = [.tmp 2]:=by kernel_rfl
theorem c83_ok : fnB Tryz.prog H83 Tryz.f83 = true:=by kernel_rfl
theorem c83_nt : Tryz.f83.ntmps = 70:=by kernel_rfl
def H84:Hint:=⟨[(6,[2]),(4,[1,3,4]),(5,[1,3,4]),(2000006,[1,3,4]),(3,[1,3,4,6]),(1000003,[1,3,4]),(2,[1,3,4]),(1,[1,3]),(0,[1])],[]⟩
def c84_r0:List SOp:=[⟨some 1,.box 58 (.tmp 0),none⟩,⟨some 2,.assign (.const (.string ⟨#[]⟩)),none⟩]
def c84_r1:List SOp:=[⟨some 3,.assign (.const (.slice none 0 0)),none⟩]
def c84_r2:List SOp:=[⟨some 4,.assign (.const (.int .i64 0)),none⟩]
def c84_r3:List SOp:=[⟨some 5,.move (.tmp 4),none⟩,⟨some 6,.binOp .lss 3 (.tmp 5) (.const (.int .i64 6)) 3,none⟩]
def c84_r5:List SOp:=[⟨some 9,.move (.tmp 3),none⟩,⟨some 10,.move (.tmp 4),none⟩,⟨some 11,.indexAddr 58 (.tmp 1) (.tmp 10),none⟩,⟨some 12,.load 5 (.tmp 11),none⟩,⟨some 13,.buildSlice 54 1 #[(0, (.tmp 12))],none⟩,⟨some 14,.call ⟨.builtin .append, #[.tmp 9,.tmp 13],#[54,54]⟩,none⟩,⟨some 3,.assign (.tmp 14),none⟩]
def c84_r4:List SOp:=[⟨some 7,.move (.tmp 4),none⟩,⟨some 8,.binOp .add 3 (.tmp 7) (.const (.int .i64 1)) 3,none⟩,⟨some 4,.assign (.tmp 8),none⟩]
def c84_l3:SC:=(.seq (.seq (.reg c84_r3 none (some [1,3,4,6])) (.cond (.tmp 6) .skip (.exit 0) (some [1,3,4]))) (.seq (.block 1 (.reg c84_r5 none (some [1,3,4]))) (.reg c84_r4 none (some [1,3,4]))))
def c84_r6:List SOp:=[⟨some 15,.move (.tmp 3),none⟩,⟨some 16,.convert 54 9 (.tmp 15),none⟩,⟨some 2,.assign (.tmp 16),none⟩]
def c84:SC:=(.seq (.reg c84_r0 none (some [1])) (.seq (.reg c84_r1 none (some [1,3])) (.seq (.seq (.reg c84_r2 none (some [1,3,4])) (.block 0 (.loop c84_l3 (some [1,3,4])))) (.seq (.reg c84_r6 none (some [2])) .ret))))
theorem c84_eq : ∃ code, Tryz.f84.body = some code ∧ compile H84 code = c84 :=⟨_,rfl,by kernel_rfl⟩
theorem c84_fn : Tryz.prog.funcs[84]? = some Tryz.f84:=by kernel_rfl
theorem c84_rs : Tryz.f84.results.toList = [.tmp 2]:=by kernel_rfl
theorem c84_ok : fnB Tryz.prog H84 Tryz.f84 = true:=by kernel_rfl
theorem c84_nt : Tryz.f84.ntmps = 17:=by kernel_rfl
def H85:Hint:=⟨[(2,[2]),(1,[]),(0,[0])],[]⟩
def c85_r0:List SOp:=[⟨some 2,.assign (.const (.bool false)),none⟩]
def c85_r1:List SOp:=[⟨some 3,.move (.tmp 0),none⟩,⟨some 4,.nilCheck (.tmp 3),none⟩,⟨some 5,.load 3 (.tmp 4),none⟩,⟨some 6,.binOp .add 3 (.tmp 5) (.const (.int .i64 1)) 3,none⟩,⟨some 7,.nilCheck (.tmp 3),none⟩,⟨none,.store 3 (.tmp 7) (.tmp 6),none⟩]
def c85_r2:List SOp:=[⟨some 2,.assign (.const (.bool false)),none⟩]
def c85:SC:=(.seq (.reg c85_r0 none (some [0])) (.seq (.reg c85_r1 none (some [])) (.seq (.reg c85_r2 none (some [2])) .ret)))
theorem c85_eq : ∃ code, Tryz.f85.body = some code ∧ compile H85 code = c85 :=⟨_,rfl,by kernel_rfl⟩
theorem c85_fn : Tryz.prog.funcs[85]? = some Tryz.f85:=by kernel_rfl
theorem c85_rs : Tryz.f85.results.toList = [.tmp 2]:=by kernel_rfl
theorem c85_ok : fnB Tryz.prog H85 Tryz.f85 = true:=by kernel_rfl
theorem c85_nt : Tryz.f85.ntmps = 8:=by kernel_rfl
def H86:Hint:=⟨[(2,[6]),(1,[0]),(0,[0,1,2])],[]⟩
def c86_r0:List SOp:=[⟨some 6,.assign (.const (.bool false)),none⟩]
def c86_r1:List SOp:=[⟨some 7,.move (.tmp 1),none⟩,⟨some 8,.move (.tmp 1),none⟩,⟨some 9,.nilCheck (.tmp 8),none⟩,⟨some 10,.fieldAddr 130 (.tmp 9) 0,none⟩,⟨some 11,.load 3 (.tmp 10),none⟩,⟨some 12,.binOp .sub 3 (.const (.int .i64 1)) (.tmp 11) 3,none⟩,⟨some 13,.move (.tmp 2),none⟩,⟨some 14,.call ⟨.value (.func 100),#[.tmp 7,.tmp 12,.tmp 13],#[127,3,9]⟩,none⟩]
def c86_r2:List SOp:=[⟨some 15,.move (.tmp 0),none⟩,⟨some 16,.nilCheck (.tmp 15),none⟩,⟨some 17,.fieldAddr 94 (.tmp 16) 7,none⟩,⟨some 18,.fieldAddr 35 (.tmp 17) 1,none⟩,⟨some 19,.call ⟨.value (.func 85),#[.tmp 18],#[170]⟩,none⟩,⟨some 6,.assign (.tmp 19),none⟩]
def c86:SC:=(.seq (.reg c86_r0 none (some [0,1,2])) (.seq (.reg c86_r1 none (some [0])) (.seq (.reg c86_r2 none (some [6])) .ret)))
theorem c86_eq : ∃ code, Tryz.f86.body = some code ∧ compile H86 code = c86 :=⟨_,rfl,by kernel_rfl⟩
theorem c86_fn : Tryz.prog.funcs[86]? = some Tryz.f86:=by kernel_rfl
theorem c86_rs : Tryz.f86.results.toList = [.tmp 6]:=by kernel_rfl
theorem c86_ok : fnB Tryz.prog H86 Tryz.f86 = true:=by kernel_rfl
theorem c86_nt : Tryz.f86.ntmps = 20:=by kernel_rfl
def H90:Hint:=⟨[(4,[6]),(3,[6]),(2000016,[3,7]),(2,[3,7,16]),(1,[3,7,8]),(0,[2,3,4])],[]⟩
def c90_r0:List SOp:=[⟨some 3,.box 60 (.tmp 0),none⟩,⟨some 4,.box 63 (.tmp 1),none⟩,⟨some 6,.assign (.const (.string ⟨#[]⟩)),none⟩]
def c90_r1:List SOp:=[⟨some 10,.load 63 (.tmp 4),none⟩,⟨some 11,.move (.tmp 2),none⟩,⟨some 12,.call ⟨.value (.func 135),#[.tmp 10,.tmp 11],#[63,9]⟩,none⟩,⟨some 9,.move (.tmp 12),none⟩,⟨some 13,.extract (.tmp 9) 0,none⟩,⟨some 14,.extract (.tmp 9) 1,none⟩,⟨some 7,.assign (.tmp 13),none⟩,⟨some 8,.assign (.tmp 14),none⟩]
def c90_r2:List SOp:=[⟨some 15,.move (.tmp 8),none⟩,⟨some 16,.binOp .neq 36 (.tmp 15) (.const (.int .i64 0)) 36,none⟩]
def c90_r3:List SOp:=[⟨some 6,.assign (.const (.string ⟨#[]⟩)),none⟩]
def c90_r4:List SOp:=[⟨some 17,.load 60 (.tmp 3),none⟩,⟨some 18,.move (.tmp 7),none⟩,⟨some 19,.call ⟨.value (.func 136),#[.tmp 17,.tmp 18],#[60,9]⟩,none⟩,⟨some 6,.assign (.tmp 19),none⟩]
def c90:SC:=(.seq (.reg c90_r0 none (some [2,3,4])) (.seq (.reg c90_r1 none (some [3,7,8])) (.seq (.seq (.reg c90_r2 none (some [3,7,16])) (.cond (.tmp 16) (.seq (.reg c90_r3 none (some [6])) .ret) .skip (some [3,7]))) (.seq (.reg c90_r4 none (some [6])) .ret))))
theorem c90_eq : ∃ code, Tryz.f90.body = some code ∧ compile H90 code = c90 :=⟨_,rfl,by kernel_rfl⟩
theorem c90_fn : Tryz.prog.funcs[90]? = some Tryz.f90:=by kernel_rfl
theorem c90_rs : Tryz.f90.results.toList = [.tmp 6]:=by kernel_rfl
theorem c90_ok : fnB Tryz.prog H90 Tryz.f90 = true:=by kernel_rfl
theorem c90_nt : Tryz.f90.ntmps = 20:=by kernel_rfl
def H91:Hint:=⟨[(1,[4]),(0,[0,3])],[(1,[(3,5)])]⟩
def c91_r0:List SOp:=[⟨some 3,.box 43 (.tmp 1),none⟩,⟨some 4,.assign (.const (.bool false)),none⟩]
def c91_r1:List SOp:=[⟨some 5,.move (.tmp 0),none⟩,⟨some 6,.nilCheck (.tmp 5),none⟩,⟨some 7,.fieldAddr 124 (.tmp 6) 2,none⟩,⟨some 8,.load 122 (.tmp 7),none⟩,⟨some 9,.load 43 (.tmp 3),none⟩,⟨some 10,.call ⟨.value (.func 138),#[.tmp 9],#[43]⟩,none⟩,⟨some 11,.call ⟨.value (.func 137),#[.tmp 8,.tmp 10],#[122,121]⟩,none⟩,⟨some 4,.assign (.tmp 11),none⟩]
def c91:SC:=(.seq (.reg c91_r0 none (some [0,3])) (.seq (.reg c91_r1 (some [(3, 5)]) (some [4])) .ret))
theorem c91_eq : ∃ code, Tryz.f91.body = some code ∧ compile H91 code = c91 :=⟨_,rfl,by kernel_rfl⟩
theorem c91_fn : Tryz.prog.funcs[91]? = some Tryz.f91:=by kernel_rfl
theorem c91_rs : Tryz.f91.results.toList = [.tmp 4]:=by kernel_rfl
theorem c91_ok : fnB Tryz.prog H91 Tryz.f91 = true:=by kernel_rfl
theorem c91_nt : Tryz.f91.ntmps = 12:=by kernel_rfl
def H92:Hint:=⟨[(7,[4,5,6]),(6,[5,7]),(5,[3,7]),(4,[0,3,7]),(3,[4,5,6]),(2000012,[0,3,7]),(2,[0,3,7,12]),(1,[0,3,7]),(0,[0,3])],[]⟩
def c92_r0:List SOp:=[⟨some 3,.box 43 (.tmp 1),none⟩,⟨some 4,.assign (.const (.int .i64 0)),none⟩,⟨some 5,.assign (.const (.int .i64 0)),none⟩,⟨some 6,.assign (.const (.bool false)),none⟩]
def c92_r1:List SOp:=[⟨some 8,.move (.tmp 0),none⟩,⟨some 9,.load 43 (.tmp 3),none⟩,⟨some 10,.call ⟨.value (.func 139),#[.tmp 8,.tmp 9],#[87,43]⟩,none⟩,⟨some 7,.assign (.tmp 10),none⟩]
def c92_r2:List SOp:=[⟨some 11,.move (.tmp 7),none⟩,⟨some 12,.binOp .eql 115 (.tmp 11) (.const (.pointer none)) 115,none⟩]
def c92_r3:List SOp:=[⟨some 4,.assign (.const (.int .i64 0)),none⟩,⟨some 5,.assign (.const (.int .i64 0)),none⟩,⟨some 6,.assign (.const (.bool false)),none⟩]
def c92_r4:List SOp:=[⟨some 13,.move (.tmp 7),none⟩,⟨some 14,.call ⟨.value (.func 140),#[.tmp 13],#[115]⟩,none⟩]
def c92_r5:List SOp:=[⟨some 15,.move (.tmp 0),none⟩,⟨some 16,.move (.tmp 7),none⟩,⟨some 17,.call ⟨.value (.func 141),#[.tmp 15,.tmp 16],#[87,115]⟩,none⟩]
def c92_r6:List SOp:=[⟨some 19,.load 43 (.tmp 3),none⟩,⟨some 20,.move (.tmp 7),none⟩,⟨some 21,.nilCheck (.tmp 20),none⟩,⟨some 22,.fieldAddr 117 (.tmp 21) 0,none⟩,⟨some 23,.load 43 (.tmp 22),none⟩,⟨some 24,.call ⟨.value (.func 142),#[.tmp 19,.tmp 23],#[43,43]⟩,none⟩,⟨some 18,.move (.tmp 24),none⟩,⟨some 25,.extract (.tmp 18) 0,none⟩,⟨some 26,.extract (.tmp 18) 1,none⟩,⟨some 5,.assign (.tmp 25),none⟩]
def c92_r7:List SOp:=[⟨some 27,.move (.tmp 7),none⟩,⟨some 28,.nilCheck (.tmp 27),none⟩,⟨some 29,.fieldAddr 117 (.tmp 28) 1,none⟩,⟨some 30,.load 3 (.tmp 29),none⟩,⟨some 31,.move (.tmp 5),none⟩,⟨some 4,.assign (.tmp 30),none⟩,⟨some 5,.assign (.tmp 31),none⟩,⟨some 6,.assign (.const (.bool true)),none⟩]
def c92:SC:=(.seq (.reg c92_r0 none (some [0,3])) (.seq (.reg c92_r1 none (some [0,3,7])) (.seq (.seq (.reg c92_r2 none (some [0,3,7,12])) (.cond (.tmp 12) (.seq (.reg c92_r3 none (some [4,5,6])) .ret) .skip (some [0,3,7]))) (.seq (.reg c92_r4 none (some [0,3,7])) (.seq (.reg c92_r5 none (some [3,7])) (.seq (.reg c92_r6 none (some [5,7])) (.seq (.reg c92_r7 none (some [4,5,6])) .ret)))))))
theorem c92_eq : ∃ code, Tryz.f92.body = some code ∧ compile H92 code = c92 :=⟨_,rfl,by kernel_rfl⟩
theorem c92_fn : Tryz.prog.funcs[92]? = some Tryz.f92:=by kernel_rfl
theorem c92_rs : Tryz.f92.results.toList = [.tmp 4, .tmp 5, .tmp 6]:=by kernel_rfl
theorem c92_ok : fnB Tryz.prog H92 Tryz.f92 = true:=by kernel_rfl
theorem c92_nt : Tryz.f92.ntmps = 32:=by kernel_rfl
def H93:Hint:=⟨[(12,[4,5]),(11,[5,10]),(10,[0,5,10]),(9,[0,3,5,10]),(8,[0,3,5]),(7,[0,3,5]),(6,[0,3,5,9]),(5,[0,3,9]),(2000029,[0,3,5]),(4,[0,3,5,29]),(3,[4,5]),(2000018,[0,3,5]),(2,[0,3,5,6,18]),(1,[0,3,5,6,8]),(0,[0,3,5])],[]⟩
def c93_r0:List SOp:=[⟨some 3,.box 43 (.tmp 1),none⟩,⟨some 4,.assign (.const (.int .i64 0)),none⟩,⟨some 5,.assign (.const (.int .i64 0)),none⟩]
def c93_r1:List SOp:=[⟨some 12,.move (.tmp 0),none⟩,⟨some 13,.load 43 (.tmp 3),none⟩,⟨some 14,.call ⟨.value (.func 92),#[.tmp 12,.tmp 13],#[87,43]⟩,none⟩,⟨some 11,.move (.tmp 14),none⟩,⟨some 15,.extract (.tmp 11) 0,none⟩,⟨some 16,.extract (.tmp 11) 1,none⟩,⟨some 17,.extract (.tmp 11) 2,none⟩,⟨some 6,.assign (.tmp 15),none⟩,⟨some 7,.assign (.tmp 16),none⟩,⟨some 8,.assign (.tmp 17),none⟩]
def c93_r2:List SOp:=[⟨some 18,.move (.tmp 8),none⟩]
def c93_r3:List SOp:=[⟨some 19,.move (.tmp 6),none⟩,⟨some 4,.assign (.tmp 19),none⟩,⟨some 5,.assign (.const (.int .i64 0)),none⟩]
def c93_r4:List SOp:=[⟨some 20,.move (.tmp 0),none⟩,⟨some 21,.nilCheck (.tmp 20),none⟩,⟨some 22,.fieldAddr 120 (.tmp 21) 5,none⟩,⟨some 23,.load 118 (.tmp 22),none⟩,⟨some 24,.call ⟨.builtin .len, #[.tmp 23],#[118]⟩,none⟩,⟨some 25,.move (.tmp 0),none⟩,⟨some 26,.nilCheck (.tmp 25),none⟩,⟨some 27,.fieldAddr 120 (.tmp 26) 0,none⟩,⟨some 28,.load 3 (.tmp 27),none⟩,⟨some 29,.binOp .geq 3 (.tmp 24) (.tmp 28) 3,none⟩]
def c93_r5:List SOp:=[⟨some 30,.move (.tmp 0),none⟩,⟨some 31,.nilCheck (.tmp 30),none⟩,⟨some 32,.fieldAddr 120 (.tmp 31) 4,none⟩,⟨some 33,.load 115 (.tmp 32),none⟩,⟨some 34,.nilCheck (.tmp 33),none⟩,⟨some 35,.fieldAddr 117 (.tmp 34) 4,none⟩,⟨some 36,.load 115 (.tmp 35),none⟩,⟨some 9,.assign (.tmp 36),none⟩]
def c93_r6:List SOp:=[⟨some 37,.move (.tmp 9),none⟩,⟨some 38,.nilCheck (.tmp 37),none⟩,⟨some 39,.fieldAddr 117 (.tmp 38) 1,none⟩,⟨some 40,.load 3 (.tmp 39),none⟩,⟨some 5,.assign (.tmp 40),none⟩]
def c93_r7:List SOp:=[⟨some 41,.move (.tmp 0),none⟩,⟨some 42,.move (.tmp 9),none⟩,⟨some 43,.call ⟨.value (.func 143),#[.tmp 41,.tmp 42],#[87,115]⟩,none⟩]
def c93_r8:List SOp:=[⟨some 44,.move (.tmp 0),none⟩,⟨some 45,.nilCheck (.tmp 44),none⟩,⟨some 46,.fieldAddr 120 (.tmp 45) 3,none⟩,⟨some 47,.load 3 (.tmp 46),none⟩,⟨some 48,.binOp .add 3 (.tmp 47) (.const (.int .i64 1)) 3,none⟩,⟨some 49,.nilCheck (.tmp 44),none⟩,⟨some 50,.fieldAddr 120 (.tmp 49) 3,none⟩,⟨none,.store 3 (.tmp 50) (.tmp 48),none⟩]
def c93_r9:List SOp:=[⟨some 51,.load 43 (.tmp 3),none⟩,⟨some 52,.move (.tmp 0),none⟩,⟨some 53,.nilCheck (.tmp 52),none⟩,⟨some 54,.fieldAddr 120 (.tmp 53) 3,none⟩,⟨some 55,.load 3 (.tmp 54),none⟩,⟨some 56,.build 117 #[(0, (.tmp 51)), (1, (.tmp 55))],none⟩,⟨some 57,.box 117 (.tmp 56),none⟩,⟨some 10,.assign (.tmp 57),none⟩]
def c93_r10:List SOp:=[⟨some 58,.move (.tmp 0),none⟩,⟨some 59,.nilCheck (.tmp 58),none⟩,⟨some 60,.fieldAddr 120 (.tmp 59) 5,none⟩,⟨some 61,.load 118 (.tmp 60),none⟩,⟨some 62,.load 43 (.tmp 3),none⟩,⟨some 63,.move (.tmp 10),none⟩,⟨none,.mapUpdate 118 (.tmp 61) (.tmp 62) (.tmp 63),none⟩]
def c93_r11:List SOp:=[⟨some 64,.move (.tmp 0),none⟩,⟨some 65,.move (.tmp 10),none⟩,⟨some 66,.call ⟨.value (.func 141),#[.tmp 64,.tmp 65],#[87,115]⟩,none⟩]
def c93_r12:List SOp:=[⟨some 67,.move (.tmp 10),none⟩,⟨some 68,.nilCheck (.tmp 67),none⟩,⟨some 69,.fieldAddr 117 (.tmp 68) 1,none⟩,⟨some 70,.load 3 (.tmp 69),none⟩,⟨some 71,.move (.tmp 5),none⟩,⟨some 4,.assign (.tmp 70),none⟩,⟨some 5,.assign (.tmp 71),none⟩]
def c93:SC:=(.seq (.reg c93_r0 none (some [0,3,5])) (.seq (.seq (.reg c93_r1 none (some [0,3,5,6,8])) (.seq (.reg c93_r2 none (some [0,3,5,6,18])) (.cond (.tmp 18) (.seq (.reg c93_r3 none (some [4,5])) .ret) .skip (some [0,3,5])))) (.seq (.seq (.reg c93_r4 none (some [0,3,5,29])) (.cond (.tmp 29) (.seq (.reg c93_r5 none (some [0,3,9])) (.seq (.reg c93_r6 none (some [0,3,5,9])) (.reg c93_r7 none (some [0,3,5])))) .skip (some [0,3,5]))) (.seq (.reg c93_r8 none (some [0,3,5])) (.seq (.reg c93_r9 none (some [0,3,5,10])) (.seq (.reg c93_r10 none (some [0,5,10])) (.seq (.reg c93_r11 none (some [5,10])) (.seq (.reg c93_r12 none (some [4,5])) .ret))))))))
theorem c93_eq : ∃ code, Tryz.f93.body = some code ∧ compile H93 code = c93 :=⟨_,rfl,by kernel_rfl⟩
theorem c93_fn : Tryz.prog.funcs[93]? = some Tryz.f93:=by kernel_rfl
theorem c93_rs : Tryz.f93.results.toList = [.tmp 4, .tmp 5]:=by kernel_rfl
theorem c93_ok : fnB Tryz.prog H93 Tryz.f93 = true:=by kernel_rfl
theorem c93_nt : Tryz.f93.ntmps = 72:=by kernel_rfl
def H94:Hint:=⟨[(8,[6]),(7,[2,4,7,10,11,12]),(6,[2,4,7,10,11,12]),(2000020,[2,4,7,10,11,12]),(5,[2,4,7,8,10,11,12,20]),(4,[2,4,7,8,9,10,11,12]),(2000013,[2,4,7,10,11,12]),(3,[2,4,7,10,11,12,13]),(1000003,[2,4,7,10,11,12]),(2,[2,4,7,10,11,12]),(1,[0,2,4,7]),(0,[0,2,4])],[]⟩
def c94_r0:List SOp:=[⟨some 4,.box 43 (.tmp 1),none⟩,⟨some 6,.assign (.const (.slice none 0 0)),none⟩]
def c94_r1:List SOp:=[⟨some 7,.assign (.const (.slice none 0 0)),none⟩]
def c94_r2:List SOp:=[⟨some 10,.move (.tmp 0),none⟩,⟨some 11,.call ⟨.builtin .len, #[.tmp 10],#[92]⟩,none⟩,⟨some 12,.move (.const (.int .i64 0)),none⟩]
def c94_r3:List SOp:=[⟨some 13,.binOp .lss 3 (.tmp 12) (.tmp 11) 3,none⟩]
def c94_r4:List SOp:=[⟨some 14,.move (.tmp 12),none⟩,⟨some 15,.indexAddr 92 (.tmp 10) (.tmp 12),none⟩,⟨some 16,.load 147 (.tmp 15),none⟩,⟨some 9,.alloc 147,none⟩,⟨some 8,.assign (.tmp 14),none⟩,⟨none,.store 147 (.tmp 9) (.tmp 16),none⟩]
def c94_r5:List SOp:=[⟨some 17,.load 147 (.tmp 9),none⟩,⟨some 18,.load 43 (.tmp 4),none⟩,⟨some 19,.move (.tmp 2),none⟩,⟨some 20,.call ⟨.value (.func 144),#[.tmp 17,.tmp 18,.tmp 19],#[147,43,3]⟩,none⟩]
def c94_r6:List SOp:=[⟨some 21,.move (.tmp 7),none⟩,⟨some 22,.move (.tmp 8),none⟩,⟨some 23,.buildSlice 22 1 #[(0, (.tmp 22))],none⟩,⟨some 24,.call ⟨.builtin .append, #[.tmp 21,.tmp 23],#[22,22]⟩,none⟩,⟨some 7,.assign (.tmp 24),none⟩]
def c94_r7:List SOp:=[⟨some 25,.binOp .add 3 (.tmp 12) (.const (.int .i64 1)) 3,none⟩,⟨some 12,.move (.tmp 25),none⟩]
def c94_l3:SC:=(.seq (.reg c94_r3 none (some [2,4,7,10,11,12,13])) (.seq (.cond (.tmp 13) .skip (.exit 0) (some [2,4,7,10,11,12])) (.seq (.block 1 (.seq (.reg c94_r4 none (some [2,4,7,8,9,10,11,12])) (.seq (.reg c94_r5 none (some [2,4,7,8,10,11,12,20])) (.cond (.tmp 20) (.reg c94_r6 none (some [2,4,7,10,11,12])) .skip (some [2,4,7,10,11,12]))))) (.reg c94_r7 none (some [2,4,7,10,11,12])))))
def c94_r8:List SOp:=[⟨some 26,.move (.tmp 7),none⟩,⟨some 6,.assign (.tmp 26),none⟩]
def c94:SC:=(.seq (.reg c94_r0 none (some [0,2,4])) (.seq (.reg c94_r1 none (some [0,2,4,7])) (.seq (.seq (.reg c94_r2 none (some [2,4,7,10,11,12])) (.block 0 (.loop c94_l3 (some [2,4,7,10,11,12])))) (.seq (.reg c94_r8 none (some [6])) .ret))))
theorem c94_eq : ∃ code, Tryz.f94.body = some code ∧ compile H94 code = c94 :=⟨_,rfl,by kernel_rfl⟩
theorem c94_fn : Tryz.prog.funcs[94]? = some Tryz.f94:=by kernel_rfl
theorem c94_rs : Tryz.f94.results.toList = [.tmp 6]:=by kernel_rfl
theorem c94_ok : fnB Tryz.prog H94 Tryz.f94 = true:=by kernel_rfl
theorem c94_nt : Tryz.f94.ntmps = 27:=by kernel_rfl
def H95:Hint:=⟨[(21,[6]),(20,[7]),(19,[7,8,10,17]),(18,[0,2,7,8,9,10,21,22,23]),(17,[0,2,7,8,9,10,13,21,22,23,69,70,71]),(16,[0,2,7,8,9,10,13,21,22,23,69,70,71]),(15,[0,2,7,8,9,10,13,15,21,22,23,69,70,71]),(2000084,[0,2,7,8,9,10,13,14,15,21,22,23,69,70,71]),(14,[0,2,7,8,9,10,13,14,15,21,22,23,69,70,71,84]),(13,[0,2,7,8,9,10,13,14,15,16,21,22,23,69,70,71]),(12,[0,2,7,8,9,10,13,14,15,21,22,23,69,70,71]),(2000072,[0,2,7,8,9,10,13,21,22,23,69,70,71]),(11,[0,2,7,8,9,10,13,21,22,23,69,70,71,72]),(1000011,[0,2,7,8,9,10,13,21,22,23,69,70,71]),(10,[0,2,7,8,9,10,13,21,22,23,69,70,71]),(9,[0,2,7,8,9,10,12,13,21,22,23]),(8,[0,2,7,8,9,10,12,13,21,22,23]),(2000034,[0,2,7,8,9,10,12,21,22,23]),(7,[0,2,7,8,9,10,12,21,22,23,34]),(6,[0,2,7,8,9,10,12,21,22,23]),(2000024,[0,2,7,8,9,10,21,22,23]),(5,[0,2,7,8,9,10,21,22,23,24]),(1000005,[0,2,7,8,9,10,21,22,23]),(4,[0,2,7,8,9,10,21,22,23]),(3,[0,1,2,7,8,9,10]),(2,[0,1,2,7,8,9]),(1,[0,1,2,7]),(0,[0,1,2])],[(8,[(3,10),(15,10),(16,10)]),(16,[(7,3),(7,4),(13,3),(13,4),(13,8),(13,9),(13,10)])]⟩
def c95_r0:List SOp:=[⟨some 6,.assign (.const (.pointer none)),none⟩]
def c95_r1:List SOp:=[⟨some 19,.build 249 #[],none⟩,⟨some 20,.box 249 (.tmp 19),none⟩,⟨some 7,.assign (.tmp 20),none⟩]
def c95_r2:List SOp:=[⟨some 8,.assign (.const (.slice none 0 0)),none⟩,⟨some 9,.assign (.const (.slice none 0 0)),none⟩]
def c95_r3:List SOp:=[⟨some 10,.assign (.const (.slice none 0 0)),none⟩]
def c95_r4:List SOp:=[⟨some 21,.move (.tmp 1),none⟩,⟨some 22,.call ⟨.builtin .len, #[.tmp 21],#[22]⟩,none⟩,⟨some 23,.move (.const (.int .i64 0)),none⟩]
def c95_r5:List SOp:=[⟨some 24,.binOp .lss 3 (.tmp 23) (.tmp 22) 3,none⟩]
def c95_r6:List SOp:=[⟨some 25,.indexAddr 22 (.tmp 21) (.tmp 23),none⟩,⟨some 26,.load 3 (.tmp 25),none⟩,⟨some 12,.assign (.tmp 26),none⟩]
def c95_r7:List SOp:=[⟨some 27,.move (.tmp 12),none⟩,⟨some 28,.binOp .lss 3 (.tmp 27) (.const (.int .i64 0)) 3,none⟩,⟨some 29,.move (.tmp 28),none⟩,⟨some 30,.move (.tmp 12),some (some 29,false)⟩,⟨some 31,.move (.tmp 0),some (some 29,false)⟩,⟨some 32,.call ⟨.builtin .len, #[.tmp 31],#[92]⟩,some (some 29,false)⟩,⟨some 33,.binOp .geq 3 (.tmp 30) (.tmp 32) 3,some (some 29,false)⟩,⟨some 34,.pick (.tmp 29) (.const (.bool true)) (.tmp 33),none⟩]
def c95_r8:List SOp:=[⟨some 35,.move (.tmp 0),none⟩,⟨some 36,.move (.tmp 12),none⟩,⟨some 37,.indexAddr 92 (.tmp 35) (.tmp 36),none⟩,⟨some 38,.load 147 (.tmp 37),none⟩,⟨some 39,.move (.tmp 0),none⟩,⟨some 40,.move (.tmp 12),none⟩,⟨some 41,.indexAddr 92 (.tmp 39) (.tmp 40),none⟩,⟨some 42,.fieldAddr 147 (.tmp 41) 8,none⟩,⟨some 43,.load 145 (.tmp 42),none⟩,⟨some 44,.move (.tmp 2),none⟩,⟨some 45,.call ⟨.value (.func 145),#[.tmp 43,.tmp 44],#[145,3]⟩,none⟩,⟨some 46,.move (.tmp 0),none⟩,⟨some 47,.move (.tmp 12),none⟩,⟨some 48,.indexAddr 92 (.tmp 46) (.tmp 47),none⟩,⟨some 49,.fieldAddr 147 (.tmp 48) 8,none⟩,⟨some 50,.load 145 (.tmp 49),none⟩,⟨some 51,.call ⟨.builtin .len, #[.tmp 50],#[145]⟩,none⟩,⟨some 52,.makeSlice 250 (.tmp 51) (.tmp 51),none⟩,⟨some 53,.build 255 #[(0, (.tmp 38)), (1, (.tmp 45)), (2, (.tmp 52))],none⟩,⟨some 54,.box 255 (.tmp 53),none⟩,⟨some 13,.assign (.tmp 54),none⟩]
def c95_r9:List SOp:=[⟨some 55,.move (.tmp 7),none⟩,⟨some 56,.move (.tmp 7),none⟩,⟨some 57,.nilCheck (.tmp 56),none⟩,⟨some 58,.fieldAddr 249 (.tmp 57) 2,none⟩,⟨some 59,.load 247 (.tmp 58),none⟩,⟨some 60,.move (.tmp 13),none⟩,⟨some 61,.buildSlice 247 1 #[(0, (.tmp 60))],none⟩,⟨some 62,.call ⟨.builtin .append, #[.tmp 59,.tmp 61],#[247,247]⟩,none⟩,⟨some 63,.nilCheck (.tmp 55),none⟩,⟨some 64,.fieldAddr 249 (.tmp 63) 2,none⟩,⟨none,.store 247 (.tmp 64) (.tmp 62),none⟩]
def c95_r10:List SOp:=[⟨some 65,.move (.tmp 0),none⟩,⟨some 66,.move (.tmp 12),none⟩,⟨some 67,.indexAddr 92 (.tmp 65) (.tmp 66),none⟩,⟨some 68,.fieldAddr 147 (.tmp 67) 8,none⟩,⟨some 69,.load 145 (.tmp 68),none⟩,⟨some 70,.call ⟨.builtin .len, #[.tmp 69],#[145]⟩,none⟩,⟨some 71,.move (.const (.int .i64 0)),none⟩]
def c95_r11:List SOp:=[⟨some 72,.binOp .lss 3 (.tmp 71) (.tmp 70) 3,none⟩]
def c95_r12:List SOp:=[⟨some 73,.move (.tmp 71),none⟩,⟨some 74,.indexAddr 145 (.tmp 69) (.tmp 71),none⟩,⟨some 75,.load 149 (.tmp 74),none⟩,⟨some 15,.alloc 149,none⟩,⟨some 14,.assign (.tmp 73),none⟩,⟨none,.store 149 (.tmp 15) (.tmp 75),none⟩]
def c95_r13:List SOp:=[⟨some 76,.fieldAddr 149 (.tmp 15) 0,none⟩,⟨some 77,.load 9 (.tmp 76),none⟩,⟨some 78,.call ⟨.builtin .len, #[.tmp 77],#[9]⟩,none⟩,⟨some 16,.assign (.tmp 78),none⟩]
def c95_r14:List SOp:=[⟨some 79,.move (.tmp 16),none⟩,⟨some 80,.binOp .eql 3 (.tmp 79) (.const (.int .i64 0)) 3,none⟩,⟨some 81,.move (.tmp 80),none⟩,⟨some 82,.move (.tmp 16),some (some 81,false)⟩,⟨some 83,.binOp .gtr 3 (.tmp 82) (.const (.int .i64 16)) 3,some (some 81,false)⟩,⟨some 84,.pick (.tmp 81) (.const (.bool true)) (.tmp 83),none⟩]
def c95_r15:List SOp:=[⟨some 85,.move (.tmp 7),none⟩,⟨some 86,.move (.tmp 7),none⟩,⟨some 87,.nilCheck (.tmp 86),none⟩,⟨some 88,.fieldAddr 249 (.tmp 87) 1,none⟩,⟨some 89,.load 246 (.tmp 88),none⟩,⟨some 90,.move (.tmp 13),none⟩,⟨some 91,.move (.tmp 14),none⟩,⟨some 92,.build 257 #[(0, (.tmp 90)), (1, (.tmp 91))],none⟩,⟨some 93,.buildSlice 246 1 #[(0, (.tmp 92))],none⟩,⟨some 94,.call ⟨.builtin .append, #[.tmp 89,.tmp 93],#[246,246]⟩,none⟩,⟨some 95,.nilCheck (.tmp 85),none⟩,⟨some 96,.fieldAddr 249 (.tmp 95) 1,none⟩,⟨none,.store 246 (.tmp 96) (.tmp 94),none⟩]
def c95_r16:List SOp:=[⟨some 97,.move (.tmp 8),none⟩,⟨some 98,.fieldAddr 149 (.tmp 15) 0,none⟩,⟨some 99,.load 9 (.tmp 98),none⟩,⟨some 100,.buildSlice 138 1 #[(0, (.tmp 99))],none⟩,⟨some 101,.call ⟨.builtin .append, #[.tmp 97,.tmp 100],#[138,138]⟩,none⟩,⟨some 102,.move (.tmp 9),none⟩,⟨some 103,.fieldAddr 149 (.tmp 15) 0,none⟩,⟨some 104,.load 9 (.tmp 103),none⟩,⟨some 105,.call ⟨.value (.func 70),#[.tmp 104],#[9]⟩,none⟩,⟨some 106,.buildSlice 138 1 #[(0, (.tmp 105))],none⟩,⟨some 107,.call ⟨.builtin .append, #[.tmp 102,.tmp 106],#[138,138]⟩,none⟩,⟨some 108,.move (.tmp 10),none⟩,⟨some 109,.fieldAddr 149 (.tmp 15) 1,none⟩,⟨some 110,.load 4 (.tmp 109),none⟩,⟨some 111,.buildSlice 250 1 #[(0, (.tmp 110))],none⟩,⟨some 112,.call ⟨.builtin .append, #[.tmp 108,.tmp 111],#[250,250]⟩,none⟩,⟨some 8,.assign (.tmp 101),none⟩,⟨some 9,.assign (.tmp 107),none⟩,⟨some 10,.assign (.tmp 112),none⟩]
def c95_r17:List SOp:=[⟨some 113,.binOp .add 3 (.tmp 71) (.const (.int .i64 1)) 3,none⟩,⟨some 71,.move (.tmp 113),none⟩]
def c95_l11:SC:=(.seq (.reg c95_r11 none (some [0,2,7,8,9,10,13,21,22,23,69,70,71,72])) (.seq (.cond (.tmp 72) .skip (.exit 2) (some [0,2,7,8,9,10,13,21,22,23,69,70,71])) (.seq (.block 3 (.seq (.reg c95_r12 none (some [0,2,7,8,9,10,13,14,15,21,22,23,69,70,71])) (.seq (.seq (.reg c95_r13 none (some [0,2,7,8,9,10,13,14,15,16,21,22,23,69,70,71])) (.seq (.reg c95_r14 none (some [0,2,7,8,9,10,13,14,15,21,22,23,69,70,71,84])) (.cond (.tmp 84) (.exit 3) .skip (some [0,2,7,8,9,10,13,14,15,21,22,23,69,70,71])))) (.seq (.reg c95_r15 none (some [0,2,7,8,9,10,13,15,21,22,23,69,70,71])) (.reg c95_r16 (some [(7, 3), (7, 4), (13, 3), (13, 4), (13, 8), (13, 9), (13, 10)]) (some [0,2,7,8,9,10,13,21,22,23,69,70,71])))))) (.reg c95_r17 none (some [0,2,7,8,9,10,13,21,22,23,69,70,71])))))
def c95_r18:List SOp:=[⟨some 114,.binOp .add 3 (.tmp 23) (.const (.int .i64 1)) 3,none⟩,⟨some 23,.move (.tmp 114),none⟩]
def c95_l5:SC:=(.seq (.reg c95_r5 none (some [0,2,7,8,9,10,21,22,23,24])) (.seq (.cond (.tmp 24) .skip (.exit 0) (some [0,2,7,8,9,10,21,22,23])) (.seq (.block 1 (.seq (.reg c95_r6 none (some [0,2,7,8,9,10,12,21,22,23])) (.seq (.seq (.reg c95_r7 none (some [0,2,7,8,9,10,12,21,22,23,34])) (.cond (.tmp 34) (.exit 1) .skip (some [0,2,7,8,9,10,12,21,22,23]))) (.seq (.reg c95_r8 (some [(3, 10), (15, 10), (16, 10)]) (some [0,2,7,8,9,10,12,13,21,22,23])) (.seq (.reg c95_r9 none (some [0,2,7,8,9,10,12,13,21,22,23])) (.seq (.reg c95_r10 none (some [0,2,7,8,9,10,13,21,22,23,69,70,71])) (.block 2 (.loop c95_l11 (some [0,2,7,8,9,10,13,21,22,23,69,70,71]))))))))) (.reg c95_r18 none (some [0,2,7,8,9,10,21,22,23])))))
def c95_r19:List SOp:=[⟨some 116,.move (.tmp 9),none⟩,⟨some 117,.call ⟨.value (.func 71),#[(.tmp 116),(.const (.int .i64 4096))],#[138,3]⟩,none⟩,⟨some 115,.move (.tmp 117),none⟩,⟨some 118,.extract (.tmp 115) 0,none⟩,⟨some 119,.extract (.tmp 115) 1,none⟩,⟨some 17,.assign (.tmp 118),none⟩,⟨some 18,.assign (.tmp 119),none⟩]
def c95_r20:List SOp:=[⟨some 120,.move (.tmp 7),none⟩,⟨some 121,.move (.tmp 17),none⟩,⟨some 122,.move (.tmp 8),none⟩,⟨some 123,.move (.tmp 10),none⟩,⟨some 124,.call ⟨.value (.func 146),#[.tmp 121,.tmp 122,.tmp 123],#[151,138,250]⟩,none⟩,⟨some 125,.nilCheck (.tmp 120),none⟩,⟨some 126,.fieldAddr 249 (.tmp 125) 0,none⟩,⟨none,.store 245 (.tmp 126) (.tmp 124),none⟩]
def c95_r21:List SOp:=[⟨some 127,.move (.tmp 7),none⟩,⟨some 6,.assign (.tmp 127),none⟩]
def c95:SC:=(.seq (.reg c95_r0 none (some [0,1,2])) (.seq (.reg c95_r1 none (some [0,1,2,7])) (.seq (.reg c95_r2 none (some [0,1,2,7,8,9])) (.seq (.reg c95_r3 none (some [0,1,2,7,8,9,10])) (.seq (.seq (.reg c95_r4 none (some [0,2,7,8,9,10,21,22,23])) (.block 0 (.loop c95_l5 (some [0,2,7,8,9,10,21,22,23])))) (.seq (.reg c95_r19 none (some [7,8,10,17])) (.seq (.reg c95_r20 none (some [7])) (.seq (.reg c95_r21 none (some [6])) .ret))))))))
theorem c95_eq : ∃ code, Tryz.f95.body = some code ∧ compile H95 code = c95 :=⟨_,rfl,by kernel_rfl⟩
theorem c95_fn : Tryz.prog.funcs[95]? = some Tryz.f95:=by kernel_rfl
theorem c95_rs : Tryz.f95.results.toList = [.tmp 6]:=by kernel_rfl
theorem c95_ok : fnB Tryz.prog H95 Tryz.f95 = true:=by kernel_rfl
theorem c95_nt : Tryz.f95.ntmps = 128:=by kernel_rfl
def H96:Hint:=⟨[(2,[2,3]),(1,[4]),(0,[0])],[]⟩
def c96_r0:List SOp:=[⟨some 2,.assign (.const (.slice none 0 0)),none⟩,⟨some 3,.assign (.const (.int .i64 0)),none⟩]
def c96_r1:List SOp:=[⟨some 5,.move (.tmp 0),none⟩,⟨some 6,.call ⟨.value (.func 147),#[(.tmp 5),(.func 148)],#[187,260]⟩,none⟩,⟨some 4,.assign (.tmp 6),none⟩]
def c96_r2:List SOp:=[⟨some 7,.move (.tmp 4),none⟩,⟨some 8,.move (.tmp 4),none⟩,⟨some 9,.call ⟨.value (.func 150),#[.tmp 8],#[46]⟩,none⟩,⟨some 2,.assign (.tmp 7),none⟩,⟨some 3,.assign (.tmp 9),none⟩]
def c96:SC:=(.seq (.reg c96_r0 none (some [0])) (.seq (.reg c96_r1 none (some [4])) (.seq (.reg c96_r2 none (some [2,3])) .ret)))
theorem c96_eq : ∃ code, Tryz.f96.body = some code ∧ compile H96 code = c96 :=⟨_,rfl,by kernel_rfl⟩
theorem c96_fn : Tryz.prog.funcs[96]? = some Tryz.f96:=by kernel_rfl
theorem c96_rs : Tryz.f96.results.toList = [.tmp 2, .tmp 3]:=by kernel_rfl
theorem c96_ok : fnB Tryz.prog H96 Tryz.f96 = true:=by kernel_rfl
theorem c96_nt : Tryz.f96.ntmps = 10:=by kernel_rfl
def H97:Hint:=⟨[(6,[0,1,8,9,10]),(5,[0,1,8,9,10]),(4,[0,1,8,9,10]),(3,[0,1,7,8,9,10]),(2,[0,1,7,8,9,10]),(2000011,[0,1,8,9,10]),(1,[0,1,8,9,10,11]),(1000001,[0,1,8,9,10]),(0,[0,1,8,9,10])],[]⟩
def c97_r0:List SOp:=[⟨some 8,.move (.tmp 2),none⟩,⟨some 9,.call ⟨.builtin .len, #[.tmp 8],#[46]⟩,none⟩,⟨some 10,.move (.const (.int .i64 0)),none⟩]
def c97_r1:List SOp:=[⟨some 11,.binOp .lss 3 (.tmp 10) (.tmp 9) 3,none⟩]
def c97_r2:List SOp:=[⟨some 12,.indexAddr 46 (.tmp 8) (.tmp 10),none⟩,⟨some 13,.load 51 (.tmp 12),none⟩,⟨some 7,.alloc 51,none⟩,⟨none,.store 51 (.tmp 7) (.tmp 13),none⟩]
def c97_r3:List SOp:=[⟨some 14,.move (.tmp 1),none⟩,⟨some 15,.nilCheck (.tmp 14),none⟩,⟨some 16,.fieldAddr 130 (.tmp 15) 9,none⟩,⟨some 17,.load 3 (.tmp 16),none⟩,⟨some 18,.fieldAddr 51 (.tmp 7) 1,none⟩,⟨none,.store 3 (.tmp 18) (.tmp 17),none⟩]
def c97_r4:List SOp:=[⟨some 19,.move (.tmp 1),none⟩,⟨some 20,.move (.tmp 1),none⟩,⟨some 21,.nilCheck (.tmp 20),none⟩,⟨some 22,.fieldAddr 130 (.tmp 21) 12,none⟩,⟨some 23,.fieldAddr 70 (.tmp 22) 1,none⟩,⟨some 24,.load 46 (.tmp 23),none⟩,⟨some 25,.load 51 (.tmp 7),none⟩,⟨some 26,.buildSlice 46 1 #[(0, (.tmp 25))],none⟩,⟨some 27,.call ⟨.builtin .append, #[.tmp 24,.tmp 26],#[46,46]⟩,none⟩,⟨some 28,.nilCheck (.tmp 19),none⟩,⟨some 29,.fieldAddr 130 (.tmp 28) 12,none⟩,⟨some 30,.fieldAddr 70 (.tmp 29) 1,none⟩,⟨none,.store 46 (.tmp 30) (.tmp 27),none⟩]
def c97_r5:List SOp:=[⟨some 31,.move (.tmp 0),none⟩,⟨some 32,.nilCheck (.tmp 31),none⟩,⟨some 33,.fieldAddr 94 (.tmp 32) 7,none⟩,⟨some 34,.fieldAddr 35 (.tmp 33) 9,none⟩,⟨some 35,.load 3 (.tmp 34),none⟩,⟨some 36,.binOp .add 3 (.tmp 35) (.const (.int .i64 1)) 3,none⟩,⟨some 37,.nilCheck (.tmp 31),none⟩,⟨some 38,.fieldAddr 94 (.tmp 37) 7,none⟩,⟨some 39,.fieldAddr 35 (.tmp 38) 9,none⟩,⟨none,.store 3 (.tmp 39) (.tmp 36),none⟩]
def c97_r6:List SOp:=[⟨some 40,.binOp .add 3 (.tmp 10) (.const (.int .i64 1)) 3,none⟩,⟨some 10,.move (.tmp 40),none⟩]
def c97_l1:SC:=(.seq (.reg c97_r1 none (some [0,1,8,9,10,11])) (.seq (.cond (.tmp 11) .skip (.exit 0) (some [0,1,8,9,10])) (.seq (.block 1 (.seq (.reg c97_r2 none (some [0,1,7,8,9,10])) (.seq (.reg c97_r3 none (some [0,1,7,8,9,10])) (.seq (.reg c97_r4 none (some [0,1,8,9,10])) (.reg c97_r5 none (some [0,1,8,9,10])))))) (.reg c97_r6 none (some [0,1,8,9,10])))))
def c97:SC:=(.seq (.reg c97_r0 none (some [0,1,8,9,10])) (.block 0 (.loop c97_l1 (some [0,1,8,9,10]))))
theorem c97_eq : ∃ code, Tryz.f97.body = some code ∧ compile H97 code = c97 :=⟨_,rfl,by kernel_rfl⟩
theorem c97_fn : Tryz.prog.funcs[97]? = some Tryz.f97:=by kernel_rfl
theorem c97_rs : Tryz.f97.results.toList = []:=by kernel_rfl
theorem c97_ok : fnB Tryz.prog H97 Tryz.f97 = true:=by kernel_rfl
theorem c97_nt : Tryz.f97.ntmps = 41:=by kernel_rfl
def H98:Hint:=⟨[(1,[4]),(0,[0,1])],[]⟩
def c98_r0:List SOp:=[⟨some 4,.assign (.const (.bool false)),none⟩]
def c98_r1:List SOp:=[⟨some 5,.move (.tmp 0),none⟩,⟨some 6,.move (.tmp 1),none⟩,⟨some 7,.binOp .gtr 3 (.tmp 5) (.tmp 6) 3,none⟩,⟨some 4,.assign (.tmp 7),none⟩]
def c98:SC:=(.seq (.reg c98_r0 none (some [0,1])) (.seq (.reg c98_r1 none (some [4])) .ret))
theorem c98_eq : ∃ code, Tryz.f98.body = some code ∧ compile H98 code = c98 :=⟨_,rfl,by kernel_rfl⟩
theorem c98_fn : Tryz.prog.funcs[98]? = some Tryz.f98:=by kernel_rfl
theorem c98_rs : Tryz.f98.results.toList = [.tmp 4]:=by kernel_rfl
theorem c98_ok : fnB Tryz.prog H98 Tryz.f98 = true:=by kernel_rfl
theorem c98_nt : Tryz.f98.ntmps = 8:=by kernel_rfl
end Go.AM
