/-
  Printed by program (wip/tools/print.sh): compiled code.
-/
import Derived.Test.YtfmfkpmohlhajaaGreatDoorAMb
import Derived.Test.YtfmfkpmohlhajaaGreatDoorProg
namespace Go.AM
open Go Go.Proofs
set_option maxRecDepth 100000
def H99:Hint:=⟨[(16,[4,5]),(15,[0,10,51,52,53]),(14,[0,10,51,52,53]),(13,[0,10,13,51,52,53]),(12,[0,10,12,51,52,53]),(2000054,[0,10,51,52,53]),(11,[0,10,51,52,53,54]),(1000011,[0,10,51,52,53]),(10,[0,10,51,52,53]),(9,[0,6,10]),(8,[0,6,27,28,29]),(7,[0,6,27,28,29]),(6,[0,6,9,27,28,29]),(5,[0,6,8,27,28,29]),(2000030,[0,6,27,28,29]),(4,[0,6,27,28,29,30]),(1000004,[0,6,27,28,29]),(3,[0,6,27,28,29]),(2,[0,6]),(1,[0,1]),(0,[0,1])],[]⟩
def c99_r0:List SOp:=[⟨some 4,.assign (.const (.slice none 0 0)),none⟩,⟨some 5,.assign (.const (.int .i64 0)),none⟩]
def c99_r1:List SOp:=[⟨some 14,.move (.tmp 0),none⟩,⟨some 15,.nilCheck (.tmp 14),none⟩,⟨some 16,.fieldAddr 249 (.tmp 15) 3,none⟩,⟨some 17,.load 3 (.tmp 16),none⟩,⟨some 18,.binOp .add 3 (.tmp 17) (.const (.int .i64 1)) 3,none⟩,⟨some 19,.nilCheck (.tmp 14),none⟩,⟨some 20,.fieldAddr 249 (.tmp 19) 3,none⟩,⟨none,.store 3 (.tmp 20) (.tmp 18),none⟩]
def c99_r2:List SOp:=[⟨some 21,.move (.tmp 0),none⟩,⟨some 22,.nilCheck (.tmp 21),none⟩,⟨some 23,.fieldAddr 249 (.tmp 22) 0,none⟩,⟨some 24,.load 245 (.tmp 23),none⟩,⟨some 25,.move (.tmp 1),none⟩,⟨some 26,.call ⟨.value (.func 151),#[.tmp 24,.tmp 25],#[245,5]⟩,none⟩,⟨some 6,.assign (.tmp 26),none⟩]
def c99_r3:List SOp:=[⟨some 27,.move (.tmp 6),none⟩,⟨some 28,.call ⟨.builtin .len, #[.tmp 27],#[22]⟩,none⟩,⟨some 29,.move (.const (.int .i64 0)),none⟩]
def c99_r4:List SOp:=[⟨some 30,.binOp .lss 3 (.tmp 29) (.tmp 28) 3,none⟩]
def c99_r5:List SOp:=[⟨some 31,.indexAddr 22 (.tmp 27) (.tmp 29),none⟩,⟨some 32,.load 3 (.tmp 31),none⟩,⟨some 8,.assign (.tmp 32),none⟩]
def c99_r6:List SOp:=[⟨some 33,.move (.tmp 0),none⟩,⟨some 34,.nilCheck (.tmp 33),none⟩,⟨some 35,.fieldAddr 249 (.tmp 34) 1,none⟩,⟨some 36,.load 246 (.tmp 35),none⟩,⟨some 37,.move (.tmp 8),none⟩,⟨some 38,.indexAddr 246 (.tmp 36) (.tmp 37),none⟩,⟨some 39,.load 257 (.tmp 38),none⟩,⟨some 9,.alloc 257,none⟩,⟨none,.store 257 (.tmp 9) (.tmp 39),none⟩]
def c99_r7:List SOp:=[⟨some 40,.fieldAddr 257 (.tmp 9) 0,none⟩,⟨some 41,.load 251 (.tmp 40),none⟩,⟨some 42,.nilCheck (.tmp 41),none⟩,⟨some 43,.fieldAddr 255 (.tmp 42) 2,none⟩,⟨some 44,.load 250 (.tmp 43),none⟩,⟨some 45,.fieldAddr 257 (.tmp 9) 1,none⟩,⟨some 46,.load 3 (.tmp 45),none⟩,⟨some 47,.indexAddr 250 (.tmp 44) (.tmp 46),none⟩,⟨none,.store 4 (.tmp 47) (.const (.bool true)),none⟩]
def c99_r8:List SOp:=[⟨some 48,.binOp .add 3 (.tmp 29) (.const (.int .i64 1)) 3,none⟩,⟨some 29,.move (.tmp 48),none⟩]
def c99_l4:SC:=(.seq (.reg c99_r4 none (some [0,6,27,28,29,30])) (.seq (.cond (.tmp 30) .skip (.exit 0) (some [0,6,27,28,29])) (.seq (.block 1 (.seq (.reg c99_r5 none (some [0,6,8,27,28,29])) (.seq (.reg c99_r6 none (some [0,6,9,27,28,29])) (.reg c99_r7 none (some [0,6,27,28,29]))))) (.reg c99_r8 none (some [0,6,27,28,29])))))
def c99_r9:List SOp:=[⟨some 49,.move (.tmp 0),none⟩,⟨some 50,.call ⟨.value (.func 147),#[(.tmp 49),(.func 152)],#[187,260]⟩,none⟩,⟨some 10,.assign (.tmp 50),none⟩]
def c99_r10:List SOp:=[⟨some 51,.move (.tmp 6),none⟩,⟨some 52,.call ⟨.builtin .len, #[.tmp 51],#[22]⟩,none⟩,⟨some 53,.move (.const (.int .i64 0)),none⟩]
def c99_r11:List SOp:=[⟨some 54,.binOp .lss 3 (.tmp 53) (.tmp 52) 3,none⟩]
def c99_r12:List SOp:=[⟨some 55,.indexAddr 22 (.tmp 51) (.tmp 53),none⟩,⟨some 56,.load 3 (.tmp 55),none⟩,⟨some 12,.assign (.tmp 56),none⟩]
def c99_r13:List SOp:=[⟨some 57,.move (.tmp 0),none⟩,⟨some 58,.nilCheck (.tmp 57),none⟩,⟨some 59,.fieldAddr 249 (.tmp 58) 1,none⟩,⟨some 60,.load 246 (.tmp 59),none⟩,⟨some 61,.move (.tmp 12),none⟩,⟨some 62,.indexAddr 246 (.tmp 60) (.tmp 61),none⟩,⟨some 63,.load 257 (.tmp 62),none⟩,⟨some 13,.alloc 257,none⟩,⟨none,.store 257 (.tmp 13) (.tmp 63),none⟩]
def c99_r14:List SOp:=[⟨some 64,.fieldAddr 257 (.tmp 13) 0,none⟩,⟨some 65,.load 251 (.tmp 64),none⟩,⟨some 66,.nilCheck (.tmp 65),none⟩,⟨some 67,.fieldAddr 255 (.tmp 66) 2,none⟩,⟨some 68,.load 250 (.tmp 67),none⟩,⟨some 69,.fieldAddr 257 (.tmp 13) 1,none⟩,⟨some 70,.load 3 (.tmp 69),none⟩,⟨some 71,.indexAddr 250 (.tmp 68) (.tmp 70),none⟩,⟨none,.store 4 (.tmp 71) (.const (.bool false)),none⟩]
def c99_r15:List SOp:=[⟨some 72,.binOp .add 3 (.tmp 53) (.const (.int .i64 1)) 3,none⟩,⟨some 53,.move (.tmp 72),none⟩]
def c99_l11:SC:=(.seq (.reg c99_r11 none (some [0,10,51,52,53,54])) (.seq (.cond (.tmp 54) .skip (.exit 2) (some [0,10,51,52,53])) (.seq (.block 3 (.seq (.reg c99_r12 none (some [0,10,12,51,52,53])) (.seq (.reg c99_r13 none (some [0,10,13,51,52,53])) (.reg c99_r14 none (some [0,10,51,52,53]))))) (.reg c99_r15 none (some [0,10,51,52,53])))))
def c99_r16:List SOp:=[⟨some 73,.move (.tmp 10),none⟩,⟨some 74,.move (.tmp 10),none⟩,⟨some 75,.call ⟨.value (.func 150),#[.tmp 74],#[46]⟩,none⟩,⟨some 4,.assign (.tmp 73),none⟩,⟨some 5,.assign (.tmp 75),none⟩]
def c99:SC:=(.seq (.reg c99_r0 none (some [0,1])) (.seq (.reg c99_r1 none (some [0,1])) (.seq (.reg c99_r2 none (some [0,6])) (.seq (.seq (.reg c99_r3 none (some [0,6,27,28,29])) (.block 0 (.loop c99_l4 (some [0,6,27,28,29])))) (.seq (.reg c99_r9 none (some [0,6,10])) (.seq (.seq (.reg c99_r10 none (some [0,10,51,52,53])) (.block 2 (.loop c99_l11 (some [0,10,51,52,53])))) (.seq (.reg c99_r16 none (some [4,5])) .ret)))))))
theorem c99_eq : ∃ code, Tryz.f99.body = some code ∧ compile H99 code = c99 :=⟨_,rfl,by kernel_rfl⟩
theorem c99_fn : Tryz.prog.funcs[99]? = some Tryz.f99:=by kernel_rfl
theorem c99_rs : Tryz.f99.results.toList = [.tmp 4, .tmp 5]:=by kernel_rfl
theorem c99_ok : fnB Tryz.prog H99 Tryz.f99 = true:=by kernel_rfl
theorem c99_nt : Tryz.f99.ntmps = 76:=by kernel_rfl
def H100:Hint:=⟨[(0,[])],[]⟩
def c100_r0:List SOp:=[⟨some 6,.move (.tmp 0),none⟩,⟨some 7,.move (.tmp 0),none⟩,⟨some 8,.nilCheck (.tmp 7),none⟩,⟨some 9,.fieldAddr 130 (.tmp 8) 12,none⟩,⟨some 10,.fieldAddr 70 (.tmp 9) 0,none⟩,⟨some 11,.load 68 (.tmp 10),none⟩,⟨some 12,.move (.tmp 1),none⟩,⟨some 13,.move (.tmp 2),none⟩,⟨some 14,.build 102 #[(0, (.tmp 12)), (1, (.tmp 13))],none⟩,⟨some 15,.buildSlice 68 1 #[(0, (.tmp 14))],none⟩,⟨some 16,.call ⟨.builtin .append, #[.tmp 11,.tmp 15],#[68,68]⟩,none⟩,⟨some 17,.nilCheck (.tmp 6),none⟩,⟨some 18,.fieldAddr 130 (.tmp 17) 12,none⟩,⟨some 19,.fieldAddr 70 (.tmp 18) 0,none⟩,⟨none,.store 68 (.tmp 19) (.tmp 16),none⟩]
def c100:SC:=(.reg c100_r0 none (some []))
theorem c100_eq : ∃ code, Tryz.f100.body = some code ∧ compile H100 code = c100 :=⟨_,rfl,by kernel_rfl⟩
theorem c100_fn : Tryz.prog.funcs[100]? = some Tryz.f100:=by kernel_rfl
theorem c100_rs : Tryz.f100.results.toList = []:=by kernel_rfl
theorem c100_ok : fnB Tryz.prog H100 Tryz.f100 = true:=by kernel_rfl
theorem c100_nt : Tryz.f100.ntmps = 20:=by kernel_rfl
def H103:Hint:=⟨[(9,[4]),(8,[4]),(7,[]),(2000082,[0,1]),(6,[0,1,7,82]),(5,[0,1,7]),(4,[0,1,6,7]),(3,[0,1,5]),(2,[0,1,5]),(1,[0,1,5]),(0,[0,1])],[(2,[(4,21)]),(3,[(4,23)])]⟩
def c103_r0:List SOp:=[⟨some 4,.assign (.const (.bool false)),none⟩]
def c103_r1:List SOp:=[⟨some 8,.move (.tmp 1),none⟩,⟨some 9,.nilCheck (.tmp 8),none⟩,⟨some 10,.fieldAddr 130 (.tmp 9) 11,none⟩,⟨some 11,.load 128 (.tmp 10),none⟩,⟨some 5,.assign (.tmp 11),none⟩]
def c103_r2:List SOp:=[⟨some 12,.move (.tmp 5),none⟩,⟨some 13,.move (.tmp 1),none⟩,⟨some 14,.nilCheck (.tmp 13),none⟩,⟨some 15,.fieldAddr 130 (.tmp 14) 9,none⟩,⟨some 16,.load 3 (.tmp 15),none⟩,⟨some 17,.move (.tmp 1),none⟩,⟨some 18,.nilCheck (.tmp 17),none⟩,⟨some 19,.fieldAddr 130 (.tmp 18) 5,none⟩,⟨some 20,.fieldAddr 56 (.tmp 19) 2,none⟩,⟨some 21,.load 28 (.tmp 20),none⟩,⟨some 22,.binOp .add 28 (.tmp 21) (.const (.int .u32 1)) 28,none⟩,⟨some 23,.move (.tmp 0),none⟩,⟨some 24,.nilCheck (.tmp 23),none⟩,⟨some 25,.fieldAddr 94 (.tmp 24) 0,none⟩,⟨some 26,.fieldAddr 40 (.tmp 25) 2,none⟩,⟨some 27,.load 3 (.tmp 26),none⟩,⟨some 28,.move (.tmp 0),none⟩,⟨some 29,.nilCheck (.tmp 28),none⟩,⟨some 30,.fieldAddr 94 (.tmp 29) 0,none⟩,⟨some 31,.fieldAddr 40 (.tmp 30) 3,none⟩,⟨some 32,.load 3 (.tmp 31),none⟩,⟨some 33,.call ⟨.value (.func 158),#[.tmp 22,.tmp 27,.tmp 32],#[28,3,3]⟩,none⟩,⟨some 34,.nilCheck (.tmp 12),none⟩,⟨some 35,.fieldAddr 190 (.tmp 34) 3,none⟩,⟨some 36,.indexAddr 186 (.tmp 35) (.tmp 16),none⟩,⟨none,.store 185 (.tmp 36) (.tmp 33),none⟩]
def c103_r3:List SOp:=[⟨some 37,.move (.tmp 5),none⟩,⟨some 38,.move (.tmp 1),none⟩,⟨some 39,.nilCheck (.tmp 38),none⟩,⟨some 40,.fieldAddr 130 (.tmp 39) 9,none⟩,⟨some 41,.load 3 (.tmp 40),none⟩,⟨some 42,.move (.tmp 5),none⟩,⟨some 43,.nilCheck (.tmp 42),none⟩,⟨some 44,.fieldAddr 190 (.tmp 43) 1,none⟩,⟨some 45,.load 92 (.tmp 44),none⟩,⟨some 46,.move (.tmp 5),none⟩,⟨some 47,.move (.tmp 1),none⟩,⟨some 48,.nilCheck (.tmp 47),none⟩,⟨some 49,.fieldAddr 130 (.tmp 48) 9,none⟩,⟨some 50,.load 3 (.tmp 49),none⟩,⟨some 51,.nilCheck (.tmp 46),none⟩,⟨some 52,.fieldAddr 190 (.tmp 51) 2,none⟩,⟨some 53,.indexAddr 184 (.tmp 52) (.tmp 50),none⟩,⟨some 54,.load 22 (.tmp 53),none⟩,⟨some 55,.move (.tmp 0),none⟩,⟨some 56,.nilCheck (.tmp 55),none⟩,⟨some 57,.fieldAddr 94 (.tmp 56) 0,none⟩,⟨some 58,.fieldAddr 40 (.tmp 57) 4,none⟩,⟨some 59,.load 3 (.tmp 58),none⟩,⟨some 60,.call ⟨.value (.func 95),#[.tmp 45,.tmp 54,.tmp 59],#[92,22,3]⟩,none⟩,⟨some 61,.nilCheck (.tmp 37),none⟩,⟨some 62,.fieldAddr 190 (.tmp 61) 4,none⟩,⟨some 63,.indexAddr 188 (.tmp 62) (.tmp 41),none⟩,⟨none,.store 187 (.tmp 63) (.tmp 60),none⟩]
def c103_r4:List SOp:=[⟨some 65,.move (.tmp 5),none⟩,⟨some 66,.move (.tmp 1),none⟩,⟨some 67,.nilCheck (.tmp 66),none⟩,⟨some 68,.fieldAddr 130 (.tmp 67) 9,none⟩,⟨some 69,.load 3 (.tmp 68),none⟩,⟨some 70,.nilCheck (.tmp 65),none⟩,⟨some 71,.fieldAddr 190 (.tmp 70) 4,none⟩,⟨some 72,.indexAddr 188 (.tmp 71) (.tmp 69),none⟩,⟨some 73,.load 187 (.tmp 72),none⟩,⟨some 74,.call ⟨.value (.func 96),#[.tmp 73],#[187]⟩,none⟩,⟨some 64,.move (.tmp 74),none⟩,⟨some 75,.extract (.tmp 64) 0,none⟩,⟨some 76,.extract (.tmp 64) 1,none⟩,⟨some 6,.assign (.tmp 75),none⟩,⟨some 7,.assign (.tmp 76),none⟩]
def c103_r5:List SOp:=[⟨some 77,.move (.tmp 0),none⟩,⟨some 78,.move (.tmp 1),none⟩,⟨some 79,.move (.tmp 6),none⟩,⟨some 80,.call ⟨.value (.func 97),#[.tmp 77,.tmp 78,.tmp 79],#[65,127,46]⟩,none⟩]
def c103_r6:List SOp:=[⟨some 81,.move (.tmp 7),none⟩,⟨some 82,.call ⟨.value (.func 98),#[(.tmp 81),(.const (.int .i64 1))],#[3,3]⟩,none⟩]
def c103_r7:List SOp:=[⟨some 83,.move (.tmp 0),none⟩,⟨some 84,.move (.tmp 1),none⟩,⟨some 85,.move (.tmp 7),none⟩,⟨some 86,.build 273 #[],none⟩,⟨some 87,.call ⟨.value (.func 159),#[(.tmp 83),(.tmp 84),(.tmp 85),(.const (.int .i64 0)),(.tmp 86)],#[65,127,3,3,273]⟩,none⟩]
def c103_r8:List SOp:=[⟨some 4,.assign (.const (.bool false)),none⟩]
def c103_r9:List SOp:=[⟨some 88,.move (.tmp 0),none⟩,⟨some 89,.move (.tmp 1),none⟩,⟨some 90,.call ⟨.value (.func 160),#[.tmp 88,.tmp 89],#[65,127]⟩,none⟩,⟨some 4,.assign (.tmp 90),none⟩]
def c103:SC:=(.seq (.reg c103_r0 none (some [0,1])) (.seq (.reg c103_r1 none (some [0,1,5])) (.seq (.reg c103_r2 (some [(4, 21)]) (some [0,1,5])) (.seq (.reg c103_r3 (some [(4, 23)]) (some [0,1,5])) (.seq (.reg c103_r4 none (some [0,1,6,7])) (.seq (.reg c103_r5 none (some [0,1,7])) (.seq (.seq (.reg c103_r6 none (some [0,1,7,82])) (.cond (.tmp 82) (.seq (.reg c103_r7 none (some [])) (.seq (.reg c103_r8 none (some [4])) .ret)) .skip (some [0,1]))) (.seq (.reg c103_r9 none (some [4])) .ret))))))))
theorem c103_eq : ∃ code, Tryz.f103.body = some code ∧ compile H103 code = c103 :=⟨_,rfl,by kernel_rfl⟩
theorem c103_fn : Tryz.prog.funcs[103]? = some Tryz.f103:=by kernel_rfl
theorem c103_rs : Tryz.f103.results.toList = [.tmp 4]:=by kernel_rfl
theorem c103_ok : fnB Tryz.prog H103 Tryz.f103 = true:=by kernel_rfl
theorem c103_nt : Tryz.f103.ntmps = 91:=by kernel_rfl
def H104:Hint:=⟨[(1,[4]),(0,[0,1])],[]⟩
def c104_r0:List SOp:=[⟨some 4,.assign (.const (.bool false)),none⟩]
def c104_r1:List SOp:=[⟨some 5,.move (.tmp 0),none⟩,⟨some 6,.nilCheck (.tmp 5),none⟩,⟨some 7,.fieldAddr 130 (.tmp 6) 5,none⟩,⟨some 8,.fieldAddr 56 (.tmp 7) 4,none⟩,⟨some 9,.load 3 (.tmp 8),none⟩,⟨some 10,.move (.tmp 1),none⟩,⟨some 11,.binOp .and 3 (.tmp 9) (.tmp 10) 3,none⟩,⟨some 12,.binOp .neq 3 (.tmp 11) (.const (.int .i64 0)) 3,none⟩,⟨some 4,.assign (.tmp 12),none⟩]
def c104:SC:=(.seq (.reg c104_r0 none (some [0,1])) (.seq (.reg c104_r1 none (some [4])) .ret))
theorem c104_eq : ∃ code, Tryz.f104.body = some code ∧ compile H104 code = c104 :=⟨_,rfl,by kernel_rfl⟩
theorem c104_fn : Tryz.prog.funcs[104]? = some Tryz.f104:=by kernel_rfl
theorem c104_rs : Tryz.f104.results.toList = [.tmp 4]:=by kernel_rfl
theorem c104_ok : fnB Tryz.prog H104 Tryz.f104 = true:=by kernel_rfl
theorem c104_nt : Tryz.f104.ntmps = 13:=by kernel_rfl
def H106:Hint:=⟨[(8,[4]),(5,[4]),(7,[4]),(2000074,[0]),(6,[0,1,74]),(2000054,[0]),(4,[0,1,5,54]),(2000035,[0]),(3,[0,1,5,6,35]),(2,[0,1,5,6,7]),(1,[0,1,5,6]),(0,[0,1])],[(4,[(11,13)]),(6,[(7,10)])]⟩
def c106_r0:List SOp:=[⟨some 4,.assign (.const (.bool false)),none⟩]
def c106_r1:List SOp:=[⟨some 8,.move (.tmp 1),none⟩,⟨some 9,.nilCheck (.tmp 8),none⟩,⟨some 10,.fieldAddr 130 (.tmp 9) 11,none⟩,⟨some 11,.load 128 (.tmp 10),none⟩,⟨some 12,.move (.tmp 1),none⟩,⟨some 13,.nilCheck (.tmp 12),none⟩,⟨some 14,.fieldAddr 130 (.tmp 13) 9,none⟩,⟨some 15,.load 3 (.tmp 14),none⟩,⟨some 16,.nilCheck (.tmp 11),none⟩,⟨some 17,.fieldAddr 190 (.tmp 16) 3,none⟩,⟨some 18,.indexAddr 186 (.tmp 17) (.tmp 15),none⟩,⟨some 19,.load 185 (.tmp 18),none⟩,⟨some 20,.move (.tmp 1),none⟩,⟨some 21,.nilCheck (.tmp 20),none⟩,⟨some 22,.fieldAddr 130 (.tmp 21) 11,none⟩,⟨some 23,.load 128 (.tmp 22),none⟩,⟨some 24,.move (.tmp 1),none⟩,⟨some 25,.nilCheck (.tmp 24),none⟩,⟨some 26,.fieldAddr 130 (.tmp 25) 9,none⟩,⟨some 27,.load 3 (.tmp 26),none⟩,⟨some 28,.binOp .sub 3 (.const (.int .i64 1)) (.tmp 27) 3,none⟩,⟨some 29,.nilCheck (.tmp 23),none⟩,⟨some 30,.fieldAddr 190 (.tmp 29) 3,none⟩,⟨some 31,.indexAddr 186 (.tmp 30) (.tmp 28),none⟩,⟨some 32,.load 185 (.tmp 31),none⟩,⟨some 5,.assign (.tmp 19),none⟩,⟨some 6,.assign (.tmp 32),none⟩]
def c106_r2:List SOp:=[⟨some 33,.move (.tmp 1),none⟩,⟨some 34,.call ⟨.value (.func 104),#[(.tmp 33),(.const (.int .i64 16))],#[127,3]⟩,none⟩,⟨some 7,.assign (.tmp 34),none⟩]
def c106_r3:List SOp:=[⟨some 36,.move (.tmp 1),none⟩,⟨some 37,.nilCheck (.tmp 36),none⟩,⟨some 38,.fieldAddr 130 (.tmp 37) 6,none⟩,⟨some 39,.load 9 (.tmp 38),none⟩,⟨some 40,.binOp .neq 9 (.tmp 39) (.const (.string ⟨#[]⟩)) 9,none⟩,⟨some 41,.move (.tmp 40),none⟩,⟨some 42,.move (.tmp 1),some (some 41,false)⟩,⟨some 43,.call ⟨.value (.func 104),#[(.tmp 42),(.const (.int .i64 1))],#[127,3]⟩,some (some 41,false)⟩,⟨some 44,.pick (.tmp 41) (.const (.bool true)) (.tmp 43),none⟩,⟨some 45,.move (.tmp 44),none⟩,⟨some 46,.move (.tmp 7),some (some 45,false)⟩,⟨some 47,.move (.tmp 1),some (some 45,false)⟩,⟨some 48,.nilCheck (.tmp 47),some (some 45,false)⟩,⟨some 49,.fieldAddr 130 (.tmp 48) 9,some (some 45,false)⟩,⟨some 50,.load 3 (.tmp 49),some (some 45,false)⟩,⟨some 51,.binOp .eql 3 (.tmp 50) (.const (.int .i64 1)) 3,some (some 45,false)⟩,⟨some 52,.binOp .neq 4 (.tmp 46) (.tmp 51) 4,some (some 45,false)⟩,⟨some 53,.pick (.tmp 45) (.const (.bool true)) (.tmp 52),none⟩,⟨some 35,.assign (.tmp 53),none⟩]
def c106_r4:List SOp:=[⟨some 55,.move (.tmp 5),none⟩,⟨some 56,.binOp .eql 185 (.tmp 55) (.const (.pointer none)) 185,none⟩,⟨some 57,.move (.tmp 56),none⟩,⟨some 58,.move (.tmp 6),some (some 57,true)⟩,⟨some 59,.binOp .neq 185 (.tmp 58) (.const (.pointer none)) 185,some (some 57,true)⟩,⟨some 60,.pick (.tmp 57) (.tmp 59) (.const (.bool false)),none⟩,⟨some 61,.move (.tmp 60),none⟩,⟨some 62,.move (.tmp 1),some (some 61,true)⟩,⟨some 63,.nilCheck (.tmp 62),some (some 61,true)⟩,⟨some 64,.fieldAddr 130 (.tmp 63) 5,some (some 61,true)⟩,⟨some 65,.fieldAddr 56 (.tmp 64) 3,some (some 61,true)⟩,⟨some 66,.load 28 (.tmp 65),some (some 61,true)⟩,⟨some 67,.move (.tmp 6),some (some 61,true)⟩,⟨some 68,.call ⟨.value (.func 161),#[(.tmp 67),(.const (.int .i64 0))],#[185,3]⟩,some (some 61,true)⟩,⟨some 69,.binOp .eql 28 (.tmp 66) (.tmp 68) 28,some (some 61,true)⟩,⟨some 70,.pick (.tmp 61) (.tmp 69) (.const (.bool false)),none⟩,⟨some 54,.assign (.tmp 70),none⟩]
def c106_r5:List SOp:=[⟨some 71,.move (.tmp 0),none⟩,⟨some 72,.move (.tmp 1),none⟩,⟨some 73,.call ⟨.value (.func 103),#[.tmp 71,.tmp 72],#[65,127]⟩,none⟩,⟨some 4,.assign (.tmp 73),none⟩]
def c106_r6:List SOp:=[⟨some 75,.move (.tmp 5),none⟩,⟨some 76,.binOp .neq 185 (.tmp 75) (.const (.pointer none)) 185,none⟩,⟨some 77,.move (.tmp 76),none⟩,⟨some 78,.move (.tmp 1),some (some 77,true)⟩,⟨some 79,.nilCheck (.tmp 78),some (some 77,true)⟩,⟨some 80,.fieldAddr 130 (.tmp 79) 5,some (some 77,true)⟩,⟨some 81,.fieldAddr 56 (.tmp 80) 2,some (some 77,true)⟩,⟨some 82,.load 28 (.tmp 81),some (some 77,true)⟩,⟨some 83,.binOp .add 28 (.tmp 82) (.const (.int .u32 1)) 28,some (some 77,true)⟩,⟨some 84,.move (.tmp 5),some (some 77,true)⟩,⟨some 85,.call ⟨.value (.func 161),#[(.tmp 84),(.const (.int .i64 0))],#[185,3]⟩,some (some 77,true)⟩,⟨some 86,.binOp .eql 28 (.tmp 83) (.tmp 85) 28,some (some 77,true)⟩,⟨some 87,.pick (.tmp 77) (.tmp 86) (.const (.bool false)),none⟩,⟨some 74,.assign (.tmp 87),none⟩]
def c106_r7:List SOp:=[⟨some 88,.move (.tmp 0),none⟩,⟨some 89,.move (.tmp 1),none⟩,⟨some 90,.call ⟨.value (.func 160),#[.tmp 88,.tmp 89],#[65,127]⟩,none⟩,⟨some 4,.assign (.tmp 90),none⟩]
def c106_r8:List SOp:=[⟨some 91,.move (.tmp 0),none⟩,⟨some 92,.nilCheck (.tmp 91),none⟩,⟨some 93,.fieldAddr 94 (.tmp 92) 7,none⟩,⟨some 94,.fieldAddr 35 (.tmp 93) 5,none⟩,⟨some 95,.call ⟨.value (.func 85),#[.tmp 94],#[170]⟩,none⟩,⟨some 4,.assign (.tmp 95),none⟩]
def c106:SC:=(.seq (.reg c106_r0 none (some [0,1])) (.seq (.reg c106_r1 none (some [0,1,5,6])) (.seq (.reg c106_r2 none (some [0,1,5,6,7])) (.seq (.block 0 (.seq (.reg c106_r3 none (some [0,1,5,6,35])) (.cond (.tmp 35) .skip (.seq (.reg c106_r4 (some [(11, 13)]) (some [0,1,5,54])) (.cond (.tmp 54) (.seq (.reg c106_r5 none (some [4])) .ret) (.seq (.reg c106_r6 (some [(7, 10)]) (some [0,1,74])) (.cond (.tmp 74) (.seq (.reg c106_r7 none (some [4])) .ret) .skip (some [0]))) (some [0]))) (some [0])))) (.seq (.reg c106_r8 none (some [4])) .ret)))))
theorem c106_eq : ∃ code, Tryz.f106.body = some code ∧ compile H106 code = c106 :=⟨_,rfl,by kernel_rfl⟩
theorem c106_fn : Tryz.prog.funcs[106]? = some Tryz.f106:=by kernel_rfl
theorem c106_rs : Tryz.f106.results.toList = [.tmp 4]:=by kernel_rfl
theorem c106_ok : fnB Tryz.prog H106 Tryz.f106 = true:=by kernel_rfl
theorem c106_nt : Tryz.f106.ntmps = 96:=by kernel_rfl
def H107:Hint:=⟨[(17,[4]),(7,[4]),(9,[4]),(11,[4]),(14,[4]),(13,[0,1,6]),(16,[4]),(2000099,[0,1]),(15,[0,1,6,99]),(2000079,[0,1]),(12,[0,1,6,57,79]),(2000072,[0,1]),(10,[0,1,6,57,72]),(2000065,[0,1]),(8,[0,1,6,57,65]),(2000058,[0,1]),(6,[0,1,6,57,58]),(5,[0,1,6,57]),(4,[0,1,6]),(3,[4]),(2000029,[0,1,5]),(2,[0,1,5,29]),(1,[0,1,5]),(0,[0,1])],[(4,[(4,19),(8,19),(13,19),(17,19)])]⟩
def c107_r0:List SOp:=[⟨some 4,.assign (.const (.bool false)),none⟩]
def c107_r1:List SOp:=[⟨some 7,.move (.tmp 1),none⟩,⟨some 8,.nilCheck (.tmp 7),none⟩,⟨some 9,.fieldAddr 130 (.tmp 8) 11,none⟩,⟨some 10,.load 128 (.tmp 9),none⟩,⟨some 5,.assign (.tmp 10),none⟩]
def c107_r2:List SOp:=[⟨some 11,.move (.tmp 1),none⟩,⟨some 12,.call ⟨.value (.func 104),#[(.tmp 11),(.const (.int .i64 16))],#[127,3]⟩,none⟩,⟨some 13,.unOp .not 4 (.tmp 12),none⟩,⟨some 14,.move (.tmp 13),none⟩,⟨some 15,.move (.tmp 5),some (some 14,false)⟩,⟨some 16,.nilCheck (.tmp 15),some (some 14,false)⟩,⟨some 17,.fieldAddr 190 (.tmp 16) 3,some (some 14,false)⟩,⟨some 18,.indexAddr 186 (.tmp 17) (.const (.int .i64 0)),some (some 14,false)⟩,⟨some 19,.load 185 (.tmp 18),some (some 14,false)⟩,⟨some 20,.binOp .eql 185 (.tmp 19) (.const (.pointer none)) 185,some (some 14,false)⟩,⟨some 21,.pick (.tmp 14) (.const (.bool true)) (.tmp 20),none⟩,⟨some 22,.move (.tmp 21),none⟩,⟨some 23,.move (.tmp 5),some (some 22,false)⟩,⟨some 24,.nilCheck (.tmp 23),some (some 22,false)⟩,⟨some 25,.fieldAddr 190 (.tmp 24) 3,some (some 22,false)⟩,⟨some 26,.indexAddr 186 (.tmp 25) (.const (.int .i64 1)),some (some 22,false)⟩,⟨some 27,.load 185 (.tmp 26),some (some 22,false)⟩,⟨some 28,.binOp .eql 185 (.tmp 27) (.const (.pointer none)) 185,some (some 22,false)⟩,⟨some 29,.pick (.tmp 22) (.const (.bool true)) (.tmp 28),none⟩]
def c107_r3:List SOp:=[⟨some 30,.move (.tmp 0),none⟩,⟨some 31,.nilCheck (.tmp 30),none⟩,⟨some 32,.fieldAddr 94 (.tmp 31) 7,none⟩,⟨some 33,.fieldAddr 35 (.tmp 32) 5,none⟩,⟨some 34,.call ⟨.value (.func 85),#[.tmp 33],#[170]⟩,none⟩,⟨some 4,.assign (.tmp 34),none⟩]
def c107_r4:List SOp:=[⟨some 35,.move (.tmp 5),none⟩,⟨some 36,.move (.tmp 1),none⟩,⟨some 37,.nilCheck (.tmp 36),none⟩,⟨some 38,.fieldAddr 130 (.tmp 37) 9,none⟩,⟨some 39,.load 3 (.tmp 38),none⟩,⟨some 40,.nilCheck (.tmp 35),none⟩,⟨some 41,.fieldAddr 190 (.tmp 40) 3,none⟩,⟨some 42,.indexAddr 186 (.tmp 41) (.tmp 39),none⟩,⟨some 43,.load 185 (.tmp 42),none⟩,⟨some 44,.move (.tmp 1),none⟩,⟨some 45,.nilCheck (.tmp 44),none⟩,⟨some 46,.fieldAddr 130 (.tmp 45) 5,none⟩,⟨some 47,.fieldAddr 56 (.tmp 46) 2,none⟩,⟨some 48,.load 28 (.tmp 47),none⟩,⟨some 49,.move (.tmp 1),none⟩,⟨some 50,.nilCheck (.tmp 49),none⟩,⟨some 51,.fieldAddr 130 (.tmp 50) 6,none⟩,⟨some 52,.load 9 (.tmp 51),none⟩,⟨some 53,.move (.tmp 1),none⟩,⟨some 54,.call ⟨.value (.func 104),#[(.tmp 53),(.const (.int .i64 1))],#[127,3]⟩,none⟩,⟨some 55,.call ⟨.value (.func 164),#[.tmp 43,.tmp 48,.tmp 52,.tmp 54],#[185,28,9,4]⟩,none⟩,⟨some 6,.alloc 273,none⟩,⟨none,.store 273 (.tmp 6) (.tmp 55),none⟩]
def c107_r5:List SOp:=[⟨some 56,.fieldAddr 273 (.tmp 6) 0,none⟩,⟨some 57,.load 3 (.tmp 56),none⟩]
def c107_r6:List SOp:=[⟨some 59,.binOp .eql 3 (.tmp 57) (.const (.int .i64 5)) 3,none⟩,⟨some 58,.assign (.tmp 59),none⟩]
def c107_r7:List SOp:=[⟨some 60,.move (.tmp 0),none⟩,⟨some 61,.nilCheck (.tmp 60),none⟩,⟨some 62,.fieldAddr 94 (.tmp 61) 7,none⟩,⟨some 63,.fieldAddr 35 (.tmp 62) 8,none⟩,⟨some 64,.call ⟨.value (.func 85),#[.tmp 63],#[170]⟩,none⟩,⟨some 4,.assign (.tmp 64),none⟩]
def c107_r8:List SOp:=[⟨some 66,.binOp .eql 3 (.tmp 57) (.const (.int .i64 4)) 3,none⟩,⟨some 65,.assign (.tmp 66),none⟩]
def c107_r9:List SOp:=[⟨some 67,.move (.tmp 0),none⟩,⟨some 68,.nilCheck (.tmp 67),none⟩,⟨some 69,.fieldAddr 94 (.tmp 68) 7,none⟩,⟨some 70,.fieldAddr 35 (.tmp 69) 7,none⟩,⟨some 71,.call ⟨.value (.func 85),#[.tmp 70],#[170]⟩,none⟩,⟨some 4,.assign (.tmp 71),none⟩]
def c107_r10:List SOp:=[⟨some 73,.binOp .eql 3 (.tmp 57) (.const (.int .i64 3)) 3,none⟩,⟨some 72,.assign (.tmp 73),none⟩]
def c107_r11:List SOp:=[⟨some 74,.move (.tmp 0),none⟩,⟨some 75,.nilCheck (.tmp 74),none⟩,⟨some 76,.fieldAddr 94 (.tmp 75) 7,none⟩,⟨some 77,.fieldAddr 35 (.tmp 76) 6,none⟩,⟨some 78,.call ⟨.value (.func 85),#[.tmp 77],#[170]⟩,none⟩,⟨some 4,.assign (.tmp 78),none⟩]
def c107_r12:List SOp:=[⟨some 80,.binOp .eql 3 (.tmp 57) (.const (.int .i64 2)) 3,none⟩,⟨some 79,.assign (.tmp 80),none⟩]
def c107_r13:List SOp:=[⟨some 81,.move (.tmp 0),none⟩,⟨some 82,.nilCheck (.tmp 81),none⟩,⟨some 83,.fieldAddr 94 (.tmp 82) 7,none⟩,⟨some 84,.fieldAddr 35 (.tmp 83) 6,none⟩,⟨some 85,.load 3 (.tmp 84),none⟩,⟨some 86,.binOp .add 3 (.tmp 85) (.const (.int .i64 1)) 3,none⟩,⟨some 87,.nilCheck (.tmp 81),none⟩,⟨some 88,.fieldAddr 94 (.tmp 87) 7,none⟩,⟨some 89,.fieldAddr 35 (.tmp 88) 6,none⟩,⟨none,.store 3 (.tmp 89) (.tmp 86),none⟩]
def c107_r14:List SOp:=[⟨some 90,.move (.tmp 0),none⟩,⟨some 91,.move (.tmp 1),none⟩,⟨some 92,.fieldAddr 273 (.tmp 6) 1,none⟩,⟨some 93,.load 3 (.tmp 92),none⟩,⟨some 94,.fieldAddr 273 (.tmp 6) 2,none⟩,⟨some 95,.load 9 (.tmp 94),none⟩,⟨some 96,.fieldAddr 273 (.tmp 6) 3,none⟩,⟨some 97,.load 4 (.tmp 96),none⟩,⟨some 98,.call ⟨.value (.func 165),#[.tmp 90,.tmp 91,.tmp 93,.tmp 95,.tmp 97],#[65,127,3,9,4]⟩,none⟩,⟨some 4,.assign (.tmp 98),none⟩]
def c107_r15:List SOp:=[⟨some 100,.binOp .eql 3 (.tmp 57) (.const (.int .i64 1)) 3,none⟩,⟨some 99,.assign (.tmp 100),none⟩]
def c107_r16:List SOp:=[⟨some 101,.move (.tmp 0),none⟩,⟨some 102,.move (.tmp 1),none⟩,⟨some 103,.load 273 (.tmp 6),none⟩,⟨some 104,.call ⟨.value (.func 166),#[.tmp 101,.tmp 102,.tmp 103],#[65,127,273]⟩,none⟩,⟨some 4,.assign (.tmp 104),none⟩]
def c107_r17:List SOp:=[⟨some 105,.move (.tmp 0),none⟩,⟨some 106,.move (.tmp 1),none⟩,⟨some 107,.call ⟨.value (.func 160),#[.tmp 105,.tmp 106],#[65,127]⟩,none⟩,⟨some 4,.assign (.tmp 107),none⟩]
def c107:SC:=(.seq (.reg c107_r0 none (some [0,1])) (.seq (.reg c107_r1 none (some [0,1,5])) (.seq (.seq (.reg c107_r2 none (some [0,1,5,29])) (.cond (.tmp 29) (.seq (.reg c107_r3 none (some [4])) .ret) .skip (some [0,1,5]))) (.seq (.reg c107_r4 (some [(4, 19), (8, 19), (13, 19), (17, 19)]) (some [0,1,6])) (.seq (.seq (.reg c107_r5 none (some [0,1,6,57])) (.block 0 (.seq (.reg c107_r6 none (some [0,1,6,57,58])) (.cond (.tmp 58) (.seq (.reg c107_r7 none (some [4])) .ret) (.seq (.reg c107_r8 none (some [0,1,6,57,65])) (.cond (.tmp 65) (.seq (.reg c107_r9 none (some [4])) .ret) (.seq (.reg c107_r10 none (some [0,1,6,57,72])) (.cond (.tmp 72) (.seq (.reg c107_r11 none (some [4])) .ret) (.seq (.reg c107_r12 none (some [0,1,6,57,79])) (.cond (.tmp 79) (.seq (.reg c107_r13 none (some [0,1,6])) (.seq (.reg c107_r14 none (some [4])) .ret)) (.seq (.reg c107_r15 none (some [0,1,6,99])) (.cond (.tmp 99) (.seq (.reg c107_r16 none (some [4])) .ret) .skip (some [0,1]))) (some [0,1]))) (some [0,1]))) (some [0,1]))) (some [0,1]))))) (.seq (.reg c107_r17 none (some [4])) .ret))))))
theorem c107_eq : ∃ code, Tryz.f107.body = some code ∧ compile H107 code = c107 :=⟨_,rfl,by kernel_rfl⟩
theorem c107_fn : Tryz.prog.funcs[107]? = some Tryz.f107:=by kernel_rfl
theorem c107_rs : Tryz.f107.results.toList = [.tmp 4]:=by kernel_rfl
theorem c107_ok : fnB Tryz.prog H107 Tryz.f107 = true:=by kernel_rfl
theorem c107_nt : Tryz.f107.ntmps = 108:=by kernel_rfl
def H115:Hint:=⟨[(1,[0]),(0,[])],[]⟩
def c115_r0:List SOp:=[⟨some 0,.assign (.const (.pointer none)),none⟩]
def c115_r1:List SOp:=[⟨some 1,.makeMap 291 none,none⟩,⟨some 2,.makeSlice 292 (.const (.int .i64 1)) (.const (.int .i64 1)),none⟩,⟨some 3,.makeSlice 221 (.const (.int .i64 1)) (.const (.int .i64 1)),none⟩,⟨some 4,.makeSlice 22 (.const (.int .i64 1)) (.const (.int .i64 1)),none⟩,⟨some 5,.build 294 #[(0, (.tmp 1)), (1, (.tmp 2)), (2, (.tmp 3)), (3, (.tmp 4))],none⟩,⟨some 6,.box 294 (.tmp 5),none⟩,⟨some 0,.assign (.tmp 6),none⟩]
def c115:SC:=(.seq (.reg c115_r0 none (some [])) (.seq (.reg c115_r1 none (some [0])) .ret))
theorem c115_eq : ∃ code, Tryz.f115.body = some code ∧ compile H115 code = c115 :=⟨_,rfl,by kernel_rfl⟩
theorem c115_fn : Tryz.prog.funcs[115]? = some Tryz.f115:=by kernel_rfl
theorem c115_rs : Tryz.f115.results.toList = [.tmp 0]:=by kernel_rfl
theorem c115_ok : fnB Tryz.prog H115 Tryz.f115 = true:=by kernel_rfl
theorem c115_nt : Tryz.f115.ntmps = 7:=by kernel_rfl
def H117:Hint:=⟨[(1,[2]),(0,[0])],[]⟩
def c117_r0:List SOp:=[⟨some 2,.assign (.const (.int .i64 0)),none⟩]
def c117_r1:List SOp:=[⟨some 3,.move (.tmp 0),none⟩,⟨some 4,.nilCheck (.tmp 3),none⟩,⟨some 5,.fieldAddr 294 (.tmp 4) 1,none⟩,⟨some 6,.load 292 (.tmp 5),none⟩,⟨some 7,.call ⟨.builtin .len, #[.tmp 6],#[292]⟩,none⟩,⟨some 2,.assign (.tmp 7),none⟩]
def c117:SC:=(.seq (.reg c117_r0 none (some [0])) (.seq (.reg c117_r1 none (some [2])) .ret))
theorem c117_eq : ∃ code, Tryz.f117.body = some code ∧ compile H117 code = c117 :=⟨_,rfl,by kernel_rfl⟩
theorem c117_fn : Tryz.prog.funcs[117]? = some Tryz.f117:=by kernel_rfl
theorem c117_rs : Tryz.f117.results.toList = [.tmp 2]:=by kernel_rfl
theorem c117_ok : fnB Tryz.prog H117 Tryz.f117 = true:=by kernel_rfl
theorem c117_nt : Tryz.f117.ntmps = 8:=by kernel_rfl
def H118:Hint:=⟨[(18,[6]),(17,[0,1,2,7,8,69]),(16,[0,1,2,7,8,69]),(15,[0,1,2,7,8,10,69]),(14,[0,1,2,7,8,9,10,69]),(2000083,[0,1,2,7,8,9,10,69]),(13,[0,1,2,7,8,9,10,69,83]),(2000081,[0,1,2,7,8,9,10,69]),(12,[0,1,2,7,8,9,10,69,81]),(11,[0,1,2,7,8,9,10,11,69]),(10,[0,1,2,7,8,9,69]),(2000070,[0,1,2,7,8,69]),(9,[0,1,2,7,8,69,70]),(1000009,[0,1,2,7,8,69]),(8,[0,1,2,7,8,69]),(7,[0,1,2,7,8]),(5,[0,1,2,7]),(4,[0,1,2,7]),(3,[0,1,2,7]),(6,[0,1,2,7]),(2000020,[0,1,2,7]),(2,[0,1,2,7,20]),(1,[0,1,2,7]),(0,[0,1,2])],[(4,[(3,12),(3,15),(3,16)]),(6,[(3,7)])]⟩
def c118_r0:List SOp:=[⟨some 6,.assign (.const (.slice none 0 0)),none⟩]
def c118_r1:List SOp:=[⟨some 12,.move (.tmp 0),none⟩,⟨some 13,.nilCheck (.tmp 12),none⟩,⟨some 14,.fieldAddr 223 (.tmp 13) 1,none⟩,⟨some 15,.load 22 (.tmp 14),none⟩,⟨some 16,.move (.tmp 2),none⟩,⟨some 17,.indexAddr 22 (.tmp 15) (.tmp 16),none⟩,⟨some 18,.load 3 (.tmp 17),none⟩,⟨some 7,.assign (.tmp 18),none⟩]
def c118_r2:List SOp:=[⟨some 19,.move (.tmp 2),none⟩,⟨some 20,.binOp .gtr 3 (.tmp 19) (.const (.int .i64 0)) 3,none⟩]
def c118_r3:List SOp:=[⟨some 21,.move (.tmp 0),none⟩,⟨some 22,.nilCheck (.tmp 21),none⟩,⟨some 23,.fieldAddr 223 (.tmp 22) 0,none⟩,⟨some 24,.load 220 (.tmp 23),none⟩,⟨some 25,.move (.tmp 2),none⟩,⟨some 26,.move (.tmp 0),none⟩,⟨some 27,.nilCheck (.tmp 26),none⟩,⟨some 28,.fieldAddr 223 (.tmp 27) 0,none⟩,⟨some 29,.load 220 (.tmp 28),none⟩,⟨some 30,.move (.tmp 7),none⟩,⟨some 31,.indexAddr 220 (.tmp 29) (.tmp 30),none⟩,⟨some 32,.load 298 (.tmp 31),none⟩,⟨some 33,.indexAddr 220 (.tmp 24) (.tmp 25),none⟩,⟨none,.store 298 (.tmp 33) (.tmp 32),none⟩]
def c118_r4:List SOp:=[⟨some 34,.move (.tmp 0),none⟩,⟨some 35,.nilCheck (.tmp 34),none⟩,⟨some 36,.fieldAddr 223 (.tmp 35) 2,none⟩,⟨some 37,.load 221 (.tmp 36),none⟩,⟨some 38,.move (.tmp 2),none⟩,⟨some 39,.move (.tmp 0),none⟩,⟨some 40,.nilCheck (.tmp 39),none⟩,⟨some 41,.fieldAddr 223 (.tmp 40) 2,none⟩,⟨some 42,.load 221 (.tmp 41),none⟩,⟨some 43,.move (.tmp 7),none⟩,⟨some 44,.indexAddr 221 (.tmp 42) (.tmp 43),none⟩,⟨some 45,.load 22 (.tmp 44),none⟩,⟨some 46,.call ⟨.value (.func 178),#[.tmp 45],#[22]⟩,none⟩,⟨some 47,.move (.tmp 1),none⟩,⟨some 48,.move (.tmp 2),none⟩,⟨some 49,.call ⟨.value (.func 179),#[.tmp 47,.tmp 48],#[218,3]⟩,none⟩,⟨some 50,.call ⟨.builtin .append, #[.tmp 46,.tmp 49],#[22,22]⟩,none⟩,⟨some 51,.indexAddr 221 (.tmp 37) (.tmp 38),none⟩,⟨none,.store 22 (.tmp 51) (.tmp 50),none⟩]
def c118_r5:List SOp:=[⟨some 52,.move (.tmp 0),none⟩,⟨some 53,.nilCheck (.tmp 52),none⟩,⟨some 54,.fieldAddr 223 (.tmp 53) 2,none⟩,⟨some 55,.load 221 (.tmp 54),none⟩,⟨some 56,.move (.tmp 2),none⟩,⟨some 57,.indexAddr 221 (.tmp 55) (.tmp 56),none⟩,⟨some 58,.load 22 (.tmp 57),none⟩,⟨some 59,.call ⟨.value (.func 168),#[.tmp 58],#[22]⟩,none⟩]
def c118_r6:List SOp:=[⟨some 60,.move (.tmp 0),none⟩,⟨some 61,.nilCheck (.tmp 60),none⟩,⟨some 62,.fieldAddr 223 (.tmp 61) 2,none⟩,⟨some 63,.load 221 (.tmp 62),none⟩,⟨some 64,.move (.tmp 2),none⟩,⟨some 65,.move (.tmp 1),none⟩,⟨some 66,.move (.tmp 2),none⟩,⟨some 67,.call ⟨.value (.func 179),#[.tmp 65,.tmp 66],#[218,3]⟩,none⟩,⟨some 68,.indexAddr 221 (.tmp 63) (.tmp 64),none⟩,⟨none,.store 22 (.tmp 68) (.tmp 67),none⟩]
def c118_r7:List SOp:=[⟨some 8,.assign (.const (.slice none 0 0)),none⟩]
def c118_r8:List SOp:=[⟨some 69,.move (.const (.int .i64 0)),none⟩]
def c118_r9:List SOp:=[⟨some 70,.binOp .lss 3 (.tmp 69) (.const (.int .i64 256)) 3,none⟩]
def c118_r10:List SOp:=[⟨some 71,.move (.tmp 69),none⟩,⟨some 9,.assign (.tmp 71),none⟩]
def c118_r11:List SOp:=[⟨some 73,.move (.tmp 1),none⟩,⟨some 74,.move (.tmp 2),none⟩,⟨some 75,.move (.tmp 9),none⟩,⟨some 76,.convert 3 5 (.tmp 75),none⟩,⟨some 77,.call ⟨.value (.func 180),#[.tmp 73,.tmp 74,.tmp 76],#[218,3,5]⟩,none⟩,⟨some 72,.move (.tmp 77),none⟩,⟨some 78,.extract (.tmp 72) 0,none⟩,⟨some 79,.extract (.tmp 72) 1,none⟩,⟨some 10,.assign (.tmp 78),none⟩,⟨some 11,.assign (.tmp 79),none⟩]
def c118_r12:List SOp:=[⟨some 80,.move (.tmp 11),none⟩,⟨some 81,.unOp .not 4 (.tmp 80),none⟩]
def c118_r13:List SOp:=[⟨some 82,.move (.tmp 2),none⟩,⟨some 83,.binOp .gtr 3 (.tmp 82) (.const (.int .i64 0)) 3,none⟩]
def c118_r14:List SOp:=[⟨some 84,.move (.tmp 0),none⟩,⟨some 85,.nilCheck (.tmp 84),none⟩,⟨some 86,.fieldAddr 223 (.tmp 85) 1,none⟩,⟨some 87,.load 22 (.tmp 86),none⟩,⟨some 88,.move (.tmp 10),none⟩,⟨some 89,.move (.tmp 0),none⟩,⟨some 90,.nilCheck (.tmp 89),none⟩,⟨some 91,.fieldAddr 223 (.tmp 90) 0,none⟩,⟨some 92,.load 220 (.tmp 91),none⟩,⟨some 93,.move (.tmp 7),none⟩,⟨some 94,.move (.tmp 9),none⟩,⟨some 95,.indexAddr 220 (.tmp 92) (.tmp 93),none⟩,⟨some 96,.indexAddr 298 (.tmp 95) (.tmp 94),none⟩,⟨some 97,.load 297 (.tmp 96),none⟩,⟨some 98,.convert 297 3 (.tmp 97),none⟩,⟨some 99,.indexAddr 22 (.tmp 87) (.tmp 88),none⟩,⟨none,.store 3 (.tmp 99) (.tmp 98),none⟩]
def c118_r15:List SOp:=[⟨some 100,.move (.tmp 0),none⟩,⟨some 101,.nilCheck (.tmp 100),none⟩,⟨some 102,.fieldAddr 223 (.tmp 101) 0,none⟩,⟨some 103,.load 220 (.tmp 102),none⟩,⟨some 104,.move (.tmp 2),none⟩,⟨some 105,.move (.tmp 9),none⟩,⟨some 106,.move (.tmp 10),none⟩,⟨some 107,.convert 3 297 (.tmp 106),none⟩,⟨some 108,.indexAddr 220 (.tmp 103) (.tmp 104),none⟩,⟨some 109,.indexAddr 298 (.tmp 108) (.tmp 105),none⟩,⟨none,.store 297 (.tmp 109) (.tmp 107),none⟩]
def c118_r16:List SOp:=[⟨some 110,.move (.tmp 8),none⟩,⟨some 111,.move (.tmp 10),none⟩,⟨some 112,.buildSlice 22 1 #[(0, (.tmp 111))],none⟩,⟨some 113,.call ⟨.builtin .append, #[.tmp 110,.tmp 112],#[22,22]⟩,none⟩,⟨some 8,.assign (.tmp 113),none⟩]
def c118_r17:List SOp:=[⟨some 114,.binOp .add 3 (.tmp 69) (.const (.int .i64 1)) 3,none⟩,⟨some 69,.move (.tmp 114),none⟩]
def c118_l9:SC:=(.seq (.reg c118_r9 none (some [0,1,2,7,8,69,70])) (.seq (.cond (.tmp 70) .skip (.exit 0) (some [0,1,2,7,8,69])) (.seq (.block 1 (.seq (.reg c118_r10 none (some [0,1,2,7,8,9,69])) (.seq (.reg c118_r11 none (some [0,1,2,7,8,9,10,11,69])) (.seq (.seq (.reg c118_r12 none (some [0,1,2,7,8,9,10,69,81])) (.cond (.tmp 81) (.exit 1) .skip (some [0,1,2,7,8,9,10,69]))) (.seq (.seq (.reg c118_r13 none (some [0,1,2,7,8,9,10,69,83])) (.cond (.tmp 83) (.reg c118_r14 none (some [0,1,2,7,8,9,10,69])) .skip (some [0,1,2,7,8,9,10,69]))) (.seq (.reg c118_r15 none (some [0,1,2,7,8,10,69])) (.reg c118_r16 none (some [0,1,2,7,8,69])))))))) (.reg c118_r17 none (some [0,1,2,7,8,69])))))
def c118_r18:List SOp:=[⟨some 115,.move (.tmp 8),none⟩,⟨some 6,.assign (.tmp 115),none⟩]
def c118:SC:=(.seq (.reg c118_r0 none (some [0,1,2])) (.seq (.reg c118_r1 none (some [0,1,2,7])) (.seq (.seq (.reg c118_r2 none (some [0,1,2,7,20])) (.cond (.tmp 20) (.seq (.reg c118_r3 none (some [0,1,2,7])) (.seq (.reg c118_r4 (some [(3, 12), (3, 15), (3, 16)]) (some [0,1,2,7])) (.reg c118_r5 none (some [0,1,2,7])))) (.reg c118_r6 (some [(3, 7)]) (some [0,1,2,7])) (some [0,1,2,7]))) (.seq (.reg c118_r7 none (some [0,1,2,7,8])) (.seq (.seq (.reg c118_r8 none (some [0,1,2,7,8,69])) (.block 0 (.loop c118_l9 (some [0,1,2,7,8,69])))) (.seq (.reg c118_r18 none (some [6])) .ret))))))
theorem c118_eq : ∃ code, Tryz.f118.body = some code ∧ compile H118 code = c118 :=⟨_,rfl,by kernel_rfl⟩
theorem c118_fn : Tryz.prog.funcs[118]? = some Tryz.f118:=by kernel_rfl
theorem c118_rs : Tryz.f118.results.toList = [.tmp 6]:=by kernel_rfl
theorem c118_ok : fnB Tryz.prog H118 Tryz.f118 = true:=by kernel_rfl
theorem c118_nt : Tryz.f118.ntmps = 116:=by kernel_rfl
def H120:Hint:=⟨[(7,[2]),(6,[3,12,13,14]),(5,[3,12,13,14]),(4,[3,5,12,13,14]),(2000015,[3,12,13,14]),(3,[3,12,13,14,15]),(1000003,[3,12,13,14]),(2,[3,12,13,14]),(1,[0,3]),(0,[0])],[]⟩
def c120_r0:List SOp:=[⟨some 2,.assign (.const (.int .i64 0)),none⟩]
def c120_r1:List SOp:=[⟨some 3,.assign (.const (.int .i64 0)),none⟩]
def c120_r2:List SOp:=[⟨some 6,.move (.tmp 0),none⟩,⟨some 7,.move (.tmp 0),none⟩,⟨some 8,.call ⟨.builtin .len, #[.tmp 7],#[9]⟩,none⟩,⟨some 9,.binOp .sub 3 (.tmp 8) (.const (.int .i64 7)) 3,none⟩,⟨some 10,.call ⟨.builtin .max, #[(.const (.int .i64 0)),(.tmp 9)],#[3,3]⟩,none⟩,⟨some 11,.slice 9 (.tmp 6) (some (.tmp 10)) none none,none⟩,⟨some 12,.convert 9 54 (.tmp 11),none⟩,⟨some 13,.call ⟨.builtin .len, #[.tmp 12],#[54]⟩,none⟩,⟨some 14,.move (.const (.int .i64 0)),none⟩]
def c120_r3:List SOp:=[⟨some 15,.binOp .lss 3 (.tmp 14) (.tmp 13) 3,none⟩]
def c120_r4:List SOp:=[⟨some 16,.indexAddr 54 (.tmp 12) (.tmp 14),none⟩,⟨some 17,.load 5 (.tmp 16),none⟩,⟨some 5,.assign (.tmp 17),none⟩]
def c120_r5:List SOp:=[⟨some 18,.move (.tmp 3),none⟩,⟨some 19,.binOp .shl 3 (.tmp 18) (.const (.int .u64 8)) 165,none⟩,⟨some 20,.move (.tmp 5),none⟩,⟨some 21,.convert 5 3 (.tmp 20),none⟩,⟨some 22,.binOp .or 3 (.tmp 19) (.tmp 21) 3,none⟩,⟨some 3,.assign (.tmp 22),none⟩]
def c120_r6:List SOp:=[⟨some 23,.binOp .add 3 (.tmp 14) (.const (.int .i64 1)) 3,none⟩,⟨some 14,.move (.tmp 23),none⟩]
def c120_l3:SC:=(.seq (.reg c120_r3 none (some [3,12,13,14,15])) (.seq (.cond (.tmp 15) .skip (.exit 0) (some [3,12,13,14])) (.seq (.block 1 (.seq (.reg c120_r4 none (some [3,5,12,13,14])) (.reg c120_r5 none (some [3,12,13,14])))) (.reg c120_r6 none (some [3,12,13,14])))))
def c120_r7:List SOp:=[⟨some 24,.move (.tmp 3),none⟩,⟨some 2,.assign (.tmp 24),none⟩]
def c120:SC:=(.seq (.reg c120_r0 none (some [0])) (.seq (.reg c120_r1 none (some [0,3])) (.seq (.seq (.reg c120_r2 none (some [3,12,13,14])) (.block 0 (.loop c120_l3 (some [3,12,13,14])))) (.seq (.reg c120_r7 none (some [2])) .ret))))
theorem c120_eq : ∃ code, Tryz.f120.body = some code ∧ compile H120 code = c120 :=⟨_,rfl,by kernel_rfl⟩
theorem c120_fn : Tryz.prog.funcs[120]? = some Tryz.f120:=by kernel_rfl
theorem c120_rs : Tryz.f120.results.toList = [.tmp 2]:=by kernel_rfl
theorem c120_ok : fnB Tryz.prog H120 Tryz.f120 = true:=by kernel_rfl
theorem c120_nt : Tryz.f120.ntmps = 25:=by kernel_rfl
def H121:Hint:=⟨[(1,[0]),(0,[])],[]⟩
def c121_r0:List SOp:=[⟨some 0,.assign (.const (.slice none 0 0)),none⟩]
def c121_r1:List SOp:=[⟨some 1,.build 229 #[(0, (.func 181)), (1, (.const (.int .i64 2)))],none⟩,⟨some 2,.build 229 #[(0, (.func 182)), (1, (.const (.int .i64 3)))],none⟩,⟨some 3,.build 229 #[(0, (.func 183)), (1, (.const (.int .i64 2)))],none⟩,⟨some 4,.build 229 #[(0, (.func 184)), (1, (.const (.int .i64 3)))],none⟩,⟨some 5,.build 229 #[(0, (.func 185)), (1, (.const (.int .i64 2)))],none⟩,⟨some 6,.build 229 #[(0, (.func 186)), (1, (.const (.int .i64 3)))],none⟩,⟨some 7,.build 229 #[(0, (.func 187)), (1, (.const (.int .i64 5)))],none⟩,⟨some 8,.build 229 #[(0, (.func 188)), (1, (.const (.int .i64 4)))],none⟩,⟨some 9,.buildSlice 225 8 #[(0, (.tmp 1)), (1, (.tmp 2)), (2, (.tmp 3)), (3, (.tmp 4)), (4, (.tmp 5)), (5, (.tmp 6)), (6, (.tmp 7)), (7, (.tmp 8))],none⟩,⟨some 0,.assign (.tmp 9),none⟩]
def c121:SC:=(.seq (.reg c121_r0 none (some [])) (.seq (.reg c121_r1 none (some [0])) .ret))
theorem c121_eq : ∃ code, Tryz.f121.body = some code ∧ compile H121 code = c121 :=⟨_,rfl,by kernel_rfl⟩
theorem c121_fn : Tryz.prog.funcs[121]? = some Tryz.f121:=by kernel_rfl
theorem c121_rs : Tryz.f121.results.toList = [.tmp 0]:=by kernel_rfl
theorem c121_ok : fnB Tryz.prog H121 Tryz.f121 = true:=by kernel_rfl
theorem c121_nt : Tryz.f121.ntmps = 10:=by kernel_rfl
def H122:Hint:=⟨[(1,[2]),(0,[0])],[]⟩
def c122_r0:List SOp:=[⟨some 2,.assign (.const (.int .i64 0)),none⟩]
def c122_r1:List SOp:=[⟨some 3,.move (.tmp 0),none⟩,⟨some 4,.index 9 (.tmp 3) (.const (.int .i64 0)),none⟩,⟨some 5,.convert 5 3 (.tmp 4),none⟩,⟨some 6,.binOp .and 3 (.tmp 5) (.const (.int .i64 15)) 3,none⟩,⟨some 7,.binOp .mul 3 (.const (.int .i64 4)) (.tmp 6) 3,none⟩,⟨some 2,.assign (.tmp 7),none⟩]
def c122:SC:=(.seq (.reg c122_r0 none (some [0])) (.seq (.reg c122_r1 none (some [2])) .ret))
theorem c122_eq : ∃ code, Tryz.f122.body = some code ∧ compile H122 code = c122 :=⟨_,rfl,by kernel_rfl⟩
theorem c122_fn : Tryz.prog.funcs[122]? = some Tryz.f122:=by kernel_rfl
theorem c122_rs : Tryz.f122.results.toList = [.tmp 2]:=by kernel_rfl
theorem c122_ok : fnB Tryz.prog H122 Tryz.f122 = true:=by kernel_rfl
theorem c122_nt : Tryz.f122.ntmps = 8:=by kernel_rfl
def H123:Hint:=⟨[(1,[2]),(0,[0])],[]⟩
def c123_r0:List SOp:=[⟨some 2,.assign (.const (.int .i64 0)),none⟩]
def c123_r1:List SOp:=[⟨some 3,.move (.tmp 0),none⟩,⟨some 4,.slice 9 (.tmp 3) (some (.const (.int .i64 2))) (some (.const (.int .i64 4))) none,none⟩,⟨some 5,.call ⟨.value (.func 120),#[.tmp 4],#[9]⟩,none⟩,⟨some 2,.assign (.tmp 5),none⟩]
def c123:SC:=(.seq (.reg c123_r0 none (some [0])) (.seq (.reg c123_r1 none (some [2])) .ret))
theorem c123_eq : ∃ code, Tryz.f123.body = some code ∧ compile H123 code = c123 :=⟨_,rfl,by kernel_rfl⟩
theorem c123_fn : Tryz.prog.funcs[123]? = some Tryz.f123:=by kernel_rfl
theorem c123_rs : Tryz.f123.results.toList = [.tmp 2]:=by kernel_rfl
theorem c123_ok : fnB Tryz.prog H123 Tryz.f123 = true:=by kernel_rfl
theorem c123_nt : Tryz.f123.ntmps = 6:=by kernel_rfl
def H124:Hint:=⟨[(14,[4]),(5,[4]),(7,[4]),(9,[4]),(11,[4]),(13,[4]),(2000036,[]),(12,[36]),(2000032,[]),(10,[1,2,32]),(2000022,[]),(8,[1,2,22]),(2000016,[]),(6,[1,2,16]),(2000013,[]),(4,[1,2,5,13]),(3,[1,2,5]),(2,[4]),(2000008,[1,2]),(1,[1,2,8]),(0,[1,2])],[]⟩
def c124_r0:List SOp:=[⟨some 2,.box 231 (.tmp 0),none⟩,⟨some 4,.assign (.const (.int .i64 0)),none⟩]
def c124_r1:List SOp:=[⟨some 6,.move (.tmp 1),none⟩,⟨some 7,.call ⟨.builtin .len, #[.tmp 6],#[9]⟩,none⟩,⟨some 8,.binOp .lss 3 (.tmp 7) (.const (.int .i64 20)) 3,none⟩]
def c124_r2:List SOp:=[⟨some 4,.assign (.const (.int .i64 2)),none⟩]
def c124_r3:List SOp:=[⟨some 9,.move (.tmp 1),none⟩,⟨some 10,.index 9 (.tmp 9) (.const (.int .i64 12)),none⟩,⟨some 11,.convert 5 3 (.tmp 10),none⟩,⟨some 12,.binOp .shr 3 (.tmp 11) (.const (.int .u64 4)) 165,none⟩,⟨some 5,.assign (.tmp 12),none⟩]
def c124_r4:List SOp:=[⟨some 14,.move (.tmp 5),none⟩,⟨some 15,.binOp .lss 3 (.tmp 14) (.const (.int .i64 5)) 3,none⟩,⟨some 13,.assign (.tmp 15),none⟩]
def c124_r5:List SOp:=[⟨some 4,.assign (.const (.int .i64 3)),none⟩]
def c124_r6:List SOp:=[⟨some 17,.move (.tmp 1),none⟩,⟨some 18,.call ⟨.builtin .len, #[.tmp 17],#[9]⟩,none⟩,⟨some 19,.move (.tmp 5),none⟩,⟨some 20,.binOp .mul 3 (.tmp 19) (.const (.int .i64 4)) 3,none⟩,⟨some 21,.binOp .lss 3 (.tmp 18) (.tmp 20) 3,none⟩,⟨some 16,.assign (.tmp 21),none⟩]
def c124_r7:List SOp:=[⟨some 4,.assign (.const (.int .i64 2)),none⟩]
def c124_r8:List SOp:=[⟨some 23,.move (.tmp 1),none⟩,⟨some 24,.index 9 (.tmp 23) (.const (.int .i64 12)),none⟩,⟨some 25,.binOp .and 5 (.tmp 24) (.const (.int .u8 15)) 5,none⟩,⟨some 26,.binOp .neq 5 (.tmp 25) (.const (.int .u8 0)) 5,none⟩,⟨some 27,.move (.tmp 26),none⟩,⟨some 28,.move (.tmp 1),some (some 27,false)⟩,⟨some 29,.index 9 (.tmp 28) (.const (.int .i64 13)),some (some 27,false)⟩,⟨some 30,.binOp .gtr 5 (.tmp 29) (.const (.int .u8 63)) 5,some (some 27,false)⟩,⟨some 31,.pick (.tmp 27) (.const (.bool true)) (.tmp 30),none⟩,⟨some 22,.assign (.tmp 31),none⟩]
def c124_r9:List SOp:=[⟨some 4,.assign (.const (.int .i64 3)),none⟩]
def c124_r10:List SOp:=[⟨some 33,.move (.tmp 1),none⟩,⟨some 34,.call ⟨.builtin .len, #[.tmp 33],#[9]⟩,none⟩,⟨some 35,.binOp .gtr 3 (.tmp 34) (.const (.int .i64 2000)) 3,none⟩,⟨some 32,.assign (.tmp 35),none⟩]
def c124_r11:List SOp:=[⟨some 4,.assign (.const (.int .i64 5)),none⟩]
def c124_r12:List SOp:=[⟨some 37,.load 231 (.tmp 2),none⟩,⟨some 38,.move (.tmp 1),none⟩,⟨some 39,.call ⟨.builtin .len, #[.tmp 38],#[9]⟩,none⟩,⟨some 40,.call ⟨.value (.func 189),#[.tmp 37,.tmp 39],#[231,3]⟩,none⟩,⟨some 41,.move (.tmp 1),none⟩,⟨some 42,.buildSlice 138 2 #[(0, (.tmp 40)), (1, (.tmp 41))],none⟩,⟨some 43,.call ⟨.value (.func 131),#[.tmp 42],#[138]⟩,none⟩,⟨some 44,.binOp .neq 3 (.tmp 43) (.const (.int .i64 0)) 3,none⟩,⟨some 36,.assign (.tmp 44),none⟩]
def c124_r13:List SOp:=[⟨some 4,.assign (.const (.int .i64 4)),none⟩]
def c124_r14:List SOp:=[⟨some 4,.assign (.const (.int .i64 0)),none⟩]
def c124:SC:=(.seq (.reg c124_r0 none (some [1,2])) (.seq (.seq (.reg c124_r1 none (some [1,2,8])) (.cond (.tmp 8) (.seq (.reg c124_r2 none (some [4])) .ret) .skip (some [1,2]))) (.seq (.reg c124_r3 none (some [1,2,5])) (.seq (.block 0 (.seq (.reg c124_r4 none (some [1,2,5,13])) (.cond (.tmp 13) (.seq (.reg c124_r5 none (some [4])) .ret) (.seq (.reg c124_r6 none (some [1,2,16])) (.cond (.tmp 16) (.seq (.reg c124_r7 none (some [4])) .ret) (.seq (.reg c124_r8 none (some [1,2,22])) (.cond (.tmp 22) (.seq (.reg c124_r9 none (some [4])) .ret) (.seq (.reg c124_r10 none (some [1,2,32])) (.cond (.tmp 32) (.seq (.reg c124_r11 none (some [4])) .ret) (.seq (.reg c124_r12 none (some [36])) (.cond (.tmp 36) (.seq (.reg c124_r13 none (some [4])) .ret) .skip (some []))) (some []))) (some []))) (some []))) (some [])))) (.seq (.reg c124_r14 none (some [4])) .ret)))))
theorem c124_eq : ∃ code, Tryz.f124.body = some code ∧ compile H124 code = c124 :=⟨_,rfl,by kernel_rfl⟩
theorem c124_fn : Tryz.prog.funcs[124]? = some Tryz.f124:=by kernel_rfl
theorem c124_rs : Tryz.f124.results.toList = [.tmp 4]:=by kernel_rfl
theorem c124_ok : fnB Tryz.prog H124 Tryz.f124 = true:=by kernel_rfl
theorem c124_nt : Tryz.f124.ntmps = 45:=by kernel_rfl
def H125:Hint:=⟨[(4,[4]),(3,[5]),(2000012,[5]),(2,[5,12]),(1000002,[5]),(1,[5]),(0,[0,1])],[]⟩
def c125_r0:List SOp:=[⟨some 4,.assign (.const (.int .i64 0)),none⟩]
def c125_r1:List SOp:=[⟨some 6,.move (.tmp 0),none⟩,⟨some 7,.binOp .and 3 (.tmp 6) (.const (.int .i64 65535)) 3,none⟩,⟨some 8,.move (.tmp 1),none⟩,⟨some 9,.binOp .and 3 (.tmp 8) (.const (.int .i64 65535)) 3,none⟩,⟨some 10,.binOp .add 3 (.tmp 7) (.tmp 9) 3,none⟩,⟨some 5,.assign (.tmp 10),none⟩]
def c125_r2:List SOp:=[⟨some 11,.move (.tmp 5),none⟩,⟨some 12,.binOp .gtr 3 (.tmp 11) (.const (.int .i64 65535)) 3,none⟩]
def c125_r3:List SOp:=[⟨some 13,.move (.tmp 5),none⟩,⟨some 14,.binOp .and 3 (.tmp 13) (.const (.int .i64 65535)) 3,none⟩,⟨some 15,.move (.tmp 5),none⟩,⟨some 16,.binOp .shr 3 (.tmp 15) (.const (.int .u64 16)) 165,none⟩,⟨some 17,.binOp .add 3 (.tmp 14) (.tmp 16) 3,none⟩,⟨some 5,.assign (.tmp 17),none⟩]
def c125_l2:SC:=(.seq (.seq (.reg c125_r2 none (some [5,12])) (.cond (.tmp 12) .skip (.exit 0) (some [5]))) (.block 1 (.reg c125_r3 none (some [5]))))
def c125_r4:List SOp:=[⟨some 18,.move (.tmp 5),none⟩,⟨some 4,.assign (.tmp 18),none⟩]
def c125:SC:=(.seq (.reg c125_r0 none (some [0,1])) (.seq (.reg c125_r1 none (some [5])) (.seq (.block 0 (.loop c125_l2 (some [5]))) (.seq (.reg c125_r4 none (some [4])) .ret))))
theorem c125_eq : ∃ code, Tryz.f125.body = some code ∧ compile H125 code = c125 :=⟨_,rfl,by kernel_rfl⟩
theorem c125_fn : Tryz.prog.funcs[125]? = some Tryz.f125:=by kernel_rfl
theorem c125_rs : Tryz.f125.results.toList = [.tmp 4]:=by kernel_rfl
theorem c125_ok : fnB Tryz.prog H125 Tryz.f125 = true:=by kernel_rfl
theorem c125_nt : Tryz.f125.ntmps = 19:=by kernel_rfl
def H131:Hint:=⟨[(12,[2]),(11,[3,4,8,9,10]),(10,[3,4,6,8,9,10,15,16]),(9,[3,4,6,8,9,10,15,16]),(8,[3,4,6,8,9,10,15,16]),(7,[3,4,6,7,8,9,10,15,16]),(2000017,[3,4,6,8,9,10,15,16]),(6,[3,4,6,8,9,10,15,16,17]),(1000006,[3,4,6,8,9,10,15,16]),(5,[3,4,6,8,9,10,15,16]),(4,[3,4,6,8,9,10]),(2000011,[3,4,8,9,10]),(3,[3,4,8,9,10,11]),(1000003,[3,4,8,9,10]),(2,[3,4,8,9,10]),(1,[0,3,4]),(0,[0])],[]⟩
def c131_r0:List SOp:=[⟨some 2,.assign (.const (.int .i64 0)),none⟩]
def c131_r1:List SOp:=[⟨some 3,.assign (.const (.int .i64 0)),none⟩,⟨some 4,.assign (.const (.int .i64 0)),none⟩]
def c131_r2:List SOp:=[⟨some 8,.move (.tmp 0),none⟩,⟨some 9,.call ⟨.builtin .len, #[.tmp 8],#[138]⟩,none⟩,⟨some 10,.move (.const (.int .i64 0)),none⟩]
def c131_r3:List SOp:=[⟨some 11,.binOp .lss 3 (.tmp 10) (.tmp 9) 3,none⟩]
def c131_r4:List SOp:=[⟨some 12,.indexAddr 138 (.tmp 8) (.tmp 10),none⟩,⟨some 13,.load 9 (.tmp 12),none⟩,⟨some 6,.assign (.tmp 13),none⟩]
def c131_r5:List SOp:=[⟨some 14,.move (.tmp 6),none⟩,⟨some 15,.call ⟨.builtin .len, #[.tmp 14],#[9]⟩,none⟩,⟨some 16,.move (.const (.int .i64 0)),none⟩]
def c131_r6:List SOp:=[⟨some 17,.binOp .lss 3 (.tmp 16) (.tmp 15) 3,none⟩]
def c131_r7:List SOp:=[⟨some 18,.move (.tmp 16),none⟩,⟨some 7,.assign (.tmp 18),none⟩]
def c131_r8:List SOp:=[⟨some 19,.move (.tmp 3),none⟩,⟨some 20,.move (.tmp 6),none⟩,⟨some 21,.move (.tmp 7),none⟩,⟨some 22,.index 9 (.tmp 20) (.tmp 21),none⟩,⟨some 23,.convert 5 3 (.tmp 22),none⟩,⟨some 24,.move (.tmp 4),none⟩,⟨some 25,.binOp .rem 3 (.tmp 24) (.const (.int .i64 2)) 3,none⟩,⟨some 26,.binOp .sub 3 (.const (.int .i64 1)) (.tmp 25) 3,none⟩,⟨some 27,.binOp .mul 3 (.const (.int .i64 8)) (.tmp 26) 3,none⟩,⟨some 28,.binOp .shl 3 (.tmp 23) (.tmp 27) 3,none⟩,⟨some 29,.binOp .add 3 (.tmp 19) (.tmp 28) 3,none⟩,⟨some 30,.call ⟨.value (.func 190),#[.tmp 29],#[3]⟩,none⟩,⟨some 3,.assign (.tmp 30),none⟩]
def c131_r9:List SOp:=[⟨some 31,.move (.tmp 4),none⟩,⟨some 32,.binOp .add 3 (.tmp 31) (.const (.int .i64 1)) 3,none⟩,⟨some 4,.assign (.tmp 32),none⟩]
def c131_r10:List SOp:=[⟨some 33,.binOp .add 3 (.tmp 16) (.const (.int .i64 1)) 3,none⟩,⟨some 16,.move (.tmp 33),none⟩]
def c131_l6:SC:=(.seq (.reg c131_r6 none (some [3,4,6,8,9,10,15,16,17])) (.seq (.cond (.tmp 17) .skip (.exit 2) (some [3,4,6,8,9,10,15,16])) (.seq (.block 3 (.seq (.reg c131_r7 none (some [3,4,6,7,8,9,10,15,16])) (.seq (.reg c131_r8 none (some [3,4,6,8,9,10,15,16])) (.reg c131_r9 none (some [3,4,6,8,9,10,15,16]))))) (.reg c131_r10 none (some [3,4,6,8,9,10,15,16])))))
def c131_r11:List SOp:=[⟨some 34,.binOp .add 3 (.tmp 10) (.const (.int .i64 1)) 3,none⟩,⟨some 10,.move (.tmp 34),none⟩]
def c131_l3:SC:=(.seq (.reg c131_r3 none (some [3,4,8,9,10,11])) (.seq (.cond (.tmp 11) .skip (.exit 0) (some [3,4,8,9,10])) (.seq (.block 1 (.seq (.reg c131_r4 none (some [3,4,6,8,9,10])) (.seq (.reg c131_r5 none (some [3,4,6,8,9,10,15,16])) (.block 2 (.loop c131_l6 (some [3,4,6,8,9,10,15,16])))))) (.reg c131_r11 none (some [3,4,8,9,10])))))
def c131_r12:List SOp:=[⟨some 35,.move (.tmp 3),none⟩,⟨some 36,.unOp .xor 3 (.tmp 35),none⟩,⟨some 37,.binOp .and 3 (.tmp 36) (.const (.int .i64 65535)) 3,none⟩,⟨some 2,.assign (.tmp 37),none⟩]
def c131:SC:=(.seq (.reg c131_r0 none (some [0])) (.seq (.reg c131_r1 none (some [0,3,4])) (.seq (.seq (.reg c131_r2 none (some [3,4,8,9,10])) (.block 0 (.loop c131_l3 (some [3,4,8,9,10])))) (.seq (.reg c131_r12 none (some [2])) .ret))))
theorem c131_eq : ∃ code, Tryz.f131.body = some code ∧ compile H131 code = c131 :=⟨_,rfl,by kernel_rfl⟩
theorem c131_fn : Tryz.prog.funcs[131]? = some Tryz.f131:=by kernel_rfl
theorem c131_rs : Tryz.f131.results.toList = [.tmp 2]:=by kernel_rfl
theorem c131_ok : fnB Tryz.prog H131 Tryz.f131 = true:=by kernel_rfl
theorem c131_nt : Tryz.f131.ntmps = 38:=by kernel_rfl
def H135:Hint:=⟨[(8,[4,5]),(7,[1,7,8]),(6,[1,2,7]),(5,[1,2,6]),(2,[4,5]),(4,[4,5]),(2000013,[1,2]),(3,[1,2,13]),(2000009,[1,2]),(1,[1,2,9]),(0,[1,2])],[(6,[(5,3),(10,3),(10,6),(15,3),(15,6),(15,12),(18,3),(18,6),(18,12),(18,16),(23,3),(23,6),(23,12),(23,16),(23,19),(23,20),(27,3),(27,6),(27,12),(27,16),(27,19),(27,20),(27,24)]),(7,[(5,3),(10,3),(10,7)])]⟩
def c135_r0:List SOp:=[⟨some 2,.box 63 (.tmp 0),none⟩,⟨some 4,.assign (.const (.string ⟨#[]⟩)),none⟩,⟨some 5,.assign (.const (.int .i64 0)),none⟩]
def c135_r1:List SOp:=[⟨some 10,.load 63 (.tmp 2),none⟩,⟨some 11,.call ⟨.value (.func 192),#[.tmp 10],#[63]⟩,none⟩,⟨some 12,.unOp .not 4 (.tmp 11),none⟩,⟨some 9,.assign (.tmp 12),none⟩]
def c135_r2:List SOp:=[⟨some 4,.assign (.const (.string ⟨#[]⟩)),none⟩,⟨some 5,.assign (.const (.int .i64 1)),none⟩]
def c135_r3:List SOp:=[⟨some 14,.move (.tmp 1),none⟩,⟨some 15,.call ⟨.builtin .len, #[.tmp 14],#[9]⟩,none⟩,⟨some 16,.binOp .gtr 3 (.tmp 15) (.const (.int .i64 2000)) 3,none⟩,⟨some 13,.assign (.tmp 16),none⟩]
def c135_r4:List SOp:=[⟨some 4,.assign (.const (.string ⟨#[]⟩)),none⟩,⟨some 5,.assign (.const (.int .i64 5)),none⟩]
def c135_r5:List SOp:=[⟨some 17,.fieldAddr 63 (.tmp 2) 9,none⟩,⟨some 18,.load 9 (.tmp 17),none⟩,⟨some 19,.call ⟨.builtin .len, #[.tmp 18],#[9]⟩,none⟩,⟨some 20,.binOp .add 3 (.const (.int .i64 20)) (.tmp 19) 3,none⟩,⟨some 6,.assign (.tmp 20),none⟩]
def c135_r6:List SOp:=[⟨some 21,.move (.tmp 6),none⟩,⟨some 22,.binOp .quo 3 (.tmp 21) (.const (.int .i64 4)) 3,none⟩,⟨some 23,.binOp .or 3 (.const (.int .i64 64)) (.tmp 22) 3,none⟩,⟨some 24,.call ⟨.value (.func 191),#[(.tmp 23),(.const (.int .i64 1))],#[3,3]⟩,none⟩,⟨some 25,.fieldAddr 63 (.tmp 2) 0,none⟩,⟨some 26,.load 3 (.tmp 25),none⟩,⟨some 27,.call ⟨.value (.func 191),#[(.tmp 26),(.const (.int .i64 1))],#[3,3]⟩,none⟩,⟨some 28,.binOp .add 9 (.tmp 24) (.tmp 27) 9,none⟩,⟨some 29,.move (.tmp 6),none⟩,⟨some 30,.move (.tmp 1),none⟩,⟨some 31,.call ⟨.builtin .len, #[.tmp 30],#[9]⟩,none⟩,⟨some 32,.binOp .add 3 (.tmp 29) (.tmp 31) 3,none⟩,⟨some 33,.call ⟨.value (.func 191),#[(.tmp 32),(.const (.int .i64 2))],#[3,3]⟩,none⟩,⟨some 34,.binOp .add 9 (.tmp 28) (.tmp 33) 9,none⟩,⟨some 35,.fieldAddr 63 (.tmp 2) 1,none⟩,⟨some 36,.load 3 (.tmp 35),none⟩,⟨some 37,.call ⟨.value (.func 191),#[(.tmp 36),(.const (.int .i64 2))],#[3,3]⟩,none⟩,⟨some 38,.binOp .add 9 (.tmp 34) (.tmp 37) 9,none⟩,⟨some 39,.load 63 (.tmp 2),none⟩,⟨some 40,.call ⟨.value (.func 193),#[.tmp 39],#[63]⟩,none⟩,⟨some 41,.call ⟨.value (.func 191),#[(.tmp 40),(.const (.int .i64 2))],#[3,3]⟩,none⟩,⟨some 42,.binOp .add 9 (.tmp 38) (.tmp 41) 9,none⟩,⟨some 43,.fieldAddr 63 (.tmp 2) 5,none⟩,⟨some 44,.load 3 (.tmp 43),none⟩,⟨some 45,.call ⟨.value (.func 191),#[(.tmp 44),(.const (.int .i64 1))],#[3,3]⟩,none⟩,⟨some 46,.binOp .add 9 (.tmp 42) (.tmp 45) 9,none⟩,⟨some 47,.fieldAddr 63 (.tmp 2) 6,none⟩,⟨some 48,.load 3 (.tmp 47),none⟩,⟨some 49,.call ⟨.value (.func 191),#[(.tmp 48),(.const (.int .i64 1))],#[3,3]⟩,none⟩,⟨some 50,.binOp .add 9 (.tmp 46) (.tmp 49) 9,none⟩,⟨some 7,.assign (.tmp 50),none⟩]
def c135_r7:List SOp:=[⟨some 51,.fieldAddr 63 (.tmp 2) 7,none⟩,⟨some 52,.load 28 (.tmp 51),none⟩,⟨some 53,.convert 28 3 (.tmp 52),none⟩,⟨some 54,.call ⟨.value (.func 191),#[(.tmp 53),(.const (.int .i64 4))],#[3,3]⟩,none⟩,⟨some 55,.fieldAddr 63 (.tmp 2) 8,none⟩,⟨some 56,.load 28 (.tmp 55),none⟩,⟨some 57,.convert 28 3 (.tmp 56),none⟩,⟨some 58,.call ⟨.value (.func 191),#[(.tmp 57),(.const (.int .i64 4))],#[3,3]⟩,none⟩,⟨some 59,.binOp .add 9 (.tmp 54) (.tmp 58) 9,none⟩,⟨some 60,.fieldAddr 63 (.tmp 2) 9,none⟩,⟨some 61,.load 9 (.tmp 60),none⟩,⟨some 62,.binOp .add 9 (.tmp 59) (.tmp 61) 9,none⟩,⟨some 8,.assign (.tmp 62),none⟩]
def c135_r8:List SOp:=[⟨some 63,.move (.tmp 7),none⟩,⟨some 64,.move (.tmp 7),none⟩,⟨some 65,.move (.tmp 8),none⟩,⟨some 66,.buildSlice 138 3 #[(0, (.tmp 64)), (1, (.const (.string ⟨#[0,0]⟩))), (2, (.tmp 65))],none⟩,⟨some 67,.call ⟨.value (.func 131),#[.tmp 66],#[138]⟩,none⟩,⟨some 68,.call ⟨.value (.func 191),#[(.tmp 67),(.const (.int .i64 2))],#[3,3]⟩,none⟩,⟨some 69,.binOp .add 9 (.tmp 63) (.tmp 68) 9,none⟩,⟨some 70,.move (.tmp 8),none⟩,⟨some 71,.binOp .add 9 (.tmp 69) (.tmp 70) 9,none⟩,⟨some 72,.move (.tmp 1),none⟩,⟨some 73,.binOp .add 9 (.tmp 71) (.tmp 72) 9,none⟩,⟨some 4,.assign (.tmp 73),none⟩,⟨some 5,.assign (.const (.int .i64 0)),none⟩]
def c135:SC:=(.seq (.reg c135_r0 none (some [1,2])) (.seq (.block 0 (.seq (.reg c135_r1 none (some [1,2,9])) (.cond (.tmp 9) (.seq (.reg c135_r2 none (some [4,5])) .ret) (.seq (.reg c135_r3 none (some [1,2,13])) (.cond (.tmp 13) (.seq (.reg c135_r4 none (some [4,5])) .ret) .skip (some [1,2]))) (some [1,2])))) (.seq (.reg c135_r5 none (some [1,2,6])) (.seq (.reg c135_r6 (some [(5, 3), (10, 3), (10, 6), (15, 3), (15, 6), (15, 12), (18, 3), (18, 6), (18, 12), (18, 16), (23, 3), (23, 6), (23, 12), (23, 16), (23, 19), (23, 20), (27, 3), (27, 6), (27, 12), (27, 16), (27, 19), (27, 20), (27, 24)]) (some [1,2,7])) (.seq (.reg c135_r7 (some [(5, 3), (10, 3), (10, 7)]) (some [1,7,8])) (.seq (.reg c135_r8 none (some [4,5])) .ret))))))
theorem c135_eq : ∃ code, Tryz.f135.body = some code ∧ compile H135 code = c135 :=⟨_,rfl,by kernel_rfl⟩
theorem c135_fn : Tryz.prog.funcs[135]? = some Tryz.f135:=by kernel_rfl
theorem c135_rs : Tryz.f135.results.toList = [.tmp 4, .tmp 5]:=by kernel_rfl
theorem c135_ok : fnB Tryz.prog H135 Tryz.f135 = true:=by kernel_rfl
theorem c135_nt : Tryz.f135.ntmps = 74:=by kernel_rfl
def H136:Hint:=⟨[(1,[4]),(0,[1,2])],[(1,[(1,9),(2,9),(4,9),(5,9)])]⟩
def c136_r0:List SOp:=[⟨some 2,.box 60 (.tmp 0),none⟩,⟨some 4,.assign (.const (.string ⟨#[]⟩)),none⟩]
def c136_r1:List SOp:=[⟨some 5,.fieldAddr 60 (.tmp 2) 0,none⟩,⟨some 6,.slice 58 (.tmp 5) none none none,none⟩,⟨some 7,.convert 54 9 (.tmp 6),none⟩,⟨some 8,.fieldAddr 60 (.tmp 2) 1,none⟩,⟨some 9,.slice 58 (.tmp 8) none none none,none⟩,⟨some 10,.convert 54 9 (.tmp 9),none⟩,⟨some 11,.binOp .add 9 (.tmp 7) (.tmp 10) 9,none⟩,⟨some 12,.fieldAddr 60 (.tmp 2) 2,none⟩,⟨some 13,.load 3 (.tmp 12),none⟩,⟨some 14,.call ⟨.value (.func 191),#[(.tmp 13),(.const (.int .i64 2))],#[3,3]⟩,none⟩,⟨some 15,.binOp .add 9 (.tmp 11) (.tmp 14) 9,none⟩,⟨some 16,.move (.tmp 1),none⟩,⟨some 17,.binOp .add 9 (.tmp 15) (.tmp 16) 9,none⟩,⟨some 4,.assign (.tmp 17),none⟩]
def c136:SC:=(.seq (.reg c136_r0 none (some [1,2])) (.seq (.reg c136_r1 (some [(1, 9), (2, 9), (4, 9), (5, 9)]) (some [4])) .ret))
theorem c136_eq : ∃ code, Tryz.f136.body = some code ∧ compile H136 code = c136 :=⟨_,rfl,by kernel_rfl⟩
theorem c136_fn : Tryz.prog.funcs[136]? = some Tryz.f136:=by kernel_rfl
theorem c136_rs : Tryz.f136.results.toList = [.tmp 4]:=by kernel_rfl
theorem c136_ok : fnB Tryz.prog H136 Tryz.f136 = true:=by kernel_rfl
theorem c136_nt : Tryz.f136.ntmps = 18:=by kernel_rfl
def H137:Hint:=⟨[(1,[4]),(0,[0,1])],[]⟩
def c137_r0:List SOp:=[⟨some 4,.assign (.const (.bool false)),none⟩]
def c137_r1:List SOp:=[⟨some 5,.move (.tmp 0),none⟩,⟨some 6,.move (.tmp 1),none⟩,⟨some 7,.call ⟨.value (.func 156),#[.tmp 5,.tmp 6],#[122,121]⟩,none⟩,⟨some 8,.binOp .geq 3 (.tmp 7) (.const (.int .i64 0)) 3,none⟩,⟨some 4,.assign (.tmp 8),none⟩]
def c137:SC:=(.seq (.reg c137_r0 none (some [0,1])) (.seq (.reg c137_r1 none (some [4])) .ret))
theorem c137_eq : ∃ code, Tryz.f137.body = some code ∧ compile H137 code = c137 :=⟨_,rfl,by kernel_rfl⟩
theorem c137_fn : Tryz.prog.funcs[137]? = some Tryz.f137:=by kernel_rfl
theorem c137_rs : Tryz.f137.results.toList = [.tmp 4]:=by kernel_rfl
theorem c137_ok : fnB Tryz.prog H137 Tryz.f137 = true:=by kernel_rfl
theorem c137_nt : Tryz.f137.ntmps = 9:=by kernel_rfl
def H138:Hint:=⟨[(1,[2]),(0,[1])],[]⟩
def c138_r0:List SOp:=[⟨some 1,.box 43 (.tmp 0),none⟩,⟨some 2,.assign (.const .nilFunc),none⟩]
def c138_r1:List SOp:=[⟨some 3,.makeFunc (.func 194) #[] #[.tmp 1],none⟩,⟨some 2,.assign (.tmp 3),none⟩]
def c138:SC:=(.seq (.reg c138_r0 none (some [1])) (.seq (.reg c138_r1 none (some [2])) .ret))
theorem c138_eq : ∃ code, Tryz.f138.body = some code ∧ compile H138 code = c138 :=⟨_,rfl,by kernel_rfl⟩
theorem c138_fn : Tryz.prog.funcs[138]? = some Tryz.f138:=by kernel_rfl
theorem c138_rs : Tryz.f138.results.toList = [.tmp 2]:=by kernel_rfl
theorem c138_ok : fnB Tryz.prog H138 Tryz.f138 = true:=by kernel_rfl
theorem c138_nt : Tryz.f138.ntmps = 4:=by kernel_rfl
def H139:Hint:=⟨[(4,[4]),(3,[4]),(2000013,[0,3]),(2,[0,3,5,13]),(1,[0,3,5]),(0,[0,3])],[(4,[(3,5)])]⟩
def c139_r0:List SOp:=[⟨some 3,.box 43 (.tmp 1),none⟩,⟨some 4,.assign (.const (.pointer none)),none⟩]
def c139_r1:List SOp:=[⟨some 6,.move (.tmp 0),none⟩,⟨some 7,.nilCheck (.tmp 6),none⟩,⟨some 8,.fieldAddr 120 (.tmp 7) 5,none⟩,⟨some 9,.load 118 (.tmp 8),none⟩,⟨some 10,.load 43 (.tmp 3),none⟩,⟨some 11,.lookup 118 (.tmp 9) (.tmp 10) false,none⟩,⟨some 5,.assign (.tmp 11),none⟩]
def c139_r2:List SOp:=[⟨some 12,.move (.tmp 5),none⟩,⟨some 13,.binOp .neq 115 (.tmp 12) (.const (.pointer none)) 115,none⟩]
def c139_r3:List SOp:=[⟨some 14,.move (.tmp 5),none⟩,⟨some 4,.assign (.tmp 14),none⟩]
def c139_r4:List SOp:=[⟨some 15,.move (.tmp 0),none⟩,⟨some 16,.nilCheck (.tmp 15),none⟩,⟨some 17,.fieldAddr 120 (.tmp 16) 5,none⟩,⟨some 18,.load 118 (.tmp 17),none⟩,⟨some 19,.load 43 (.tmp 3),none⟩,⟨some 20,.call ⟨.value (.func 195),#[.tmp 19],#[43]⟩,none⟩,⟨some 21,.lookup 118 (.tmp 18) (.tmp 20) false,none⟩,⟨some 4,.assign (.tmp 21),none⟩]
def c139:SC:=(.seq (.reg c139_r0 none (some [0,3])) (.seq (.seq (.reg c139_r1 none (some [0,3,5])) (.seq (.reg c139_r2 none (some [0,3,5,13])) (.cond (.tmp 13) (.seq (.reg c139_r3 none (some [4])) .ret) .skip (some [0,3])))) (.seq (.reg c139_r4 (some [(3, 5)]) (some [4])) .ret)))
theorem c139_eq : ∃ code, Tryz.f139.body = some code ∧ compile H139 code = c139 :=⟨_,rfl,by kernel_rfl⟩
theorem c139_fn : Tryz.prog.funcs[139]? = some Tryz.f139:=by kernel_rfl
theorem c139_rs : Tryz.f139.results.toList = [.tmp 4]:=by kernel_rfl
theorem c139_ok : fnB Tryz.prog H139 Tryz.f139 = true:=by kernel_rfl
theorem c139_nt : Tryz.f139.ntmps = 22:=by kernel_rfl
def H140:Hint:=⟨[(0,[])],[]⟩
def c140_r0:List SOp:=[⟨some 2,.move (.tmp 0),none⟩,⟨some 3,.nilCheck (.tmp 2),none⟩,⟨some 4,.fieldAddr 117 (.tmp 3) 3,none⟩,⟨some 5,.load 115 (.tmp 4),none⟩,⟨some 6,.move (.tmp 0),none⟩,⟨some 7,.nilCheck (.tmp 6),none⟩,⟨some 8,.fieldAddr 117 (.tmp 7) 4,none⟩,⟨some 9,.load 115 (.tmp 8),none⟩,⟨some 10,.move (.tmp 0),none⟩,⟨some 11,.nilCheck (.tmp 10),none⟩,⟨some 12,.fieldAddr 117 (.tmp 11) 4,none⟩,⟨some 13,.load 115 (.tmp 12),none⟩,⟨some 14,.move (.tmp 0),none⟩,⟨some 15,.nilCheck (.tmp 14),none⟩,⟨some 16,.fieldAddr 117 (.tmp 15) 3,none⟩,⟨some 17,.load 115 (.tmp 16),none⟩,⟨some 18,.nilCheck (.tmp 5),none⟩,⟨some 19,.fieldAddr 117 (.tmp 18) 4,none⟩,⟨none,.store 115 (.tmp 19) (.tmp 13),none⟩,⟨some 20,.nilCheck (.tmp 9),none⟩,⟨some 21,.fieldAddr 117 (.tmp 20) 3,none⟩,⟨none,.store 115 (.tmp 21) (.tmp 17),none⟩]
def c140:SC:=(.reg c140_r0 none (some []))
theorem c140_eq : ∃ code, Tryz.f140.body = some code ∧ compile H140 code = c140 :=⟨_,rfl,by kernel_rfl⟩
theorem c140_fn : Tryz.prog.funcs[140]? = some Tryz.f140:=by kernel_rfl
theorem c140_rs : Tryz.f140.results.toList = []:=by kernel_rfl
theorem c140_ok : fnB Tryz.prog H140 Tryz.f140 = true:=by kernel_rfl
theorem c140_nt : Tryz.f140.ntmps = 22:=by kernel_rfl
def H141:Hint:=⟨[(2,[]),(1,[1]),(0,[0,1])],[]⟩
def c141_r0:List SOp:=[⟨some 4,.move (.tmp 1),none⟩,⟨some 5,.move (.tmp 0),none⟩,⟨some 6,.nilCheck (.tmp 5),none⟩,⟨some 7,.fieldAddr 120 (.tmp 6) 2,none⟩,⟨some 8,.load 3 (.tmp 7),none⟩,⟨some 9,.nilCheck (.tmp 4),none⟩,⟨some 10,.fieldAddr 117 (.tmp 9) 2,none⟩,⟨none,.store 3 (.tmp 10) (.tmp 8),none⟩]
def c141_r1:List SOp:=[⟨some 11,.move (.tmp 1),none⟩,⟨some 12,.move (.tmp 1),none⟩,⟨some 13,.move (.tmp 0),none⟩,⟨some 14,.nilCheck (.tmp 13),none⟩,⟨some 15,.fieldAddr 120 (.tmp 14) 4,none⟩,⟨some 16,.load 115 (.tmp 15),none⟩,⟨some 17,.nilCheck (.tmp 16),none⟩,⟨some 18,.fieldAddr 117 (.tmp 17) 3,none⟩,⟨some 19,.load 115 (.tmp 18),none⟩,⟨some 20,.move (.tmp 0),none⟩,⟨some 21,.nilCheck (.tmp 20),none⟩,⟨some 22,.fieldAddr 120 (.tmp 21) 4,none⟩,⟨some 23,.load 115 (.tmp 22),none⟩,⟨some 24,.nilCheck (.tmp 11),none⟩,⟨some 25,.fieldAddr 117 (.tmp 24) 3,none⟩,⟨none,.store 115 (.tmp 25) (.tmp 19),none⟩,⟨some 26,.nilCheck (.tmp 12),none⟩,⟨some 27,.fieldAddr 117 (.tmp 26) 4,none⟩,⟨none,.store 115 (.tmp 27) (.tmp 23),none⟩]
def c141_r2:List SOp:=[⟨some 28,.move (.tmp 1),none⟩,⟨some 29,.nilCheck (.tmp 28),none⟩,⟨some 30,.fieldAddr 117 (.tmp 29) 3,none⟩,⟨some 31,.load 115 (.tmp 30),none⟩,⟨some 32,.move (.tmp 1),none⟩,⟨some 33,.nilCheck (.tmp 32),none⟩,⟨some 34,.fieldAddr 117 (.tmp 33) 4,none⟩,⟨some 35,.load 115 (.tmp 34),none⟩,⟨some 36,.move (.tmp 1),none⟩,⟨some 37,.move (.tmp 1),none⟩,⟨some 38,.nilCheck (.tmp 31),none⟩,⟨some 39,.fieldAddr 117 (.tmp 38) 4,none⟩,⟨none,.store 115 (.tmp 39) (.tmp 36),none⟩,⟨some 40,.nilCheck (.tmp 35),none⟩,⟨some 41,.fieldAddr 117 (.tmp 40) 3,none⟩,⟨none,.store 115 (.tmp 41) (.tmp 37),none⟩]
def c141:SC:=(.seq (.reg c141_r0 none (some [0,1])) (.seq (.reg c141_r1 none (some [1])) (.reg c141_r2 none (some []))))
theorem c141_eq : ∃ code, Tryz.f141.body = some code ∧ compile H141 code = c141 :=⟨_,rfl,by kernel_rfl⟩
theorem c141_fn : Tryz.prog.funcs[141]? = some Tryz.f141:=by kernel_rfl
theorem c141_rs : Tryz.f141.results.toList = []:=by kernel_rfl
theorem c141_ok : fnB Tryz.prog H141 Tryz.f141 = true:=by kernel_rfl
theorem c141_nt : Tryz.f141.ntmps = 42:=by kernel_rfl
def H142:Hint:=⟨[(5,[4,5]),(2,[4,5]),(4,[4,5]),(2000010,[]),(3,[10]),(2000006,[]),(1,[2,3,6]),(0,[2,3])],[(3,[(0,2)])]⟩
def c142_r0:List SOp:=[⟨some 2,.box 43 (.tmp 0),none⟩,⟨some 3,.box 43 (.tmp 1),none⟩,⟨some 4,.assign (.const (.int .i64 0)),none⟩,⟨some 5,.assign (.const (.bool false)),none⟩]
def c142_r1:List SOp:=[⟨some 7,.load 43 (.tmp 2),none⟩,⟨some 8,.load 43 (.tmp 3),none⟩,⟨some 9,.binOp .eql 43 (.tmp 7) (.tmp 8) 43,none⟩,⟨some 6,.assign (.tmp 9),none⟩]
def c142_r2:List SOp:=[⟨some 4,.assign (.const (.int .i64 0)),none⟩,⟨some 5,.assign (.const (.bool true)),none⟩]
def c142_r3:List SOp:=[⟨some 11,.load 43 (.tmp 2),none⟩,⟨some 12,.load 43 (.tmp 3),none⟩,⟨some 13,.call ⟨.value (.func 195),#[.tmp 12],#[43]⟩,none⟩,⟨some 14,.binOp .eql 43 (.tmp 11) (.tmp 13) 43,none⟩,⟨some 10,.assign (.tmp 14),none⟩]
def c142_r4:List SOp:=[⟨some 4,.assign (.const (.int .i64 1)),none⟩,⟨some 5,.assign (.const (.bool true)),none⟩]
def c142_r5:List SOp:=[⟨some 4,.assign (.const (.int .i64 0)),none⟩,⟨some 5,.assign (.const (.bool false)),none⟩]
def c142:SC:=(.seq (.reg c142_r0 none (some [2,3])) (.seq (.block 0 (.seq (.reg c142_r1 none (some [2,3,6])) (.cond (.tmp 6) (.seq (.reg c142_r2 none (some [4,5])) .ret) (.seq (.reg c142_r3 (some [(0, 2)]) (some [10])) (.cond (.tmp 10) (.seq (.reg c142_r4 none (some [4,5])) .ret) .skip (some []))) (some [])))) (.seq (.reg c142_r5 none (some [4,5])) .ret)))
theorem c142_eq : ∃ code, Tryz.f142.body = some code ∧ compile H142 code = c142 :=⟨_,rfl,by kernel_rfl⟩
theorem c142_fn : Tryz.prog.funcs[142]? = some Tryz.f142:=by kernel_rfl
theorem c142_rs : Tryz.f142.results.toList = [.tmp 4, .tmp 5]:=by kernel_rfl
theorem c142_ok : fnB Tryz.prog H142 Tryz.f142 = true:=by kernel_rfl
theorem c142_nt : Tryz.f142.ntmps = 15:=by kernel_rfl
def H146:Hint:=⟨[(1,[6]),(0,[0,1,2])],[]⟩
def c146_r0:List SOp:=[⟨some 6,.assign (.const (.pointer none)),none⟩]
def c146_r1:List SOp:=[⟨some 7,.move (.tmp 0),none⟩,⟨some 8,.move (.tmp 1),none⟩,⟨some 9,.call ⟨.builtin .append, #[(.const (.slice none 0 0)),(.tmp 8)],#[138,138]⟩,none⟩,⟨some 10,.move (.tmp 2),none⟩,⟨some 11,.call ⟨.builtin .append, #[(.const (.slice none 0 0)),(.tmp 10)],#[250,250]⟩,none⟩,⟨some 12,.build 317 #[(0, (.tmp 7)), (1, (.tmp 9)), (2, (.tmp 11))],none⟩,⟨some 13,.box 317 (.tmp 12),none⟩,⟨some 6,.assign (.tmp 13),none⟩]
def c146:SC:=(.seq (.reg c146_r0 none (some [0,1,2])) (.seq (.reg c146_r1 none (some [6])) .ret))
theorem c146_eq : ∃ code, Tryz.f146.body = some code ∧ compile H146 code = c146 :=⟨_,rfl,by kernel_rfl⟩
theorem c146_fn : Tryz.prog.funcs[146]? = some Tryz.f146:=by kernel_rfl
theorem c146_rs : Tryz.f146.results.toList = [.tmp 6]:=by kernel_rfl
theorem c146_ok : fnB Tryz.prog H146 Tryz.f146 = true:=by kernel_rfl
theorem c146_nt : Tryz.f146.ntmps = 14:=by kernel_rfl
def H150:Hint:=⟨[(8,[2]),(7,[3,6,7,8]),(6,[3,6,7,8]),(2000015,[3,6,7,8]),(5,[3,5,6,7,8,15]),(4,[3,5,6,7,8]),(2000009,[3,6,7,8]),(3,[3,6,7,8,9]),(1000003,[3,6,7,8]),(2,[3,6,7,8]),(1,[0,3]),(0,[0])],[]⟩
def c150_r0:List SOp:=[⟨some 2,.assign (.const (.int .i64 0)),none⟩]
def c150_r1:List SOp:=[⟨some 3,.assign (.const (.int .i64 0)),none⟩]
def c150_r2:List SOp:=[⟨some 6,.move (.tmp 0),none⟩,⟨some 7,.call ⟨.builtin .len, #[.tmp 6],#[46]⟩,none⟩,⟨some 8,.move (.const (.int .i64 0)),none⟩]
def c150_r3:List SOp:=[⟨some 9,.binOp .lss 3 (.tmp 8) (.tmp 7) 3,none⟩]
def c150_r4:List SOp:=[⟨some 10,.indexAddr 46 (.tmp 6) (.tmp 8),none⟩,⟨some 11,.load 51 (.tmp 10),none⟩,⟨some 5,.alloc 51,none⟩,⟨none,.store 51 (.tmp 5) (.tmp 11),none⟩]
def c150_r5:List SOp:=[⟨some 12,.fieldAddr 51 (.tmp 5) 3,none⟩,⟨some 13,.load 3 (.tmp 12),none⟩,⟨some 14,.move (.tmp 3),none⟩,⟨some 15,.call ⟨.value (.func 98),#[.tmp 13,.tmp 14],#[3,3]⟩,none⟩]
def c150_r6:List SOp:=[⟨some 16,.fieldAddr 51 (.tmp 5) 3,none⟩,⟨some 17,.load 3 (.tmp 16),none⟩,⟨some 3,.assign (.tmp 17),none⟩]
def c150_r7:List SOp:=[⟨some 18,.binOp .add 3 (.tmp 8) (.const (.int .i64 1)) 3,none⟩,⟨some 8,.move (.tmp 18),none⟩]
def c150_l3:SC:=(.seq (.reg c150_r3 none (some [3,6,7,8,9])) (.seq (.cond (.tmp 9) .skip (.exit 0) (some [3,6,7,8])) (.seq (.block 1 (.seq (.reg c150_r4 none (some [3,5,6,7,8])) (.seq (.reg c150_r5 none (some [3,5,6,7,8,15])) (.cond (.tmp 15) (.reg c150_r6 none (some [3,6,7,8])) .skip (some [3,6,7,8]))))) (.reg c150_r7 none (some [3,6,7,8])))))
def c150_r8:List SOp:=[⟨some 19,.move (.tmp 3),none⟩,⟨some 2,.assign (.tmp 19),none⟩]
def c150:SC:=(.seq (.reg c150_r0 none (some [0])) (.seq (.reg c150_r1 none (some [0,3])) (.seq (.seq (.reg c150_r2 none (some [3,6,7,8])) (.block 0 (.loop c150_l3 (some [3,6,7,8])))) (.seq (.reg c150_r8 none (some [2])) .ret))))
theorem c150_eq : ∃ code, Tryz.f150.body = some code ∧ compile H150 code = c150 :=⟨_,rfl,by kernel_rfl⟩
theorem c150_fn : Tryz.prog.funcs[150]? = some Tryz.f150:=by kernel_rfl
theorem c150_rs : Tryz.f150.results.toList = [.tmp 2]:=by kernel_rfl
theorem c150_ok : fnB Tryz.prog H150 Tryz.f150 = true:=by kernel_rfl
theorem c150_nt : Tryz.f150.ntmps = 20:=by kernel_rfl
def H151:Hint:=⟨[(13,[4]),(12,[0,5,52,53,54]),(11,[0,5,52,53,54]),(2000093,[0,5,52,53,54]),(10,[0,5,7,52,53,54,93]),(9,[0,5,7,52,53,54]),(2000055,[0,5,52,53,54]),(8,[0,5,52,53,54,55]),(1000008,[0,5,52,53,54]),(7,[0,5,52,53,54]),(6,[0,5]),(5,[0]),(4,[4]),(2000029,[0,1]),(3,[0,1,29]),(2,[0,1]),(1,[0,1]),(0,[0,1])],[(5,[(4,10),(8,10)])]⟩
def c151_r0:List SOp:=[⟨some 4,.assign (.const (.slice none 0 0)),none⟩]
def c151_r1:List SOp:=[⟨some 8,.move (.tmp 0),none⟩,⟨some 9,.move (.tmp 0),none⟩,⟨some 10,.nilCheck (.tmp 9),none⟩,⟨some 11,.fieldAddr 317 (.tmp 10) 4,none⟩,⟨some 12,.load 3 (.tmp 11),none⟩,⟨some 13,.binOp .rem 3 (.tmp 12) (.const (.int .i64 16)) 3,none⟩,⟨some 14,.move (.tmp 1),none⟩,⟨some 15,.nilCheck (.tmp 8),none⟩,⟨some 16,.fieldAddr 317 (.tmp 15) 5,none⟩,⟨some 17,.indexAddr 315 (.tmp 16) (.tmp 13),none⟩,⟨none,.store 5 (.tmp 17) (.tmp 14),none⟩]
def c151_r2:List SOp:=[⟨some 18,.move (.tmp 0),none⟩,⟨some 19,.nilCheck (.tmp 18),none⟩,⟨some 20,.fieldAddr 317 (.tmp 19) 4,none⟩,⟨some 21,.load 3 (.tmp 20),none⟩,⟨some 22,.binOp .add 3 (.tmp 21) (.const (.int .i64 1)) 3,none⟩,⟨some 23,.nilCheck (.tmp 18),none⟩,⟨some 24,.fieldAddr 317 (.tmp 23) 4,none⟩,⟨none,.store 3 (.tmp 24) (.tmp 22),none⟩]
def c151_r3:List SOp:=[⟨some 25,.move (.tmp 0),none⟩,⟨some 26,.nilCheck (.tmp 25),none⟩,⟨some 27,.fieldAddr 317 (.tmp 26) 0,none⟩,⟨some 28,.load 151 (.tmp 27),none⟩,⟨some 29,.binOp .eql 151 (.tmp 28) (.const (.pointer none)) 151,none⟩]
def c151_r4:List SOp:=[⟨some 4,.assign (.const (.slice none 0 0)),none⟩]
def c151_r5:List SOp:=[⟨some 30,.move (.tmp 0),none⟩,⟨some 31,.move (.tmp 0),none⟩,⟨some 32,.nilCheck (.tmp 31),none⟩,⟨some 33,.fieldAddr 317 (.tmp 32) 0,none⟩,⟨some 34,.load 151 (.tmp 33),none⟩,⟨some 35,.move (.tmp 0),none⟩,⟨some 36,.nilCheck (.tmp 35),none⟩,⟨some 37,.fieldAddr 317 (.tmp 36) 3,none⟩,⟨some 38,.load 3 (.tmp 37),none⟩,⟨some 39,.move (.tmp 1),none⟩,⟨some 40,.call ⟨.value (.func 201),#[.tmp 39],#[5]⟩,none⟩,⟨some 41,.call ⟨.value (.func 200),#[.tmp 34,.tmp 38,.tmp 40],#[151,3,5]⟩,none⟩,⟨some 42,.nilCheck (.tmp 30),none⟩,⟨some 43,.fieldAddr 317 (.tmp 42) 3,none⟩,⟨none,.store 3 (.tmp 43) (.tmp 41),none⟩]
def c151_r6:List SOp:=[⟨some 5,.assign (.const (.slice none 0 0)),none⟩]
def c151_r7:List SOp:=[⟨some 44,.move (.tmp 0),none⟩,⟨some 45,.nilCheck (.tmp 44),none⟩,⟨some 46,.fieldAddr 317 (.tmp 45) 0,none⟩,⟨some 47,.load 151 (.tmp 46),none⟩,⟨some 48,.move (.tmp 0),none⟩,⟨some 49,.nilCheck (.tmp 48),none⟩,⟨some 50,.fieldAddr 317 (.tmp 49) 3,none⟩,⟨some 51,.load 3 (.tmp 50),none⟩,⟨some 52,.call ⟨.value (.func 202),#[.tmp 47,.tmp 51],#[151,3]⟩,none⟩,⟨some 53,.call ⟨.builtin .len, #[.tmp 52],#[22]⟩,none⟩,⟨some 54,.move (.const (.int .i64 0)),none⟩]
def c151_r8:List SOp:=[⟨some 55,.binOp .lss 3 (.tmp 54) (.tmp 53) 3,none⟩]
def c151_r9:List SOp:=[⟨some 56,.indexAddr 22 (.tmp 52) (.tmp 54),none⟩,⟨some 57,.load 3 (.tmp 56),none⟩,⟨some 7,.assign (.tmp 57),none⟩]
def c151_r10:List SOp:=[⟨some 58,.move (.tmp 7),none⟩,⟨some 59,.move (.tmp 0),none⟩,⟨some 60,.nilCheck (.tmp 59),none⟩,⟨some 61,.fieldAddr 317 (.tmp 60) 1,none⟩,⟨some 62,.load 138 (.tmp 61),none⟩,⟨some 63,.call ⟨.builtin .len, #[.tmp 62],#[138]⟩,none⟩,⟨some 64,.binOp .lss 3 (.tmp 58) (.tmp 63) 3,none⟩,⟨some 65,.move (.tmp 64),none⟩,⟨some 66,.move (.tmp 7),some (some 65,true)⟩,⟨some 67,.move (.tmp 0),some (some 65,true)⟩,⟨some 68,.nilCheck (.tmp 67),some (some 65,true)⟩,⟨some 69,.fieldAddr 317 (.tmp 68) 2,some (some 65,true)⟩,⟨some 70,.load 250 (.tmp 69),some (some 65,true)⟩,⟨some 71,.call ⟨.builtin .len, #[.tmp 70],#[250]⟩,some (some 65,true)⟩,⟨some 72,.binOp .lss 3 (.tmp 66) (.tmp 71) 3,some (some 65,true)⟩,⟨some 73,.move (.tmp 72),some (some 65,true)⟩,⟨some 74,.move (.tmp 0),some (some 73,true)⟩,⟨some 75,.nilCheck (.tmp 74),some (some 73,true)⟩,⟨some 76,.fieldAddr 317 (.tmp 75) 2,some (some 73,true)⟩,⟨some 77,.load 250 (.tmp 76),some (some 73,true)⟩,⟨some 78,.move (.tmp 7),some (some 73,true)⟩,⟨some 79,.indexAddr 250 (.tmp 77) (.tmp 78),some (some 73,true)⟩,⟨some 80,.load 4 (.tmp 79),some (some 73,true)⟩,⟨some 81,.pick (.tmp 73) (.tmp 80) (.const (.bool false)),some (some 65,true)⟩,⟨some 82,.move (.tmp 81),some (some 65,true)⟩,⟨some 83,.move (.tmp 0),some (some 82,false)⟩,⟨some 84,.move (.tmp 0),some (some 82,false)⟩,⟨some 85,.nilCheck (.tmp 84),some (some 82,false)⟩,⟨some 86,.fieldAddr 317 (.tmp 85) 1,some (some 82,false)⟩,⟨some 87,.load 138 (.tmp 86),some (some 82,false)⟩,⟨some 88,.move (.tmp 7),some (some 82,false)⟩,⟨some 89,.indexAddr 138 (.tmp 87) (.tmp 88),some (some 82,false)⟩,⟨some 90,.load 9 (.tmp 89),some (some 82,false)⟩,⟨some 91,.call ⟨.value (.func 203),#[.tmp 83,.tmp 90],#[245,9]⟩,some (some 82,false)⟩,⟨some 92,.pick (.tmp 82) (.const (.bool true)) (.tmp 91),some (some 65,true)⟩,⟨some 93,.pick (.tmp 65) (.tmp 92) (.const (.bool false)),none⟩]
def c151_r11:List SOp:=[⟨some 94,.move (.tmp 5),none⟩,⟨some 95,.move (.tmp 7),none⟩,⟨some 96,.buildSlice 22 1 #[(0, (.tmp 95))],none⟩,⟨some 97,.call ⟨.builtin .append, #[.tmp 94,.tmp 96],#[22,22]⟩,none⟩,⟨some 5,.assign (.tmp 97),none⟩]
def c151_r12:List SOp:=[⟨some 98,.binOp .add 3 (.tmp 54) (.const (.int .i64 1)) 3,none⟩,⟨some 54,.move (.tmp 98),none⟩]
def c151_l8:SC:=(.seq (.reg c151_r8 none (some [0,5,52,53,54,55])) (.seq (.cond (.tmp 55) .skip (.exit 0) (some [0,5,52,53,54])) (.seq (.block 1 (.seq (.reg c151_r9 none (some [0,5,7,52,53,54])) (.seq (.reg c151_r10 none (some [0,5,7,52,53,54,93])) (.cond (.tmp 93) (.reg c151_r11 none (some [0,5,52,53,54])) .skip (some [0,5,52,53,54]))))) (.reg c151_r12 none (some [0,5,52,53,54])))))
def c151_r13:List SOp:=[⟨some 99,.move (.tmp 5),none⟩,⟨some 4,.assign (.tmp 99),none⟩]
def c151:SC:=(.seq (.reg c151_r0 none (some [0,1])) (.seq (.reg c151_r1 none (some [0,1])) (.seq (.reg c151_r2 none (some [0,1])) (.seq (.seq (.reg c151_r3 none (some [0,1,29])) (.cond (.tmp 29) (.seq (.reg c151_r4 none (some [4])) .ret) .skip (some [0,1]))) (.seq (.reg c151_r5 (some [(4, 10), (8, 10)]) (some [0])) (.seq (.reg c151_r6 none (some [0,5])) (.seq (.seq (.reg c151_r7 none (some [0,5,52,53,54])) (.block 0 (.loop c151_l8 (some [0,5,52,53,54])))) (.seq (.reg c151_r13 none (some [4])) .ret))))))))
theorem c151_eq : ∃ code, Tryz.f151.body = some code ∧ compile H151 code = c151 :=⟨_,rfl,by kernel_rfl⟩
theorem c151_fn : Tryz.prog.funcs[151]? = some Tryz.f151:=by kernel_rfl
theorem c151_rs : Tryz.f151.results.toList = [.tmp 4]:=by kernel_rfl
theorem c151_ok : fnB Tryz.prog H151 Tryz.f151 = true:=by kernel_rfl
theorem c151_nt : Tryz.f151.ntmps = 100:=by kernel_rfl
def H156:Hint:=⟨[(7,[4]),(6,[0,1,7,8]),(5,[4]),(2000016,[0,1,7,8]),(4,[0,1,5,7,8,16]),(3,[0,1,5,7,8]),(2000009,[0,1,7,8]),(2,[0,1,7,8,9]),(1000002,[0,1,7,8]),(1,[0,1,7,8]),(0,[0,1])],[]⟩
def c156_r0:List SOp:=[⟨some 4,.assign (.const (.int .i64 0)),none⟩]
def c156_r1:List SOp:=[⟨some 6,.move (.tmp 0),none⟩,⟨some 7,.call ⟨.builtin .len, #[.tmp 6],#[122]⟩,none⟩,⟨some 8,.move (.const (.int .i64 0)),none⟩]
def c156_r2:List SOp:=[⟨some 9,.binOp .lss 3 (.tmp 8) (.tmp 7) 3,none⟩]
def c156_r3:List SOp:=[⟨some 10,.move (.tmp 8),none⟩,⟨some 5,.assign (.tmp 10),none⟩]
def c156_r4:List SOp:=[⟨some 11,.move (.tmp 1),none⟩,⟨some 12,.move (.tmp 0),none⟩,⟨some 13,.move (.tmp 5),none⟩,⟨some 14,.indexAddr 122 (.tmp 12) (.tmp 13),none⟩,⟨some 15,.load 126 (.tmp 14),none⟩,⟨some 16,.call ⟨.value (.tmp 11),#[.tmp 15],#[126]⟩,none⟩]
def c156_r5:List SOp:=[⟨some 17,.move (.tmp 5),none⟩,⟨some 4,.assign (.tmp 17),none⟩]
def c156_r6:List SOp:=[⟨some 18,.binOp .add 3 (.tmp 8) (.const (.int .i64 1)) 3,none⟩,⟨some 8,.move (.tmp 18),none⟩]
def c156_l2:SC:=(.seq (.reg c156_r2 none (some [0,1,7,8,9])) (.seq (.cond (.tmp 9) .skip (.exit 0) (some [0,1,7,8])) (.seq (.block 1 (.seq (.reg c156_r3 none (some [0,1,5,7,8])) (.seq (.reg c156_r4 none (some [0,1,5,7,8,16])) (.cond (.tmp 16) (.seq (.reg c156_r5 none (some [4])) .ret) .skip (some [0,1,7,8]))))) (.reg c156_r6 none (some [0,1,7,8])))))
def c156_r7:List SOp:=[⟨some 4,.assign (.const (.int .i64 (-1))),none⟩]
def c156:SC:=(.seq (.reg c156_r0 none (some [0,1])) (.seq (.seq (.reg c156_r1 none (some [0,1,7,8])) (.block 0 (.loop c156_l2 (some [0,1,7,8])))) (.seq (.reg c156_r7 none (some [4])) .ret)))
theorem c156_eq : ∃ code, Tryz.f156.body = some code ∧ compile H156 code = c156 :=⟨_,rfl,by kernel_rfl⟩
theorem c156_fn : Tryz.prog.funcs[156]? = some Tryz.f156:=by kernel_rfl
theorem c156_rs : Tryz.f156.results.toList = [.tmp 4]:=by kernel_rfl
theorem c156_ok : fnB Tryz.prog H156 Tryz.f156 = true:=by kernel_rfl
theorem c156_nt : Tryz.f156.ntmps = 19:=by kernel_rfl
def H158:Hint:=⟨[(1,[6]),(0,[0,1,2])],[]⟩
def c158_r0:List SOp:=[⟨some 6,.assign (.const (.pointer none)),none⟩]
def c158_r1:List SOp:=[⟨some 7,.move (.tmp 0),none⟩,⟨some 8,.move (.tmp 1),none⟩,⟨some 9,.call ⟨.builtin .min, #[(.tmp 8),(.const (.int .i64 1024))],#[3,3]⟩,none⟩,⟨some 10,.call ⟨.builtin .max, #[(.const (.int .i64 0)),(.tmp 9)],#[3,3]⟩,none⟩,⟨some 11,.move (.tmp 2),none⟩,⟨some 12,.call ⟨.builtin .min, #[(.tmp 11),(.const (.int .i64 1024))],#[3,3]⟩,none⟩,⟨some 13,.call ⟨.builtin .max, #[(.const (.int .i64 0)),(.tmp 12)],#[3,3]⟩,none⟩,⟨some 14,.makeMap 73 none,none⟩,⟨some 15,.build 329 #[(0, (.tmp 7)), (1, (.tmp 10)), (2, (.tmp 13)), (4, (.tmp 14)), (6, (.const (.int .i64 (-1))))],none⟩,⟨some 16,.box 329 (.tmp 15),none⟩,⟨some 6,.assign (.tmp 16),none⟩]
def c158:SC:=(.seq (.reg c158_r0 none (some [0,1,2])) (.seq (.reg c158_r1 none (some [6])) .ret))
theorem c158_eq : ∃ code, Tryz.f158.body = some code ∧ compile H158 code = c158 :=⟨_,rfl,by kernel_rfl⟩
theorem c158_fn : Tryz.prog.funcs[158]? = some Tryz.f158:=by kernel_rfl
theorem c158_rs : Tryz.f158.results.toList = [.tmp 6]:=by kernel_rfl
theorem c158_ok : fnB Tryz.prog H158 Tryz.f158 = true:=by kernel_rfl
theorem c158_nt : Tryz.f158.ntmps = 17:=by kernel_rfl
def H160:Hint:=⟨[(1,[4]),(0,[0,1])],[]⟩
def c160_r0:List SOp:=[⟨some 4,.assign (.const (.bool false)),none⟩]
def c160_r1:List SOp:=[⟨some 5,.move (.tmp 0),none⟩,⟨some 6,.move (.tmp 1),none⟩,⟨some 7,.move (.tmp 1),none⟩,⟨some 8,.nilCheck (.tmp 7),none⟩,⟨some 9,.fieldAddr 130 (.tmp 8) 2,none⟩,⟨some 10,.load 60 (.tmp 9),none⟩,⟨some 11,.move (.tmp 1),none⟩,⟨some 12,.nilCheck (.tmp 11),none⟩,⟨some 13,.fieldAddr 130 (.tmp 12) 3,none⟩,⟨some 14,.load 63 (.tmp 13),none⟩,⟨some 15,.move (.tmp 1),none⟩,⟨some 16,.nilCheck (.tmp 15),none⟩,⟨some 17,.fieldAddr 130 (.tmp 16) 5,none⟩,⟨some 18,.load 56 (.tmp 17),none⟩,⟨some 19,.move (.tmp 1),none⟩,⟨some 20,.nilCheck (.tmp 19),none⟩,⟨some 21,.fieldAddr 130 (.tmp 20) 6,none⟩,⟨some 22,.load 9 (.tmp 21),none⟩,⟨some 23,.call ⟨.value (.func 210),#[.tmp 10,.tmp 14,.tmp 18,.tmp 22],#[60,63,56,9]⟩,none⟩,⟨some 24,.call ⟨.value (.func 86),#[.tmp 5,.tmp 6,.tmp 23],#[65,127,9]⟩,none⟩,⟨some 4,.assign (.tmp 24),none⟩]
def c160:SC:=(.seq (.reg c160_r0 none (some [0,1])) (.seq (.reg c160_r1 none (some [4])) .ret))
theorem c160_eq : ∃ code, Tryz.f160.body = some code ∧ compile H160 code = c160 :=⟨_,rfl,by kernel_rfl⟩
theorem c160_fn : Tryz.prog.funcs[160]? = some Tryz.f160:=by kernel_rfl
theorem c160_rs : Tryz.f160.results.toList = [.tmp 4]:=by kernel_rfl
theorem c160_ok : fnB Tryz.prog H160 Tryz.f160 = true:=by kernel_rfl
theorem c160_nt : Tryz.f160.ntmps = 25:=by kernel_rfl
def H161:Hint:=⟨[(1,[4]),(0,[0,1])],[]⟩
def c161_r0:List SOp:=[⟨some 4,.assign (.const (.int .u32 0)),none⟩]
def c161_r1:List SOp:=[⟨some 5,.move (.tmp 0),none⟩,⟨some 6,.nilCheck (.tmp 5),none⟩,⟨some 7,.fieldAddr 329 (.tmp 6) 0,none⟩,⟨some 8,.load 28 (.tmp 7),none⟩,⟨some 9,.move (.tmp 1),none⟩,⟨some 10,.call ⟨.value (.func 45),#[.tmp 8,.tmp 9],#[28,3]⟩,none⟩,⟨some 4,.assign (.tmp 10),none⟩]
def c161:SC:=(.seq (.reg c161_r0 none (some [0,1])) (.seq (.reg c161_r1 none (some [4])) .ret))
theorem c161_eq : ∃ code, Tryz.f161.body = some code ∧ compile H161 code = c161 :=⟨_,rfl,by kernel_rfl⟩
theorem c161_fn : Tryz.prog.funcs[161]? = some Tryz.f161:=by kernel_rfl
theorem c161_rs : Tryz.f161.results.toList = [.tmp 4]:=by kernel_rfl
theorem c161_ok : fnB Tryz.prog H161 Tryz.f161 = true:=by kernel_rfl
theorem c161_nt : Tryz.f161.ntmps = 11:=by kernel_rfl
def H164:Hint:=⟨[(32,[8]),(26,[8]),(28,[8]),(31,[8]),(30,[0,3,8,9,10,17]),(2000197,[8]),(29,[0,3,8,9,10,197]),(2000189,[8]),(27,[0,3,8,9,10,189]),(2000179,[8]),(25,[0,3,8,9,10,14,15,16,179]),(24,[0,3,8,9,10,14,15,16]),(23,[0,3,8,9,10,14,15,16]),(22,[0,3,8,9,10,14,15]),(21,[0,3,8,9,10,14]),(20,[0,2,3,8,9,10,109,110]),(19,[0,2,3,8,9,10,109,110]),(2000135,[0,2,3,8,9,10,109,110]),(18,[0,2,3,8,9,10,11,109,110,135]),(17,[0,2,3,8,9,10,11,13,109,110]),(16,[0,2,3,8,9,10,11,109,110]),(2000111,[0,2,3,8,9,10,109,110]),(15,[0,2,3,8,9,10,109,110,111]),(1000015,[0,2,3,8,9,10,109,110]),(14,[0,2,3,8,9,10,109,110]),(13,[0,2,3,8,9,10]),(2000103,[0,2,3,8,9,10]),(12,[0,2,3,8,9,10,103]),(11,[8]),(2000080,[0,2,3,8,9,10]),(10,[0,2,3,8,9,10,80]),(9,[0,2,3,8,9,10]),(8,[0,2,3,8,9,10]),(2000058,[0,2,3,8,9,10]),(7,[0,2,3,8,9,10,58]),(6,[0,2,3,8,9,10]),(2000043,[0,2,3,8,9,10]),(5,[0,2,3,8,9,10,43]),(4,[8]),(2000037,[0,2,3,8,9,10]),(3,[0,2,3,8,9,10,37]),(2,[0,2,3,8,9,10]),(1,[0,2,3,8,9]),(0,[0,1,2,3,8])],[]⟩
def c164_r0:List SOp:=[⟨some 8,.alloc 273,none⟩]
def c164_r1:List SOp:=[⟨some 18,.move (.tmp 0),none⟩,⟨some 19,.nilCheck (.tmp 18),none⟩,⟨some 20,.fieldAddr 329 (.tmp 19) 0,none⟩,⟨some 21,.load 28 (.tmp 20),none⟩,⟨some 22,.move (.tmp 1),none⟩,⟨some 23,.move (.tmp 0),none⟩,⟨some 24,.nilCheck (.tmp 23),none⟩,⟨some 25,.fieldAddr 329 (.tmp 24) 3,none⟩,⟨some 26,.load 3 (.tmp 25),none⟩,⟨some 27,.call ⟨.value (.func 25),#[.tmp 21,.tmp 22,.tmp 26],#[28,28,3]⟩,none⟩,⟨some 9,.assign (.tmp 27),none⟩]
def c164_r2:List SOp:=[⟨some 28,.move (.tmp 9),none⟩,⟨some 29,.move (.tmp 2),none⟩,⟨some 30,.call ⟨.builtin .len, #[.tmp 29],#[9]⟩,none⟩,⟨some 31,.binOp .add 3 (.tmp 28) (.tmp 30) 3,none⟩,⟨some 10,.assign (.tmp 31),none⟩]
def c164_r3:List SOp:=[⟨some 32,.move (.tmp 2),none⟩,⟨some 33,.binOp .eql 9 (.tmp 32) (.const (.string ⟨#[]⟩)) 9,none⟩,⟨some 34,.move (.tmp 33),none⟩,⟨some 35,.move (.tmp 3),some (some 34,true)⟩,⟨some 36,.unOp .not 4 (.tmp 35),some (some 34,true)⟩,⟨some 37,.pick (.tmp 34) (.tmp 36) (.const (.bool false)),none⟩]
def c164_r4:List SOp:=[⟨some 38,.build 273 #[(0, (.const (.int .i64 0)))],none⟩,⟨none,.store 273 (.tmp 8) (.tmp 38),none⟩]
def c164_r5:List SOp:=[⟨some 39,.move (.tmp 0),none⟩,⟨some 40,.nilCheck (.tmp 39),none⟩,⟨some 41,.fieldAddr 329 (.tmp 40) 6,none⟩,⟨some 42,.load 3 (.tmp 41),none⟩,⟨some 43,.binOp .geq 3 (.tmp 42) (.const (.int .i64 0)) 3,none⟩]
def c164_r6:List SOp:=[⟨some 44,.move (.tmp 3),none⟩,⟨some 45,.move (.tmp 44),none⟩,⟨some 46,.move (.tmp 10),some (some 45,true)⟩,⟨some 47,.move (.tmp 0),some (some 45,true)⟩,⟨some 48,.nilCheck (.tmp 47),some (some 45,true)⟩,⟨some 49,.fieldAddr 329 (.tmp 48) 6,some (some 45,true)⟩,⟨some 50,.load 3 (.tmp 49),some (some 45,true)⟩,⟨some 51,.binOp .eql 3 (.tmp 46) (.tmp 50) 3,some (some 45,true)⟩,⟨some 52,.pick (.tmp 45) (.tmp 51) (.const (.bool false)),none⟩,⟨some 3,.assign (.tmp 52),none⟩]
def c164_r7:List SOp:=[⟨some 53,.move (.tmp 10),none⟩,⟨some 54,.move (.tmp 0),none⟩,⟨some 55,.nilCheck (.tmp 54),none⟩,⟨some 56,.fieldAddr 329 (.tmp 55) 6,none⟩,⟨some 57,.load 3 (.tmp 56),none⟩,⟨some 58,.binOp .gtr 3 (.tmp 53) (.tmp 57) 3,none⟩]
def c164_r8:List SOp:=[⟨some 59,.move (.tmp 0),none⟩,⟨some 60,.nilCheck (.tmp 59),none⟩,⟨some 61,.fieldAddr 329 (.tmp 60) 6,none⟩,⟨some 62,.load 3 (.tmp 61),none⟩,⟨some 63,.move (.tmp 9),none⟩,⟨some 64,.call ⟨.builtin .max, #[.tmp 62,.tmp 63],#[3,3]⟩,none⟩,⟨some 10,.assign (.tmp 64),none⟩]
def c164_r9:List SOp:=[⟨some 65,.move (.tmp 2),none⟩,⟨some 66,.move (.tmp 10),none⟩,⟨some 67,.move (.tmp 9),none⟩,⟨some 68,.binOp .sub 3 (.tmp 66) (.tmp 67) 3,none⟩,⟨some 69,.slice 9 (.tmp 65) none (some (.tmp 68)) none,none⟩,⟨some 2,.assign (.tmp 69),none⟩]
def c164_r10:List SOp:=[⟨some 70,.move (.tmp 10),none⟩,⟨some 71,.move (.tmp 0),none⟩,⟨some 72,.nilCheck (.tmp 71),none⟩,⟨some 73,.fieldAddr 329 (.tmp 72) 3,none⟩,⟨some 74,.load 3 (.tmp 73),none⟩,⟨some 75,.move (.tmp 0),none⟩,⟨some 76,.nilCheck (.tmp 75),none⟩,⟨some 77,.fieldAddr 329 (.tmp 76) 1,none⟩,⟨some 78,.load 3 (.tmp 77),none⟩,⟨some 79,.binOp .add 3 (.tmp 74) (.tmp 78) 3,none⟩,⟨some 80,.binOp .gtr 3 (.tmp 70) (.tmp 79) 3,none⟩]
def c164_r11:List SOp:=[⟨some 81,.build 273 #[(0, (.const (.int .i64 5)))],none⟩,⟨none,.store 273 (.tmp 8) (.tmp 81),none⟩]
def c164_r12:List SOp:=[⟨some 82,.move (.tmp 3),none⟩,⟨some 83,.move (.tmp 82),none⟩,⟨some 84,.move (.tmp 0),some (some 83,true)⟩,⟨some 85,.nilCheck (.tmp 84),some (some 83,true)⟩,⟨some 86,.fieldAddr 329 (.tmp 85) 6,some (some 83,true)⟩,⟨some 87,.load 3 (.tmp 86),some (some 83,true)⟩,⟨some 88,.binOp .lss 3 (.tmp 87) (.const (.int .i64 0)) 3,some (some 83,true)⟩,⟨some 89,.pick (.tmp 83) (.tmp 88) (.const (.bool false)),none⟩,⟨some 90,.move (.tmp 89),none⟩,⟨some 91,.move (.tmp 10),some (some 90,true)⟩,⟨some 92,.move (.tmp 0),some (some 90,true)⟩,⟨some 93,.nilCheck (.tmp 92),some (some 90,true)⟩,⟨some 94,.fieldAddr 329 (.tmp 93) 3,some (some 90,true)⟩,⟨some 95,.load 3 (.tmp 94),some (some 90,true)⟩,⟨some 96,.binOp .geq 3 (.tmp 91) (.tmp 95) 3,some (some 90,true)⟩,⟨some 97,.pick (.tmp 90) (.tmp 96) (.const (.bool false)),none⟩,⟨some 98,.move (.tmp 97),none⟩,⟨some 99,.move (.tmp 0),some (some 98,true)⟩,⟨some 100,.move (.tmp 10),some (some 98,true)⟩,⟨some 101,.call ⟨.value (.func 212),#[.tmp 99,.tmp 100],#[185,3]⟩,some (some 98,true)⟩,⟨some 102,.unOp .not 4 (.tmp 101),some (some 98,true)⟩,⟨some 103,.pick (.tmp 98) (.tmp 102) (.const (.bool false)),none⟩]
def c164_r13:List SOp:=[⟨some 104,.move (.tmp 0),none⟩,⟨some 105,.move (.tmp 10),none⟩,⟨some 106,.nilCheck (.tmp 104),none⟩,⟨some 107,.fieldAddr 329 (.tmp 106) 6,none⟩,⟨none,.store 3 (.tmp 107) (.tmp 105),none⟩]
def c164_r14:List SOp:=[⟨some 108,.move (.tmp 2),none⟩,⟨some 109,.call ⟨.builtin .len, #[.tmp 108],#[9]⟩,none⟩,⟨some 110,.move (.const (.int .i64 0)),none⟩]
def c164_r15:List SOp:=[⟨some 111,.binOp .lss 3 (.tmp 110) (.tmp 109) 3,none⟩]
def c164_r16:List SOp:=[⟨some 112,.move (.tmp 110),none⟩,⟨some 11,.assign (.tmp 112),none⟩]
def c164_r17:List SOp:=[⟨some 114,.move (.tmp 0),none⟩,⟨some 115,.nilCheck (.tmp 114),none⟩,⟨some 116,.fieldAddr 329 (.tmp 115) 4,none⟩,⟨some 117,.load 73 (.tmp 116),none⟩,⟨some 118,.move (.tmp 9),none⟩,⟨some 119,.move (.tmp 11),none⟩,⟨some 120,.binOp .add 3 (.tmp 118) (.tmp 119) 3,none⟩,⟨some 121,.lookup 73 (.tmp 117) (.tmp 120) true,none⟩,⟨some 113,.move (.tmp 121),none⟩,⟨some 122,.extract (.tmp 113) 0,none⟩,⟨some 123,.extract (.tmp 113) 1,none⟩,⟨some 12,.assign (.tmp 122),none⟩,⟨some 13,.assign (.tmp 123),none⟩]
def c164_r18:List SOp:=[⟨some 124,.move (.tmp 13),none⟩,⟨some 125,.unOp .not 4 (.tmp 124),none⟩,⟨some 126,.move (.tmp 125),none⟩,⟨some 127,.move (.tmp 9),some (some 126,true)⟩,⟨some 128,.move (.tmp 11),some (some 126,true)⟩,⟨some 129,.binOp .add 3 (.tmp 127) (.tmp 128) 3,some (some 126,true)⟩,⟨some 130,.move (.tmp 0),some (some 126,true)⟩,⟨some 131,.nilCheck (.tmp 130),some (some 126,true)⟩,⟨some 132,.fieldAddr 329 (.tmp 131) 3,some (some 126,true)⟩,⟨some 133,.load 3 (.tmp 132),some (some 126,true)⟩,⟨some 134,.binOp .geq 3 (.tmp 129) (.tmp 133) 3,some (some 126,true)⟩,⟨some 135,.pick (.tmp 126) (.tmp 134) (.const (.bool false)),none⟩]
def c164_r19:List SOp:=[⟨some 136,.move (.tmp 0),none⟩,⟨some 137,.nilCheck (.tmp 136),none⟩,⟨some 138,.fieldAddr 329 (.tmp 137) 4,none⟩,⟨some 139,.load 73 (.tmp 138),none⟩,⟨some 140,.move (.tmp 9),none⟩,⟨some 141,.move (.tmp 11),none⟩,⟨some 142,.binOp .add 3 (.tmp 140) (.tmp 141) 3,none⟩,⟨some 143,.move (.tmp 2),none⟩,⟨some 144,.move (.tmp 11),none⟩,⟨some 145,.index 9 (.tmp 143) (.tmp 144),none⟩,⟨none,.mapUpdate 73 (.tmp 139) (.tmp 142) (.tmp 145),none⟩]
def c164_r20:List SOp:=[⟨some 146,.binOp .add 3 (.tmp 110) (.const (.int .i64 1)) 3,none⟩,⟨some 110,.move (.tmp 146),none⟩]
def c164_l15:SC:=(.seq (.reg c164_r15 none (some [0,2,3,8,9,10,109,110,111])) (.seq (.cond (.tmp 111) .skip (.exit 0) (some [0,2,3,8,9,10,109,110])) (.seq (.block 1 (.seq (.reg c164_r16 none (some [0,2,3,8,9,10,11,109,110])) (.seq (.reg c164_r17 none (some [0,2,3,8,9,10,11,13,109,110])) (.seq (.reg c164_r18 none (some [0,2,3,8,9,10,11,109,110,135])) (.cond (.tmp 135) (.reg c164_r19 none (some [0,2,3,8,9,10,109,110])) .skip (some [0,2,3,8,9,10,109,110])))))) (.reg c164_r20 none (some [0,2,3,8,9,10,109,110])))))
def c164_r21:List SOp:=[⟨some 147,.move (.tmp 0),none⟩,⟨some 148,.nilCheck (.tmp 147),none⟩,⟨some 149,.fieldAddr 329 (.tmp 148) 3,none⟩,⟨some 150,.load 3 (.tmp 149),none⟩,⟨some 14,.assign (.tmp 150),none⟩]
def c164_r22:List SOp:=[⟨some 151,.move (.tmp 0),none⟩,⟨some 152,.call ⟨.value (.func 213),#[.tmp 151],#[185]⟩,none⟩,⟨some 15,.assign (.tmp 152),none⟩]
def c164_r23:List SOp:=[⟨some 153,.move (.tmp 0),none⟩,⟨some 154,.nilCheck (.tmp 153),none⟩,⟨some 155,.fieldAddr 329 (.tmp 154) 3,none⟩,⟨some 156,.load 3 (.tmp 155),none⟩,⟨some 157,.move (.tmp 0),none⟩,⟨some 158,.nilCheck (.tmp 157),none⟩,⟨some 159,.fieldAddr 329 (.tmp 158) 6,none⟩,⟨some 160,.load 3 (.tmp 159),none⟩,⟨some 161,.binOp .eql 3 (.tmp 156) (.tmp 160) 3,none⟩,⟨some 162,.move (.tmp 161),none⟩,⟨some 163,.move (.tmp 0),some (some 162,true)⟩,⟨some 164,.nilCheck (.tmp 163),some (some 162,true)⟩,⟨some 165,.fieldAddr 329 (.tmp 164) 7,some (some 162,true)⟩,⟨some 166,.load 4 (.tmp 165),some (some 162,true)⟩,⟨some 167,.unOp .not 4 (.tmp 166),some (some 162,true)⟩,⟨some 168,.pick (.tmp 162) (.tmp 167) (.const (.bool false)),none⟩,⟨some 16,.assign (.tmp 168),none⟩]
def c164_r24:List SOp:=[⟨some 169,.move (.tmp 0),none⟩,⟨some 170,.move (.tmp 0),none⟩,⟨some 171,.nilCheck (.tmp 170),none⟩,⟨some 172,.fieldAddr 329 (.tmp 171) 7,none⟩,⟨some 173,.load 4 (.tmp 172),none⟩,⟨some 174,.move (.tmp 173),none⟩,⟨some 175,.move (.tmp 16),some (some 174,false)⟩,⟨some 176,.pick (.tmp 174) (.const (.bool true)) (.tmp 175),none⟩,⟨some 177,.nilCheck (.tmp 169),none⟩,⟨some 178,.fieldAddr 329 (.tmp 177) 7,none⟩,⟨none,.store 4 (.tmp 178) (.tmp 176),none⟩]
def c164_r25:List SOp:=[⟨some 180,.move (.tmp 15),none⟩,⟨some 181,.binOp .neq 9 (.tmp 180) (.const (.string ⟨#[]⟩)) 9,none⟩,⟨some 182,.move (.tmp 181),none⟩,⟨some 183,.move (.tmp 16),some (some 182,false)⟩,⟨some 184,.pick (.tmp 182) (.const (.bool true)) (.tmp 183),none⟩,⟨some 179,.assign (.tmp 184),none⟩]
def c164_r26:List SOp:=[⟨some 185,.move (.tmp 14),none⟩,⟨some 186,.move (.tmp 15),none⟩,⟨some 187,.move (.tmp 16),none⟩,⟨some 188,.build 273 #[(0, (.const (.int .i64 1))), (1, (.tmp 185)), (2, (.tmp 186)), (3, (.tmp 187))],none⟩,⟨none,.store 273 (.tmp 8) (.tmp 188),none⟩]
def c164_r27:List SOp:=[⟨some 190,.move (.tmp 10),none⟩,⟨some 191,.move (.tmp 0),none⟩,⟨some 192,.nilCheck (.tmp 191),none⟩,⟨some 193,.fieldAddr 329 (.tmp 192) 3,none⟩,⟨some 194,.load 3 (.tmp 193),none⟩,⟨some 195,.binOp .gtr 3 (.tmp 190) (.tmp 194) 3,none⟩,⟨some 189,.assign (.tmp 195),none⟩]
def c164_r28:List SOp:=[⟨some 196,.build 273 #[(0, (.const (.int .i64 4)))],none⟩,⟨none,.store 273 (.tmp 8) (.tmp 196),none⟩]
def c164_r29:List SOp:=[⟨some 198,.move (.tmp 9),none⟩,⟨some 199,.binOp .geq 3 (.tmp 198) (.const (.int .i64 0)) 3,none⟩,⟨some 200,.move (.tmp 199),none⟩,⟨some 201,.move (.tmp 9),some (some 200,true)⟩,⟨some 202,.move (.tmp 0),some (some 200,true)⟩,⟨some 203,.nilCheck (.tmp 202),some (some 200,true)⟩,⟨some 204,.fieldAddr 329 (.tmp 203) 3,some (some 200,true)⟩,⟨some 205,.load 3 (.tmp 204),some (some 200,true)⟩,⟨some 206,.move (.tmp 0),some (some 200,true)⟩,⟨some 207,.nilCheck (.tmp 206),some (some 200,true)⟩,⟨some 208,.fieldAddr 329 (.tmp 207) 2,some (some 200,true)⟩,⟨some 209,.load 3 (.tmp 208),some (some 200,true)⟩,⟨some 210,.binOp .sub 3 (.tmp 205) (.tmp 209) 3,some (some 200,true)⟩,⟨some 211,.binOp .geq 3 (.tmp 201) (.tmp 210) 3,some (some 200,true)⟩,⟨some 212,.pick (.tmp 200) (.tmp 211) (.const (.bool false)),none⟩,⟨some 197,.assign (.tmp 212),none⟩]
def c164_r30:List SOp:=[⟨some 213,.move (.tmp 0),none⟩,⟨some 214,.nilCheck (.tmp 213),none⟩,⟨some 215,.fieldAddr 329 (.tmp 214) 3,none⟩,⟨some 216,.load 3 (.tmp 215),none⟩,⟨some 217,.move (.tmp 0),none⟩,⟨some 218,.nilCheck (.tmp 217),none⟩,⟨some 219,.fieldAddr 329 (.tmp 218) 5,none⟩,⟨some 220,.load 9 (.tmp 219),none⟩,⟨some 221,.call ⟨.builtin .len, #[.tmp 220],#[9]⟩,none⟩,⟨some 222,.binOp .sub 3 (.tmp 216) (.tmp 221) 3,none⟩,⟨some 17,.assign (.tmp 222),none⟩]
def c164_r31:List SOp:=[⟨some 223,.move (.tmp 9),none⟩,⟨some 224,.move (.tmp 0),none⟩,⟨some 225,.nilCheck (.tmp 224),none⟩,⟨some 226,.fieldAddr 329 (.tmp 225) 5,none⟩,⟨some 227,.load 9 (.tmp 226),none⟩,⟨some 228,.move (.tmp 9),none⟩,⟨some 229,.move (.tmp 17),none⟩,⟨some 230,.binOp .sub 3 (.tmp 228) (.tmp 229) 3,none⟩,⟨some 231,.move (.tmp 10),none⟩,⟨some 232,.move (.tmp 17),none⟩,⟨some 233,.binOp .sub 3 (.tmp 231) (.tmp 232) 3,none⟩,⟨some 234,.slice 9 (.tmp 227) (some (.tmp 230)) (some (.tmp 233)) none,none⟩,⟨some 235,.move (.tmp 3),none⟩,⟨some 236,.move (.tmp 235),none⟩,⟨some 237,.move (.tmp 0),some (some 236,true)⟩,⟨some 238,.nilCheck (.tmp 237),some (some 236,true)⟩,⟨some 239,.fieldAddr 329 (.tmp 238) 7,some (some 236,true)⟩,⟨some 240,.load 4 (.tmp 239),some (some 236,true)⟩,⟨some 241,.pick (.tmp 236) (.tmp 240) (.const (.bool false)),none⟩,⟨some 242,.move (.tmp 241),none⟩,⟨some 243,.move (.tmp 10),some (some 242,true)⟩,⟨some 244,.move (.tmp 0),some (some 242,true)⟩,⟨some 245,.nilCheck (.tmp 244),some (some 242,true)⟩,⟨some 246,.fieldAddr 329 (.tmp 245) 6,some (some 242,true)⟩,⟨some 247,.load 3 (.tmp 246),some (some 242,true)⟩,⟨some 248,.binOp .eql 3 (.tmp 243) (.tmp 247) 3,some (some 242,true)⟩,⟨some 249,.pick (.tmp 242) (.tmp 248) (.const (.bool false)),none⟩,⟨some 250,.build 273 #[(0, (.const (.int .i64 2))), (1, (.tmp 223)), (2, (.tmp 234)), (3, (.tmp 249))],none⟩,⟨none,.store 273 (.tmp 8) (.tmp 250),none⟩]
def c164_r32:List SOp:=[⟨some 251,.build 273 #[(0, (.const (.int .i64 3)))],none⟩,⟨none,.store 273 (.tmp 8) (.tmp 251),none⟩]
def c164:SC:=(.seq (.reg c164_r0 none (some [0,1,2,3,8])) (.seq (.reg c164_r1 none (some [0,2,3,8,9])) (.seq (.reg c164_r2 none (some [0,2,3,8,9,10])) (.seq (.seq (.reg c164_r3 none (some [0,2,3,8,9,10,37])) (.cond (.tmp 37) (.seq (.reg c164_r4 none (some [8])) .ret) .skip (some [0,2,3,8,9,10]))) (.seq (.seq (.reg c164_r5 none (some [0,2,3,8,9,10,43])) (.cond (.tmp 43) (.seq (.reg c164_r6 none (some [0,2,3,8,9,10])) (.seq (.reg c164_r7 none (some [0,2,3,8,9,10,58])) (.cond (.tmp 58) (.seq (.reg c164_r8 none (some [0,2,3,8,9,10])) (.reg c164_r9 none (some [0,2,3,8,9,10]))) .skip (some [0,2,3,8,9,10])))) .skip (some [0,2,3,8,9,10]))) (.seq (.seq (.reg c164_r10 none (some [0,2,3,8,9,10,80])) (.cond (.tmp 80) (.seq (.reg c164_r11 none (some [8])) .ret) .skip (some [0,2,3,8,9,10]))) (.seq (.seq (.reg c164_r12 none (some [0,2,3,8,9,10,103])) (.cond (.tmp 103) (.reg c164_r13 none (some [0,2,3,8,9,10])) .skip (some [0,2,3,8,9,10]))) (.seq (.seq (.reg c164_r14 none (some [0,2,3,8,9,10,109,110])) (.block 0 (.loop c164_l15 (some [0,2,3,8,9,10,109,110])))) (.seq (.reg c164_r21 none (some [0,3,8,9,10,14])) (.seq (.reg c164_r22 none (some [0,3,8,9,10,14,15])) (.seq (.reg c164_r23 none (some [0,3,8,9,10,14,15,16])) (.seq (.reg c164_r24 none (some [0,3,8,9,10,14,15,16])) (.seq (.block 2 (.seq (.reg c164_r25 none (some [0,3,8,9,10,14,15,16,179])) (.cond (.tmp 179) (.seq (.reg c164_r26 none (some [8])) .ret) (.seq (.reg c164_r27 none (some [0,3,8,9,10,189])) (.cond (.tmp 189) (.seq (.reg c164_r28 none (some [8])) .ret) (.seq (.reg c164_r29 none (some [0,3,8,9,10,197])) (.cond (.tmp 197) (.seq (.reg c164_r30 none (some [0,3,8,9,10,17])) (.seq (.reg c164_r31 none (some [8])) .ret)) .skip (some [8]))) (some [8]))) (some [8])))) (.seq (.reg c164_r32 none (some [8])) .ret))))))))))))))
theorem c164_eq : ∃ code, Tryz.f164.body = some code ∧ compile H164 code = c164 :=⟨_,rfl,by kernel_rfl⟩
theorem c164_fn : Tryz.prog.funcs[164]? = some Tryz.f164:=by kernel_rfl
theorem c164_rs : Tryz.f164.results.toList = [.cell 8 273]:=by kernel_rfl
theorem c164_ok : fnB Tryz.prog H164 Tryz.f164 = true:=by kernel_rfl
theorem c164_nt : Tryz.f164.ntmps = 252:=by kernel_rfl
def H165:Hint:=⟨[(6,[10]),(5,[0,1,3,11]),(2000035,[0,1,3,11]),(4,[0,1,3,11,35]),(3,[0,1,3,4,11]),(2,[0,1,3,4,11]),(1,[0,1,2,3,4,11]),(0,[0,1,2,3,4])],[]⟩
def c165_r0:List SOp:=[⟨some 10,.assign (.const (.bool false)),none⟩]
def c165_r1:List SOp:=[⟨some 12,.move (.tmp 1),none⟩,⟨some 13,.nilCheck (.tmp 12),none⟩,⟨some 14,.fieldAddr 130 (.tmp 13) 5,none⟩,⟨some 15,.load 56 (.tmp 14),none⟩,⟨some 11,.alloc 56,none⟩,⟨none,.store 56 (.tmp 11) (.tmp 15),none⟩]
def c165_r2:List SOp:=[⟨some 16,.move (.tmp 1),none⟩,⟨some 17,.nilCheck (.tmp 16),none⟩,⟨some 18,.fieldAddr 130 (.tmp 17) 11,none⟩,⟨some 19,.load 128 (.tmp 18),none⟩,⟨some 20,.move (.tmp 1),none⟩,⟨some 21,.nilCheck (.tmp 20),none⟩,⟨some 22,.fieldAddr 130 (.tmp 21) 9,none⟩,⟨some 23,.load 3 (.tmp 22),none⟩,⟨some 24,.nilCheck (.tmp 19),none⟩,⟨some 25,.fieldAddr 190 (.tmp 24) 3,none⟩,⟨some 26,.indexAddr 186 (.tmp 25) (.tmp 23),none⟩,⟨some 27,.load 185 (.tmp 26),none⟩,⟨some 28,.move (.tmp 2),none⟩,⟨some 29,.call ⟨.value (.func 161),#[.tmp 27,.tmp 28],#[185,3]⟩,none⟩,⟨some 30,.fieldAddr 56 (.tmp 11) 2,none⟩,⟨none,.store 28 (.tmp 30) (.tmp 29),none⟩]
def c165_r3:List SOp:=[⟨some 31,.fieldAddr 56 (.tmp 11) 4,none⟩,⟨some 32,.load 3 (.tmp 31),none⟩,⟨some 33,.binOp .andNot 3 (.tmp 32) (.const (.int .i64 1)) 3,none⟩,⟨some 34,.fieldAddr 56 (.tmp 11) 4,none⟩,⟨none,.store 3 (.tmp 34) (.tmp 33),none⟩]
def c165_r4:List SOp:=[⟨some 35,.move (.tmp 4),none⟩]
def c165_r5:List SOp:=[⟨some 36,.fieldAddr 56 (.tmp 11) 4,none⟩,⟨some 37,.load 3 (.tmp 36),none⟩,⟨some 38,.binOp .or 3 (.tmp 37) (.const (.int .i64 1)) 3,none⟩,⟨some 39,.fieldAddr 56 (.tmp 11) 4,none⟩,⟨none,.store 3 (.tmp 39) (.tmp 38),none⟩]
def c165_r6:List SOp:=[⟨some 40,.move (.tmp 0),none⟩,⟨some 41,.move (.tmp 1),none⟩,⟨some 42,.move (.tmp 1),none⟩,⟨some 43,.nilCheck (.tmp 42),none⟩,⟨some 44,.fieldAddr 130 (.tmp 43) 2,none⟩,⟨some 45,.load 60 (.tmp 44),none⟩,⟨some 46,.move (.tmp 1),none⟩,⟨some 47,.nilCheck (.tmp 46),none⟩,⟨some 48,.fieldAddr 130 (.tmp 47) 3,none⟩,⟨some 49,.load 63 (.tmp 48),none⟩,⟨some 50,.load 56 (.tmp 11),none⟩,⟨some 51,.move (.tmp 3),none⟩,⟨some 52,.call ⟨.value (.func 210),#[.tmp 45,.tmp 49,.tmp 50,.tmp 51],#[60,63,56,9]⟩,none⟩,⟨some 53,.call ⟨.value (.func 86),#[.tmp 40,.tmp 41,.tmp 52],#[65,127,9]⟩,none⟩,⟨some 10,.assign (.tmp 53),none⟩]
def c165:SC:=(.seq (.reg c165_r0 none (some [0,1,2,3,4])) (.seq (.reg c165_r1 none (some [0,1,2,3,4,11])) (.seq (.reg c165_r2 none (some [0,1,3,4,11])) (.seq (.reg c165_r3 none (some [0,1,3,4,11])) (.seq (.seq (.reg c165_r4 none (some [0,1,3,11,35])) (.cond (.tmp 35) (.reg c165_r5 none (some [0,1,3,11])) .skip (some [0,1,3,11]))) (.seq (.reg c165_r6 none (some [10])) .ret))))))
theorem c165_eq : ∃ code, Tryz.f165.body = some code ∧ compile H165 code = c165 :=⟨_,rfl,by kernel_rfl⟩
theorem c165_fn : Tryz.prog.funcs[165]? = some Tryz.f165:=by kernel_rfl
theorem c165_rs : Tryz.f165.results.toList = [.tmp 10]:=by kernel_rfl
theorem c165_ok : fnB Tryz.prog H165 Tryz.f165 = true:=by kernel_rfl
theorem c165_nt : Tryz.f165.ntmps = 54:=by kernel_rfl
def H166:Hint:=⟨[(14,[6]),(13,[]),(2000082,[]),(12,[0,1,82]),(11,[0,1,7]),(10,[0,1,5,7,18,19,20]),(9,[6]),(8,[]),(2000043,[0,1,5,7,18,19,20]),(7,[0,1,5,7,11,18,19,20,43]),(6,[0,1,5,7,11,18,19,20]),(5,[0,1,5,7,10,11,18,19,20]),(4,[0,1,5,7,9,18,19,20]),(2000021,[0,1,5,7,18,19,20]),(3,[0,1,5,7,18,19,20,21]),(1000003,[0,1,5,7,18,19,20]),(2,[0,1,5,7,18,19,20]),(1,[0,1,5,7]),(0,[0,1,5])],[(8,[(13,12)])]⟩
def c166_r0:List SOp:=[⟨some 5,.box 273 (.tmp 2),none⟩,⟨some 6,.assign (.const (.bool false)),none⟩]
def c166_r1:List SOp:=[⟨some 12,.move (.tmp 1),none⟩,⟨some 13,.nilCheck (.tmp 12),none⟩,⟨some 14,.fieldAddr 130 (.tmp 13) 11,none⟩,⟨some 15,.load 128 (.tmp 14),none⟩,⟨some 7,.assign (.tmp 15),none⟩]
def c166_r2:List SOp:=[⟨some 16,.fieldAddr 273 (.tmp 5) 2,none⟩,⟨some 17,.load 9 (.tmp 16),none⟩,⟨some 18,.convert 9 54 (.tmp 17),none⟩,⟨some 19,.call ⟨.builtin .len, #[.tmp 18],#[54]⟩,none⟩,⟨some 20,.move (.const (.int .i64 0)),none⟩]
def c166_r3:List SOp:=[⟨some 21,.binOp .lss 3 (.tmp 20) (.tmp 19) 3,none⟩]
def c166_r4:List SOp:=[⟨some 22,.indexAddr 54 (.tmp 18) (.tmp 20),none⟩,⟨some 23,.load 5 (.tmp 22),none⟩,⟨some 9,.assign (.tmp 23),none⟩]
def c166_r5:List SOp:=[⟨some 25,.move (.tmp 7),none⟩,⟨some 26,.move (.tmp 1),none⟩,⟨some 27,.nilCheck (.tmp 26),none⟩,⟨some 28,.fieldAddr 130 (.tmp 27) 9,none⟩,⟨some 29,.load 3 (.tmp 28),none⟩,⟨some 30,.nilCheck (.tmp 25),none⟩,⟨some 31,.fieldAddr 190 (.tmp 30) 4,none⟩,⟨some 32,.indexAddr 188 (.tmp 31) (.tmp 29),none⟩,⟨some 33,.load 187 (.tmp 32),none⟩,⟨some 34,.move (.tmp 9),none⟩,⟨some 35,.call ⟨.value (.func 99),#[.tmp 33,.tmp 34],#[187,5]⟩,none⟩,⟨some 24,.move (.tmp 35),none⟩,⟨some 36,.extract (.tmp 24) 0,none⟩,⟨some 37,.extract (.tmp 24) 1,none⟩,⟨some 10,.assign (.tmp 36),none⟩,⟨some 11,.assign (.tmp 37),none⟩]
def c166_r6:List SOp:=[⟨some 38,.move (.tmp 0),none⟩,⟨some 39,.move (.tmp 1),none⟩,⟨some 40,.move (.tmp 10),none⟩,⟨some 41,.call ⟨.value (.func 97),#[.tmp 38,.tmp 39,.tmp 40],#[65,127,46]⟩,none⟩]
def c166_r7:List SOp:=[⟨some 42,.move (.tmp 11),none⟩,⟨some 43,.call ⟨.value (.func 98),#[(.tmp 42),(.const (.int .i64 1))],#[3,3]⟩,none⟩]
def c166_r8:List SOp:=[⟨some 44,.move (.tmp 0),none⟩,⟨some 45,.move (.tmp 1),none⟩,⟨some 46,.move (.tmp 11),none⟩,⟨some 47,.move (.tmp 7),none⟩,⟨some 48,.move (.tmp 1),none⟩,⟨some 49,.nilCheck (.tmp 48),none⟩,⟨some 50,.fieldAddr 130 (.tmp 49) 9,none⟩,⟨some 51,.load 3 (.tmp 50),none⟩,⟨some 52,.nilCheck (.tmp 47),none⟩,⟨some 53,.fieldAddr 190 (.tmp 52) 4,none⟩,⟨some 54,.indexAddr 188 (.tmp 53) (.tmp 51),none⟩,⟨some 55,.load 187 (.tmp 54),none⟩,⟨some 56,.call ⟨.value (.func 214),#[.tmp 55],#[187]⟩,none⟩,⟨some 57,.load 273 (.tmp 5),none⟩,⟨some 58,.call ⟨.value (.func 159),#[.tmp 44,.tmp 45,.tmp 46,.tmp 56,.tmp 57],#[65,127,3,3,273]⟩,none⟩]
def c166_r9:List SOp:=[⟨some 6,.assign (.const (.bool false)),none⟩]
def c166_r10:List SOp:=[⟨some 59,.binOp .add 3 (.tmp 20) (.const (.int .i64 1)) 3,none⟩,⟨some 20,.move (.tmp 59),none⟩]
def c166_l3:SC:=(.seq (.reg c166_r3 none (some [0,1,5,7,18,19,20,21])) (.seq (.cond (.tmp 21) .skip (.exit 0) (some [0,1,5,7,18,19,20])) (.seq (.block 1 (.seq (.reg c166_r4 none (some [0,1,5,7,9,18,19,20])) (.seq (.reg c166_r5 none (some [0,1,5,7,10,11,18,19,20])) (.seq (.reg c166_r6 none (some [0,1,5,7,11,18,19,20])) (.seq (.reg c166_r7 none (some [0,1,5,7,11,18,19,20,43])) (.cond (.tmp 43) (.seq (.reg c166_r8 (some [(13, 12)]) (some [])) (.seq (.reg c166_r9 none (some [6])) .ret)) .skip (some [0,1,5,7,18,19,20]))))))) (.reg c166_r10 none (some [0,1,5,7,18,19,20])))))
def c166_r11:List SOp:=[⟨some 60,.move (.tmp 0),none⟩,⟨some 61,.move (.tmp 1),none⟩,⟨some 62,.fieldAddr 273 (.tmp 5) 1,none⟩,⟨some 63,.load 3 (.tmp 62),none⟩,⟨some 64,.fieldAddr 273 (.tmp 5) 2,none⟩,⟨some 65,.load 9 (.tmp 64),none⟩,⟨some 66,.fieldAddr 273 (.tmp 5) 3,none⟩,⟨some 67,.load 4 (.tmp 66),none⟩,⟨some 68,.call ⟨.value (.func 165),#[.tmp 60,.tmp 61,.tmp 63,.tmp 65,.tmp 67],#[65,127,3,9,4]⟩,none⟩]
def c166_r12:List SOp:=[⟨some 69,.move (.tmp 7),none⟩,⟨some 70,.nilCheck (.tmp 69),none⟩,⟨some 71,.fieldAddr 190 (.tmp 70) 3,none⟩,⟨some 72,.indexAddr 186 (.tmp 71) (.const (.int .i64 0)),none⟩,⟨some 73,.load 185 (.tmp 72),none⟩,⟨some 74,.call ⟨.value (.func 215),#[.tmp 73],#[185]⟩,none⟩,⟨some 75,.move (.tmp 74),none⟩,⟨some 76,.move (.tmp 7),some (some 75,true)⟩,⟨some 77,.nilCheck (.tmp 76),some (some 75,true)⟩,⟨some 78,.fieldAddr 190 (.tmp 77) 3,some (some 75,true)⟩,⟨some 79,.indexAddr 186 (.tmp 78) (.const (.int .i64 1)),some (some 75,true)⟩,⟨some 80,.load 185 (.tmp 79),some (some 75,true)⟩,⟨some 81,.call ⟨.value (.func 215),#[.tmp 80],#[185]⟩,some (some 75,true)⟩,⟨some 82,.pick (.tmp 75) (.tmp 81) (.const (.bool false)),none⟩]
def c166_r13:List SOp:=[⟨some 83,.move (.tmp 0),none⟩,⟨some 84,.move (.tmp 1),none⟩,⟨some 85,.call ⟨.value (.func 163),#[.tmp 83,.tmp 84],#[65,127]⟩,none⟩]
def c166_r14:List SOp:=[⟨some 6,.assign (.const (.bool false)),none⟩]
def c166:SC:=(.seq (.reg c166_r0 none (some [0,1,5])) (.seq (.reg c166_r1 none (some [0,1,5,7])) (.seq (.seq (.reg c166_r2 none (some [0,1,5,7,18,19,20])) (.block 0 (.loop c166_l3 (some [0,1,5,7,18,19,20])))) (.seq (.reg c166_r11 none (some [0,1,7])) (.seq (.seq (.reg c166_r12 none (some [0,1,82])) (.cond (.tmp 82) (.reg c166_r13 none (some [])) .skip (some []))) (.seq (.reg c166_r14 none (some [6])) .ret))))))
theorem c166_eq : ∃ code, Tryz.f166.body = some code ∧ compile H166 code = c166 :=⟨_,rfl,by kernel_rfl⟩
theorem c166_fn : Tryz.prog.funcs[166]? = some Tryz.f166:=by kernel_rfl
theorem c166_rs : Tryz.f166.results.toList = [.tmp 6]:=by kernel_rfl
theorem c166_ok : fnB Tryz.prog H166 Tryz.f166 = true:=by kernel_rfl
theorem c166_nt : Tryz.f166.ntmps = 86:=by kernel_rfl
def H178:Hint:=⟨[(3,[2]),(2,[2]),(2000004,[0]),(1,[0,4]),(0,[0])],[]⟩
def c178_r0:List SOp:=[⟨some 2,.assign (.const (.slice none 0 0)),none⟩]
def c178_r1:List SOp:=[⟨some 3,.move (.tmp 0),none⟩,⟨some 4,.binOp .eql 22 (.tmp 3) (.const (.slice none 0 0)) 22,none⟩]
def c178_r2:List SOp:=[⟨some 2,.assign (.const (.slice none 0 0)),none⟩]
def c178_r3:List SOp:=[⟨some 5,.buildSlice 22 0 #[],none⟩,⟨some 6,.move (.tmp 0),none⟩,⟨some 7,.call ⟨.builtin .append, #[.tmp 5,.tmp 6],#[22,22]⟩,none⟩,⟨some 2,.assign (.tmp 7),none⟩]
def c178:SC:=(.seq (.reg c178_r0 none (some [0])) (.seq (.seq (.reg c178_r1 none (some [0,4])) (.cond (.tmp 4) (.seq (.reg c178_r2 none (some [2])) .ret) .skip (some [0]))) (.seq (.reg c178_r3 none (some [2])) .ret)))
theorem c178_eq : ∃ code, Tryz.f178.body = some code ∧ compile H178 code = c178 :=⟨_,rfl,by kernel_rfl⟩
theorem c178_fn : Tryz.prog.funcs[178]? = some Tryz.f178:=by kernel_rfl
theorem c178_rs : Tryz.f178.results.toList = [.tmp 2]:=by kernel_rfl
theorem c178_ok : fnB Tryz.prog H178 Tryz.f178 = true:=by kernel_rfl
theorem c178_nt : Tryz.f178.ntmps = 8:=by kernel_rfl
def H179:Hint:=⟨[(3,[4]),(2,[4]),(2000007,[0,1]),(1,[0,1,7]),(0,[0,1])],[]⟩
def c179_r0:List SOp:=[⟨some 4,.assign (.const (.slice none 0 0)),none⟩]
def c179_r1:List SOp:=[⟨some 5,.move (.tmp 0),none⟩,⟨some 6,.move (.tmp 1),none⟩,⟨some 7,.call ⟨.value (.func 233),#[.tmp 5,.tmp 6],#[218,3]⟩,none⟩]
def c179_r2:List SOp:=[⟨some 4,.assign (.const (.slice none 0 0)),none⟩]
def c179_r3:List SOp:=[⟨some 8,.move (.tmp 0),none⟩,⟨some 9,.nilCheck (.tmp 8),none⟩,⟨some 10,.fieldAddr 294 (.tmp 9) 2,none⟩,⟨some 11,.load 221 (.tmp 10),none⟩,⟨some 12,.move (.tmp 1),none⟩,⟨some 13,.indexAddr 221 (.tmp 11) (.tmp 12),none⟩,⟨some 14,.load 22 (.tmp 13),none⟩,⟨some 15,.call ⟨.value (.func 178),#[.tmp 14],#[22]⟩,none⟩,⟨some 4,.assign (.tmp 15),none⟩]
def c179:SC:=(.seq (.reg c179_r0 none (some [0,1])) (.seq (.seq (.reg c179_r1 none (some [0,1,7])) (.cond (.tmp 7) (.seq (.reg c179_r2 none (some [4])) .ret) .skip (some [0,1]))) (.seq (.reg c179_r3 none (some [4])) .ret)))
theorem c179_eq : ∃ code, Tryz.f179.body = some code ∧ compile H179 code = c179 :=⟨_,rfl,by kernel_rfl⟩
theorem c179_fn : Tryz.prog.funcs[179]? = some Tryz.f179:=by kernel_rfl
theorem c179_rs : Tryz.f179.results.toList = [.tmp 4]:=by kernel_rfl
theorem c179_ok : fnB Tryz.prog H179 Tryz.f179 = true:=by kernel_rfl
theorem c179_nt : Tryz.f179.ntmps = 16:=by kernel_rfl
def H180:Hint:=⟨[(2,[6,7]),(1,[8,9]),(0,[0,1,2])],[]⟩
def c180_r0:List SOp:=[⟨some 6,.assign (.const (.int .i64 0)),none⟩,⟨some 7,.assign (.const (.bool false)),none⟩]
def c180_r1:List SOp:=[⟨some 11,.move (.tmp 0),none⟩,⟨some 12,.nilCheck (.tmp 11),none⟩,⟨some 13,.fieldAddr 294 (.tmp 12) 0,none⟩,⟨some 14,.load 291 (.tmp 13),none⟩,⟨some 15,.move (.tmp 1),none⟩,⟨some 16,.move (.tmp 2),none⟩,⟨some 17,.build 296 #[(0, (.tmp 15)), (1, (.tmp 16))],none⟩,⟨some 18,.lookup 291 (.tmp 14) (.tmp 17) true,none⟩,⟨some 10,.move (.tmp 18),none⟩,⟨some 19,.extract (.tmp 10) 0,none⟩,⟨some 20,.extract (.tmp 10) 1,none⟩,⟨some 8,.assign (.tmp 19),none⟩,⟨some 9,.assign (.tmp 20),none⟩]
def c180_r2:List SOp:=[⟨some 21,.move (.tmp 8),none⟩,⟨some 22,.move (.tmp 9),none⟩,⟨some 6,.assign (.tmp 21),none⟩,⟨some 7,.assign (.tmp 22),none⟩]
def c180:SC:=(.seq (.reg c180_r0 none (some [0,1,2])) (.seq (.reg c180_r1 none (some [8,9])) (.seq (.reg c180_r2 none (some [6,7])) .ret)))
theorem c180_eq : ∃ code, Tryz.f180.body = some code ∧ compile H180 code = c180 :=⟨_,rfl,by kernel_rfl⟩
theorem c180_fn : Tryz.prog.funcs[180]? = some Tryz.f180:=by kernel_rfl
theorem c180_rs : Tryz.f180.results.toList = [.tmp 6, .tmp 7]:=by kernel_rfl
theorem c180_ok : fnB Tryz.prog H180 Tryz.f180 = true:=by kernel_rfl
theorem c180_nt : Tryz.f180.ntmps = 23:=by kernel_rfl
def H181:Hint:=⟨[(1,[2]),(0,[0])],[]⟩
def c181_r0:List SOp:=[⟨some 2,.assign (.const (.bool false)),none⟩]
def c181_r1:List SOp:=[⟨some 3,.move (.tmp 0),none⟩,⟨some 4,.call ⟨.builtin .len, #[.tmp 3],#[9]⟩,none⟩,⟨some 5,.binOp .lss 3 (.tmp 4) (.const (.int .i64 20)) 3,none⟩,⟨some 2,.assign (.tmp 5),none⟩]
def c181:SC:=(.seq (.reg c181_r0 none (some [0])) (.seq (.reg c181_r1 none (some [2])) .ret))
theorem c181_eq : ∃ code, Tryz.f181.body = some code ∧ compile H181 code = c181 :=⟨_,rfl,by kernel_rfl⟩
theorem c181_fn : Tryz.prog.funcs[181]? = some Tryz.f181:=by kernel_rfl
theorem c181_rs : Tryz.f181.results.toList = [.tmp 2]:=by kernel_rfl
theorem c181_ok : fnB Tryz.prog H181 Tryz.f181 = true:=by kernel_rfl
theorem c181_nt : Tryz.f181.ntmps = 6:=by kernel_rfl
def H182:Hint:=⟨[(1,[2]),(0,[0])],[]⟩
def c182_r0:List SOp:=[⟨some 2,.assign (.const (.bool false)),none⟩]
def c182_r1:List SOp:=[⟨some 3,.move (.tmp 0),none⟩,⟨some 4,.index 9 (.tmp 3) (.const (.int .i64 0)),none⟩,⟨some 5,.binOp .shr 5 (.tmp 4) (.const (.int .u64 4)) 165,none⟩,⟨some 6,.binOp .neq 5 (.tmp 5) (.const (.int .u8 4)) 5,none⟩,⟨some 7,.move (.tmp 6),none⟩,⟨some 8,.move (.tmp 0),some (some 7,false)⟩,⟨some 9,.call ⟨.value (.func 122),#[.tmp 8],#[9]⟩,some (some 7,false)⟩,⟨some 10,.binOp .lss 3 (.tmp 9) (.const (.int .i64 20)) 3,some (some 7,false)⟩,⟨some 11,.pick (.tmp 7) (.const (.bool true)) (.tmp 10),none⟩,⟨some 2,.assign (.tmp 11),none⟩]
def c182:SC:=(.seq (.reg c182_r0 none (some [0])) (.seq (.reg c182_r1 none (some [2])) .ret))
theorem c182_eq : ∃ code, Tryz.f182.body = some code ∧ compile H182 code = c182 :=⟨_,rfl,by kernel_rfl⟩
theorem c182_fn : Tryz.prog.funcs[182]? = some Tryz.f182:=by kernel_rfl
theorem c182_rs : Tryz.f182.results.toList = [.tmp 2]:=by kernel_rfl
theorem c182_ok : fnB Tryz.prog H182 Tryz.f182 = true:=by kernel_rfl
theorem c182_nt : Tryz.f182.ntmps = 12:=by kernel_rfl
def H183:Hint:=⟨[(1,[2]),(0,[0])],[]⟩
def c183_r0:List SOp:=[⟨some 2,.assign (.const (.bool false)),none⟩]
def c183_r1:List SOp:=[⟨some 3,.move (.tmp 0),none⟩,⟨some 4,.call ⟨.builtin .len, #[.tmp 3],#[9]⟩,none⟩,⟨some 5,.move (.tmp 0),none⟩,⟨some 6,.call ⟨.value (.func 122),#[.tmp 5],#[9]⟩,none⟩,⟨some 7,.binOp .lss 3 (.tmp 4) (.tmp 6) 3,none⟩,⟨some 2,.assign (.tmp 7),none⟩]
def c183:SC:=(.seq (.reg c183_r0 none (some [0])) (.seq (.reg c183_r1 none (some [2])) .ret))
theorem c183_eq : ∃ code, Tryz.f183.body = some code ∧ compile H183 code = c183 :=⟨_,rfl,by kernel_rfl⟩
theorem c183_fn : Tryz.prog.funcs[183]? = some Tryz.f183:=by kernel_rfl
theorem c183_rs : Tryz.f183.results.toList = [.tmp 2]:=by kernel_rfl
theorem c183_ok : fnB Tryz.prog H183 Tryz.f183 = true:=by kernel_rfl
theorem c183_nt : Tryz.f183.ntmps = 8:=by kernel_rfl
def H184:Hint:=⟨[(1,[2]),(0,[0])],[]⟩
def c184_r0:List SOp:=[⟨some 2,.assign (.const (.bool false)),none⟩]
def c184_r1:List SOp:=[⟨some 3,.move (.tmp 0),none⟩,⟨some 4,.call ⟨.value (.func 123),#[.tmp 3],#[9]⟩,none⟩,⟨some 5,.move (.tmp 0),none⟩,⟨some 6,.call ⟨.value (.func 122),#[.tmp 5],#[9]⟩,none⟩,⟨some 7,.binOp .lss 3 (.tmp 4) (.tmp 6) 3,none⟩,⟨some 2,.assign (.tmp 7),none⟩]
def c184:SC:=(.seq (.reg c184_r0 none (some [0])) (.seq (.reg c184_r1 none (some [2])) .ret))
theorem c184_eq : ∃ code, Tryz.f184.body = some code ∧ compile H184 code = c184 :=⟨_,rfl,by kernel_rfl⟩
theorem c184_fn : Tryz.prog.funcs[184]? = some Tryz.f184:=by kernel_rfl
theorem c184_rs : Tryz.f184.results.toList = [.tmp 2]:=by kernel_rfl
theorem c184_ok : fnB Tryz.prog H184 Tryz.f184 = true:=by kernel_rfl
theorem c184_nt : Tryz.f184.ntmps = 8:=by kernel_rfl
def H185:Hint:=⟨[(1,[2]),(0,[0])],[]⟩
def c185_r0:List SOp:=[⟨some 2,.assign (.const (.bool false)),none⟩]
def c185_r1:List SOp:=[⟨some 3,.move (.tmp 0),none⟩,⟨some 4,.call ⟨.builtin .len, #[.tmp 3],#[9]⟩,none⟩,⟨some 5,.move (.tmp 0),none⟩,⟨some 6,.call ⟨.value (.func 123),#[.tmp 5],#[9]⟩,none⟩,⟨some 7,.binOp .lss 3 (.tmp 4) (.tmp 6) 3,none⟩,⟨some 2,.assign (.tmp 7),none⟩]
def c185:SC:=(.seq (.reg c185_r0 none (some [0])) (.seq (.reg c185_r1 none (some [2])) .ret))
theorem c185_eq : ∃ code, Tryz.f185.body = some code ∧ compile H185 code = c185 :=⟨_,rfl,by kernel_rfl⟩
theorem c185_fn : Tryz.prog.funcs[185]? = some Tryz.f185:=by kernel_rfl
theorem c185_rs : Tryz.f185.results.toList = [.tmp 2]:=by kernel_rfl
theorem c185_ok : fnB Tryz.prog H185 Tryz.f185 = true:=by kernel_rfl
theorem c185_nt : Tryz.f185.ntmps = 8:=by kernel_rfl
def H186:Hint:=⟨[(1,[2]),(0,[0])],[]⟩
def c186_r0:List SOp:=[⟨some 2,.assign (.const (.bool false)),none⟩]
def c186_r1:List SOp:=[⟨some 3,.move (.tmp 0),none⟩,⟨some 4,.index 9 (.tmp 3) (.const (.int .i64 6)),none⟩,⟨some 5,.binOp .shr 5 (.tmp 4) (.const (.int .u64 7)) 165,none⟩,⟨some 6,.binOp .eql 5 (.tmp 5) (.const (.int .u8 1)) 5,none⟩,⟨some 2,.assign (.tmp 6),none⟩]
def c186:SC:=(.seq (.reg c186_r0 none (some [0])) (.seq (.reg c186_r1 none (some [2])) .ret))
theorem c186_eq : ∃ code, Tryz.f186.body = some code ∧ compile H186 code = c186 :=⟨_,rfl,by kernel_rfl⟩
theorem c186_fn : Tryz.prog.funcs[186]? = some Tryz.f186:=by kernel_rfl
theorem c186_rs : Tryz.f186.results.toList = [.tmp 2]:=by kernel_rfl
theorem c186_ok : fnB Tryz.prog H186 Tryz.f186 = true:=by kernel_rfl
theorem c186_nt : Tryz.f186.ntmps = 7:=by kernel_rfl
def H187:Hint:=⟨[(1,[2]),(0,[0])],[]⟩
def c187_r0:List SOp:=[⟨some 2,.assign (.const (.bool false)),none⟩]
def c187_r1:List SOp:=[⟨some 3,.move (.tmp 0),none⟩,⟨some 4,.call ⟨.value (.func 123),#[.tmp 3],#[9]⟩,none⟩,⟨some 5,.move (.tmp 0),none⟩,⟨some 6,.call ⟨.value (.func 122),#[.tmp 5],#[9]⟩,none⟩,⟨some 7,.binOp .sub 3 (.tmp 4) (.tmp 6) 3,none⟩,⟨some 8,.binOp .gtr 3 (.tmp 7) (.const (.int .i64 2000)) 3,none⟩,⟨some 2,.assign (.tmp 8),none⟩]
def c187:SC:=(.seq (.reg c187_r0 none (some [0])) (.seq (.reg c187_r1 none (some [2])) .ret))
theorem c187_eq : ∃ code, Tryz.f187.body = some code ∧ compile H187 code = c187 :=⟨_,rfl,by kernel_rfl⟩
theorem c187_fn : Tryz.prog.funcs[187]? = some Tryz.f187:=by kernel_rfl
theorem c187_rs : Tryz.f187.results.toList = [.tmp 2]:=by kernel_rfl
theorem c187_ok : fnB Tryz.prog H187 Tryz.f187 = true:=by kernel_rfl
theorem c187_nt : Tryz.f187.ntmps = 9:=by kernel_rfl
def H188:Hint:=⟨[(1,[2]),(0,[0])],[]⟩
def c188_r0:List SOp:=[⟨some 2,.assign (.const (.bool false)),none⟩]
def c188_r1:List SOp:=[⟨some 3,.move (.tmp 0),none⟩,⟨some 4,.move (.tmp 0),none⟩,⟨some 5,.call ⟨.value (.func 122),#[.tmp 4],#[9]⟩,none⟩,⟨some 6,.slice 9 (.tmp 3) none (some (.tmp 5)) none,none⟩,⟨some 7,.buildSlice 138 1 #[(0, (.tmp 6))],none⟩,⟨some 8,.call ⟨.value (.func 131),#[.tmp 7],#[138]⟩,none⟩,⟨some 9,.binOp .neq 3 (.tmp 8) (.const (.int .i64 0)) 3,none⟩,⟨some 2,.assign (.tmp 9),none⟩]
def c188:SC:=(.seq (.reg c188_r0 none (some [0])) (.seq (.reg c188_r1 none (some [2])) .ret))
theorem c188_eq : ∃ code, Tryz.f188.body = some code ∧ compile H188 code = c188 :=⟨_,rfl,by kernel_rfl⟩
theorem c188_fn : Tryz.prog.funcs[188]? = some Tryz.f188:=by kernel_rfl
theorem c188_rs : Tryz.f188.results.toList = [.tmp 2]:=by kernel_rfl
theorem c188_ok : fnB Tryz.prog H188 Tryz.f188 = true:=by kernel_rfl
theorem c188_nt : Tryz.f188.ntmps = 10:=by kernel_rfl
def H189:Hint:=⟨[(1,[4]),(0,[1,2])],[(1,[(5,3)])]⟩
def c189_r0:List SOp:=[⟨some 2,.box 231 (.tmp 0),none⟩,⟨some 4,.assign (.const (.string ⟨#[]⟩)),none⟩]
def c189_r1:List SOp:=[⟨some 5,.fieldAddr 231 (.tmp 2) 1,none⟩,⟨some 6,.load 28 (.tmp 5),none⟩,⟨some 7,.convert 28 3 (.tmp 6),none⟩,⟨some 8,.call ⟨.value (.func 191),#[(.tmp 7),(.const (.int .i64 4))],#[3,3]⟩,none⟩,⟨some 9,.fieldAddr 231 (.tmp 2) 2,none⟩,⟨some 10,.load 28 (.tmp 9),none⟩,⟨some 11,.convert 28 3 (.tmp 10),none⟩,⟨some 12,.call ⟨.value (.func 191),#[(.tmp 11),(.const (.int .i64 4))],#[3,3]⟩,none⟩,⟨some 13,.binOp .add 9 (.tmp 8) (.tmp 12) 9,none⟩,⟨some 14,.binOp .add 9 (.tmp 13) (.const (.string ⟨#[0]⟩)) 9,none⟩,⟨some 15,.call ⟨.value (.func 191),#[(.const (.int .i64 6)),(.const (.int .i64 1))],#[3,3]⟩,none⟩,⟨some 16,.binOp .add 9 (.tmp 14) (.tmp 15) 9,none⟩,⟨some 17,.move (.tmp 1),none⟩,⟨some 18,.call ⟨.value (.func 191),#[(.tmp 17),(.const (.int .i64 2))],#[3,3]⟩,none⟩,⟨some 19,.binOp .add 9 (.tmp 16) (.tmp 18) 9,none⟩,⟨some 4,.assign (.tmp 19),none⟩]
def c189:SC:=(.seq (.reg c189_r0 none (some [1,2])) (.seq (.reg c189_r1 (some [(5, 3)]) (some [4])) .ret))
theorem c189_eq : ∃ code, Tryz.f189.body = some code ∧ compile H189 code = c189 :=⟨_,rfl,by kernel_rfl⟩
theorem c189_fn : Tryz.prog.funcs[189]? = some Tryz.f189:=by kernel_rfl
theorem c189_rs : Tryz.f189.results.toList = [.tmp 4]:=by kernel_rfl
theorem c189_ok : fnB Tryz.prog H189 Tryz.f189 = true:=by kernel_rfl
theorem c189_nt : Tryz.f189.ntmps = 20:=by kernel_rfl
def H190:Hint:=⟨[(3,[2]),(2,[0]),(2000004,[0]),(1,[0,4]),(1000001,[0]),(0,[0])],[]⟩
def c190_r0:List SOp:=[⟨some 2,.assign (.const (.int .i64 0)),none⟩]
def c190_r1:List SOp:=[⟨some 3,.move (.tmp 0),none⟩,⟨some 4,.binOp .gtr 3 (.tmp 3) (.const (.int .i64 65535)) 3,none⟩]
def c190_r2:List SOp:=[⟨some 5,.move (.tmp 0),none⟩,⟨some 6,.binOp .and 3 (.tmp 5) (.const (.int .i64 65535)) 3,none⟩,⟨some 7,.move (.tmp 0),none⟩,⟨some 8,.binOp .shr 3 (.tmp 7) (.const (.int .u64 16)) 165,none⟩,⟨some 9,.binOp .add 3 (.tmp 6) (.tmp 8) 3,none⟩,⟨some 0,.assign (.tmp 9),none⟩]
def c190_l1:SC:=(.seq (.seq (.reg c190_r1 none (some [0,4])) (.cond (.tmp 4) .skip (.exit 0) (some [0]))) (.block 1 (.reg c190_r2 none (some [0]))))
def c190_r3:List SOp:=[⟨some 10,.move (.tmp 0),none⟩,⟨some 2,.assign (.tmp 10),none⟩]
def c190:SC:=(.seq (.reg c190_r0 none (some [0])) (.seq (.block 0 (.loop c190_l1 (some [0]))) (.seq (.reg c190_r3 none (some [2])) .ret)))
theorem c190_eq : ∃ code, Tryz.f190.body = some code ∧ compile H190 code = c190 :=⟨_,rfl,by kernel_rfl⟩
theorem c190_fn : Tryz.prog.funcs[190]? = some Tryz.f190:=by kernel_rfl
theorem c190_rs : Tryz.f190.results.toList = [.tmp 2]:=by kernel_rfl
theorem c190_ok : fnB Tryz.prog H190 Tryz.f190 = true:=by kernel_rfl
theorem c190_nt : Tryz.f190.ntmps = 11:=by kernel_rfl
def H191:Hint:=⟨[(8,[4]),(7,[0,1,5,13,14]),(6,[0,1,5,13,14]),(5,[0,1,5,6,13,14]),(2000015,[0,1,5,13,14]),(4,[0,1,5,13,14,15]),(1000004,[0,1,5,13,14]),(3,[0,1,5,13,14]),(2,[0,1,5]),(1,[0,1]),(0,[0,1])],[]⟩
def c191_r0:List SOp:=[⟨some 4,.assign (.const (.string ⟨#[]⟩)),none⟩]
def c191_r1:List SOp:=[⟨some 7,.move (.tmp 1),none⟩,⟨some 8,.call ⟨.builtin .min, #[(.tmp 7),(.const (.int .i64 8))],#[3,3]⟩,none⟩,⟨some 9,.call ⟨.builtin .max, #[(.const (.int .i64 0)),(.tmp 8)],#[3,3]⟩,none⟩,⟨some 1,.assign (.tmp 9),none⟩]
def c191_r2:List SOp:=[⟨some 10,.move (.tmp 1),none⟩,⟨some 11,.makeSlice 54 (.tmp 10) (.tmp 10),none⟩,⟨some 5,.assign (.tmp 11),none⟩]
def c191_r3:List SOp:=[⟨some 12,.move (.tmp 5),none⟩,⟨some 13,.call ⟨.builtin .len, #[.tmp 12],#[54]⟩,none⟩,⟨some 14,.move (.const (.int .i64 0)),none⟩]
def c191_r4:List SOp:=[⟨some 15,.binOp .lss 3 (.tmp 14) (.tmp 13) 3,none⟩]
def c191_r5:List SOp:=[⟨some 16,.move (.tmp 14),none⟩,⟨some 6,.assign (.tmp 16),none⟩]
def c191_r6:List SOp:=[⟨some 17,.move (.tmp 5),none⟩,⟨some 18,.move (.tmp 1),none⟩,⟨some 19,.binOp .sub 3 (.tmp 18) (.const (.int .i64 1)) 3,none⟩,⟨some 20,.move (.tmp 6),none⟩,⟨some 21,.binOp .sub 3 (.tmp 19) (.tmp 20) 3,none⟩,⟨some 22,.move (.tmp 0),none⟩,⟨some 23,.move (.tmp 6),none⟩,⟨some 24,.binOp .mul 3 (.const (.int .i64 8)) (.tmp 23) 3,none⟩,⟨some 25,.binOp .shr 3 (.tmp 22) (.tmp 24) 3,none⟩,⟨some 26,.convert 3 5 (.tmp 25),none⟩,⟨some 27,.indexAddr 54 (.tmp 17) (.tmp 21),none⟩,⟨none,.store 5 (.tmp 27) (.tmp 26),none⟩]
def c191_r7:List SOp:=[⟨some 28,.binOp .add 3 (.tmp 14) (.const (.int .i64 1)) 3,none⟩,⟨some 14,.move (.tmp 28),none⟩]
def c191_l4:SC:=(.seq (.reg c191_r4 none (some [0,1,5,13,14,15])) (.seq (.cond (.tmp 15) .skip (.exit 0) (some [0,1,5,13,14])) (.seq (.block 1 (.seq (.reg c191_r5 none (some [0,1,5,6,13,14])) (.reg c191_r6 none (some [0,1,5,13,14])))) (.reg c191_r7 none (some [0,1,5,13,14])))))
def c191_r8:List SOp:=[⟨some 29,.move (.tmp 5),none⟩,⟨some 30,.convert 54 9 (.tmp 29),none⟩,⟨some 4,.assign (.tmp 30),none⟩]
def c191:SC:=(.seq (.reg c191_r0 none (some [0,1])) (.seq (.reg c191_r1 none (some [0,1])) (.seq (.reg c191_r2 none (some [0,1,5])) (.seq (.seq (.reg c191_r3 none (some [0,1,5,13,14])) (.block 0 (.loop c191_l4 (some [0,1,5,13,14])))) (.seq (.reg c191_r8 none (some [4])) .ret)))))
theorem c191_eq : ∃ code, Tryz.f191.body = some code ∧ compile H191 code = c191 :=⟨_,rfl,by kernel_rfl⟩
theorem c191_fn : Tryz.prog.funcs[191]? = some Tryz.f191:=by kernel_rfl
theorem c191_rs : Tryz.f191.results.toList = [.tmp 4]:=by kernel_rfl
theorem c191_ok : fnB Tryz.prog H191 Tryz.f191 = true:=by kernel_rfl
theorem c191_nt : Tryz.f191.ntmps = 31:=by kernel_rfl
def H192:Hint:=⟨[(1,[2]),(0,[1])],[]⟩
def c192_r0:List SOp:=[⟨some 1,.box 63 (.tmp 0),none⟩,⟨some 2,.assign (.const (.bool false)),none⟩]
def c192_r1:List SOp:=[⟨some 3,.fieldAddr 63 (.tmp 1) 0,none⟩,⟨some 4,.load 3 (.tmp 3),none⟩,⟨some 5,.call ⟨.value (.func 234),#[(.tmp 4),(.const (.int .i64 255))],#[3,3]⟩,none⟩,⟨some 6,.move (.tmp 5),none⟩,⟨some 7,.fieldAddr 63 (.tmp 1) 5,some (some 6,true)⟩,⟨some 8,.load 3 (.tmp 7),some (some 6,true)⟩,⟨some 9,.call ⟨.value (.func 234),#[(.tmp 8),(.const (.int .i64 255))],#[3,3]⟩,some (some 6,true)⟩,⟨some 10,.pick (.tmp 6) (.tmp 9) (.const (.bool false)),none⟩,⟨some 11,.move (.tmp 10),none⟩,⟨some 12,.fieldAddr 63 (.tmp 1) 6,some (some 11,true)⟩,⟨some 13,.load 3 (.tmp 12),some (some 11,true)⟩,⟨some 14,.call ⟨.value (.func 234),#[(.tmp 13),(.const (.int .i64 255))],#[3,3]⟩,some (some 11,true)⟩,⟨some 15,.pick (.tmp 11) (.tmp 14) (.const (.bool false)),none⟩,⟨some 16,.move (.tmp 15),none⟩,⟨some 17,.fieldAddr 63 (.tmp 1) 1,some (some 16,true)⟩,⟨some 18,.load 3 (.tmp 17),some (some 16,true)⟩,⟨some 19,.call ⟨.value (.func 234),#[(.tmp 18),(.const (.int .i64 65535))],#[3,3]⟩,some (some 16,true)⟩,⟨some 20,.pick (.tmp 16) (.tmp 19) (.const (.bool false)),none⟩,⟨some 21,.move (.tmp 20),none⟩,⟨some 22,.fieldAddr 63 (.tmp 1) 4,some (some 21,true)⟩,⟨some 23,.load 3 (.tmp 22),some (some 21,true)⟩,⟨some 24,.call ⟨.value (.func 234),#[(.tmp 23),(.const (.int .i64 65528))],#[3,3]⟩,some (some 21,true)⟩,⟨some 25,.pick (.tmp 21) (.tmp 24) (.const (.bool false)),none⟩,⟨some 26,.move (.tmp 25),none⟩,⟨some 27,.fieldAddr 63 (.tmp 1) 4,some (some 26,true)⟩,⟨some 28,.load 3 (.tmp 27),some (some 26,true)⟩,⟨some 29,.binOp .rem 3 (.tmp 28) (.const (.int .i64 8)) 3,some (some 26,true)⟩,⟨some 30,.binOp .eql 3 (.tmp 29) (.const (.int .i64 0)) 3,some (some 26,true)⟩,⟨some 31,.pick (.tmp 26) (.tmp 30) (.const (.bool false)),none⟩,⟨some 32,.move (.tmp 31),none⟩,⟨some 33,.fieldAddr 63 (.tmp 1) 9,some (some 32,true)⟩,⟨some 34,.load 9 (.tmp 33),some (some 32,true)⟩,⟨some 35,.call ⟨.builtin .len, #[.tmp 34],#[9]⟩,some (some 32,true)⟩,⟨some 36,.binOp .leq 3 (.tmp 35) (.const (.int .i64 40)) 3,some (some 32,true)⟩,⟨some 37,.pick (.tmp 32) (.tmp 36) (.const (.bool false)),none⟩,⟨some 38,.move (.tmp 37),none⟩,⟨some 39,.fieldAddr 63 (.tmp 1) 9,some (some 38,true)⟩,⟨some 40,.load 9 (.tmp 39),some (some 38,true)⟩,⟨some 41,.call ⟨.builtin .len, #[.tmp 40],#[9]⟩,some (some 38,true)⟩,⟨some 42,.binOp .rem 3 (.tmp 41) (.const (.int .i64 4)) 3,some (some 38,true)⟩,⟨some 43,.binOp .eql 3 (.tmp 42) (.const (.int .i64 0)) 3,some (some 38,true)⟩,⟨some 44,.pick (.tmp 38) (.tmp 43) (.const (.bool false)),none⟩,⟨some 2,.assign (.tmp 44),none⟩]
def c192:SC:=(.seq (.reg c192_r0 none (some [1])) (.seq (.reg c192_r1 none (some [2])) .ret))
theorem c192_eq : ∃ code, Tryz.f192.body = some code ∧ compile H192 code = c192 :=⟨_,rfl,by kernel_rfl⟩
theorem c192_fn : Tryz.prog.funcs[192]? = some Tryz.f192:=by kernel_rfl
theorem c192_rs : Tryz.f192.results.toList = [.tmp 2]:=by kernel_rfl
theorem c192_ok : fnB Tryz.prog H192 Tryz.f192 = true:=by kernel_rfl
theorem c192_nt : Tryz.f192.ntmps = 45:=by kernel_rfl
def H193:Hint:=⟨[(6,[2]),(5,[3]),(2000012,[3]),(4,[3,12]),(3,[1,3]),(2000008,[1,3]),(2,[1,3,8]),(1,[1,3]),(0,[1])],[]⟩
def c193_r0:List SOp:=[⟨some 1,.box 63 (.tmp 0),none⟩,⟨some 2,.assign (.const (.int .i64 0)),none⟩]
def c193_r1:List SOp:=[⟨some 4,.fieldAddr 63 (.tmp 1) 4,none⟩,⟨some 5,.load 3 (.tmp 4),none⟩,⟨some 6,.binOp .quo 3 (.tmp 5) (.const (.int .i64 8)) 3,none⟩,⟨some 3,.assign (.tmp 6),none⟩]
def c193_r2:List SOp:=[⟨some 7,.fieldAddr 63 (.tmp 1) 3,none⟩,⟨some 8,.load 4 (.tmp 7),none⟩]
def c193_r3:List SOp:=[⟨some 9,.move (.tmp 3),none⟩,⟨some 10,.binOp .or 3 (.tmp 9) (.const (.int .i64 16384)) 3,none⟩,⟨some 3,.assign (.tmp 10),none⟩]
def c193_r4:List SOp:=[⟨some 11,.fieldAddr 63 (.tmp 1) 2,none⟩,⟨some 12,.load 4 (.tmp 11),none⟩]
def c193_r5:List SOp:=[⟨some 13,.move (.tmp 3),none⟩,⟨some 14,.binOp .or 3 (.tmp 13) (.const (.int .i64 8192)) 3,none⟩,⟨some 3,.assign (.tmp 14),none⟩]
def c193_r6:List SOp:=[⟨some 15,.move (.tmp 3),none⟩,⟨some 2,.assign (.tmp 15),none⟩]
def c193:SC:=(.seq (.reg c193_r0 none (some [1])) (.seq (.reg c193_r1 none (some [1,3])) (.seq (.seq (.reg c193_r2 none (some [1,3,8])) (.cond (.tmp 8) (.reg c193_r3 none (some [1,3])) .skip (some [1,3]))) (.seq (.seq (.reg c193_r4 none (some [3,12])) (.cond (.tmp 12) (.reg c193_r5 none (some [3])) .skip (some [3]))) (.seq (.reg c193_r6 none (some [2])) .ret)))))
theorem c193_eq : ∃ code, Tryz.f193.body = some code ∧ compile H193 code = c193 :=⟨_,rfl,by kernel_rfl⟩
theorem c193_fn : Tryz.prog.funcs[193]? = some Tryz.f193:=by kernel_rfl
theorem c193_rs : Tryz.f193.results.toList = [.tmp 2]:=by kernel_rfl
theorem c193_ok : fnB Tryz.prog H193 Tryz.f193 = true:=by kernel_rfl
theorem c193_nt : Tryz.f193.ntmps = 16:=by kernel_rfl
def H195:Hint:=⟨[(1,[2]),(0,[1,2])],[]⟩
def c195_r0:List SOp:=[⟨some 1,.box 43 (.tmp 0),none⟩,⟨some 2,.alloc 43,none⟩]
def c195_r1:List SOp:=[⟨some 3,.fieldAddr 43 (.tmp 1) 0,none⟩,⟨some 4,.load 3 (.tmp 3),none⟩,⟨some 5,.fieldAddr 43 (.tmp 1) 2,none⟩,⟨some 6,.load 28 (.tmp 5),none⟩,⟨some 7,.fieldAddr 43 (.tmp 1) 1,none⟩,⟨some 8,.load 28 (.tmp 7),none⟩,⟨some 9,.fieldAddr 43 (.tmp 1) 4,none⟩,⟨some 10,.load 3 (.tmp 9),none⟩,⟨some 11,.fieldAddr 43 (.tmp 1) 3,none⟩,⟨some 12,.load 3 (.tmp 11),none⟩,⟨some 13,.build 43 #[(0, (.tmp 4)), (1, (.tmp 6)), (2, (.tmp 8)), (3, (.tmp 10)), (4, (.tmp 12))],none⟩,⟨none,.store 43 (.tmp 2) (.tmp 13),none⟩]
def c195:SC:=(.seq (.reg c195_r0 none (some [1,2])) (.seq (.reg c195_r1 none (some [2])) .ret))
theorem c195_eq : ∃ code, Tryz.f195.body = some code ∧ compile H195 code = c195 :=⟨_,rfl,by kernel_rfl⟩
theorem c195_fn : Tryz.prog.funcs[195]? = some Tryz.f195:=by kernel_rfl
theorem c195_rs : Tryz.f195.results.toList = [.cell 2 43]:=by kernel_rfl
theorem c195_ok : fnB Tryz.prog H195 Tryz.f195 = true:=by kernel_rfl
theorem c195_nt : Tryz.f195.ntmps = 14:=by kernel_rfl
def H198:Hint:=⟨[(1,[2]),(0,[1])],[]⟩
def c198_r0:List SOp:=[⟨some 1,.box 187 (.tmp 0),none⟩,⟨some 2,.assign (.const .nilFunc),none⟩]
def c198_r1:List SOp:=[⟨some 3,.makeFunc (.func 237) #[] #[.tmp 1],none⟩,⟨some 2,.assign (.tmp 3),none⟩]
def c198:SC:=(.seq (.reg c198_r0 none (some [1])) (.seq (.reg c198_r1 none (some [2])) .ret))
theorem c198_eq : ∃ code, Tryz.f198.body = some code ∧ compile H198 code = c198 :=⟨_,rfl,by kernel_rfl⟩
theorem c198_fn : Tryz.prog.funcs[198]? = some Tryz.f198:=by kernel_rfl
theorem c198_rs : Tryz.f198.results.toList = [.tmp 2]:=by kernel_rfl
theorem c198_ok : fnB Tryz.prog H198 Tryz.f198 = true:=by kernel_rfl
theorem c198_nt : Tryz.f198.ntmps = 4:=by kernel_rfl
def H200:Hint:=⟨[(3,[6]),(2,[6]),(2000009,[0,1,2]),(1,[0,1,2,9]),(0,[0,1,2])],[]⟩
def c200_r0:List SOp:=[⟨some 6,.assign (.const (.int .i64 0)),none⟩]
def c200_r1:List SOp:=[⟨some 7,.move (.tmp 0),none⟩,⟨some 8,.move (.tmp 1),none⟩,⟨some 9,.call ⟨.value (.func 238),#[.tmp 7,.tmp 8],#[151,3]⟩,none⟩]
def c200_r2:List SOp:=[⟨some 6,.assign (.const (.int .i64 0)),none⟩]
def c200_r3:List SOp:=[⟨some 10,.move (.tmp 0),none⟩,⟨some 11,.nilCheck (.tmp 10),none⟩,⟨some 12,.fieldAddr 223 (.tmp 11) 0,none⟩,⟨some 13,.load 220 (.tmp 12),none⟩,⟨some 14,.move (.tmp 1),none⟩,⟨some 15,.move (.tmp 2),none⟩,⟨some 16,.indexAddr 220 (.tmp 13) (.tmp 14),none⟩,⟨some 17,.indexAddr 298 (.tmp 16) (.tmp 15),none⟩,⟨some 18,.load 297 (.tmp 17),none⟩,⟨some 19,.convert 297 3 (.tmp 18),none⟩,⟨some 6,.assign (.tmp 19),none⟩]
def c200:SC:=(.seq (.reg c200_r0 none (some [0,1,2])) (.seq (.seq (.reg c200_r1 none (some [0,1,2,9])) (.cond (.tmp 9) (.seq (.reg c200_r2 none (some [6])) .ret) .skip (some [0,1,2]))) (.seq (.reg c200_r3 none (some [6])) .ret)))
theorem c200_eq : ∃ code, Tryz.f200.body = some code ∧ compile H200 code = c200 :=⟨_,rfl,by kernel_rfl⟩
theorem c200_fn : Tryz.prog.funcs[200]? = some Tryz.f200:=by kernel_rfl
theorem c200_rs : Tryz.f200.results.toList = [.tmp 6]:=by kernel_rfl
theorem c200_ok : fnB Tryz.prog H200 Tryz.f200 = true:=by kernel_rfl
theorem c200_nt : Tryz.f200.ntmps = 20:=by kernel_rfl
def H201:Hint:=⟨[(3,[2]),(2,[2]),(2000008,[0]),(1,[0,8]),(0,[0])],[]⟩
def c201_r0:List SOp:=[⟨some 2,.assign (.const (.int .u8 0)),none⟩]
def c201_r1:List SOp:=[⟨some 3,.move (.tmp 0),none⟩,⟨some 4,.binOp .geq 5 (.tmp 3) (.const (.int .u8 65)) 5,none⟩,⟨some 5,.move (.tmp 4),none⟩,⟨some 6,.move (.tmp 0),some (some 5,true)⟩,⟨some 7,.binOp .leq 5 (.tmp 6) (.const (.int .u8 90)) 5,some (some 5,true)⟩,⟨some 8,.pick (.tmp 5) (.tmp 7) (.const (.bool false)),none⟩]
def c201_r2:List SOp:=[⟨some 9,.move (.tmp 0),none⟩,⟨some 10,.binOp .sub 5 (.tmp 9) (.const (.int .u8 65)) 5,none⟩,⟨some 11,.binOp .add 5 (.tmp 10) (.const (.int .u8 97)) 5,none⟩,⟨some 2,.assign (.tmp 11),none⟩]
def c201_r3:List SOp:=[⟨some 12,.move (.tmp 0),none⟩,⟨some 2,.assign (.tmp 12),none⟩]
def c201:SC:=(.seq (.reg c201_r0 none (some [0])) (.seq (.seq (.reg c201_r1 none (some [0,8])) (.cond (.tmp 8) (.seq (.reg c201_r2 none (some [2])) .ret) .skip (some [0]))) (.seq (.reg c201_r3 none (some [2])) .ret)))
theorem c201_eq : ∃ code, Tryz.f201.body = some code ∧ compile H201 code = c201 :=⟨_,rfl,by kernel_rfl⟩
theorem c201_fn : Tryz.prog.funcs[201]? = some Tryz.f201:=by kernel_rfl
theorem c201_rs : Tryz.f201.results.toList = [.tmp 2]:=by kernel_rfl
theorem c201_ok : fnB Tryz.prog H201 Tryz.f201 = true:=by kernel_rfl
theorem c201_nt : Tryz.f201.ntmps = 13:=by kernel_rfl
def H202:Hint:=⟨[(3,[4]),(2,[4]),(2000007,[0,1]),(1,[0,1,7]),(0,[0,1])],[]⟩
def c202_r0:List SOp:=[⟨some 4,.assign (.const (.slice none 0 0)),none⟩]
def c202_r1:List SOp:=[⟨some 5,.move (.tmp 0),none⟩,⟨some 6,.move (.tmp 1),none⟩,⟨some 7,.call ⟨.value (.func 238),#[.tmp 5,.tmp 6],#[151,3]⟩,none⟩]
def c202_r2:List SOp:=[⟨some 4,.assign (.const (.slice none 0 0)),none⟩]
def c202_r3:List SOp:=[⟨some 8,.move (.tmp 0),none⟩,⟨some 9,.nilCheck (.tmp 8),none⟩,⟨some 10,.fieldAddr 223 (.tmp 9) 2,none⟩,⟨some 11,.load 221 (.tmp 10),none⟩,⟨some 12,.move (.tmp 1),none⟩,⟨some 13,.indexAddr 221 (.tmp 11) (.tmp 12),none⟩,⟨some 14,.load 22 (.tmp 13),none⟩,⟨some 15,.call ⟨.value (.func 178),#[.tmp 14],#[22]⟩,none⟩,⟨some 4,.assign (.tmp 15),none⟩]
def c202:SC:=(.seq (.reg c202_r0 none (some [0,1])) (.seq (.seq (.reg c202_r1 none (some [0,1,7])) (.cond (.tmp 7) (.seq (.reg c202_r2 none (some [4])) .ret) .skip (some [0,1]))) (.seq (.reg c202_r3 none (some [4])) .ret)))
theorem c202_eq : ∃ code, Tryz.f202.body = some code ∧ compile H202 code = c202 :=⟨_,rfl,by kernel_rfl⟩
theorem c202_fn : Tryz.prog.funcs[202]? = some Tryz.f202:=by kernel_rfl
theorem c202_rs : Tryz.f202.results.toList = [.tmp 4]:=by kernel_rfl
theorem c202_ok : fnB Tryz.prog H202 Tryz.f202 = true:=by kernel_rfl
theorem c202_nt : Tryz.f202.ntmps = 16:=by kernel_rfl
def H210:Hint:=⟨[(4,[8]),(3,[8]),(2000022,[4,5,9]),(2,[4,5,9,22]),(1,[4,5,9,10]),(0,[3,4,5,6])],[]⟩
def c210_r0:List SOp:=[⟨some 4,.box 60 (.tmp 0),none⟩,⟨some 5,.box 63 (.tmp 1),none⟩,⟨some 6,.box 56 (.tmp 2),none⟩,⟨some 8,.assign (.const (.string ⟨#[]⟩)),none⟩]
def c210_r1:List SOp:=[⟨some 12,.fieldAddr 63 (.tmp 5) 7,none⟩,⟨some 13,.load 28 (.tmp 12),none⟩,⟨some 14,.fieldAddr 63 (.tmp 5) 8,none⟩,⟨some 15,.load 28 (.tmp 14),none⟩,⟨some 16,.load 56 (.tmp 6),none⟩,⟨some 17,.move (.tmp 3),none⟩,⟨some 18,.call ⟨.value (.func 241),#[.tmp 13,.tmp 15,.tmp 16,.tmp 17],#[28,28,56,9]⟩,none⟩,⟨some 11,.move (.tmp 18),none⟩,⟨some 19,.extract (.tmp 11) 0,none⟩,⟨some 20,.extract (.tmp 11) 1,none⟩,⟨some 9,.assign (.tmp 19),none⟩,⟨some 10,.assign (.tmp 20),none⟩]
def c210_r2:List SOp:=[⟨some 21,.move (.tmp 10),none⟩,⟨some 22,.binOp .neq 36 (.tmp 21) (.const (.int .i64 0)) 36,none⟩]
def c210_r3:List SOp:=[⟨some 8,.assign (.const (.string ⟨#[]⟩)),none⟩]
def c210_r4:List SOp:=[⟨some 23,.load 60 (.tmp 4),none⟩,⟨some 24,.load 63 (.tmp 5),none⟩,⟨some 25,.move (.tmp 9),none⟩,⟨some 26,.call ⟨.value (.func 90),#[.tmp 23,.tmp 24,.tmp 25],#[60,63,9]⟩,none⟩,⟨some 8,.assign (.tmp 26),none⟩]
def c210:SC:=(.seq (.reg c210_r0 none (some [3,4,5,6])) (.seq (.reg c210_r1 none (some [4,5,9,10])) (.seq (.seq (.reg c210_r2 none (some [4,5,9,22])) (.cond (.tmp 22) (.seq (.reg c210_r3 none (some [8])) .ret) .skip (some [4,5,9]))) (.seq (.reg c210_r4 none (some [8])) .ret))))
theorem c210_eq : ∃ code, Tryz.f210.body = some code ∧ compile H210 code = c210 :=⟨_,rfl,by kernel_rfl⟩
theorem c210_fn : Tryz.prog.funcs[210]? = some Tryz.f210:=by kernel_rfl
theorem c210_rs : Tryz.f210.results.toList = [.tmp 8]:=by kernel_rfl
theorem c210_ok : fnB Tryz.prog H210 Tryz.f210 = true:=by kernel_rfl
theorem c210_nt : Tryz.f210.ntmps = 27:=by kernel_rfl
def H213:Hint:=⟨[(9,[2]),(8,[3]),(7,[0,3]),(6,[0,3]),(5,[0,3]),(4,[0,3,4]),(2000030,[0,3,4]),(3,[0,3,4,30]),(2,[0,3,4,5]),(1000002,[0,3]),(1,[0,3]),(0,[0])],[]⟩
def c213_r0:List SOp:=[⟨some 2,.assign (.const (.string ⟨#[]⟩)),none⟩]
def c213_r1:List SOp:=[⟨some 3,.assign (.const (.slice none 0 0)),none⟩]
def c213_r2:List SOp:=[⟨some 7,.move (.tmp 0),none⟩,⟨some 8,.nilCheck (.tmp 7),none⟩,⟨some 9,.fieldAddr 329 (.tmp 8) 4,none⟩,⟨some 10,.load 73 (.tmp 9),none⟩,⟨some 11,.move (.tmp 0),none⟩,⟨some 12,.nilCheck (.tmp 11),none⟩,⟨some 13,.fieldAddr 329 (.tmp 12) 3,none⟩,⟨some 14,.load 3 (.tmp 13),none⟩,⟨some 15,.lookup 73 (.tmp 10) (.tmp 14) true,none⟩,⟨some 6,.move (.tmp 15),none⟩,⟨some 16,.extract (.tmp 6) 0,none⟩,⟨some 17,.extract (.tmp 6) 1,none⟩,⟨some 4,.assign (.tmp 16),none⟩,⟨some 5,.assign (.tmp 17),none⟩]
def c213_r3:List SOp:=[⟨some 18,.move (.tmp 5),none⟩,⟨some 19,.unOp .not 4 (.tmp 18),none⟩,⟨some 20,.move (.tmp 19),none⟩,⟨some 21,.move (.tmp 0),some (some 20,false)⟩,⟨some 22,.nilCheck (.tmp 21),some (some 20,false)⟩,⟨some 23,.fieldAddr 329 (.tmp 22) 3,some (some 20,false)⟩,⟨some 24,.load 3 (.tmp 23),some (some 20,false)⟩,⟨some 25,.move (.tmp 0),some (some 20,false)⟩,⟨some 26,.nilCheck (.tmp 25),some (some 20,false)⟩,⟨some 27,.fieldAddr 329 (.tmp 26) 6,some (some 20,false)⟩,⟨some 28,.load 3 (.tmp 27),some (some 20,false)⟩,⟨some 29,.binOp .eql 3 (.tmp 24) (.tmp 28) 3,some (some 20,false)⟩,⟨some 30,.pick (.tmp 20) (.const (.bool true)) (.tmp 29),none⟩]
def c213_r4:List SOp:=[⟨some 31,.move (.tmp 0),none⟩,⟨some 32,.nilCheck (.tmp 31),none⟩,⟨some 33,.fieldAddr 329 (.tmp 32) 4,none⟩,⟨some 34,.load 73 (.tmp 33),none⟩,⟨some 35,.move (.tmp 0),none⟩,⟨some 36,.nilCheck (.tmp 35),none⟩,⟨some 37,.fieldAddr 329 (.tmp 36) 3,none⟩,⟨some 38,.load 3 (.tmp 37),none⟩,⟨none,.call ⟨.builtin .delete, #[.tmp 34,.tmp 38],#[73,3]⟩,none⟩]
def c213_r5:List SOp:=[⟨some 39,.move (.tmp 3),none⟩,⟨some 40,.move (.tmp 4),none⟩,⟨some 41,.buildSlice 54 1 #[(0, (.tmp 40))],none⟩,⟨some 42,.call ⟨.builtin .append, #[.tmp 39,.tmp 41],#[54,54]⟩,none⟩,⟨some 3,.assign (.tmp 42),none⟩]
def c213_r6:List SOp:=[⟨some 43,.move (.tmp 0),none⟩,⟨some 44,.nilCheck (.tmp 43),none⟩,⟨some 45,.fieldAddr 329 (.tmp 44) 3,none⟩,⟨some 46,.load 3 (.tmp 45),none⟩,⟨some 47,.binOp .add 3 (.tmp 46) (.const (.int .i64 1)) 3,none⟩,⟨some 48,.nilCheck (.tmp 43),none⟩,⟨some 49,.fieldAddr 329 (.tmp 48) 3,none⟩,⟨none,.store 3 (.tmp 49) (.tmp 47),none⟩]
def c213_l2:SC:=(.block 1 (.seq (.reg c213_r2 none (some [0,3,4,5])) (.seq (.seq (.reg c213_r3 none (some [0,3,4,30])) (.cond (.tmp 30) (.exit 0) .skip (some [0,3,4]))) (.seq (.reg c213_r4 none (some [0,3,4])) (.seq (.reg c213_r5 none (some [0,3])) (.reg c213_r6 none (some [0,3])))))))
def c213_r7:List SOp:=[⟨some 50,.move (.tmp 0),none⟩,⟨some 51,.nilCheck (.tmp 50),none⟩,⟨some 52,.fieldAddr 329 (.tmp 51) 5,none⟩,⟨some 53,.load 9 (.tmp 52),none⟩,⟨some 54,.move (.tmp 3),none⟩,⟨some 55,.convert 54 9 (.tmp 54),none⟩,⟨some 56,.binOp .add 9 (.tmp 53) (.tmp 55) 9,none⟩,⟨some 57,.nilCheck (.tmp 50),none⟩,⟨some 58,.fieldAddr 329 (.tmp 57) 5,none⟩,⟨none,.store 9 (.tmp 58) (.tmp 56),none⟩]
def c213_r8:List SOp:=[⟨some 59,.move (.tmp 0),none⟩,⟨some 60,.move (.tmp 0),none⟩,⟨some 61,.nilCheck (.tmp 60),none⟩,⟨some 62,.fieldAddr 329 (.tmp 61) 5,none⟩,⟨some 63,.load 9 (.tmp 62),none⟩,⟨some 64,.move (.tmp 0),none⟩,⟨some 65,.nilCheck (.tmp 64),none⟩,⟨some 66,.fieldAddr 329 (.tmp 65) 5,none⟩,⟨some 67,.load 9 (.tmp 66),none⟩,⟨some 68,.call ⟨.builtin .len, #[.tmp 67],#[9]⟩,none⟩,⟨some 69,.move (.tmp 0),none⟩,⟨some 70,.nilCheck (.tmp 69),none⟩,⟨some 71,.fieldAddr 329 (.tmp 70) 2,none⟩,⟨some 72,.load 3 (.tmp 71),none⟩,⟨some 73,.binOp .sub 3 (.tmp 68) (.tmp 72) 3,none⟩,⟨some 74,.call ⟨.builtin .max, #[(.const (.int .i64 0)),(.tmp 73)],#[3,3]⟩,none⟩,⟨some 75,.slice 9 (.tmp 63) (some (.tmp 74)) none none,none⟩,⟨some 76,.nilCheck (.tmp 59),none⟩,⟨some 77,.fieldAddr 329 (.tmp 76) 5,none⟩,⟨none,.store 9 (.tmp 77) (.tmp 75),none⟩]
def c213_r9:List SOp:=[⟨some 78,.move (.tmp 3),none⟩,⟨some 79,.convert 54 9 (.tmp 78),none⟩,⟨some 2,.assign (.tmp 79),none⟩]
def c213:SC:=(.seq (.reg c213_r0 none (some [0])) (.seq (.reg c213_r1 none (some [0,3])) (.seq (.block 0 (.loop c213_l2 (some [0,3]))) (.seq (.reg c213_r7 none (some [0,3])) (.seq (.reg c213_r8 none (some [3])) (.seq (.reg c213_r9 none (some [2])) .ret))))))
theorem c213_eq : ∃ code, Tryz.f213.body = some code ∧ compile H213 code = c213 :=⟨_,rfl,by kernel_rfl⟩
theorem c213_fn : Tryz.prog.funcs[213]? = some Tryz.f213:=by kernel_rfl
theorem c213_rs : Tryz.f213.results.toList = [.tmp 2]:=by kernel_rfl
theorem c213_ok : fnB Tryz.prog H213 Tryz.f213 = true:=by kernel_rfl
theorem c213_nt : Tryz.f213.ntmps = 80:=by kernel_rfl
def H215:Hint:=⟨[(1,[2]),(0,[0])],[]⟩
def c215_r0:List SOp:=[⟨some 2,.assign (.const (.bool false)),none⟩]
def c215_r1:List SOp:=[⟨some 3,.move (.tmp 0),none⟩,⟨some 4,.nilCheck (.tmp 3),none⟩,⟨some 5,.fieldAddr 329 (.tmp 4) 7,none⟩,⟨some 6,.load 4 (.tmp 5),none⟩,⟨some 2,.assign (.tmp 6),none⟩]
def c215:SC:=(.seq (.reg c215_r0 none (some [0])) (.seq (.reg c215_r1 none (some [2])) .ret))
theorem c215_eq : ∃ code, Tryz.f215.body = some code ∧ compile H215 code = c215 :=⟨_,rfl,by kernel_rfl⟩
theorem c215_fn : Tryz.prog.funcs[215]? = some Tryz.f215:=by kernel_rfl
theorem c215_rs : Tryz.f215.results.toList = [.tmp 2]:=by kernel_rfl
theorem c215_ok : fnB Tryz.prog H215 Tryz.f215 = true:=by kernel_rfl
theorem c215_nt : Tryz.f215.ntmps = 7:=by kernel_rfl
def H233:Hint:=⟨[(1,[4]),(0,[0,1])],[]⟩
def c233_r0:List SOp:=[⟨some 4,.assign (.const (.bool false)),none⟩]
def c233_r1:List SOp:=[⟨some 5,.move (.tmp 1),none⟩,⟨some 6,.binOp .lss 3 (.tmp 5) (.const (.int .i64 0)) 3,none⟩,⟨some 7,.move (.tmp 6),none⟩,⟨some 8,.move (.tmp 1),some (some 7,false)⟩,⟨some 9,.move (.tmp 0),some (some 7,false)⟩,⟨some 10,.nilCheck (.tmp 9),some (some 7,false)⟩,⟨some 11,.fieldAddr 294 (.tmp 10) 1,some (some 7,false)⟩,⟨some 12,.load 292 (.tmp 11),some (some 7,false)⟩,⟨some 13,.call ⟨.builtin .len, #[.tmp 12],#[292]⟩,some (some 7,false)⟩,⟨some 14,.binOp .geq 3 (.tmp 8) (.tmp 13) 3,some (some 7,false)⟩,⟨some 15,.pick (.tmp 7) (.const (.bool true)) (.tmp 14),none⟩,⟨some 4,.assign (.tmp 15),none⟩]
def c233:SC:=(.seq (.reg c233_r0 none (some [0,1])) (.seq (.reg c233_r1 none (some [4])) .ret))
theorem c233_eq : ∃ code, Tryz.f233.body = some code ∧ compile H233 code = c233 :=⟨_,rfl,by kernel_rfl⟩
theorem c233_fn : Tryz.prog.funcs[233]? = some Tryz.f233:=by kernel_rfl
theorem c233_rs : Tryz.f233.results.toList = [.tmp 4]:=by kernel_rfl
theorem c233_ok : fnB Tryz.prog H233 Tryz.f233 = true:=by kernel_rfl
theorem c233_nt : Tryz.f233.ntmps = 16:=by kernel_rfl
def H234:Hint:=⟨[(1,[4]),(0,[0,1])],[]⟩
def c234_r0:List SOp:=[⟨some 4,.assign (.const (.bool false)),none⟩]
def c234_r1:List SOp:=[⟨some 5,.move (.tmp 0),none⟩,⟨some 6,.binOp .geq 3 (.tmp 5) (.const (.int .i64 0)) 3,none⟩,⟨some 7,.move (.tmp 6),none⟩,⟨some 8,.move (.tmp 0),some (some 7,true)⟩,⟨some 9,.move (.tmp 1),some (some 7,true)⟩,⟨some 10,.binOp .leq 3 (.tmp 8) (.tmp 9) 3,some (some 7,true)⟩,⟨some 11,.pick (.tmp 7) (.tmp 10) (.const (.bool false)),none⟩,⟨some 4,.assign (.tmp 11),none⟩]
def c234:SC:=(.seq (.reg c234_r0 none (some [0,1])) (.seq (.reg c234_r1 none (some [4])) .ret))
theorem c234_eq : ∃ code, Tryz.f234.body = some code ∧ compile H234 code = c234 :=⟨_,rfl,by kernel_rfl⟩
theorem c234_fn : Tryz.prog.funcs[234]? = some Tryz.f234:=by kernel_rfl
theorem c234_rs : Tryz.f234.results.toList = [.tmp 4]:=by kernel_rfl
theorem c234_ok : fnB Tryz.prog H234 Tryz.f234 = true:=by kernel_rfl
theorem c234_nt : Tryz.f234.ntmps = 12:=by kernel_rfl
def H237:Hint:=⟨[(4,[0,8,9,10]),(2000024,[0,8,9,10]),(3,[0,8,9,10,24]),(2,[0,4,8,9,10]),(2000011,[0,8,9,10]),(1,[0,8,9,10,11]),(1000001,[0,8,9,10]),(0,[0,8,9,10])],[]⟩
def c237_r0:List SOp:=[⟨some 5,.load 187 (.tmp 1),none⟩,⟨some 6,.nilCheck (.tmp 5),none⟩,⟨some 7,.fieldAddr 249 (.tmp 6) 2,none⟩,⟨some 8,.load 247 (.tmp 7),none⟩,⟨some 9,.call ⟨.builtin .len, #[.tmp 8],#[247]⟩,none⟩,⟨some 10,.move (.const (.int .i64 0)),none⟩]
def c237_r1:List SOp:=[⟨some 11,.binOp .lss 3 (.tmp 10) (.tmp 9) 3,none⟩]
def c237_r2:List SOp:=[⟨some 12,.indexAddr 247 (.tmp 8) (.tmp 10),none⟩,⟨some 13,.load 251 (.tmp 12),none⟩,⟨some 4,.assign (.tmp 13),none⟩]
def c237_r3:List SOp:=[⟨some 14,.move (.tmp 4),none⟩,⟨some 15,.nilCheck (.tmp 14),none⟩,⟨some 16,.fieldAddr 255 (.tmp 15) 3,none⟩,⟨some 17,.load 4 (.tmp 16),none⟩,⟨some 18,.unOp .not 4 (.tmp 17),none⟩,⟨some 19,.move (.tmp 18),none⟩,⟨some 20,.move (.tmp 0),some (some 19,true)⟩,⟨some 21,.move (.tmp 4),some (some 19,true)⟩,⟨some 22,.call ⟨.value (.tmp 20),#[.tmp 21],#[251]⟩,some (some 19,true)⟩,⟨some 23,.unOp .not 4 (.tmp 22),some (some 19,true)⟩,⟨some 24,.pick (.tmp 19) (.tmp 23) (.const (.bool false)),none⟩]
def c237_r4:List SOp:=[⟨some 25,.binOp .add 3 (.tmp 10) (.const (.int .i64 1)) 3,none⟩,⟨some 10,.move (.tmp 25),none⟩]
def c237_l1:SC:=(.seq (.reg c237_r1 none (some [0,8,9,10,11])) (.seq (.cond (.tmp 11) .skip (.exit 0) (some [0,8,9,10])) (.seq (.block 1 (.seq (.reg c237_r2 none (some [0,4,8,9,10])) (.seq (.reg c237_r3 none (some [0,8,9,10,24])) (.cond (.tmp 24) .ret .skip (some [0,8,9,10]))))) (.reg c237_r4 none (some [0,8,9,10])))))
def c237:SC:=(.seq (.reg c237_r0 none (some [0,8,9,10])) (.block 0 (.loop c237_l1 (some [0,8,9,10]))))
theorem c237_eq : ∃ code, Tryz.f237.body = some code ∧ compile H237 code = c237 :=⟨_,rfl,by kernel_rfl⟩
theorem c237_fn : Tryz.prog.funcs[237]? = some Tryz.f237:=by kernel_rfl
theorem c237_rs : Tryz.f237.results.toList = []:=by kernel_rfl
theorem c237_ok : fnB Tryz.prog H237 Tryz.f237 = true:=by kernel_rfl
theorem c237_nt : Tryz.f237.ntmps = 26:=by kernel_rfl
def H238:Hint:=⟨[(1,[4]),(0,[0,1])],[]⟩
def c238_r0:List SOp:=[⟨some 4,.assign (.const (.bool false)),none⟩]
def c238_r1:List SOp:=[⟨some 5,.move (.tmp 1),none⟩,⟨some 6,.binOp .lss 3 (.tmp 5) (.const (.int .i64 0)) 3,none⟩,⟨some 7,.move (.tmp 6),none⟩,⟨some 8,.move (.tmp 1),some (some 7,false)⟩,⟨some 9,.move (.tmp 0),some (some 7,false)⟩,⟨some 10,.nilCheck (.tmp 9),some (some 7,false)⟩,⟨some 11,.fieldAddr 223 (.tmp 10) 0,some (some 7,false)⟩,⟨some 12,.load 220 (.tmp 11),some (some 7,false)⟩,⟨some 13,.call ⟨.builtin .len, #[.tmp 12],#[220]⟩,some (some 7,false)⟩,⟨some 14,.binOp .geq 3 (.tmp 8) (.tmp 13) 3,some (some 7,false)⟩,⟨some 15,.pick (.tmp 7) (.const (.bool true)) (.tmp 14),none⟩,⟨some 4,.assign (.tmp 15),none⟩]
def c238:SC:=(.seq (.reg c238_r0 none (some [0,1])) (.seq (.reg c238_r1 none (some [4])) .ret))
theorem c238_eq : ∃ code, Tryz.f238.body = some code ∧ compile H238 code = c238 :=⟨_,rfl,by kernel_rfl⟩
theorem c238_fn : Tryz.prog.funcs[238]? = some Tryz.f238:=by kernel_rfl
theorem c238_rs : Tryz.f238.results.toList = [.tmp 4]:=by kernel_rfl
theorem c238_ok : fnB Tryz.prog H238 Tryz.f238 = true:=by kernel_rfl
theorem c238_nt : Tryz.f238.ntmps = 16:=by kernel_rfl
def H241:Hint:=⟨[(9,[8,9]),(8,[10,11,12,13]),(7,[3,10,11,12]),(4,[8,9]),(6,[8,9]),(2000027,[3,10,11]),(5,[3,10,11,27]),(2000023,[3,10,11]),(3,[3,10,11,23]),(2,[3,6,10,11]),(1,[3,6,10]),(0,[0,1,3,6])],[(7,[(6,3),(11,3),(11,7),(17,3),(17,7),(17,13),(21,3),(21,7),(21,13),(21,19),(29,3),(29,7),(29,13),(29,19),(29,22),(29,25),(34,3),(34,7),(34,13),(34,19),(34,22),(34,25),(34,30)])]⟩
def c241_r0:List SOp:=[⟨some 6,.box 56 (.tmp 2),none⟩,⟨some 8,.assign (.const (.string ⟨#[]⟩)),none⟩,⟨some 9,.assign (.const (.int .i64 0)),none⟩]
def c241_r1:List SOp:=[⟨some 14,.load 56 (.tmp 6),none⟩,⟨some 15,.move (.tmp 0),none⟩,⟨some 16,.move (.tmp 1),none⟩,⟨some 17,.build 231 #[(0, (.tmp 14)), (1, (.tmp 15)), (2, (.tmp 16))],none⟩,⟨some 10,.alloc 231,none⟩,⟨none,.store 231 (.tmp 10) (.tmp 17),none⟩]
def c241_r2:List SOp:=[⟨some 18,.load 231 (.tmp 10),none⟩,⟨some 19,.call ⟨.value (.func 271),#[.tmp 18],#[231]⟩,none⟩,⟨some 20,.move (.tmp 3),none⟩,⟨some 21,.call ⟨.builtin .len, #[.tmp 20],#[9]⟩,none⟩,⟨some 22,.binOp .add 3 (.tmp 19) (.tmp 21) 3,none⟩,⟨some 11,.assign (.tmp 22),none⟩]
def c241_r3:List SOp:=[⟨some 24,.load 56 (.tmp 6),none⟩,⟨some 25,.call ⟨.value (.func 272),#[.tmp 24],#[56]⟩,none⟩,⟨some 26,.unOp .not 4 (.tmp 25),none⟩,⟨some 23,.assign (.tmp 26),none⟩]
def c241_r4:List SOp:=[⟨some 8,.assign (.const (.string ⟨#[]⟩)),none⟩,⟨some 9,.assign (.const (.int .i64 1)),none⟩]
def c241_r5:List SOp:=[⟨some 28,.move (.tmp 11),none⟩,⟨some 29,.binOp .gtr 3 (.tmp 28) (.const (.int .i64 2000)) 3,none⟩,⟨some 27,.assign (.tmp 29),none⟩]
def c241_r6:List SOp:=[⟨some 8,.assign (.const (.string ⟨#[]⟩)),none⟩,⟨some 9,.assign (.const (.int .i64 5)),none⟩]
def c241_r7:List SOp:=[⟨some 30,.fieldAddr 231 (.tmp 10) 0,none⟩,⟨some 31,.fieldAddr 56 (.tmp 30) 0,none⟩,⟨some 32,.load 3 (.tmp 31),none⟩,⟨some 33,.call ⟨.value (.func 191),#[(.tmp 32),(.const (.int .i64 2))],#[3,3]⟩,none⟩,⟨some 34,.fieldAddr 231 (.tmp 10) 0,none⟩,⟨some 35,.fieldAddr 56 (.tmp 34) 1,none⟩,⟨some 36,.load 3 (.tmp 35),none⟩,⟨some 37,.call ⟨.value (.func 191),#[(.tmp 36),(.const (.int .i64 2))],#[3,3]⟩,none⟩,⟨some 38,.binOp .add 9 (.tmp 33) (.tmp 37) 9,none⟩,⟨some 39,.fieldAddr 231 (.tmp 10) 0,none⟩,⟨some 40,.fieldAddr 56 (.tmp 39) 2,none⟩,⟨some 41,.load 28 (.tmp 40),none⟩,⟨some 42,.convert 28 3 (.tmp 41),none⟩,⟨some 43,.call ⟨.value (.func 191),#[(.tmp 42),(.const (.int .i64 4))],#[3,3]⟩,none⟩,⟨some 44,.binOp .add 9 (.tmp 38) (.tmp 43) 9,none⟩,⟨some 45,.fieldAddr 231 (.tmp 10) 0,none⟩,⟨some 46,.fieldAddr 56 (.tmp 45) 3,none⟩,⟨some 47,.load 28 (.tmp 46),none⟩,⟨some 48,.convert 28 3 (.tmp 47),none⟩,⟨some 49,.call ⟨.value (.func 191),#[(.tmp 48),(.const (.int .i64 4))],#[3,3]⟩,none⟩,⟨some 50,.binOp .add 9 (.tmp 44) (.tmp 49) 9,none⟩,⟨some 51,.load 231 (.tmp 10),none⟩,⟨some 52,.call ⟨.value (.func 271),#[.tmp 51],#[231]⟩,none⟩,⟨some 53,.binOp .quo 3 (.tmp 52) (.const (.int .i64 4)) 3,none⟩,⟨some 54,.binOp .shl 3 (.tmp 53) (.const (.int .u64 4)) 165,none⟩,⟨some 55,.call ⟨.value (.func 191),#[(.tmp 54),(.const (.int .i64 1))],#[3,3]⟩,none⟩,⟨some 56,.binOp .add 9 (.tmp 50) (.tmp 55) 9,none⟩,⟨some 57,.fieldAddr 231 (.tmp 10) 0,none⟩,⟨some 58,.fieldAddr 56 (.tmp 57) 4,none⟩,⟨some 59,.load 3 (.tmp 58),none⟩,⟨some 60,.call ⟨.value (.func 191),#[(.tmp 59),(.const (.int .i64 1))],#[3,3]⟩,none⟩,⟨some 61,.binOp .add 9 (.tmp 56) (.tmp 60) 9,none⟩,⟨some 62,.fieldAddr 231 (.tmp 10) 0,none⟩,⟨some 63,.fieldAddr 56 (.tmp 62) 5,none⟩,⟨some 64,.load 3 (.tmp 63),none⟩,⟨some 65,.call ⟨.value (.func 191),#[(.tmp 64),(.const (.int .i64 2))],#[3,3]⟩,none⟩,⟨some 66,.binOp .add 9 (.tmp 61) (.tmp 65) 9,none⟩,⟨some 12,.assign (.tmp 66),none⟩]
def c241_r8:List SOp:=[⟨some 67,.fieldAddr 231 (.tmp 10) 0,none⟩,⟨some 68,.fieldAddr 56 (.tmp 67) 6,none⟩,⟨some 69,.load 9 (.tmp 68),none⟩,⟨some 70,.binOp .add 9 (.const (.string ⟨#[0,0]⟩)) (.tmp 69) 9,none⟩,⟨some 71,.move (.tmp 3),none⟩,⟨some 72,.binOp .add 9 (.tmp 70) (.tmp 71) 9,none⟩,⟨some 13,.assign (.tmp 72),none⟩]
def c241_r9:List SOp:=[⟨some 73,.move (.tmp 12),none⟩,⟨some 74,.load 231 (.tmp 10),none⟩,⟨some 75,.move (.tmp 11),none⟩,⟨some 76,.call ⟨.value (.func 189),#[.tmp 74,.tmp 75],#[231,3]⟩,none⟩,⟨some 77,.move (.tmp 12),none⟩,⟨some 78,.move (.tmp 13),none⟩,⟨some 79,.buildSlice 138 4 #[(0, (.tmp 76)), (1, (.tmp 77)), (2, (.const (.string ⟨#[0,0]⟩))), (3, (.tmp 78))],none⟩,⟨some 80,.call ⟨.value (.func 131),#[.tmp 79],#[138]⟩,none⟩,⟨some 81,.call ⟨.value (.func 191),#[(.tmp 80),(.const (.int .i64 2))],#[3,3]⟩,none⟩,⟨some 82,.binOp .add 9 (.tmp 73) (.tmp 81) 9,none⟩,⟨some 83,.move (.tmp 13),none⟩,⟨some 84,.binOp .add 9 (.tmp 82) (.tmp 83) 9,none⟩,⟨some 8,.assign (.tmp 84),none⟩,⟨some 9,.assign (.const (.int .i64 0)),none⟩]
def c241:SC:=(.seq (.reg c241_r0 none (some [0,1,3,6])) (.seq (.reg c241_r1 none (some [3,6,10])) (.seq (.reg c241_r2 none (some [3,6,10,11])) (.seq (.block 0 (.seq (.reg c241_r3 none (some [3,10,11,23])) (.cond (.tmp 23) (.seq (.reg c241_r4 none (some [8,9])) .ret) (.seq (.reg c241_r5 none (some [3,10,11,27])) (.cond (.tmp 27) (.seq (.reg c241_r6 none (some [8,9])) .ret) .skip (some [3,10,11]))) (some [3,10,11])))) (.seq (.reg c241_r7 (some [(6, 3), (11, 3), (11, 7), (17, 3), (17, 7), (17, 13), (21, 3), (21, 7), (21, 13), (21, 19), (29, 3), (29, 7), (29, 13), (29, 19), (29, 22), (29, 25), (34, 3), (34, 7), (34, 13), (34, 19), (34, 22), (34, 25), (34, 30)]) (some [3,10,11,12])) (.seq (.reg c241_r8 none (some [10,11,12,13])) (.seq (.reg c241_r9 none (some [8,9])) .ret)))))))
theorem c241_eq : ∃ code, Tryz.f241.body = some code ∧ compile H241 code = c241 :=⟨_,rfl,by kernel_rfl⟩
theorem c241_fn : Tryz.prog.funcs[241]? = some Tryz.f241:=by kernel_rfl
theorem c241_rs : Tryz.f241.results.toList = [.tmp 8, .tmp 9]:=by kernel_rfl
theorem c241_ok : fnB Tryz.prog H241 Tryz.f241 = true:=by kernel_rfl
theorem c241_nt : Tryz.f241.ntmps = 85:=by kernel_rfl
def H271:Hint:=⟨[(1,[2]),(0,[1])],[]⟩
def c271_r0:List SOp:=[⟨some 1,.box 231 (.tmp 0),none⟩,⟨some 2,.assign (.const (.int .i64 0)),none⟩]
def c271_r1:List SOp:=[⟨some 3,.fieldAddr 231 (.tmp 1) 0,none⟩,⟨some 4,.fieldAddr 56 (.tmp 3) 6,none⟩,⟨some 5,.load 9 (.tmp 4),none⟩,⟨some 6,.call ⟨.builtin .len, #[.tmp 5],#[9]⟩,none⟩,⟨some 7,.binOp .add 3 (.const (.int .i64 20)) (.tmp 6) 3,none⟩,⟨some 2,.assign (.tmp 7),none⟩]
def c271:SC:=(.seq (.reg c271_r0 none (some [1])) (.seq (.reg c271_r1 none (some [2])) .ret))
theorem c271_eq : ∃ code, Tryz.f271.body = some code ∧ compile H271 code = c271 :=⟨_,rfl,by kernel_rfl⟩
theorem c271_fn : Tryz.prog.funcs[271]? = some Tryz.f271:=by kernel_rfl
theorem c271_rs : Tryz.f271.results.toList = [.tmp 2]:=by kernel_rfl
theorem c271_ok : fnB Tryz.prog H271 Tryz.f271 = true:=by kernel_rfl
theorem c271_nt : Tryz.f271.ntmps = 8:=by kernel_rfl
def H272:Hint:=⟨[(1,[2]),(0,[1])],[]⟩
def c272_r0:List SOp:=[⟨some 1,.box 56 (.tmp 0),none⟩,⟨some 2,.assign (.const (.bool false)),none⟩]
def c272_r1:List SOp:=[⟨some 3,.fieldAddr 56 (.tmp 1) 0,none⟩,⟨some 4,.load 3 (.tmp 3),none⟩,⟨some 5,.call ⟨.value (.func 301),#[(.tmp 4),(.const (.int .i64 65535))],#[3,3]⟩,none⟩,⟨some 6,.move (.tmp 5),none⟩,⟨some 7,.fieldAddr 56 (.tmp 1) 1,some (some 6,true)⟩,⟨some 8,.load 3 (.tmp 7),some (some 6,true)⟩,⟨some 9,.call ⟨.value (.func 301),#[(.tmp 8),(.const (.int .i64 65535))],#[3,3]⟩,some (some 6,true)⟩,⟨some 10,.pick (.tmp 6) (.tmp 9) (.const (.bool false)),none⟩,⟨some 11,.move (.tmp 10),none⟩,⟨some 12,.fieldAddr 56 (.tmp 1) 5,some (some 11,true)⟩,⟨some 13,.load 3 (.tmp 12),some (some 11,true)⟩,⟨some 14,.call ⟨.value (.func 301),#[(.tmp 13),(.const (.int .i64 65535))],#[3,3]⟩,some (some 11,true)⟩,⟨some 15,.pick (.tmp 11) (.tmp 14) (.const (.bool false)),none⟩,⟨some 16,.move (.tmp 15),none⟩,⟨some 17,.fieldAddr 56 (.tmp 1) 4,some (some 16,true)⟩,⟨some 18,.load 3 (.tmp 17),some (some 16,true)⟩,⟨some 19,.call ⟨.value (.func 301),#[(.tmp 18),(.const (.int .i64 63))],#[3,3]⟩,some (some 16,true)⟩,⟨some 20,.pick (.tmp 16) (.tmp 19) (.const (.bool false)),none⟩,⟨some 21,.move (.tmp 20),none⟩,⟨some 22,.fieldAddr 56 (.tmp 1) 6,some (some 21,true)⟩,⟨some 23,.load 9 (.tmp 22),some (some 21,true)⟩,⟨some 24,.call ⟨.builtin .len, #[.tmp 23],#[9]⟩,some (some 21,true)⟩,⟨some 25,.binOp .leq 3 (.tmp 24) (.const (.int .i64 40)) 3,some (some 21,true)⟩,⟨some 26,.pick (.tmp 21) (.tmp 25) (.const (.bool false)),none⟩,⟨some 27,.move (.tmp 26),none⟩,⟨some 28,.fieldAddr 56 (.tmp 1) 6,some (some 27,true)⟩,⟨some 29,.load 9 (.tmp 28),some (some 27,true)⟩,⟨some 30,.call ⟨.builtin .len, #[.tmp 29],#[9]⟩,some (some 27,true)⟩,⟨some 31,.binOp .rem 3 (.tmp 30) (.const (.int .i64 4)) 3,some (some 27,true)⟩,⟨some 32,.binOp .eql 3 (.tmp 31) (.const (.int .i64 0)) 3,some (some 27,true)⟩,⟨some 33,.pick (.tmp 27) (.tmp 32) (.const (.bool false)),none⟩,⟨some 2,.assign (.tmp 33),none⟩]
def c272:SC:=(.seq (.reg c272_r0 none (some [1])) (.seq (.reg c272_r1 none (some [2])) .ret))
theorem c272_eq : ∃ code, Tryz.f272.body = some code ∧ compile H272 code = c272 :=⟨_,rfl,by kernel_rfl⟩
theorem c272_fn : Tryz.prog.funcs[272]? = some Tryz.f272:=by kernel_rfl
theorem c272_rs : Tryz.f272.results.toList = [.tmp 2]:=by kernel_rfl
theorem c272_ok : fnB Tryz.prog H272 Tryz.f272 = true:=by kernel_rfl
theorem c272_nt : Tryz.f272.ntmps = 34:=by kernel_rfl
def H301:Hint:=⟨[(1,[4]),(0,[0,1])],[]⟩
def c301_r0:List SOp:=[⟨some 4,.assign (.const (.bool false)),none⟩]
def c301_r1:List SOp:=[⟨some 5,.move (.tmp 0),none⟩,⟨some 6,.binOp .geq 3 (.tmp 5) (.const (.int .i64 0)) 3,none⟩,⟨some 7,.move (.tmp 6),none⟩,⟨some 8,.move (.tmp 0),some (some 7,true)⟩,⟨some 9,.move (.tmp 1),some (some 7,true)⟩,⟨some 10,.binOp .leq 3 (.tmp 8) (.tmp 9) 3,some (some 7,true)⟩,⟨some 11,.pick (.tmp 7) (.tmp 10) (.const (.bool false)),none⟩,⟨some 4,.assign (.tmp 11),none⟩]
def c301:SC:=(.seq (.reg c301_r0 none (some [0,1])) (.seq (.reg c301_r1 none (some [4])) .ret))
theorem c301_eq : ∃ code, Tryz.f301.body = some code ∧ compile H301 code = c301 :=⟨_,rfl,by kernel_rfl⟩
theorem c301_fn : Tryz.prog.funcs[301]? = some Tryz.f301:=by kernel_rfl
theorem c301_rs : Tryz.f301.results.toList = [.tmp 4]:=by kernel_rfl
theorem c301_ok : fnB Tryz.prog H301 Tryz.f301 = true:=by kernel_rfl
theorem c301_nt : Tryz.f301.ntmps = 12:=by kernel_rfl
end Go.AM
