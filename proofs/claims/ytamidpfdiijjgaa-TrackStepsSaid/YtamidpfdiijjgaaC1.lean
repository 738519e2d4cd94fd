/-
  Printed by program (wip/tools/print.sh): compiled code.
-/
import Derived.Test.YtamidpfdiijjgaaAMb
import Derived.Test.YtamidpfdiijjgaaProg
namespace Go.AM
open Go Go.Proofs
set_option maxRecDepth 100000
def H53 : Hint := ⟨[(3, [6]), (2, [6]), (2000009, [0, 1, 2]), (1, [0, 1, 2, 9]), (0, [0, 1, 2])], []⟩
def c53_r0 : List SOp := [⟨some 6,.assign (.const (.int .i64 0)),none⟩]
def c53_r1 : List SOp := [⟨some 7,.move (.tmp 0),none⟩,⟨some 8,.move (.tmp 1),none⟩,⟨some 9,.call ⟨.value (.func 101), #[.tmp 7,.tmp 8], #[57,3]⟩,none⟩]
def c53_r2 : List SOp := [⟨some 6,.assign (.const (.int .i64 0)),none⟩]
def c53_r3 : List SOp := [⟨some 10,.move (.tmp 0),none⟩,⟨some 11,.nilCheck (.tmp 10),none⟩,⟨some 12,.fieldAddr 129 (.tmp 11) 0,none⟩,⟨some 13,.load 127 (.tmp 12),none⟩,⟨some 14,.move (.tmp 1),none⟩,⟨some 15,.move (.tmp 2),none⟩,⟨some 16,.indexAddr 127 (.tmp 13) (.tmp 14),none⟩,⟨some 17,.indexAddr 132 (.tmp 16) (.tmp 15),none⟩,⟨some 18,.load 131 (.tmp 17),none⟩,⟨some 19,.convert 131 3 (.tmp 18),none⟩,⟨some 6,.assign (.tmp 19),none⟩]
def c53 : SC := (.seq (.reg c53_r0 none (some [0,1,2])) (.seq (.seq (.reg c53_r1 none (some [0,1,2,9])) (.cond (.tmp 9) (.seq (.reg c53_r2 none (some [6])) .ret) .skip (some [0,1,2]))) (.seq (.reg c53_r3 none (some [6])) .ret)))
theorem c53_eq : ∃ code, Try.f53.body = some code ∧ compile H53 code = c53 := ⟨_, rfl, by kernel_rfl⟩
theorem c53_fn : Try.prog.funcs[53]? = some Try.f53 := by kernel_rfl
theorem c53_rs : Try.f53.results.toList = [.tmp 6] := by kernel_rfl
theorem c53_ok : fnB Try.prog H53 Try.f53 = true := by kernel_rfl
theorem c53_nt : Try.f53.ntmps = 20 := by kernel_rfl

def H54 : Hint := ⟨[(3, [4]), (2, [4]), (2000007, [0, 1]), (1, [0, 1, 7]), (0, [0, 1])], []⟩
def c54_r0 : List SOp := [⟨some 4,.assign (.const (.slice none 0 0)),none⟩]
def c54_r1 : List SOp := [⟨some 5,.move (.tmp 0),none⟩,⟨some 6,.move (.tmp 1),none⟩,⟨some 7,.call ⟨.value (.func 101), #[.tmp 5,.tmp 6], #[57,3]⟩,none⟩]
def c54_r2 : List SOp := [⟨some 4,.assign (.const (.slice none 0 0)),none⟩]
def c54_r3 : List SOp := [⟨some 8,.move (.tmp 0),none⟩,⟨some 9,.nilCheck (.tmp 8),none⟩,⟨some 10,.fieldAddr 129 (.tmp 9) 2,none⟩,⟨some 11,.load 44 (.tmp 10),none⟩,⟨some 12,.move (.tmp 1),none⟩,⟨some 13,.indexAddr 44 (.tmp 11) (.tmp 12),none⟩,⟨some 14,.load 30 (.tmp 13),none⟩,⟨some 15,.call ⟨.value (.func 93), #[.tmp 14], #[30]⟩,none⟩,⟨some 4,.assign (.tmp 15),none⟩]
def c54 : SC := (.seq (.reg c54_r0 none (some [0,1])) (.seq (.seq (.reg c54_r1 none (some [0,1,7])) (.cond (.tmp 7) (.seq (.reg c54_r2 none (some [4])) .ret) .skip (some [0,1]))) (.seq (.reg c54_r3 none (some [4])) .ret)))
theorem c54_eq : ∃ code, Try.f54.body = some code ∧ compile H54 code = c54 := ⟨_, rfl, by kernel_rfl⟩
theorem c54_fn : Try.prog.funcs[54]? = some Try.f54 := by kernel_rfl
theorem c54_rs : Try.f54.results.toList = [.tmp 4] := by kernel_rfl
theorem c54_ok : fnB Try.prog H54 Try.f54 = true := by kernel_rfl
theorem c54_nt : Try.f54.ntmps = 16 := by kernel_rfl

def H55 : Hint := ⟨[(6, [2]), (3, [0, 3]), (5, [2]), (2000027, [0, 3]), (4, [0, 3, 27]), (2000011, [0, 3]), (2, [0, 3, 11]), (1000002, [0, 3]), (1, [0, 3]), (0, [0])], []⟩
def c55_r0 : List SOp := [⟨some 2,.assign (.const (.bool false)),none⟩]
def c55_r1 : List SOp := [⟨some 3,.assign (.const (.int .i64 0)),none⟩]
def c55_r2 : List SOp := [⟨some 4,.move (.tmp 3),none⟩,⟨some 5,.move (.tmp 0),none⟩,⟨some 6,.call ⟨.builtin .len, #[.tmp 5], #[38]⟩,none⟩,⟨some 7,.binOp .lss 3 (.tmp 4) (.tmp 6) 3,none⟩,⟨some 8,.move (.tmp 7),none⟩,⟨some 9,.move (.tmp 3),some (some 8,true)⟩,⟨some 10,.binOp .lss 3 (.tmp 9) (.const (.int .i64 20)) 3,some (some 8,true)⟩,⟨some 11,.pick (.tmp 8) (.tmp 10) (.const (.bool false)),none⟩]
def c55_r4 : List SOp := [⟨some 14,.move (.tmp 0),none⟩,⟨some 15,.move (.tmp 3),none⟩,⟨some 16,.indexAddr 38 (.tmp 14) (.tmp 15),none⟩,⟨some 17,.load 9 (.tmp 16),none⟩,⟨some 18,.call ⟨.builtin .len, #[.tmp 17], #[9]⟩,none⟩,⟨some 19,.binOp .lss 3 (.tmp 18) (.const (.int .i64 1)) 3,none⟩,⟨some 20,.move (.tmp 19),none⟩,⟨some 21,.move (.tmp 0),some (some 20,false)⟩,⟨some 22,.move (.tmp 3),some (some 20,false)⟩,⟨some 23,.indexAddr 38 (.tmp 21) (.tmp 22),some (some 20,false)⟩,⟨some 24,.load 9 (.tmp 23),some (some 20,false)⟩,⟨some 25,.call ⟨.builtin .len, #[.tmp 24], #[9]⟩,some (some 20,false)⟩,⟨some 26,.binOp .gtr 3 (.tmp 25) (.const (.int .i64 16)) 3,some (some 20,false)⟩,⟨some 27,.pick (.tmp 20) (.const (.bool true)) (.tmp 26),none⟩]
def c55_r5 : List SOp := [⟨some 2,.assign (.const (.bool false)),none⟩]
def c55_r3 : List SOp := [⟨some 12,.move (.tmp 3),none⟩,⟨some 13,.binOp .add 3 (.tmp 12) (.const (.int .i64 1)) 3,none⟩,⟨some 3,.assign (.tmp 13),none⟩]
def c55_l2 : SC := (.seq (.seq (.reg c55_r2 none (some [0,3,11])) (.cond (.tmp 11) .skip (.exit 0) (some [0,3]))) (.seq (.block 1 (.seq (.reg c55_r4 none (some [0,3,27])) (.cond (.tmp 27) (.seq (.reg c55_r5 none (some [2])) .ret) .skip (some [0,3])))) (.reg c55_r3 none (some [0,3]))))
def c55_r6 : List SOp := [⟨some 28,.move (.tmp 0),none⟩,⟨some 29,.call ⟨.builtin .len, #[.tmp 28], #[38]⟩,none⟩,⟨some 30,.binOp .leq 3 (.tmp 29) (.const (.int .i64 20)) 3,none⟩,⟨some 2,.assign (.tmp 30),none⟩]
def c55 : SC := (.seq (.reg c55_r0 none (some [0])) (.seq (.seq (.reg c55_r1 none (some [0,3])) (.block 0 (.loop c55_l2 (some [0,3])))) (.seq (.reg c55_r6 none (some [2])) .ret)))
theorem c55_eq : ∃ code, Try.f55.body = some code ∧ compile H55 code = c55 := ⟨_, rfl, by kernel_rfl⟩
theorem c55_fn : Try.prog.funcs[55]? = some Try.f55 := by kernel_rfl
theorem c55_rs : Try.f55.results.toList = [.tmp 2] := by kernel_rfl
theorem c55_ok : fnB Try.prog H55 Try.f55 = true := by kernel_rfl
theorem c55_nt : Try.f55.ntmps = 31 := by kernel_rfl

def H56 : Hint := ⟨[(1, [2]), (0, [0])], []⟩
def c56_r0 : List SOp := [⟨some 2,.assign (.const (.int .i64 0)),none⟩]
def c56_r1 : List SOp := [⟨some 3,.move (.tmp 0),none⟩,⟨some 4,.nilCheck (.tmp 3),none⟩,⟨some 5,.fieldAddr 129 (.tmp 4) 0,none⟩,⟨some 6,.load 127 (.tmp 5),none⟩,⟨some 7,.call ⟨.builtin .len, #[.tmp 6], #[127]⟩,none⟩,⟨some 2,.assign (.tmp 7),none⟩]
def c56 : SC := (.seq (.reg c56_r0 none (some [0])) (.seq (.reg c56_r1 none (some [2])) .ret))
theorem c56_eq : ∃ code, Try.f56.body = some code ∧ compile H56 code = c56 := ⟨_, rfl, by kernel_rfl⟩
theorem c56_fn : Try.prog.funcs[56]? = some Try.f56 := by kernel_rfl
theorem c56_rs : Try.f56.results.toList = [.tmp 2] := by kernel_rfl
theorem c56_ok : fnB Try.prog H56 Try.f56 = true := by kernel_rfl
theorem c56_nt : Try.f56.ntmps = 8 := by kernel_rfl

def H57 : Hint := ⟨[(4, [8]), (3, [0, 1, 9]), (2, [8]), (2000019, [0, 1, 2, 3]), (1, [0, 1, 2, 3, 19]), (0, [0, 1, 2, 3])], []⟩
def c57_r0 : List SOp := [⟨some 8,.assign (.const (.bool false)),none⟩]
def c57_r1 : List SOp := [⟨some 10,.move (.tmp 3),none⟩,⟨some 11,.move (.tmp 0),none⟩,⟨some 12,.call ⟨.builtin .len, #[.tmp 11], #[9]⟩,none⟩,⟨some 13,.binOp .lss 3 (.tmp 10) (.tmp 12) 3,none⟩,⟨some 14,.move (.tmp 13),none⟩,⟨some 15,.move (.tmp 3),some (some 14,false)⟩,⟨some 16,.move (.tmp 2),some (some 14,false)⟩,⟨some 17,.call ⟨.builtin .len, #[.tmp 16], #[9]⟩,some (some 14,false)⟩,⟨some 18,.binOp .gtr 3 (.tmp 15) (.tmp 17) 3,some (some 14,false)⟩,⟨some 19,.pick (.tmp 14) (.const (.bool true)) (.tmp 18),none⟩]
def c57_r2 : List SOp := [⟨some 8,.assign (.const (.bool false)),none⟩]
def c57_r3 : List SOp := [⟨some 20,.move (.tmp 2),none⟩,⟨some 21,.move (.tmp 3),none⟩,⟨some 22,.move (.tmp 0),none⟩,⟨some 23,.call ⟨.builtin .len, #[.tmp 22], #[9]⟩,none⟩,⟨some 24,.binOp .sub 3 (.tmp 21) (.tmp 23) 3,none⟩,⟨some 25,.move (.tmp 3),none⟩,⟨some 26,.slice 9 (.tmp 20) (some (.tmp 24)) (some (.tmp 25)) none,none⟩,⟨some 9,.assign (.tmp 26),none⟩]
def c57_r4 : List SOp := [⟨some 27,.move (.tmp 9),none⟩,⟨some 28,.move (.tmp 0),none⟩,⟨some 29,.binOp .eql 9 (.tmp 27) (.tmp 28) 9,none⟩,⟨some 30,.move (.tmp 29),none⟩,⟨some 31,.move (.tmp 1),some (some 30,false)⟩,⟨some 32,.move (.tmp 31),some (some 30,false)⟩,⟨some 33,.move (.tmp 9),some (some 32,true)⟩,⟨some 34,.call ⟨.value (.func 60), #[.tmp 33], #[9]⟩,some (some 32,true)⟩,⟨some 35,.move (.tmp 0),some (some 32,true)⟩,⟨some 36,.call ⟨.value (.func 60), #[.tmp 35], #[9]⟩,some (some 32,true)⟩,⟨some 37,.binOp .eql 9 (.tmp 34) (.tmp 36) 9,some (some 32,true)⟩,⟨some 38,.pick (.tmp 32) (.tmp 37) (.const (.bool false)),some (some 30,false)⟩,⟨some 39,.pick (.tmp 30) (.const (.bool true)) (.tmp 38),none⟩,⟨some 8,.assign (.tmp 39),none⟩]
def c57 : SC := (.seq (.reg c57_r0 none (some [0,1,2,3])) (.seq (.seq (.reg c57_r1 none (some [0,1,2,3,19])) (.cond (.tmp 19) (.seq (.reg c57_r2 none (some [8])) .ret) .skip (some [0,1,2,3]))) (.seq (.reg c57_r3 none (some [0,1,9])) (.seq (.reg c57_r4 none (some [8])) .ret))))
theorem c57_eq : ∃ code, Try.f57.body = some code ∧ compile H57 code = c57 := ⟨_, rfl, by kernel_rfl⟩
theorem c57_fn : Try.prog.funcs[57]? = some Try.f57 := by kernel_rfl
theorem c57_rs : Try.f57.results.toList = [.tmp 8] := by kernel_rfl
theorem c57_ok : fnB Try.prog H57 Try.f57 = true := by kernel_rfl
theorem c57_nt : Try.f57.ntmps = 40 := by kernel_rfl

def H58 : Hint := ⟨[(3, [4]), (2, [4]), (2000007, [0, 1]), (1, [0, 1, 7]), (0, [0, 1])], []⟩
def c58_r0 : List SOp := [⟨some 4,.assign (.const (.int .i64 0)),none⟩]
def c58_r1 : List SOp := [⟨some 5,.move (.tmp 0),none⟩,⟨some 6,.move (.tmp 1),none⟩,⟨some 7,.call ⟨.value (.func 101), #[.tmp 5,.tmp 6], #[57,3]⟩,none⟩]
def c58_r2 : List SOp := [⟨some 4,.assign (.const (.int .i64 0)),none⟩]
def c58_r3 : List SOp := [⟨some 8,.move (.tmp 0),none⟩,⟨some 9,.nilCheck (.tmp 8),none⟩,⟨some 10,.fieldAddr 129 (.tmp 9) 1,none⟩,⟨some 11,.load 30 (.tmp 10),none⟩,⟨some 12,.move (.tmp 1),none⟩,⟨some 13,.indexAddr 30 (.tmp 11) (.tmp 12),none⟩,⟨some 14,.load 3 (.tmp 13),none⟩,⟨some 4,.assign (.tmp 14),none⟩]
def c58 : SC := (.seq (.reg c58_r0 none (some [0,1])) (.seq (.seq (.reg c58_r1 none (some [0,1,7])) (.cond (.tmp 7) (.seq (.reg c58_r2 none (some [4])) .ret) .skip (some [0,1]))) (.seq (.reg c58_r3 none (some [4])) .ret)))
theorem c58_eq : ∃ code, Try.f58.body = some code ∧ compile H58 code = c58 := ⟨_, rfl, by kernel_rfl⟩
theorem c58_fn : Try.prog.funcs[58]? = some Try.f58 := by kernel_rfl
theorem c58_rs : Try.f58.results.toList = [.tmp 4] := by kernel_rfl
theorem c58_ok : fnB Try.prog H58 Try.f58 = true := by kernel_rfl
theorem c58_nt : Try.f58.ntmps = 15 := by kernel_rfl

def H59 : Hint := ⟨[(8, [2]), (7, [3, 8, 9, 10]), (6, [3, 8, 9, 10]), (2000020, [3, 8, 9, 10]), (5, [3, 4, 5, 8, 9, 10, 20]), (4, [3, 4, 5, 8, 9, 10]), (2000011, [3, 8, 9, 10]), (3, [3, 8, 9, 10, 11]), (1000003, [3, 8, 9, 10]), (2, [3, 8, 9, 10]), (1, [3]), (0, [0])], []⟩
def c59_r0 : List SOp := [⟨some 2,.assign (.const (.string ⟨#[]⟩)),none⟩]
def c59_r1 : List SOp := [⟨some 6,.move (.tmp 0),none⟩,⟨some 7,.convert 9 25 (.tmp 6),none⟩,⟨some 3,.assign (.tmp 7),none⟩]
def c59_r2 : List SOp := [⟨some 8,.move (.tmp 3),none⟩,⟨some 9,.call ⟨.builtin .len, #[.tmp 8], #[25]⟩,none⟩,⟨some 10,.move (.const (.int .i64 0)),none⟩]
def c59_r3 : List SOp := [⟨some 11,.binOp .lss 3 (.tmp 10) (.tmp 9) 3,none⟩]
def c59_r4 : List SOp := [⟨some 12,.move (.tmp 10),none⟩,⟨some 13,.indexAddr 25 (.tmp 8) (.tmp 10),none⟩,⟨some 14,.load 5 (.tmp 13),none⟩,⟨some 4,.assign (.tmp 12),none⟩,⟨some 5,.assign (.tmp 14),none⟩]
def c59_r5 : List SOp := [⟨some 15,.move (.tmp 5),none⟩,⟨some 16,.binOp .geq 5 (.tmp 15) (.const (.int .u8 65)) 5,none⟩,⟨some 17,.move (.tmp 16),none⟩,⟨some 18,.move (.tmp 5),some (some 17,true)⟩,⟨some 19,.binOp .leq 5 (.tmp 18) (.const (.int .u8 90)) 5,some (some 17,true)⟩,⟨some 20,.pick (.tmp 17) (.tmp 19) (.const (.bool false)),none⟩]
def c59_r6 : List SOp := [⟨some 21,.move (.tmp 3),none⟩,⟨some 22,.move (.tmp 4),none⟩,⟨some 23,.move (.tmp 5),none⟩,⟨some 24,.binOp .sub 5 (.tmp 23) (.const (.int .u8 65)) 5,none⟩,⟨some 25,.binOp .add 5 (.tmp 24) (.const (.int .u8 97)) 5,none⟩,⟨some 26,.indexAddr 25 (.tmp 21) (.tmp 22),none⟩,⟨none,.store 5 (.tmp 26) (.tmp 25),none⟩]
def c59_r7 : List SOp := [⟨some 27,.binOp .add 3 (.tmp 10) (.const (.int .i64 1)) 3,none⟩,⟨some 10,.move (.tmp 27),none⟩]
def c59_l3 : SC := (.seq (.reg c59_r3 none (some [3,8,9,10,11])) (.seq (.cond (.tmp 11) .skip (.exit 0) (some [3,8,9,10])) (.seq (.block 1 (.seq (.reg c59_r4 none (some [3,4,5,8,9,10])) (.seq (.reg c59_r5 none (some [3,4,5,8,9,10,20])) (.cond (.tmp 20) (.reg c59_r6 none (some [3,8,9,10])) .skip (some [3,8,9,10]))))) (.reg c59_r7 none (some [3,8,9,10])))))
def c59_r8 : List SOp := [⟨some 28,.move (.tmp 3),none⟩,⟨some 29,.convert 25 9 (.tmp 28),none⟩,⟨some 2,.assign (.tmp 29),none⟩]
def c59 : SC := (.seq (.reg c59_r0 none (some [0])) (.seq (.reg c59_r1 none (some [3])) (.seq (.seq (.reg c59_r2 none (some [3,8,9,10])) (.block 0 (.loop c59_l3 (some [3,8,9,10])))) (.seq (.reg c59_r8 none (some [2])) .ret))))
theorem c59_eq : ∃ code, Try.f59.body = some code ∧ compile H59 code = c59 := ⟨_, rfl, by kernel_rfl⟩
theorem c59_fn : Try.prog.funcs[59]? = some Try.f59 := by kernel_rfl
theorem c59_rs : Try.f59.results.toList = [.tmp 2] := by kernel_rfl
theorem c59_ok : fnB Try.prog H59 Try.f59 = true := by kernel_rfl
theorem c59_nt : Try.f59.ntmps = 30 := by kernel_rfl

def H60 : Hint := ⟨[(9, [2]), (4, [0, 3, 4]), (8, [0, 3, 4]), (7, [0, 3, 4, 5]), (2000020, [0, 3, 4, 5]), (6, [0, 3, 4, 5, 20]), (5, [0, 3, 4, 5]), (2000009, [0, 3, 4]), (3, [0, 3, 4, 9]), (1000003, [0, 3, 4]), (2, [0, 3, 4]), (1, [0, 3]), (0, [0])], []⟩
def c60_r0 : List SOp := [⟨some 2,.assign (.const (.string ⟨#[]⟩)),none⟩]
def c60_r1 : List SOp := [⟨some 3,.assign (.const (.slice none 0 0)),none⟩]
def c60_r2 : List SOp := [⟨some 4,.assign (.const (.int .i64 0)),none⟩]
def c60_r3 : List SOp := [⟨some 6,.move (.tmp 4),none⟩,⟨some 7,.move (.tmp 0),none⟩,⟨some 8,.call ⟨.builtin .len, #[.tmp 7], #[9]⟩,none⟩,⟨some 9,.binOp .lss 3 (.tmp 6) (.tmp 8) 3,none⟩]
def c60_r5 : List SOp := [⟨some 12,.move (.tmp 0),none⟩,⟨some 13,.move (.tmp 4),none⟩,⟨some 14,.index 9 (.tmp 12) (.tmp 13),none⟩,⟨some 5,.assign (.tmp 14),none⟩]
def c60_r6 : List SOp := [⟨some 15,.move (.tmp 5),none⟩,⟨some 16,.binOp .geq 5 (.tmp 15) (.const (.int .u8 65)) 5,none⟩,⟨some 17,.move (.tmp 16),none⟩,⟨some 18,.move (.tmp 5),some (some 17,true)⟩,⟨some 19,.binOp .leq 5 (.tmp 18) (.const (.int .u8 90)) 5,some (some 17,true)⟩,⟨some 20,.pick (.tmp 17) (.tmp 19) (.const (.bool false)),none⟩]
def c60_r7 : List SOp := [⟨some 21,.move (.tmp 5),none⟩,⟨some 22,.binOp .add 5 (.tmp 21) (.const (.int .u8 32)) 5,none⟩,⟨some 5,.assign (.tmp 22),none⟩]
def c60_r8 : List SOp := [⟨some 23,.move (.tmp 3),none⟩,⟨some 24,.move (.tmp 5),none⟩,⟨some 25,.buildSlice 25 1 #[(0, (.tmp 24))],none⟩,⟨some 26,.call ⟨.builtin .append, #[.tmp 23,.tmp 25], #[25,25]⟩,none⟩,⟨some 3,.assign (.tmp 26),none⟩]
def c60_r4 : List SOp := [⟨some 10,.move (.tmp 4),none⟩,⟨some 11,.binOp .add 3 (.tmp 10) (.const (.int .i64 1)) 3,none⟩,⟨some 4,.assign (.tmp 11),none⟩]
def c60_l3 : SC := (.seq (.seq (.reg c60_r3 none (some [0,3,4,9])) (.cond (.tmp 9) .skip (.exit 0) (some [0,3,4]))) (.seq (.block 1 (.seq (.reg c60_r5 none (some [0,3,4,5])) (.seq (.seq (.reg c60_r6 none (some [0,3,4,5,20])) (.cond (.tmp 20) (.reg c60_r7 none (some [0,3,4,5])) .skip (some [0,3,4,5]))) (.reg c60_r8 none (some [0,3,4]))))) (.reg c60_r4 none (some [0,3,4]))))
def c60_r9 : List SOp := [⟨some 27,.move (.tmp 3),none⟩,⟨some 28,.convert 25 9 (.tmp 27),none⟩,⟨some 2,.assign (.tmp 28),none⟩]
def c60 : SC := (.seq (.reg c60_r0 none (some [0])) (.seq (.reg c60_r1 none (some [0,3])) (.seq (.seq (.reg c60_r2 none (some [0,3,4])) (.block 0 (.loop c60_l3 (some [0,3,4])))) (.seq (.reg c60_r9 none (some [2])) .ret))))
theorem c60_eq : ∃ code, Try.f60.body = some code ∧ compile H60 code = c60 := ⟨_, rfl, by kernel_rfl⟩
theorem c60_fn : Try.prog.funcs[60]? = some Try.f60 := by kernel_rfl
theorem c60_rs : Try.f60.results.toList = [.tmp 2] := by kernel_rfl
theorem c60_ok : fnB Try.prog H60 Try.f60 = true := by kernel_rfl
theorem c60_nt : Try.f60.ntmps = 29 := by kernel_rfl

def H61 : Hint := ⟨[(6, [2]), (3, [0, 3]), (5, [2]), (2000027, [0, 3]), (4, [0, 3, 27]), (2000011, [0, 3]), (2, [0, 3, 11]), (1000002, [0, 3]), (1, [0, 3]), (0, [0])], []⟩
def c61_r0 : List SOp := [⟨some 2,.assign (.const (.bool false)),none⟩]
def c61_r1 : List SOp := [⟨some 3,.assign (.const (.int .i64 0)),none⟩]
def c61_r2 : List SOp := [⟨some 4,.move (.tmp 3),none⟩,⟨some 5,.move (.tmp 0),none⟩,⟨some 6,.call ⟨.builtin .len, #[.tmp 5], #[38]⟩,none⟩,⟨some 7,.binOp .lss 3 (.tmp 4) (.tmp 6) 3,none⟩,⟨some 8,.move (.tmp 7),none⟩,⟨some 9,.move (.tmp 3),some (some 8,true)⟩,⟨some 10,.binOp .lss 3 (.tmp 9) (.const (.int .i64 15)) 3,some (some 8,true)⟩,⟨some 11,.pick (.tmp 8) (.tmp 10) (.const (.bool false)),none⟩]
def c61_r4 : List SOp := [⟨some 14,.move (.tmp 0),none⟩,⟨some 15,.move (.tmp 3),none⟩,⟨some 16,.indexAddr 38 (.tmp 14) (.tmp 15),none⟩,⟨some 17,.load 9 (.tmp 16),none⟩,⟨some 18,.call ⟨.builtin .len, #[.tmp 17], #[9]⟩,none⟩,⟨some 19,.binOp .lss 3 (.tmp 18) (.const (.int .i64 1)) 3,none⟩,⟨some 20,.move (.tmp 19),none⟩,⟨some 21,.move (.tmp 0),some (some 20,false)⟩,⟨some 22,.move (.tmp 3),some (some 20,false)⟩,⟨some 23,.indexAddr 38 (.tmp 21) (.tmp 22),some (some 20,false)⟩,⟨some 24,.load 9 (.tmp 23),some (some 20,false)⟩,⟨some 25,.call ⟨.builtin .len, #[.tmp 24], #[9]⟩,some (some 20,false)⟩,⟨some 26,.binOp .gtr 3 (.tmp 25) (.const (.int .i64 16)) 3,some (some 20,false)⟩,⟨some 27,.pick (.tmp 20) (.const (.bool true)) (.tmp 26),none⟩]
def c61_r5 : List SOp := [⟨some 2,.assign (.const (.bool false)),none⟩]
def c61_r3 : List SOp := [⟨some 12,.move (.tmp 3),none⟩,⟨some 13,.binOp .add 3 (.tmp 12) (.const (.int .i64 1)) 3,none⟩,⟨some 3,.assign (.tmp 13),none⟩]
def c61_l2 : SC := (.seq (.seq (.reg c61_r2 none (some [0,3,11])) (.cond (.tmp 11) .skip (.exit 0) (some [0,3]))) (.seq (.block 1 (.seq (.reg c61_r4 none (some [0,3,27])) (.cond (.tmp 27) (.seq (.reg c61_r5 none (some [2])) .ret) .skip (some [0,3])))) (.reg c61_r3 none (some [0,3]))))
def c61_r6 : List SOp := [⟨some 28,.move (.tmp 0),none⟩,⟨some 29,.call ⟨.builtin .len, #[.tmp 28], #[38]⟩,none⟩,⟨some 30,.binOp .leq 3 (.tmp 29) (.const (.int .i64 15)) 3,none⟩,⟨some 2,.assign (.tmp 30),none⟩]
def c61 : SC := (.seq (.reg c61_r0 none (some [0])) (.seq (.seq (.reg c61_r1 none (some [0,3])) (.block 0 (.loop c61_l2 (some [0,3])))) (.seq (.reg c61_r6 none (some [2])) .ret)))
theorem c61_eq : ∃ code, Try.f61.body = some code ∧ compile H61 code = c61 := ⟨_, rfl, by kernel_rfl⟩
theorem c61_fn : Try.prog.funcs[61]? = some Try.f61 := by kernel_rfl
theorem c61_rs : Try.f61.results.toList = [.tmp 2] := by kernel_rfl
theorem c61_ok : fnB Try.prog H61 Try.f61 = true := by kernel_rfl
theorem c61_nt : Try.f61.ntmps = 31 := by kernel_rfl

def H62 : Hint := ⟨[(1, [0]), (0, [])], []⟩
def c62_r0 : List SOp := [⟨some 0,.assign (.const (.bool false)),none⟩]
def c62_r1 : List SOp := [⟨some 1,.buildSlice 38 1 #[(0, (.const (.string ⟨#[97]⟩)))],none⟩,⟨some 2,.call ⟨.value (.func 64), #[(.tmp 1), (.const (.slice none 0 0)), (.const (.string ⟨#[97,65]⟩))], #[38,68,9]⟩,none⟩,⟨some 3,.call ⟨.builtin .len, #[.tmp 2], #[71]⟩,none⟩,⟨some 4,.binOp .eql 3 (.tmp 3) (.const (.int .i64 1)) 3,none⟩,⟨some 5,.move (.tmp 4),none⟩,⟨some 6,.buildSlice 38 1 #[(0, (.const (.string ⟨#[97]⟩)))],some (some 5,true)⟩,⟨some 7,.buildSlice 68 1 #[(0, (.const (.bool true)))],some (some 5,true)⟩,⟨some 8,.call ⟨.value (.func 64), #[(.tmp 6), (.tmp 7), (.const (.string ⟨#[97,65]⟩))], #[38,68,9]⟩,some (some 5,true)⟩,⟨some 9,.call ⟨.builtin .len, #[.tmp 8], #[71]⟩,some (some 5,true)⟩,⟨some 10,.binOp .eql 3 (.tmp 9) (.const (.int .i64 2)) 3,some (some 5,true)⟩,⟨some 11,.pick (.tmp 5) (.tmp 10) (.const (.bool false)),none⟩,⟨some 0,.assign (.tmp 11),none⟩]
def c62 : SC := (.seq (.reg c62_r0 none (some [])) (.seq (.reg c62_r1 none (some [0])) .ret))
theorem c62_eq : ∃ code, Try.f62.body = some code ∧ compile H62 code = c62 := ⟨_, rfl, by kernel_rfl⟩
theorem c62_fn : Try.prog.funcs[62]? = some Try.f62 := by kernel_rfl
theorem c62_rs : Try.f62.results.toList = [.tmp 0] := by kernel_rfl
theorem c62_ok : fnB Try.prog H62 Try.f62 = true := by kernel_rfl
theorem c62_nt : Try.f62.ntmps = 12 := by kernel_rfl

def H63 : Hint := ⟨[(9, [4]), (8, [4]), (2000033, [0, 1, 7]), (7, [0, 1, 7, 33]), (6, [0, 1, 7, 8]), (4, [0, 1, 5, 6]), (5, [0, 1, 5, 6]), (2000012, [0, 1, 5, 6]), (3, [0, 1, 5, 6, 12]), (1000003, [0, 1, 5, 6]), (2, [0, 1, 5, 6]), (1, [0, 1, 5]), (0, [0, 1])], []⟩
def c63_r0 : List SOp := [⟨some 4,.assign (.const (.pointer none)),none⟩]
def c63_r1 : List SOp := [⟨some 5,.assign (.const (.slice none 0 0)),none⟩]
def c63_r2 : List SOp := [⟨some 6,.assign (.const (.int .i64 0)),none⟩]
def c63_r3 : List SOp := [⟨some 9,.move (.tmp 6),none⟩,⟨some 10,.move (.tmp 0),none⟩,⟨some 11,.call ⟨.builtin .len, #[.tmp 10], #[38]⟩,none⟩,⟨some 12,.binOp .lss 3 (.tmp 9) (.tmp 11) 3,none⟩]
def c63_r5 : List SOp := [⟨some 15,.move (.tmp 5),none⟩,⟨some 16,.move (.tmp 0),none⟩,⟨some 17,.move (.tmp 6),none⟩,⟨some 18,.indexAddr 38 (.tmp 16) (.tmp 17),none⟩,⟨some 19,.load 9 (.tmp 18),none⟩,⟨some 20,.call ⟨.value (.func 60), #[.tmp 19], #[9]⟩,none⟩,⟨some 21,.buildSlice 38 1 #[(0, (.tmp 20))],none⟩,⟨some 22,.call ⟨.builtin .append, #[.tmp 15,.tmp 21], #[38,38]⟩,none⟩,⟨some 5,.assign (.tmp 22),none⟩]
def c63_r4 : List SOp := [⟨some 13,.move (.tmp 6),none⟩,⟨some 14,.binOp .add 3 (.tmp 13) (.const (.int .i64 1)) 3,none⟩,⟨some 6,.assign (.tmp 14),none⟩]
def c63_l3 : SC := (.seq (.seq (.reg c63_r3 none (some [0,1,5,6,12])) (.cond (.tmp 12) .skip (.exit 0) (some [0,1,5,6]))) (.seq (.block 1 (.reg c63_r5 none (some [0,1,5,6]))) (.reg c63_r4 none (some [0,1,5,6]))))
def c63_r6 : List SOp := [⟨some 24,.move (.tmp 5),none⟩,⟨some 25,.call ⟨.value (.func 52), #[(.tmp 24), (.const (.int .i64 4096))], #[38,3]⟩,none⟩,⟨some 23,.move (.tmp 25),none⟩,⟨some 26,.extract (.tmp 23) 0,none⟩,⟨some 27,.extract (.tmp 23) 1,none⟩,⟨some 7,.assign (.tmp 26),none⟩,⟨some 8,.assign (.tmp 27),none⟩]
def c63_r7 : List SOp := [⟨some 28,.move (.tmp 8),none⟩,⟨some 29,.binOp .neq 58 (.tmp 28) (.const (.int .i64 0)) 58,none⟩,⟨some 30,.move (.tmp 29),none⟩,⟨some 31,.move (.tmp 7),some (some 30,false)⟩,⟨some 32,.binOp .eql 57 (.tmp 31) (.const (.pointer none)) 57,some (some 30,false)⟩,⟨some 33,.pick (.tmp 30) (.const (.bool true)) (.tmp 32),none⟩]
def c63_r8 : List SOp := [⟨some 4,.assign (.const (.pointer none)),none⟩]
def c63_r9 : List SOp := [⟨some 34,.move (.tmp 7),none⟩,⟨some 35,.move (.tmp 0),none⟩,⟨some 36,.call ⟨.builtin .append, #[(.const (.slice none 0 0)), (.tmp 35)], #[38,38]⟩,none⟩,⟨some 37,.move (.tmp 1),none⟩,⟨some 38,.call ⟨.builtin .append, #[(.const (.slice none 0 0)), (.tmp 37)], #[68,68]⟩,none⟩,⟨some 39,.call ⟨.value (.func 102), #[.tmp 34,.tmp 36,.tmp 38], #[57,38,68]⟩,none⟩,⟨some 4,.assign (.tmp 39),none⟩]
def c63 : SC := (.seq (.reg c63_r0 none (some [0,1])) (.seq (.reg c63_r1 none (some [0,1,5])) (.seq (.seq (.reg c63_r2 none (some [0,1,5,6])) (.block 0 (.loop c63_l3 (some [0,1,5,6])))) (.seq (.reg c63_r6 none (some [0,1,7,8])) (.seq (.seq (.reg c63_r7 none (some [0,1,7,33])) (.cond (.tmp 33) (.seq (.reg c63_r8 none (some [4])) .ret) .skip (some [0,1,7]))) (.seq (.reg c63_r9 none (some [4])) .ret))))))
theorem c63_eq : ∃ code, Try.f63.body = some code ∧ compile H63 code = c63 := ⟨_, rfl, by kernel_rfl⟩
theorem c63_fn : Try.prog.funcs[63]? = some Try.f63 := by kernel_rfl
theorem c63_rs : Try.f63.results.toList = [.tmp 4] := by kernel_rfl
theorem c63_ok : fnB Try.prog H63 Try.f63 = true := by kernel_rfl
theorem c63_nt : Try.f63.ntmps = 40 := by kernel_rfl

def H64 : Hint := ⟨[(21, [6]), (20, [12, 13, 42, 43, 44]), (19, [12, 13, 42, 43, 44, 50, 51, 52]), (18, [12, 13, 42, 43, 44, 50, 51, 52]), (17, [12, 13, 17, 42, 43, 44, 50, 51, 52]), (2000053, [12, 13, 42, 43, 44, 50, 51, 52]), (16, [12, 13, 42, 43, 44, 50, 51, 52, 53]), (1000016, [12, 13, 42, 43, 44, 50, 51, 52]), (15, [12, 13, 42, 43, 44, 50, 51, 52]), (14, [12, 13, 15, 42, 43, 44]), (2000045, [12, 13, 42, 43, 44]), (13, [12, 13, 42, 43, 44, 45]), (1000013, [12, 13, 42, 43, 44]), (12, [12, 13, 42, 43, 44]), (11, [2, 12, 13]), (10, [0, 1, 2, 10, 12]), (9, [6]), (2000036, [0, 1, 2, 10]), (8, [0, 1, 2, 10, 36]), (7, [0, 1, 2, 10, 11]), (6, [0, 1, 2, 7, 18, 19, 20]), (5, [0, 1, 2, 7, 18, 19, 20]), (4, [0, 1, 2, 7, 9, 18, 19, 20]), (2000021, [0, 1, 2, 7, 18, 19, 20]), (3, [0, 1, 2, 7, 18, 19, 20, 21]), (1000003, [0, 1, 2, 7, 18, 19, 20]), (2, [0, 1, 2, 7, 18, 19, 20]), (1, [0, 1, 2, 7]), (0, [0, 1, 2])], []⟩
def c64_r0 : List SOp := [⟨some 6,.assign (.const (.slice none 0 0)),none⟩]
def c64_r1 : List SOp := [⟨some 7,.assign (.const (.slice none 0 0)),none⟩]
def c64_r2 : List SOp := [⟨some 18,.move (.tmp 0),none⟩,⟨some 19,.call ⟨.builtin .len, #[.tmp 18], #[38]⟩,none⟩,⟨some 20,.move (.const (.int .i64 0)),none⟩]
def c64_r3 : List SOp := [⟨some 21,.binOp .lss 3 (.tmp 20) (.tmp 19) 3,none⟩]
def c64_r4 : List SOp := [⟨some 22,.indexAddr 38 (.tmp 18) (.tmp 20),none⟩,⟨some 23,.load 9 (.tmp 22),none⟩,⟨some 9,.assign (.tmp 23),none⟩]
def c64_r5 : List SOp := [⟨some 24,.move (.tmp 7),none⟩,⟨some 25,.move (.tmp 9),none⟩,⟨some 26,.call ⟨.value (.func 59), #[.tmp 25], #[9]⟩,none⟩,⟨some 27,.buildSlice 38 1 #[(0, (.tmp 26))],none⟩,⟨some 28,.call ⟨.builtin .append, #[.tmp 24,.tmp 27], #[38,38]⟩,none⟩,⟨some 7,.assign (.tmp 28),none⟩]
def c64_r6 : List SOp := [⟨some 29,.binOp .add 3 (.tmp 20) (.const (.int .i64 1)) 3,none⟩,⟨some 20,.move (.tmp 29),none⟩]
def c64_l3 : SC := (.seq (.reg c64_r3 none (some [0,1,2,7,18,19,20,21])) (.seq (.cond (.tmp 21) .skip (.exit 0) (some [0,1,2,7,18,19,20])) (.seq (.block 1 (.seq (.reg c64_r4 none (some [0,1,2,7,9,18,19,20])) (.reg c64_r5 none (some [0,1,2,7,18,19,20])))) (.reg c64_r6 none (some [0,1,2,7,18,19,20])))))
def c64_r7 : List SOp := [⟨some 31,.move (.tmp 7),none⟩,⟨some 32,.call ⟨.value (.func 52), #[(.tmp 31), (.const (.int .i64 4096))], #[38,3]⟩,none⟩,⟨some 30,.move (.tmp 32),none⟩,⟨some 33,.extract (.tmp 30) 0,none⟩,⟨some 34,.extract (.tmp 30) 1,none⟩,⟨some 10,.assign (.tmp 33),none⟩,⟨some 11,.assign (.tmp 34),none⟩]
def c64_r8 : List SOp := [⟨some 35,.move (.tmp 11),none⟩,⟨some 36,.binOp .neq 58 (.tmp 35) (.const (.int .i64 0)) 58,none⟩]
def c64_r9 : List SOp := [⟨some 6,.assign (.const (.slice none 0 0)),none⟩]
def c64_r10 : List SOp := [⟨some 12,.assign (.const (.slice none 0 0)),none⟩]
def c64_r11 : List SOp := [⟨some 37,.move (.tmp 10),none⟩,⟨some 38,.move (.tmp 0),none⟩,⟨some 39,.move (.tmp 1),none⟩,⟨some 40,.call ⟨.value (.func 102), #[.tmp 37,.tmp 38,.tmp 39], #[57,38,68]⟩,none⟩,⟨some 13,.assign (.tmp 40),none⟩]
def c64_r12 : List SOp := [⟨some 41,.move (.tmp 2),none⟩,⟨some 42,.convert 9 25 (.tmp 41),none⟩,⟨some 43,.call ⟨.builtin .len, #[.tmp 42], #[25]⟩,none⟩,⟨some 44,.move (.const (.int .i64 0)),none⟩]
def c64_r13 : List SOp := [⟨some 45,.binOp .lss 3 (.tmp 44) (.tmp 43) 3,none⟩]
def c64_r14 : List SOp := [⟨some 46,.indexAddr 25 (.tmp 42) (.tmp 44),none⟩,⟨some 47,.load 5 (.tmp 46),none⟩,⟨some 15,.assign (.tmp 47),none⟩]
def c64_r15 : List SOp := [⟨some 48,.move (.tmp 13),none⟩,⟨some 49,.move (.tmp 15),none⟩,⟨some 50,.call ⟨.value (.func 65), #[.tmp 48,.tmp 49], #[69,5]⟩,none⟩,⟨some 51,.call ⟨.builtin .len, #[.tmp 50], #[30]⟩,none⟩,⟨some 52,.move (.const (.int .i64 0)),none⟩]
def c64_r16 : List SOp := [⟨some 53,.binOp .lss 3 (.tmp 52) (.tmp 51) 3,none⟩]
def c64_r17 : List SOp := [⟨some 54,.indexAddr 30 (.tmp 50) (.tmp 52),none⟩,⟨some 55,.load 3 (.tmp 54),none⟩,⟨some 17,.assign (.tmp 55),none⟩]
def c64_r18 : List SOp := [⟨some 56,.move (.tmp 12),none⟩,⟨some 57,.move (.tmp 17),none⟩,⟨some 58,.move (.tmp 13),none⟩,⟨some 59,.call ⟨.value (.func 66), #[.tmp 58], #[69]⟩,none⟩,⟨some 60,.build 75 #[(0, (.tmp 57)), (1, (.tmp 59))],none⟩,⟨some 61,.buildSlice 71 1 #[(0, (.tmp 60))],none⟩,⟨some 62,.call ⟨.builtin .append, #[.tmp 56,.tmp 61], #[71,71]⟩,none⟩,⟨some 12,.assign (.tmp 62),none⟩]
def c64_r19 : List SOp := [⟨some 63,.binOp .add 3 (.tmp 52) (.const (.int .i64 1)) 3,none⟩,⟨some 52,.move (.tmp 63),none⟩]
def c64_l16 : SC := (.seq (.reg c64_r16 none (some [12,13,42,43,44,50,51,52,53])) (.seq (.cond (.tmp 53) .skip (.exit 4) (some [12,13,42,43,44,50,51,52])) (.seq (.block 5 (.seq (.reg c64_r17 none (some [12,13,17,42,43,44,50,51,52])) (.reg c64_r18 none (some [12,13,42,43,44,50,51,52])))) (.reg c64_r19 none (some [12,13,42,43,44,50,51,52])))))
def c64_r20 : List SOp := [⟨some 64,.binOp .add 3 (.tmp 44) (.const (.int .i64 1)) 3,none⟩,⟨some 44,.move (.tmp 64),none⟩]
def c64_l13 : SC := (.seq (.reg c64_r13 none (some [12,13,42,43,44,45])) (.seq (.cond (.tmp 45) .skip (.exit 2) (some [12,13,42,43,44])) (.seq (.block 3 (.seq (.reg c64_r14 none (some [12,13,15,42,43,44])) (.seq (.reg c64_r15 none (some [12,13,42,43,44,50,51,52])) (.block 4 (.loop c64_l16 (some [12,13,42,43,44,50,51,52])))))) (.reg c64_r20 none (some [12,13,42,43,44])))))
def c64_r21 : List SOp := [⟨some 65,.move (.tmp 12),none⟩,⟨some 6,.assign (.tmp 65),none⟩]
def c64 : SC := (.seq (.reg c64_r0 none (some [0,1,2])) (.seq (.reg c64_r1 none (some [0,1,2,7])) (.seq (.seq (.reg c64_r2 none (some [0,1,2,7,18,19,20])) (.block 0 (.loop c64_l3 (some [0,1,2,7,18,19,20])))) (.seq (.reg c64_r7 none (some [0,1,2,10,11])) (.seq (.seq (.reg c64_r8 none (some [0,1,2,10,36])) (.cond (.tmp 36) (.seq (.reg c64_r9 none (some [6])) .ret) .skip (some [0,1,2,10]))) (.seq (.reg c64_r10 none (some [0,1,2,10,12])) (.seq (.reg c64_r11 none (some [2,12,13])) (.seq (.seq (.reg c64_r12 none (some [12,13,42,43,44])) (.block 2 (.loop c64_l13 (some [12,13,42,43,44])))) (.seq (.reg c64_r21 none (some [6])) .ret)))))))))
theorem c64_eq : ∃ code, Try.f64.body = some code ∧ compile H64 code = c64 := ⟨_, rfl, by kernel_rfl⟩
theorem c64_fn : Try.prog.funcs[64]? = some Try.f64 := by kernel_rfl
theorem c64_rs : Try.f64.results.toList = [.tmp 6] := by kernel_rfl
theorem c64_ok : fnB Try.prog H64 Try.f64 = true := by kernel_rfl
theorem c64_nt : Try.f64.ntmps = 66 := by kernel_rfl

def H65 : Hint := ⟨[(13, [4]), (12, [0, 5, 52, 53, 54]), (11, [0, 5, 52, 53, 54]), (2000093, [0, 5, 52, 53, 54]), (10, [0, 5, 7, 52, 53, 54, 93]), (9, [0, 5, 7, 52, 53, 54]), (2000055, [0, 5, 52, 53, 54]), (8, [0, 5, 52, 53, 54, 55]), (1000008, [0, 5, 52, 53, 54]), (7, [0, 5, 52, 53, 54]), (6, [0, 5]), (5, [0]), (4, [4]), (2000029, [0, 1]), (3, [0, 1, 29]), (2, [0, 1]), (1, [0, 1]), (0, [0, 1])], [(5, [(4, 10), (8, 10)])]⟩
def c65_r0 : List SOp := [⟨some 4,.assign (.const (.slice none 0 0)),none⟩]
def c65_r1 : List SOp := [⟨some 8,.move (.tmp 0),none⟩,⟨some 9,.move (.tmp 0),none⟩,⟨some 10,.nilCheck (.tmp 9),none⟩,⟨some 11,.fieldAddr 136 (.tmp 10) 4,none⟩,⟨some 12,.load 3 (.tmp 11),none⟩,⟨some 13,.binOp .rem 3 (.tmp 12) (.const (.int .i64 16)) 3,none⟩,⟨some 14,.move (.tmp 1),none⟩,⟨some 15,.nilCheck (.tmp 8),none⟩,⟨some 16,.fieldAddr 136 (.tmp 15) 5,none⟩,⟨some 17,.indexAddr 134 (.tmp 16) (.tmp 13),none⟩,⟨none,.store 5 (.tmp 17) (.tmp 14),none⟩]
def c65_r2 : List SOp := [⟨some 18,.move (.tmp 0),none⟩,⟨some 19,.nilCheck (.tmp 18),none⟩,⟨some 20,.fieldAddr 136 (.tmp 19) 4,none⟩,⟨some 21,.load 3 (.tmp 20),none⟩,⟨some 22,.binOp .add 3 (.tmp 21) (.const (.int .i64 1)) 3,none⟩,⟨some 23,.nilCheck (.tmp 18),none⟩,⟨some 24,.fieldAddr 136 (.tmp 23) 4,none⟩,⟨none,.store 3 (.tmp 24) (.tmp 22),none⟩]
def c65_r3 : List SOp := [⟨some 25,.move (.tmp 0),none⟩,⟨some 26,.nilCheck (.tmp 25),none⟩,⟨some 27,.fieldAddr 136 (.tmp 26) 0,none⟩,⟨some 28,.load 57 (.tmp 27),none⟩,⟨some 29,.binOp .eql 57 (.tmp 28) (.const (.pointer none)) 57,none⟩]
def c65_r4 : List SOp := [⟨some 4,.assign (.const (.slice none 0 0)),none⟩]
def c65_r5 : List SOp := [⟨some 30,.move (.tmp 0),none⟩,⟨some 31,.move (.tmp 0),none⟩,⟨some 32,.nilCheck (.tmp 31),none⟩,⟨some 33,.fieldAddr 136 (.tmp 32) 0,none⟩,⟨some 34,.load 57 (.tmp 33),none⟩,⟨some 35,.move (.tmp 0),none⟩,⟨some 36,.nilCheck (.tmp 35),none⟩,⟨some 37,.fieldAddr 136 (.tmp 36) 3,none⟩,⟨some 38,.load 3 (.tmp 37),none⟩,⟨some 39,.move (.tmp 1),none⟩,⟨some 40,.call ⟨.value (.func 103), #[.tmp 39], #[5]⟩,none⟩,⟨some 41,.call ⟨.value (.func 53), #[.tmp 34,.tmp 38,.tmp 40], #[57,3,5]⟩,none⟩,⟨some 42,.nilCheck (.tmp 30),none⟩,⟨some 43,.fieldAddr 136 (.tmp 42) 3,none⟩,⟨none,.store 3 (.tmp 43) (.tmp 41),none⟩]
def c65_r6 : List SOp := [⟨some 5,.assign (.const (.slice none 0 0)),none⟩]
def c65_r7 : List SOp := [⟨some 44,.move (.tmp 0),none⟩,⟨some 45,.nilCheck (.tmp 44),none⟩,⟨some 46,.fieldAddr 136 (.tmp 45) 0,none⟩,⟨some 47,.load 57 (.tmp 46),none⟩,⟨some 48,.move (.tmp 0),none⟩,⟨some 49,.nilCheck (.tmp 48),none⟩,⟨some 50,.fieldAddr 136 (.tmp 49) 3,none⟩,⟨some 51,.load 3 (.tmp 50),none⟩,⟨some 52,.call ⟨.value (.func 54), #[.tmp 47,.tmp 51], #[57,3]⟩,none⟩,⟨some 53,.call ⟨.builtin .len, #[.tmp 52], #[30]⟩,none⟩,⟨some 54,.move (.const (.int .i64 0)),none⟩]
def c65_r8 : List SOp := [⟨some 55,.binOp .lss 3 (.tmp 54) (.tmp 53) 3,none⟩]
def c65_r9 : List SOp := [⟨some 56,.indexAddr 30 (.tmp 52) (.tmp 54),none⟩,⟨some 57,.load 3 (.tmp 56),none⟩,⟨some 7,.assign (.tmp 57),none⟩]
def c65_r10 : List SOp := [⟨some 58,.move (.tmp 7),none⟩,⟨some 59,.move (.tmp 0),none⟩,⟨some 60,.nilCheck (.tmp 59),none⟩,⟨some 61,.fieldAddr 136 (.tmp 60) 1,none⟩,⟨some 62,.load 38 (.tmp 61),none⟩,⟨some 63,.call ⟨.builtin .len, #[.tmp 62], #[38]⟩,none⟩,⟨some 64,.binOp .lss 3 (.tmp 58) (.tmp 63) 3,none⟩,⟨some 65,.move (.tmp 64),none⟩,⟨some 66,.move (.tmp 7),some (some 65,true)⟩,⟨some 67,.move (.tmp 0),some (some 65,true)⟩,⟨some 68,.nilCheck (.tmp 67),some (some 65,true)⟩,⟨some 69,.fieldAddr 136 (.tmp 68) 2,some (some 65,true)⟩,⟨some 70,.load 68 (.tmp 69),some (some 65,true)⟩,⟨some 71,.call ⟨.builtin .len, #[.tmp 70], #[68]⟩,some (some 65,true)⟩,⟨some 72,.binOp .lss 3 (.tmp 66) (.tmp 71) 3,some (some 65,true)⟩,⟨some 73,.move (.tmp 72),some (some 65,true)⟩,⟨some 74,.move (.tmp 0),some (some 73,true)⟩,⟨some 75,.nilCheck (.tmp 74),some (some 73,true)⟩,⟨some 76,.fieldAddr 136 (.tmp 75) 2,some (some 73,true)⟩,⟨some 77,.load 68 (.tmp 76),some (some 73,true)⟩,⟨some 78,.move (.tmp 7),some (some 73,true)⟩,⟨some 79,.indexAddr 68 (.tmp 77) (.tmp 78),some (some 73,true)⟩,⟨some 80,.load 4 (.tmp 79),some (some 73,true)⟩,⟨some 81,.pick (.tmp 73) (.tmp 80) (.const (.bool false)),some (some 65,true)⟩,⟨some 82,.move (.tmp 81),some (some 65,true)⟩,⟨some 83,.move (.tmp 0),some (some 82,false)⟩,⟨some 84,.move (.tmp 0),some (some 82,false)⟩,⟨some 85,.nilCheck (.tmp 84),some (some 82,false)⟩,⟨some 86,.fieldAddr 136 (.tmp 85) 1,some (some 82,false)⟩,⟨some 87,.load 38 (.tmp 86),some (some 82,false)⟩,⟨some 88,.move (.tmp 7),some (some 82,false)⟩,⟨some 89,.indexAddr 38 (.tmp 87) (.tmp 88),some (some 82,false)⟩,⟨some 90,.load 9 (.tmp 89),some (some 82,false)⟩,⟨some 91,.call ⟨.value (.func 104), #[.tmp 83,.tmp 90], #[69,9]⟩,some (some 82,false)⟩,⟨some 92,.pick (.tmp 82) (.const (.bool true)) (.tmp 91),some (some 65,true)⟩,⟨some 93,.pick (.tmp 65) (.tmp 92) (.const (.bool false)),none⟩]
def c65_r11 : List SOp := [⟨some 94,.move (.tmp 5),none⟩,⟨some 95,.move (.tmp 7),none⟩,⟨some 96,.buildSlice 30 1 #[(0, (.tmp 95))],none⟩,⟨some 97,.call ⟨.builtin .append, #[.tmp 94,.tmp 96], #[30,30]⟩,none⟩,⟨some 5,.assign (.tmp 97),none⟩]
def c65_r12 : List SOp := [⟨some 98,.binOp .add 3 (.tmp 54) (.const (.int .i64 1)) 3,none⟩,⟨some 54,.move (.tmp 98),none⟩]
def c65_l8 : SC := (.seq (.reg c65_r8 none (some [0,5,52,53,54,55])) (.seq (.cond (.tmp 55) .skip (.exit 0) (some [0,5,52,53,54])) (.seq (.block 1 (.seq (.reg c65_r9 none (some [0,5,7,52,53,54])) (.seq (.reg c65_r10 none (some [0,5,7,52,53,54,93])) (.cond (.tmp 93) (.reg c65_r11 none (some [0,5,52,53,54])) .skip (some [0,5,52,53,54]))))) (.reg c65_r12 none (some [0,5,52,53,54])))))
def c65_r13 : List SOp := [⟨some 99,.move (.tmp 5),none⟩,⟨some 4,.assign (.tmp 99),none⟩]
def c65 : SC := (.seq (.reg c65_r0 none (some [0,1])) (.seq (.reg c65_r1 none (some [0,1])) (.seq (.reg c65_r2 none (some [0,1])) (.seq (.seq (.reg c65_r3 none (some [0,1,29])) (.cond (.tmp 29) (.seq (.reg c65_r4 none (some [4])) .ret) .skip (some [0,1]))) (.seq (.reg c65_r5 (some [(4, 10), (8, 10)]) (some [0])) (.seq (.reg c65_r6 none (some [0,5])) (.seq (.seq (.reg c65_r7 none (some [0,5,52,53,54])) (.block 0 (.loop c65_l8 (some [0,5,52,53,54])))) (.seq (.reg c65_r13 none (some [4])) .ret))))))))
theorem c65_eq : ∃ code, Try.f65.body = some code ∧ compile H65 code = c65 := ⟨_, rfl, by kernel_rfl⟩
theorem c65_fn : Try.prog.funcs[65]? = some Try.f65 := by kernel_rfl
theorem c65_rs : Try.f65.results.toList = [.tmp 4] := by kernel_rfl
theorem c65_ok : fnB Try.prog H65 Try.f65 = true := by kernel_rfl
theorem c65_nt : Try.f65.ntmps = 100 := by kernel_rfl

def H66 : Hint := ⟨[(1, [2]), (0, [0])], []⟩
def c66_r0 : List SOp := [⟨some 2,.assign (.const (.int .i64 0)),none⟩]
def c66_r1 : List SOp := [⟨some 3,.move (.tmp 0),none⟩,⟨some 4,.nilCheck (.tmp 3),none⟩,⟨some 5,.fieldAddr 136 (.tmp 4) 4,none⟩,⟨some 6,.load 3 (.tmp 5),none⟩,⟨some 2,.assign (.tmp 6),none⟩]
def c66 : SC := (.seq (.reg c66_r0 none (some [0])) (.seq (.reg c66_r1 none (some [2])) .ret))
theorem c66_eq : ∃ code, Try.f66.body = some code ∧ compile H66 code = c66 := ⟨_, rfl, by kernel_rfl⟩
theorem c66_fn : Try.prog.funcs[66]? = some Try.f66 := by kernel_rfl
theorem c66_rs : Try.f66.results.toList = [.tmp 2] := by kernel_rfl
theorem c66_ok : fnB Try.prog H66 Try.f66 = true := by kernel_rfl
theorem c66_nt : Try.f66.ntmps = 7 := by kernel_rfl

def H67 : Hint := ⟨[(2, [2]), (1, [3]), (0, [0])], []⟩
def c67_r0 : List SOp := [⟨some 2,.assign (.const (.pointer none)),none⟩]
def c67_r1 : List SOp := [⟨some 4,.move (.tmp 0),none⟩,⟨some 5,.nilCheck (.tmp 4),none⟩,⟨some 6,.load 136 (.tmp 5),none⟩,⟨some 3,.alloc 136,none⟩,⟨none,.store 136 (.tmp 3) (.tmp 6),none⟩]
def c67_r2 : List SOp := [⟨some 2,.assign (.tmp 3),none⟩]
def c67 : SC := (.seq (.reg c67_r0 none (some [0])) (.seq (.reg c67_r1 none (some [3])) (.seq (.reg c67_r2 none (some [2])) .ret)))
theorem c67_eq : ∃ code, Try.f67.body = some code ∧ compile H67 code = c67 := ⟨_, rfl, by kernel_rfl⟩
theorem c67_fn : Try.prog.funcs[67]? = some Try.f67 := by kernel_rfl
theorem c67_rs : Try.f67.results.toList = [.tmp 2] := by kernel_rfl
theorem c67_ok : fnB Try.prog H67 Try.f67 = true := by kernel_rfl
theorem c67_nt : Try.f67.ntmps = 7 := by kernel_rfl

def H68 : Hint := ⟨[(2, [0]), (1, [1, 2, 3]), (0, [])], []⟩
def c68_r0 : List SOp := [⟨some 0,.assign (.const (.bool false)),none⟩]
def c68_r1 : List SOp := [⟨some 5,.build 52 #[(0, (.const (.string ⟨#[97]⟩)))],none⟩,⟨some 6,.buildSlice 42 1 #[(0, (.tmp 5))],none⟩,⟨some 7,.call ⟨.value (.func 70), #[(.tmp 6), (.const (.int .i64 4)), (.const (.string ⟨#[98,97]⟩))], #[42,3,9]⟩,none⟩,⟨some 4,.move (.tmp 7),none⟩,⟨some 8,.extract (.tmp 4) 0,none⟩,⟨some 9,.extract (.tmp 4) 1,none⟩,⟨some 10,.extract (.tmp 4) 2,none⟩,⟨some 1,.assign (.tmp 8),none⟩,⟨some 2,.assign (.tmp 9),none⟩,⟨some 3,.assign (.tmp 10),none⟩]
def c68_r2 : List SOp := [⟨some 11,.move (.tmp 1),none⟩,⟨some 12,.binOp .eql 3 (.tmp 11) (.const (.int .i64 2)) 3,none⟩,⟨some 13,.move (.tmp 12),none⟩,⟨some 14,.move (.tmp 2),some (some 13,true)⟩,⟨some 15,.pick (.tmp 13) (.tmp 14) (.const (.bool false)),none⟩,⟨some 16,.move (.tmp 15),none⟩,⟨some 17,.move (.tmp 3),some (some 16,true)⟩,⟨some 18,.binOp .eql 3 (.tmp 17) (.const (.int .i64 0)) 3,some (some 16,true)⟩,⟨some 19,.pick (.tmp 16) (.tmp 18) (.const (.bool false)),none⟩,⟨some 0,.assign (.tmp 19),none⟩]
def c68 : SC := (.seq (.reg c68_r0 none (some [])) (.seq (.reg c68_r1 none (some [1,2,3])) (.seq (.reg c68_r2 none (some [0])) .ret)))
theorem c68_eq : ∃ code, Try.f68.body = some code ∧ compile H68 code = c68 := ⟨_, rfl, by kernel_rfl⟩
theorem c68_fn : Try.prog.funcs[68]? = some Try.f68 := by kernel_rfl
theorem c68_rs : Try.f68.results.toList = [.tmp 0] := by kernel_rfl
theorem c68_ok : fnB Try.prog H68 Try.f68 = true := by kernel_rfl
theorem c68_nt : Try.f68.ntmps = 20 := by kernel_rfl

def H69 : Hint := ⟨[(15, [6]), (7, [0, 2, 7, 8, 9]), (14, [6]), (2000076, [0, 2, 7, 8, 9]), (13, [0, 2, 7, 8, 9, 76]), (12, [6]), (2000057, [0, 2, 7, 8, 9]), (11, [0, 2, 7, 8, 9, 57]), (10, [6]), (2000056, [0, 2, 7, 8, 9, 10]), (9, [0, 2, 7, 8, 9, 10, 56]), (8, [0, 2, 7, 8, 9, 10]), (2000034, [0, 2, 7, 8, 9]), (6, [0, 2, 7, 8, 9, 34]), (1000006, [0, 2, 7, 8, 9]), (5, [0, 2, 7, 8, 9]), (4, [0, 2, 7, 8]), (3, [6]), (2000027, [0, 1, 2, 7]), (2, [0, 1, 2, 7, 27]), (1, [0, 1, 2, 7]), (0, [0, 1, 2])], []⟩
def c69_r0 : List SOp := [⟨some 6,.assign (.const (.bool false)),none⟩]
def c69_r1 : List SOp := [⟨some 11,.move (.tmp 0),none⟩,⟨some 12,.call ⟨.builtin .append, #[(.const (.slice none 0 0)), (.tmp 11)], #[42,42]⟩,none⟩,⟨some 13,.move (.tmp 1),none⟩,⟨some 14,.call ⟨.value (.func 72), #[.tmp 12,.tmp 13], #[42,3]⟩,none⟩,⟨some 7,.assign (.tmp 14),none⟩]
def c69_r2 : List SOp := [⟨some 15,.move (.tmp 7),none⟩,⟨some 16,.binOp .eql 84 (.tmp 15) (.const (.pointer none)) 84,none⟩,⟨some 17,.move (.tmp 16),none⟩,⟨some 18,.move (.tmp 7),some (some 17,false)⟩,⟨some 19,.call ⟨.value (.func 76), #[.tmp 18], #[84]⟩,some (some 17,false)⟩,⟨some 20,.move (.tmp 0),some (some 17,false)⟩,⟨some 21,.call ⟨.value (.func 48), #[(.tmp 20), (.const (.string ⟨#[]⟩))], #[42,9]⟩,some (some 17,false)⟩,⟨some 22,.binOp .neq 4 (.tmp 19) (.tmp 21) 4,some (some 17,false)⟩,⟨some 23,.pick (.tmp 17) (.const (.bool true)) (.tmp 22),none⟩,⟨some 24,.move (.tmp 23),none⟩,⟨some 25,.move (.tmp 7),some (some 24,false)⟩,⟨some 26,.call ⟨.value (.func 75), #[.tmp 25], #[84]⟩,some (some 24,false)⟩,⟨some 27,.pick (.tmp 24) (.const (.bool true)) (.tmp 26),none⟩]
def c69_r3 : List SOp := [⟨some 6,.assign (.const (.bool false)),none⟩]
def c69_r4 : List SOp := [⟨some 28,.move (.tmp 1),none⟩,⟨some 29,.call ⟨.builtin .max, #[(.tmp 28), (.const (.int .i64 1))], #[3,3]⟩,none⟩,⟨some 30,.call ⟨.builtin .min, #[(.tmp 29), (.const (.int .i64 32))], #[3,3]⟩,none⟩,⟨some 8,.assign (.tmp 30),none⟩]
def c69_r5 : List SOp := [⟨some 9,.assign (.const (.int .i64 1)),none⟩]
def c69_r6 : List SOp := [⟨some 31,.move (.tmp 9),none⟩,⟨some 32,.move (.tmp 2),none⟩,⟨some 33,.call ⟨.builtin .len, #[.tmp 32], #[9]⟩,none⟩,⟨some 34,.binOp .leq 3 (.tmp 31) (.tmp 33) 3,none⟩]
def c69_r8 : List SOp := [⟨some 37,.move (.tmp 7),none⟩,⟨some 38,.move (.tmp 0),none⟩,⟨some 39,.move (.tmp 2),none⟩,⟨some 40,.move (.tmp 9),none⟩,⟨some 41,.call ⟨.value (.func 105), #[.tmp 38,.tmp 39,.tmp 40], #[42,9,3]⟩,none⟩,⟨some 42,.call ⟨.value (.func 73), #[.tmp 37,.tmp 41], #[84,68]⟩,none⟩,⟨some 10,.assign (.tmp 42),none⟩]
def c69_r9 : List SOp := [⟨some 43,.move (.tmp 10),none⟩,⟨some 44,.move (.tmp 7),none⟩,⟨some 45,.call ⟨.value (.func 75), #[.tmp 44], #[84]⟩,none⟩,⟨some 46,.binOp .neq 4 (.tmp 43) (.tmp 45) 4,none⟩,⟨some 47,.move (.tmp 46),none⟩,⟨some 48,.move (.tmp 10),some (some 47,false)⟩,⟨some 49,.move (.tmp 0),some (some 47,false)⟩,⟨some 50,.move (.tmp 8),some (some 47,false)⟩,⟨some 51,.move (.tmp 2),some (some 47,false)⟩,⟨some 52,.move (.tmp 9),some (some 47,false)⟩,⟨some 53,.slice 9 (.tmp 51) none (some (.tmp 52)) none,some (some 47,false)⟩,⟨some 54,.call ⟨.value (.func 106), #[.tmp 49,.tmp 50,.tmp 53], #[42,3,9]⟩,some (some 47,false)⟩,⟨some 55,.binOp .neq 4 (.tmp 48) (.tmp 54) 4,some (some 47,false)⟩,⟨some 56,.pick (.tmp 47) (.const (.bool true)) (.tmp 55),none⟩]
def c69_r10 : List SOp := [⟨some 6,.assign (.const (.bool false)),none⟩]
def c69_r11 : List SOp := [⟨some 57,.move (.tmp 10),none⟩]
def c69_r12 : List SOp := [⟨some 6,.assign (.const (.bool true)),none⟩]
def c69_r13 : List SOp := [⟨some 58,.move (.tmp 7),none⟩,⟨some 59,.call ⟨.value (.func 76), #[.tmp 58], #[84]⟩,none⟩,⟨some 60,.move (.tmp 0),none⟩,⟨some 61,.move (.tmp 2),none⟩,⟨some 62,.move (.tmp 9),none⟩,⟨some 63,.slice 9 (.tmp 61) none (some (.tmp 62)) none,none⟩,⟨some 64,.call ⟨.value (.func 48), #[.tmp 60,.tmp 63], #[42,9]⟩,none⟩,⟨some 65,.binOp .neq 4 (.tmp 59) (.tmp 64) 4,none⟩,⟨some 66,.move (.tmp 65),none⟩,⟨some 67,.move (.tmp 7),some (some 66,false)⟩,⟨some 68,.call ⟨.value (.func 74), #[.tmp 67], #[84]⟩,some (some 66,false)⟩,⟨some 69,.move (.tmp 0),some (some 66,false)⟩,⟨some 70,.move (.tmp 2),some (some 66,false)⟩,⟨some 71,.move (.tmp 9),some (some 66,false)⟩,⟨some 72,.slice 9 (.tmp 70) none (some (.tmp 71)) none,some (some 66,false)⟩,⟨some 73,.call ⟨.value (.func 107), #[.tmp 69,.tmp 72], #[42,9]⟩,some (some 66,false)⟩,⟨some 74,.call ⟨.value (.func 40), #[.tmp 68,.tmp 73], #[30,30]⟩,some (some 66,false)⟩,⟨some 75,.unOp .not 4 (.tmp 74),some (some 66,false)⟩,⟨some 76,.pick (.tmp 66) (.const (.bool true)) (.tmp 75),none⟩]
def c69_r14 : List SOp := [⟨some 6,.assign (.const (.bool false)),none⟩]
def c69_r7 : List SOp := [⟨some 35,.move (.tmp 9),none⟩,⟨some 36,.binOp .add 3 (.tmp 35) (.const (.int .i64 1)) 3,none⟩,⟨some 9,.assign (.tmp 36),none⟩]
def c69_l6 : SC := (.seq (.seq (.reg c69_r6 none (some [0,2,7,8,9,34])) (.cond (.tmp 34) .skip (.exit 0) (some [0,2,7,8,9]))) (.seq (.block 1 (.seq (.reg c69_r8 none (some [0,2,7,8,9,10])) (.seq (.seq (.reg c69_r9 none (some [0,2,7,8,9,10,56])) (.cond (.tmp 56) (.seq (.reg c69_r10 none (some [6])) .ret) .skip (some [0,2,7,8,9,10]))) (.seq (.seq (.reg c69_r11 none (some [0,2,7,8,9,57])) (.cond (.tmp 57) (.seq (.reg c69_r12 none (some [6])) .ret) .skip (some [0,2,7,8,9]))) (.seq (.reg c69_r13 none (some [0,2,7,8,9,76])) (.cond (.tmp 76) (.seq (.reg c69_r14 none (some [6])) .ret) .skip (some [0,2,7,8,9]))))))) (.reg c69_r7 none (some [0,2,7,8,9]))))
def c69_r15 : List SOp := [⟨some 6,.assign (.const (.bool true)),none⟩]
def c69 : SC := (.seq (.reg c69_r0 none (some [0,1,2])) (.seq (.reg c69_r1 none (some [0,1,2,7])) (.seq (.seq (.reg c69_r2 none (some [0,1,2,7,27])) (.cond (.tmp 27) (.seq (.reg c69_r3 none (some [6])) .ret) .skip (some [0,1,2,7]))) (.seq (.reg c69_r4 none (some [0,2,7,8])) (.seq (.seq (.reg c69_r5 none (some [0,2,7,8,9])) (.block 0 (.loop c69_l6 (some [0,2,7,8,9])))) (.seq (.reg c69_r15 none (some [6])) .ret))))))
theorem c69_eq : ∃ code, Try.f69.body = some code ∧ compile H69 code = c69 := ⟨_, rfl, by kernel_rfl⟩
theorem c69_fn : Try.prog.funcs[69]? = some Try.f69 := by kernel_rfl
theorem c69_rs : Try.f69.results.toList = [.tmp 6] := by kernel_rfl
theorem c69_ok : fnB Try.prog H69 Try.f69 = true := by kernel_rfl
theorem c69_nt : Try.f69.ntmps = 77 := by kernel_rfl

def H70 : Hint := ⟨[(25, [6, 7, 8]), (14, [0, 2, 8, 9, 14, 15]), (24, [6, 7, 8]), (2000080, [0, 2, 8, 9, 14, 15]), (23, [0, 2, 8, 9, 14, 15, 80]), (22, [6, 7, 8]), (2000076, [0, 2, 8, 9, 14, 15]), (21, [0, 2, 8, 9, 14, 15, 76]), (20, [0, 2, 8, 9, 14, 15]), (2000073, [0, 2, 8, 9, 14, 15]), (19, [0, 2, 8, 9, 14, 15, 73]), (18, [0, 2, 8, 9, 14, 15, 16]), (17, [0, 2, 8, 9, 14, 15, 16]), (2000062, [0, 2, 8, 9, 14, 15, 16]), (16, [0, 2, 8, 9, 14, 15, 16, 62]), (1000016, [0, 2, 8, 9, 14, 15, 16]), (15, [0, 2, 8, 9, 14, 15, 16]), (2000046, [0, 2, 8, 9, 14, 15]), (13, [0, 2, 8, 9, 14, 15, 46]), (1000013, [0, 2, 8, 9, 14, 15]), (12, [0, 2, 8, 9, 14, 15]), (11, [0, 2, 8, 9, 14]), (10, [0, 2, 8, 9, 10, 11, 22, 23, 24]), (9, [0, 2, 8, 9, 10, 11, 22, 23, 24]), (8, [0, 2, 8, 9, 10, 11, 13, 22, 23, 24]), (2000025, [0, 2, 8, 9, 10, 11, 22, 23, 24]), (7, [0, 2, 8, 9, 10, 11, 22, 23, 24, 25]), (1000007, [0, 2, 8, 9, 10, 11, 22, 23, 24]), (6, [0, 2, 8, 9, 10, 11, 22, 23, 24]), (5, [0, 2, 8, 9, 10, 11]), (4, [0, 2, 8, 9, 10]), (3, [6, 7, 8]), (2000021, [0, 2, 8, 9]), (2, [0, 2, 8, 9, 21]), (1, [0, 2, 8, 9]), (0, [0, 1, 2, 8])], [(9, [(7, 3), (7, 4)])]⟩
def c70_r0 : List SOp := [⟨some 6,.assign (.const (.int .i64 0)),none⟩,⟨some 7,.assign (.const (.bool false)),none⟩,⟨some 8,.assign (.const (.int .i64 0)),none⟩]
def c70_r1 : List SOp := [⟨some 17,.move (.tmp 0),none⟩,⟨some 18,.move (.tmp 1),none⟩,⟨some 19,.call ⟨.value (.func 72), #[.tmp 17,.tmp 18], #[42,3]⟩,none⟩,⟨some 9,.assign (.tmp 19),none⟩]
def c70_r2 : List SOp := [⟨some 20,.move (.tmp 9),none⟩,⟨some 21,.call ⟨.value (.func 76), #[.tmp 20], #[84]⟩,none⟩]
def c70_r3 : List SOp := [⟨some 6,.assign (.const (.int .i64 0)),none⟩,⟨some 7,.assign (.const (.bool true)),none⟩,⟨some 8,.assign (.const (.int .i64 0)),none⟩]
def c70_r4 : List SOp := [⟨some 10,.assign (.const (.slice none 0 0)),none⟩]
def c70_r5 : List SOp := [⟨some 11,.assign (.const (.slice none 0 0)),none⟩]
def c70_r6 : List SOp := [⟨some 22,.move (.tmp 0),none⟩,⟨some 23,.call ⟨.builtin .len, #[.tmp 22], #[42]⟩,none⟩,⟨some 24,.move (.const (.int .i64 0)),none⟩]
def c70_r7 : List SOp := [⟨some 25,.binOp .lss 3 (.tmp 24) (.tmp 23) 3,none⟩]
def c70_r8 : List SOp := [⟨some 26,.indexAddr 42 (.tmp 22) (.tmp 24),none⟩,⟨some 27,.load 52 (.tmp 26),none⟩,⟨some 13,.alloc 52,none⟩,⟨none,.store 52 (.tmp 13) (.tmp 27),none⟩]
def c70_r9 : List SOp := [⟨some 28,.move (.tmp 10),none⟩,⟨some 29,.fieldAddr 52 (.tmp 13) 0,none⟩,⟨some 30,.load 9 (.tmp 29),none⟩,⟨some 31,.buildSlice 38 1 #[(0, (.tmp 30))],none⟩,⟨some 32,.call ⟨.builtin .append, #[.tmp 28,.tmp 31], #[38,38]⟩,none⟩,⟨some 33,.move (.tmp 11),none⟩,⟨some 34,.fieldAddr 52 (.tmp 13) 1,none⟩,⟨some 35,.load 4 (.tmp 34),none⟩,⟨some 36,.buildSlice 68 1 #[(0, (.tmp 35))],none⟩,⟨some 37,.call ⟨.builtin .append, #[.tmp 33,.tmp 36], #[68,68]⟩,none⟩,⟨some 10,.assign (.tmp 32),none⟩,⟨some 11,.assign (.tmp 37),none⟩]
def c70_r10 : List SOp := [⟨some 38,.binOp .add 3 (.tmp 24) (.const (.int .i64 1)) 3,none⟩,⟨some 24,.move (.tmp 38),none⟩]
def c70_l7 : SC := (.seq (.reg c70_r7 none (some [0,2,8,9,10,11,22,23,24,25])) (.seq (.cond (.tmp 25) .skip (.exit 0) (some [0,2,8,9,10,11,22,23,24])) (.seq (.block 1 (.seq (.reg c70_r8 none (some [0,2,8,9,10,11,13,22,23,24])) (.reg c70_r9 (some [(7, 3), (7, 4)]) (some [0,2,8,9,10,11,22,23,24])))) (.reg c70_r10 none (some [0,2,8,9,10,11,22,23,24])))))
def c70_r11 : List SOp := [⟨some 39,.move (.tmp 10),none⟩,⟨some 40,.move (.tmp 11),none⟩,⟨some 41,.move (.tmp 2),none⟩,⟨some 42,.call ⟨.value (.func 64), #[.tmp 39,.tmp 40,.tmp 41], #[38,68,9]⟩,none⟩,⟨some 14,.assign (.tmp 42),none⟩]
def c70_r12 : List SOp := [⟨some 15,.assign (.const (.int .i64 1)),none⟩]
def c70_r13 : List SOp := [⟨some 43,.move (.tmp 15),none⟩,⟨some 44,.move (.tmp 2),none⟩,⟨some 45,.call ⟨.builtin .len, #[.tmp 44], #[9]⟩,none⟩,⟨some 46,.binOp .leq 3 (.tmp 43) (.tmp 45) 3,none⟩]
def c70_r15 : List SOp := [⟨some 49,.move (.tmp 0),none⟩,⟨some 50,.call ⟨.builtin .len, #[.tmp 49], #[42]⟩,none⟩,⟨some 51,.makeSlice 68 (.tmp 50) (.tmp 50),none⟩,⟨some 16,.assign (.tmp 51),none⟩]
def c70_r16 : List SOp := [⟨some 52,.move (.tmp 14),none⟩,⟨some 53,.call ⟨.builtin .len, #[.tmp 52], #[71]⟩,none⟩,⟨some 54,.binOp .gtr 3 (.tmp 53) (.const (.int .i64 0)) 3,none⟩,⟨some 55,.move (.tmp 54),none⟩,⟨some 56,.move (.tmp 14),some (some 55,true)⟩,⟨some 57,.indexAddr 71 (.tmp 56) (.const (.int .i64 0)),some (some 55,true)⟩,⟨some 58,.fieldAddr 75 (.tmp 57) 1,some (some 55,true)⟩,⟨some 59,.load 3 (.tmp 58),some (some 55,true)⟩,⟨some 60,.move (.tmp 15),some (some 55,true)⟩,⟨some 61,.binOp .eql 3 (.tmp 59) (.tmp 60) 3,some (some 55,true)⟩,⟨some 62,.pick (.tmp 55) (.tmp 61) (.const (.bool false)),none⟩]
def c70_r17 : List SOp := [⟨some 63,.move (.tmp 16),none⟩,⟨some 64,.move (.tmp 14),none⟩,⟨some 65,.indexAddr 71 (.tmp 64) (.const (.int .i64 0)),none⟩,⟨some 66,.fieldAddr 75 (.tmp 65) 0,none⟩,⟨some 67,.load 3 (.tmp 66),none⟩,⟨some 68,.indexAddr 68 (.tmp 63) (.tmp 67),none⟩,⟨none,.store 4 (.tmp 68) (.const (.bool true)),none⟩]
def c70_r18 : List SOp := [⟨some 69,.move (.tmp 14),none⟩,⟨some 70,.slice 71 (.tmp 69) (some (.const (.int .i64 1))) none none,none⟩,⟨some 14,.assign (.tmp 70),none⟩]
def c70_l16 : SC := (.seq (.seq (.reg c70_r16 none (some [0,2,8,9,14,15,16,62])) (.cond (.tmp 62) .skip (.exit 4) (some [0,2,8,9,14,15,16]))) (.block 5 (.seq (.reg c70_r17 none (some [0,2,8,9,14,15,16])) (.reg c70_r18 none (some [0,2,8,9,14,15,16])))))
def c70_r19 : List SOp := [⟨some 71,.move (.tmp 9),none⟩,⟨some 72,.move (.tmp 16),none⟩,⟨some 73,.call ⟨.value (.func 73), #[.tmp 71,.tmp 72], #[84,68]⟩,none⟩]
def c70_r20 : List SOp := [⟨some 74,.move (.tmp 15),none⟩,⟨some 8,.assign (.tmp 74),none⟩]
def c70_r21 : List SOp := [⟨some 75,.move (.tmp 9),none⟩,⟨some 76,.call ⟨.value (.func 76), #[.tmp 75], #[84]⟩,none⟩]
def c70_r22 : List SOp := [⟨some 77,.move (.tmp 15),none⟩,⟨some 78,.move (.tmp 8),none⟩,⟨some 6,.assign (.tmp 77),none⟩,⟨some 7,.assign (.const (.bool true)),none⟩,⟨some 8,.assign (.tmp 78),none⟩]
def c70_r23 : List SOp := [⟨some 79,.move (.tmp 8),none⟩,⟨some 80,.binOp .gtr 3 (.tmp 79) (.const (.int .i64 0)) 3,none⟩]
def c70_r24 : List SOp := [⟨some 81,.move (.tmp 8),none⟩,⟨some 6,.assign (.const (.int .i64 0)),none⟩,⟨some 7,.assign (.const (.bool false)),none⟩,⟨some 8,.assign (.tmp 81),none⟩]
def c70_r14 : List SOp := [⟨some 47,.move (.tmp 15),none⟩,⟨some 48,.binOp .add 3 (.tmp 47) (.const (.int .i64 1)) 3,none⟩,⟨some 15,.assign (.tmp 48),none⟩]
def c70_l13 : SC := (.seq (.seq (.reg c70_r13 none (some [0,2,8,9,14,15,46])) (.cond (.tmp 46) .skip (.exit 2) (some [0,2,8,9,14,15]))) (.seq (.block 3 (.seq (.reg c70_r15 none (some [0,2,8,9,14,15,16])) (.seq (.block 4 (.loop c70_l16 (some [0,2,8,9,14,15,16]))) (.seq (.seq (.reg c70_r19 none (some [0,2,8,9,14,15,73])) (.cond (.tmp 73) (.reg c70_r20 none (some [0,2,8,9,14,15])) .skip (some [0,2,8,9,14,15]))) (.seq (.seq (.reg c70_r21 none (some [0,2,8,9,14,15,76])) (.cond (.tmp 76) (.seq (.reg c70_r22 none (some [6,7,8])) .ret) .skip (some [0,2,8,9,14,15]))) (.seq (.reg c70_r23 none (some [0,2,8,9,14,15,80])) (.cond (.tmp 80) (.seq (.reg c70_r24 none (some [6,7,8])) .ret) .skip (some [0,2,8,9,14,15])))))))) (.reg c70_r14 none (some [0,2,8,9,14,15]))))
def c70_r25 : List SOp := [⟨some 6,.assign (.const (.int .i64 0)),none⟩,⟨some 7,.assign (.const (.bool false)),none⟩,⟨some 8,.assign (.const (.int .i64 0)),none⟩]
def c70 : SC := (.seq (.reg c70_r0 none (some [0,1,2,8])) (.seq (.reg c70_r1 none (some [0,2,8,9])) (.seq (.seq (.reg c70_r2 none (some [0,2,8,9,21])) (.cond (.tmp 21) (.seq (.reg c70_r3 none (some [6,7,8])) .ret) .skip (some [0,2,8,9]))) (.seq (.reg c70_r4 none (some [0,2,8,9,10])) (.seq (.reg c70_r5 none (some [0,2,8,9,10,11])) (.seq (.seq (.reg c70_r6 none (some [0,2,8,9,10,11,22,23,24])) (.block 0 (.loop c70_l7 (some [0,2,8,9,10,11,22,23,24])))) (.seq (.reg c70_r11 none (some [0,2,8,9,14])) (.seq (.seq (.reg c70_r12 none (some [0,2,8,9,14,15])) (.block 2 (.loop c70_l13 (some [0,2,8,9,14,15])))) (.seq (.reg c70_r25 none (some [6,7,8])) .ret)))))))))
theorem c70_eq : ∃ code, Try.f70.body = some code ∧ compile H70 code = c70 := ⟨_, rfl, by kernel_rfl⟩
theorem c70_fn : Try.prog.funcs[70]? = some Try.f70 := by kernel_rfl
theorem c70_rs : Try.f70.results.toList = [.tmp 6, .tmp 7, .tmp 8] := by kernel_rfl
theorem c70_ok : fnB Try.prog H70 Try.f70 = true := by kernel_rfl
theorem c70_nt : Try.f70.ntmps = 82 := by kernel_rfl

def H71 : Hint := ⟨[(12, [6, 7, 8]), (4, [0, 1, 2, 9]), (7, [6, 7, 8]), (9, [6, 7, 8]), (11, [6, 7, 8]), (2000046, [0, 1, 2, 9]), (10, [0, 1, 2, 9, 46]), (2000043, [0, 1, 2, 9]), (8, [0, 1, 2, 9, 11, 43]), (2000036, [0, 1, 2, 9]), (6, [0, 1, 2, 9, 10, 11, 36]), (5, [0, 1, 2, 9, 10, 11]), (2000018, [0, 1, 2, 9]), (3, [0, 1, 2, 9, 18]), (1000003, [0, 1, 2, 9]), (2, [0, 1, 2, 9]), (1, [0, 1, 2]), (0, [0, 1, 2])], []⟩
def c71_r0 : List SOp := [⟨some 6,.assign (.const (.int .i64 0)),none⟩,⟨some 7,.assign (.const (.bool false)),none⟩,⟨some 8,.assign (.const (.int .i64 0)),none⟩]
def c71_r1 : List SOp := [⟨some 12,.move (.tmp 1),none⟩,⟨some 13,.call ⟨.builtin .max, #[(.tmp 12), (.const (.int .i64 1))], #[3,3]⟩,none⟩,⟨some 14,.call ⟨.builtin .min, #[(.tmp 13), (.const (.int .i64 32))], #[3,3]⟩,none⟩,⟨some 1,.assign (.tmp 14),none⟩]
def c71_r2 : List SOp := [⟨some 9,.assign (.const (.int .i64 0)),none⟩]
def c71_r3 : List SOp := [⟨some 15,.move (.tmp 9),none⟩,⟨some 16,.move (.tmp 2),none⟩,⟨some 17,.call ⟨.builtin .len, #[.tmp 16], #[9]⟩,none⟩,⟨some 18,.binOp .leq 3 (.tmp 15) (.tmp 17) 3,none⟩]
def c71_r5 : List SOp := [⟨some 21,.move (.tmp 0),none⟩,⟨some 22,.move (.tmp 2),none⟩,⟨some 23,.move (.tmp 9),none⟩,⟨some 24,.slice 9 (.tmp 22) none (some (.tmp 23)) none,none⟩,⟨some 25,.call ⟨.value (.func 48), #[.tmp 21,.tmp 24], #[42,9]⟩,none⟩,⟨some 26,.move (.tmp 9),none⟩,⟨some 27,.binOp .gtr 3 (.tmp 26) (.const (.int .i64 0)) 3,none⟩,⟨some 28,.move (.tmp 27),none⟩,⟨some 29,.move (.tmp 0),some (some 28,true)⟩,⟨some 30,.move (.tmp 1),some (some 28,true)⟩,⟨some 31,.move (.tmp 2),some (some 28,true)⟩,⟨some 32,.move (.tmp 9),some (some 28,true)⟩,⟨some 33,.slice 9 (.tmp 31) none (some (.tmp 32)) none,some (some 28,true)⟩,⟨some 34,.call ⟨.value (.func 106), #[.tmp 29,.tmp 30,.tmp 33], #[42,3,9]⟩,some (some 28,true)⟩,⟨some 35,.pick (.tmp 28) (.tmp 34) (.const (.bool false)),none⟩,⟨some 10,.assign (.tmp 25),none⟩,⟨some 11,.assign (.tmp 35),none⟩]
def c71_r6 : List SOp := [⟨some 37,.move (.tmp 10),none⟩,⟨some 38,.move (.tmp 37),none⟩,⟨some 39,.move (.tmp 11),some (some 38,true)⟩,⟨some 40,.pick (.tmp 38) (.tmp 39) (.const (.bool false)),none⟩,⟨some 36,.assign (.tmp 40),none⟩]
def c71_r7 : List SOp := [⟨some 41,.move (.tmp 9),none⟩,⟨some 42,.move (.tmp 9),none⟩,⟨some 6,.assign (.tmp 41),none⟩,⟨some 7,.assign (.const (.bool true)),none⟩,⟨some 8,.assign (.tmp 42),none⟩]
def c71_r8 : List SOp := [⟨some 44,.move (.tmp 10),none⟩,⟨some 43,.assign (.tmp 44),none⟩]
def c71_r9 : List SOp := [⟨some 45,.move (.tmp 9),none⟩,⟨some 6,.assign (.tmp 45),none⟩,⟨some 7,.assign (.const (.bool true)),none⟩,⟨some 8,.assign (.const (.int .i64 0)),none⟩]
def c71_r10 : List SOp := [⟨some 47,.move (.tmp 11),none⟩,⟨some 46,.assign (.tmp 47),none⟩]
def c71_r11 : List SOp := [⟨some 48,.move (.tmp 9),none⟩,⟨some 6,.assign (.const (.int .i64 0)),none⟩,⟨some 7,.assign (.const (.bool false)),none⟩,⟨some 8,.assign (.tmp 48),none⟩]
def c71_r4 : List SOp := [⟨some 19,.move (.tmp 9),none⟩,⟨some 20,.binOp .add 3 (.tmp 19) (.const (.int .i64 1)) 3,none⟩,⟨some 9,.assign (.tmp 20),none⟩]
def c71_l3 : SC := (.seq (.seq (.reg c71_r3 none (some [0,1,2,9,18])) (.cond (.tmp 18) .skip (.exit 0) (some [0,1,2,9]))) (.seq (.block 1 (.seq (.reg c71_r5 none (some [0,1,2,9,10,11])) (.block 2 (.seq (.reg c71_r6 none (some [0,1,2,9,10,11,36])) (.cond (.tmp 36) (.seq (.reg c71_r7 none (some [6,7,8])) .ret) (.seq (.reg c71_r8 none (some [0,1,2,9,11,43])) (.cond (.tmp 43) (.seq (.reg c71_r9 none (some [6,7,8])) .ret) (.seq (.reg c71_r10 none (some [0,1,2,9,46])) (.cond (.tmp 46) (.seq (.reg c71_r11 none (some [6,7,8])) .ret) .skip (some [0,1,2,9]))) (some [0,1,2,9]))) (some [0,1,2,9])))))) (.reg c71_r4 none (some [0,1,2,9]))))
def c71_r12 : List SOp := [⟨some 6,.assign (.const (.int .i64 0)),none⟩,⟨some 7,.assign (.const (.bool false)),none⟩,⟨some 8,.assign (.const (.int .i64 0)),none⟩]
def c71 : SC := (.seq (.reg c71_r0 none (some [0,1,2])) (.seq (.reg c71_r1 none (some [0,1,2])) (.seq (.seq (.reg c71_r2 none (some [0,1,2,9])) (.block 0 (.loop c71_l3 (some [0,1,2,9])))) (.seq (.reg c71_r12 none (some [6,7,8])) .ret))))
theorem c71_eq : ∃ code, Try.f71.body = some code ∧ compile H71 code = c71 := ⟨_, rfl, by kernel_rfl⟩
theorem c71_fn : Try.prog.funcs[71]? = some Try.f71 := by kernel_rfl
theorem c71_rs : Try.f71.results.toList = [.tmp 6, .tmp 7, .tmp 8] := by kernel_rfl
theorem c71_ok : fnB Try.prog H71 Try.f71 = true := by kernel_rfl
theorem c71_nt : Try.f71.ntmps = 49 := by kernel_rfl

def H72 : Hint := ⟨[(12, [4]), (11, [5, 14, 15, 16]), (10, [5, 14, 15, 16]), (9, [5, 6, 7, 14, 15, 16]), (2000050, [5, 6, 7, 14, 15, 16]), (8, [5, 6, 7, 8, 14, 15, 16, 50]), (7, [5, 6, 7, 8, 14, 15, 16]), (6, [5, 14, 15, 16]), (2000022, [5, 6, 7, 14, 15, 16]), (5, [5, 6, 7, 14, 15, 16, 22]), (4, [5, 6, 7, 14, 15, 16]), (2000017, [5, 14, 15, 16]), (3, [5, 14, 15, 16, 17]), (1000003, [5, 14, 15, 16]), (2, [5, 14, 15, 16]), (1, [0, 5]), (0, [0, 1])], [(9, [(17, 23), (19, 23)])]⟩
def c72_r0 : List SOp := [⟨some 4,.assign (.const (.pointer none)),none⟩]
def c72_r1 : List SOp := [⟨some 9,.move (.tmp 1),none⟩,⟨some 10,.call ⟨.builtin .min, #[(.tmp 9), (.const (.int .i64 32))], #[3,3]⟩,none⟩,⟨some 11,.call ⟨.builtin .max, #[(.const (.int .i64 1)), (.tmp 10)], #[3,3]⟩,none⟩,⟨some 12,.build 144 #[(0, (.tmp 11))],none⟩,⟨some 13,.box 144 (.tmp 12),none⟩,⟨some 5,.assign (.tmp 13),none⟩]
def c72_r2 : List SOp := [⟨some 14,.move (.tmp 0),none⟩,⟨some 15,.call ⟨.builtin .len, #[.tmp 14], #[42]⟩,none⟩,⟨some 16,.move (.const (.int .i64 0)),none⟩]
def c72_r3 : List SOp := [⟨some 17,.binOp .lss 3 (.tmp 16) (.tmp 15) 3,none⟩]
def c72_r4 : List SOp := [⟨some 18,.move (.tmp 16),none⟩,⟨some 19,.indexAddr 42 (.tmp 14) (.tmp 16),none⟩,⟨some 20,.load 52 (.tmp 19),none⟩,⟨some 7,.alloc 52,none⟩,⟨some 6,.assign (.tmp 18),none⟩,⟨none,.store 52 (.tmp 7) (.tmp 20),none⟩]
def c72_r5 : List SOp := [⟨some 21,.fieldAddr 52 (.tmp 7) 2,none⟩,⟨some 22,.load 4 (.tmp 21),none⟩]
def c72_r6 : List SOp := [⟨some 23,.move (.tmp 5),none⟩,⟨some 24,.move (.tmp 5),none⟩,⟨some 25,.nilCheck (.tmp 24),none⟩,⟨some 26,.fieldAddr 144 (.tmp 25) 3,none⟩,⟨some 27,.load 142 (.tmp 26),none⟩,⟨some 28,.load 52 (.tmp 7),none⟩,⟨some 29,.move (.tmp 6),none⟩,⟨some 30,.build 147 #[(0, (.tmp 28)), (1, (.tmp 29))],none⟩,⟨some 31,.buildSlice 142 1 #[(0, (.tmp 30))],none⟩,⟨some 32,.call ⟨.builtin .append, #[.tmp 27,.tmp 31], #[142,142]⟩,none⟩,⟨some 33,.nilCheck (.tmp 23),none⟩,⟨some 34,.fieldAddr 144 (.tmp 33) 3,none⟩,⟨none,.store 142 (.tmp 34) (.tmp 32),none⟩]
def c72_r7 : List SOp := [⟨some 35,.move (.tmp 5),none⟩,⟨some 36,.nilCheck (.tmp 35),none⟩,⟨some 37,.fieldAddr 144 (.tmp 36) 2,none⟩,⟨some 38,.load 141 (.tmp 37),none⟩,⟨some 39,.call ⟨.builtin .len, #[.tmp 38], #[141]⟩,none⟩,⟨some 8,.assign (.tmp 39),none⟩]
def c72_r8 : List SOp := [⟨some 40,.move (.tmp 8),none⟩,⟨some 41,.binOp .gtr 3 (.tmp 40) (.const (.int .i64 0)) 3,none⟩,⟨some 42,.move (.tmp 41),none⟩,⟨some 43,.fieldAddr 52 (.tmp 7) 5,some (some 42,true)⟩,⟨some 44,.load 4 (.tmp 43),some (some 42,true)⟩,⟨some 45,.pick (.tmp 42) (.tmp 44) (.const (.bool false)),none⟩,⟨some 46,.move (.tmp 45),none⟩,⟨some 47,.fieldAddr 52 (.tmp 7) 7,some (some 46,true)⟩,⟨some 48,.load 3 (.tmp 47),some (some 46,true)⟩,⟨some 49,.binOp .gtr 3 (.tmp 48) (.const (.int .i64 0)) 3,some (some 46,true)⟩,⟨some 50,.pick (.tmp 46) (.tmp 49) (.const (.bool false)),none⟩]
def c72_r9 : List SOp := [⟨some 51,.move (.tmp 5),none⟩,⟨some 52,.nilCheck (.tmp 51),none⟩,⟨some 53,.fieldAddr 144 (.tmp 52) 2,none⟩,⟨some 54,.load 141 (.tmp 53),none⟩,⟨some 55,.move (.tmp 8),none⟩,⟨some 56,.binOp .sub 3 (.tmp 55) (.const (.int .i64 1)) 3,none⟩,⟨some 57,.indexAddr 141 (.tmp 54) (.tmp 56),none⟩,⟨some 58,.load 148 (.tmp 57),none⟩,⟨some 59,.move (.tmp 5),none⟩,⟨some 60,.nilCheck (.tmp 59),none⟩,⟨some 61,.fieldAddr 144 (.tmp 60) 2,none⟩,⟨some 62,.load 141 (.tmp 61),none⟩,⟨some 63,.move (.tmp 8),none⟩,⟨some 64,.binOp .sub 3 (.tmp 63) (.const (.int .i64 1)) 3,none⟩,⟨some 65,.indexAddr 141 (.tmp 62) (.tmp 64),none⟩,⟨some 66,.load 148 (.tmp 65),none⟩,⟨some 67,.fieldAddr 52 (.tmp 7) 6,none⟩,⟨some 68,.load 3 (.tmp 67),none⟩,⟨some 69,.fieldAddr 52 (.tmp 7) 7,none⟩,⟨some 70,.load 3 (.tmp 69),none⟩,⟨some 71,.binOp .add 3 (.tmp 68) (.tmp 70) 3,none⟩,⟨some 72,.nilCheck (.tmp 58),none⟩,⟨some 73,.fieldAddr 147 (.tmp 72) 4,none⟩,⟨none,.store 4 (.tmp 73) (.const (.bool false)),none⟩,⟨some 74,.nilCheck (.tmp 66),none⟩,⟨some 75,.fieldAddr 147 (.tmp 74) 3,none⟩,⟨none,.store 3 (.tmp 75) (.tmp 71),none⟩]
def c72_r10 : List SOp := [⟨some 76,.move (.tmp 5),none⟩,⟨some 77,.move (.tmp 5),none⟩,⟨some 78,.nilCheck (.tmp 77),none⟩,⟨some 79,.fieldAddr 144 (.tmp 78) 2,none⟩,⟨some 80,.load 141 (.tmp 79),none⟩,⟨some 81,.load 52 (.tmp 7),none⟩,⟨some 82,.move (.tmp 6),none⟩,⟨some 83,.move (.tmp 5),none⟩,⟨some 84,.nilCheck (.tmp 83),none⟩,⟨some 85,.fieldAddr 144 (.tmp 84) 2,none⟩,⟨some 86,.load 141 (.tmp 85),none⟩,⟨some 87,.call ⟨.builtin .len, #[.tmp 86], #[141]⟩,none⟩,⟨some 88,.binOp .eql 3 (.tmp 87) (.const (.int .i64 0)) 3,none⟩,⟨some 89,.build 147 #[(0, (.tmp 81)), (1, (.tmp 82)), (2, (.tmp 88)), (4, (.const (.bool true)))],none⟩,⟨some 90,.box 147 (.tmp 89),none⟩,⟨some 91,.buildSlice 141 1 #[(0, (.tmp 90))],none⟩,⟨some 92,.call ⟨.builtin .append, #[.tmp 80,.tmp 91], #[141,141]⟩,none⟩,⟨some 93,.nilCheck (.tmp 76),none⟩,⟨some 94,.fieldAddr 144 (.tmp 93) 2,none⟩,⟨none,.store 141 (.tmp 94) (.tmp 92),none⟩]
def c72_r11 : List SOp := [⟨some 95,.binOp .add 3 (.tmp 16) (.const (.int .i64 1)) 3,none⟩,⟨some 16,.move (.tmp 95),none⟩]
def c72_l3 : SC := (.seq (.reg c72_r3 none (some [5,14,15,16,17])) (.seq (.cond (.tmp 17) .skip (.exit 0) (some [5,14,15,16])) (.seq (.block 1 (.seq (.reg c72_r4 none (some [5,6,7,14,15,16])) (.seq (.seq (.reg c72_r5 none (some [5,6,7,14,15,16,22])) (.cond (.tmp 22) (.seq (.reg c72_r6 none (some [5,14,15,16])) (.exit 1)) .skip (some [5,6,7,14,15,16]))) (.seq (.seq (.reg c72_r7 none (some [5,6,7,8,14,15,16])) (.seq (.reg c72_r8 none (some [5,6,7,8,14,15,16,50])) (.cond (.tmp 50) (.reg c72_r9 (some [(17, 23), (19, 23)]) (some [5,6,7,14,15,16])) .skip (some [5,6,7,14,15,16])))) (.reg c72_r10 none (some [5,14,15,16])))))) (.reg c72_r11 none (some [5,14,15,16])))))
def c72_r12 : List SOp := [⟨some 96,.move (.tmp 5),none⟩,⟨some 4,.assign (.tmp 96),none⟩]
def c72 : SC := (.seq (.reg c72_r0 none (some [0,1])) (.seq (.reg c72_r1 none (some [0,5])) (.seq (.seq (.reg c72_r2 none (some [5,14,15,16])) (.block 0 (.loop c72_l3 (some [5,14,15,16])))) (.seq (.reg c72_r12 none (some [4])) .ret))))
theorem c72_eq : ∃ code, Try.f72.body = some code ∧ compile H72 code = c72 := ⟨_, rfl, by kernel_rfl⟩
theorem c72_fn : Try.prog.funcs[72]? = some Try.f72 := by kernel_rfl
theorem c72_rs : Try.f72.results.toList = [.tmp 4] := by kernel_rfl
theorem c72_ok : fnB Try.prog H72 Try.f72 = true := by kernel_rfl
theorem c72_nt : Try.f72.ntmps = 97 := by kernel_rfl

def H73 : Hint := ⟨[(24, [4]), (23, [2, 5, 127, 128]), (22, [2, 5, 127, 128]), (21, [2, 5, 11, 127, 128]), (2000129, [2, 5, 127, 128]), (20, [2, 5, 127, 128, 129]), (1000020, [2, 5, 127, 128]), (19, [2, 5, 127, 128]), (18, [2, 5, 6, 87, 88, 89]), (17, [2, 5, 6, 87, 88, 89]), (16, [2, 5, 6, 10, 87, 88, 89]), (15, [2, 5, 6, 9, 10, 87, 88, 89]), (2000090, [2, 5, 6, 87, 88, 89]), (14, [2, 5, 6, 87, 88, 89, 90]), (1000014, [2, 5, 6, 87, 88, 89]), (13, [2, 5, 6, 87, 88, 89]), (12, [2, 5, 6, 33, 34, 35]), (11, [2, 5, 6, 33, 34, 35]), (2000056, [2, 5, 6, 33, 34, 35]), (10, [2, 5, 6, 7, 8, 33, 34, 35, 56]), (9, [2, 5, 6, 7, 8, 33, 34, 35]), (8, [2, 5, 6, 7, 8, 33, 34, 35]), (2000036, [2, 5, 6, 33, 34, 35]), (7, [2, 5, 6, 33, 34, 35, 36]), (1000007, [2, 5, 6, 33, 34, 35]), (6, [2, 5, 6, 33, 34, 35]), (5, [2, 5, 6]), (4, [2, 5]), (3, [2, 3]), (2, [4]), (2000015, [2, 3]), (1, [2, 3, 15]), (0, [2, 3])], [(22, [(0, 13)])]⟩
def c73_r0 : List SOp := [⟨some 2,.box 84 (.tmp 0),none⟩,⟨some 3,.box 68 (.tmp 1),none⟩,⟨some 4,.assign (.const (.bool false)),none⟩]
def c73_r1 : List SOp := [⟨some 12,.load 84 (.tmp 2),none⟩,⟨some 13,.nilCheck (.tmp 12),none⟩,⟨some 14,.fieldAddr 144 (.tmp 13) 5,none⟩,⟨some 15,.load 4 (.tmp 14),none⟩]
def c73_r2 : List SOp := [⟨some 4,.assign (.const (.bool true)),none⟩]
def c73_r3 : List SOp := [⟨some 16,.load 84 (.tmp 2),none⟩,⟨some 17,.nilCheck (.tmp 16),none⟩,⟨some 18,.fieldAddr 144 (.tmp 17) 1,none⟩,⟨some 19,.load 3 (.tmp 18),none⟩,⟨some 20,.binOp .add 3 (.tmp 19) (.const (.int .i64 1)) 3,none⟩,⟨some 21,.nilCheck (.tmp 16),none⟩,⟨some 22,.fieldAddr 144 (.tmp 21) 1,none⟩,⟨none,.store 3 (.tmp 22) (.tmp 20),none⟩]
def c73_r4 : List SOp := [⟨some 23,.makeFunc (.func 108) #[] #[.tmp 3,.tmp 2],none⟩,⟨some 5,.assign (.tmp 23),none⟩]
def c73_r5 : List SOp := [⟨some 24,.load 84 (.tmp 2),none⟩,⟨some 25,.nilCheck (.tmp 24),none⟩,⟨some 26,.fieldAddr 144 (.tmp 25) 2,none⟩,⟨some 27,.load 141 (.tmp 26),none⟩,⟨some 28,.call ⟨.builtin .len, #[.tmp 27], #[141]⟩,none⟩,⟨some 29,.makeSlice 68 (.tmp 28) (.tmp 28),none⟩,⟨some 6,.assign (.tmp 29),none⟩]
def c73_r6 : List SOp := [⟨some 30,.load 84 (.tmp 2),none⟩,⟨some 31,.nilCheck (.tmp 30),none⟩,⟨some 32,.fieldAddr 144 (.tmp 31) 2,none⟩,⟨some 33,.load 141 (.tmp 32),none⟩,⟨some 34,.call ⟨.builtin .len, #[.tmp 33], #[141]⟩,none⟩,⟨some 35,.move (.const (.int .i64 0)),none⟩]
def c73_r7 : List SOp := [⟨some 36,.binOp .lss 3 (.tmp 35) (.tmp 34) 3,none⟩]
def c73_r8 : List SOp := [⟨some 37,.move (.tmp 35),none⟩,⟨some 38,.indexAddr 141 (.tmp 33) (.tmp 35),none⟩,⟨some 39,.load 148 (.tmp 38),none⟩,⟨some 7,.assign (.tmp 37),none⟩,⟨some 8,.assign (.tmp 39),none⟩]
def c73_r9 : List SOp := [⟨some 40,.move (.tmp 6),none⟩,⟨some 41,.move (.tmp 7),none⟩,⟨some 42,.move (.tmp 5),none⟩,⟨some 43,.move (.tmp 8),none⟩,⟨some 44,.call ⟨.value (.tmp 42), #[.tmp 43], #[148]⟩,none⟩,⟨some 45,.indexAddr 68 (.tmp 40) (.tmp 41),none⟩,⟨none,.store 4 (.tmp 45) (.tmp 44),none⟩]
def c73_r10 : List SOp := [⟨some 46,.move (.tmp 6),none⟩,⟨some 47,.move (.tmp 7),none⟩,⟨some 48,.indexAddr 68 (.tmp 46) (.tmp 47),none⟩,⟨some 49,.load 4 (.tmp 48),none⟩,⟨some 50,.move (.tmp 49),none⟩,⟨some 51,.move (.tmp 8),some (some 50,true)⟩,⟨some 52,.nilCheck (.tmp 51),some (some 50,true)⟩,⟨some 53,.fieldAddr 147 (.tmp 52) 0,some (some 50,true)⟩,⟨some 54,.fieldAddr 52 (.tmp 53) 5,some (some 50,true)⟩,⟨some 55,.load 4 (.tmp 54),some (some 50,true)⟩,⟨some 56,.pick (.tmp 50) (.tmp 55) (.const (.bool false)),none⟩]
def c73_r11 : List SOp := [⟨some 57,.move (.tmp 6),none⟩,⟨some 58,.move (.tmp 7),none⟩,⟨some 59,.move (.tmp 7),none⟩,⟨some 60,.binOp .gtr 3 (.tmp 59) (.const (.int .i64 0)) 3,none⟩,⟨some 61,.move (.tmp 60),none⟩,⟨some 62,.move (.tmp 8),some (some 61,true)⟩,⟨some 63,.load 84 (.tmp 2),some (some 61,true)⟩,⟨some 64,.nilCheck (.tmp 63),some (some 61,true)⟩,⟨some 65,.fieldAddr 144 (.tmp 64) 2,some (some 61,true)⟩,⟨some 66,.load 141 (.tmp 65),some (some 61,true)⟩,⟨some 67,.move (.tmp 7),some (some 61,true)⟩,⟨some 68,.binOp .sub 3 (.tmp 67) (.const (.int .i64 1)) 3,some (some 61,true)⟩,⟨some 69,.indexAddr 141 (.tmp 66) (.tmp 68),some (some 61,true)⟩,⟨some 70,.load 148 (.tmp 69),some (some 61,true)⟩,⟨some 71,.move (.tmp 6),some (some 61,true)⟩,⟨some 72,.move (.tmp 7),some (some 61,true)⟩,⟨some 73,.binOp .sub 3 (.tmp 72) (.const (.int .i64 1)) 3,some (some 61,true)⟩,⟨some 74,.indexAddr 68 (.tmp 71) (.tmp 73),some (some 61,true)⟩,⟨some 75,.load 4 (.tmp 74),some (some 61,true)⟩,⟨some 76,.load 84 (.tmp 2),some (some 61,true)⟩,⟨some 77,.nilCheck (.tmp 76),some (some 61,true)⟩,⟨some 78,.fieldAddr 144 (.tmp 77) 1,some (some 61,true)⟩,⟨some 79,.load 3 (.tmp 78),some (some 61,true)⟩,⟨some 80,.call ⟨.value (.func 110), #[.tmp 62,.tmp 70,.tmp 75,.tmp 79], #[148,148,4,3]⟩,some (some 61,true)⟩,⟨some 81,.pick (.tmp 61) (.tmp 80) (.const (.bool false)),none⟩,⟨some 82,.indexAddr 68 (.tmp 57) (.tmp 58),none⟩,⟨none,.store 4 (.tmp 82) (.tmp 81),none⟩]
def c73_r12 : List SOp := [⟨some 83,.binOp .add 3 (.tmp 35) (.const (.int .i64 1)) 3,none⟩,⟨some 35,.move (.tmp 83),none⟩]
def c73_l7 : SC := (.seq (.reg c73_r7 none (some [2,5,6,33,34,35,36])) (.seq (.cond (.tmp 36) .skip (.exit 0) (some [2,5,6,33,34,35])) (.seq (.block 1 (.seq (.reg c73_r8 none (some [2,5,6,7,8,33,34,35])) (.seq (.reg c73_r9 none (some [2,5,6,7,8,33,34,35])) (.seq (.reg c73_r10 none (some [2,5,6,7,8,33,34,35,56])) (.cond (.tmp 56) (.reg c73_r11 none (some [2,5,6,33,34,35])) .skip (some [2,5,6,33,34,35])))))) (.reg c73_r12 none (some [2,5,6,33,34,35])))))
def c73_r13 : List SOp := [⟨some 84,.load 84 (.tmp 2),none⟩,⟨some 85,.nilCheck (.tmp 84),none⟩,⟨some 86,.fieldAddr 144 (.tmp 85) 2,none⟩,⟨some 87,.load 141 (.tmp 86),none⟩,⟨some 88,.call ⟨.builtin .len, #[.tmp 87], #[141]⟩,none⟩,⟨some 89,.move (.const (.int .i64 0)),none⟩]
def c73_r14 : List SOp := [⟨some 90,.binOp .lss 3 (.tmp 89) (.tmp 88) 3,none⟩]
def c73_r15 : List SOp := [⟨some 91,.move (.tmp 89),none⟩,⟨some 92,.indexAddr 141 (.tmp 87) (.tmp 89),none⟩,⟨some 93,.load 148 (.tmp 92),none⟩,⟨some 9,.assign (.tmp 91),none⟩,⟨some 10,.assign (.tmp 93),none⟩]
def c73_r16 : List SOp := [⟨some 94,.move (.tmp 10),none⟩,⟨some 95,.load 84 (.tmp 2),none⟩,⟨some 96,.nilCheck (.tmp 95),none⟩,⟨some 97,.fieldAddr 144 (.tmp 96) 1,none⟩,⟨some 98,.load 3 (.tmp 97),none⟩,⟨some 99,.move (.tmp 6),none⟩,⟨some 100,.move (.tmp 9),none⟩,⟨some 101,.indexAddr 68 (.tmp 99) (.tmp 100),none⟩,⟨some 102,.load 4 (.tmp 101),none⟩,⟨some 103,.call ⟨.value (.func 111), #[.tmp 94,.tmp 98,.tmp 102], #[148,3,4]⟩,none⟩]
def c73_r17 : List SOp := [⟨some 104,.load 84 (.tmp 2),none⟩,⟨some 105,.load 84 (.tmp 2),none⟩,⟨some 106,.nilCheck (.tmp 105),none⟩,⟨some 107,.fieldAddr 144 (.tmp 106) 5,none⟩,⟨some 108,.load 4 (.tmp 107),none⟩,⟨some 109,.move (.tmp 108),none⟩,⟨some 110,.move (.tmp 10),some (some 109,false)⟩,⟨some 111,.nilCheck (.tmp 110),some (some 109,false)⟩,⟨some 112,.fieldAddr 147 (.tmp 111) 6,some (some 109,false)⟩,⟨some 113,.load 3 (.tmp 112),some (some 109,false)⟩,⟨some 114,.load 84 (.tmp 2),some (some 109,false)⟩,⟨some 115,.nilCheck (.tmp 114),some (some 109,false)⟩,⟨some 116,.fieldAddr 144 (.tmp 115) 0,some (some 109,false)⟩,⟨some 117,.load 3 (.tmp 116),some (some 109,false)⟩,⟨some 118,.binOp .gtr 3 (.tmp 113) (.tmp 117) 3,some (some 109,false)⟩,⟨some 119,.pick (.tmp 109) (.const (.bool true)) (.tmp 118),none⟩,⟨some 120,.nilCheck (.tmp 104),none⟩,⟨some 121,.fieldAddr 144 (.tmp 120) 5,none⟩,⟨none,.store 4 (.tmp 121) (.tmp 119),none⟩]
def c73_r18 : List SOp := [⟨some 122,.binOp .add 3 (.tmp 89) (.const (.int .i64 1)) 3,none⟩,⟨some 89,.move (.tmp 122),none⟩]
def c73_l14 : SC := (.seq (.reg c73_r14 none (some [2,5,6,87,88,89,90])) (.seq (.cond (.tmp 90) .skip (.exit 2) (some [2,5,6,87,88,89])) (.seq (.block 3 (.seq (.reg c73_r15 none (some [2,5,6,9,10,87,88,89])) (.seq (.reg c73_r16 none (some [2,5,6,10,87,88,89])) (.reg c73_r17 none (some [2,5,6,87,88,89]))))) (.reg c73_r18 none (some [2,5,6,87,88,89])))))
def c73_r19 : List SOp := [⟨some 123,.load 84 (.tmp 2),none⟩,⟨some 124,.nilCheck (.tmp 123),none⟩,⟨some 125,.fieldAddr 144 (.tmp 124) 3,none⟩,⟨some 126,.load 142 (.tmp 125),none⟩,⟨some 127,.call ⟨.builtin .len, #[.tmp 126], #[142]⟩,none⟩,⟨some 128,.move (.const (.int .i64 0)),none⟩]
def c73_r20 : List SOp := [⟨some 129,.binOp .lss 3 (.tmp 128) (.tmp 127) 3,none⟩]
def c73_r21 : List SOp := [⟨some 130,.move (.tmp 128),none⟩,⟨some 11,.assign (.tmp 130),none⟩]
def c73_r22 : List SOp := [⟨some 131,.load 84 (.tmp 2),none⟩,⟨some 132,.load 84 (.tmp 2),none⟩,⟨some 133,.nilCheck (.tmp 132),none⟩,⟨some 134,.fieldAddr 144 (.tmp 133) 4,none⟩,⟨some 135,.load 4 (.tmp 134),none⟩,⟨some 136,.move (.tmp 135),none⟩,⟨some 137,.move (.tmp 5),some (some 136,false)⟩,⟨some 138,.load 84 (.tmp 2),some (some 136,false)⟩,⟨some 139,.nilCheck (.tmp 138),some (some 136,false)⟩,⟨some 140,.fieldAddr 144 (.tmp 139) 3,some (some 136,false)⟩,⟨some 141,.load 142 (.tmp 140),some (some 136,false)⟩,⟨some 142,.move (.tmp 11),some (some 136,false)⟩,⟨some 143,.indexAddr 142 (.tmp 141) (.tmp 142),some (some 136,false)⟩,⟨some 144,.call ⟨.value (.tmp 137), #[.tmp 143], #[148]⟩,some (some 136,false)⟩,⟨some 145,.pick (.tmp 136) (.const (.bool true)) (.tmp 144),none⟩,⟨some 146,.nilCheck (.tmp 131),none⟩,⟨some 147,.fieldAddr 144 (.tmp 146) 4,none⟩,⟨none,.store 4 (.tmp 147) (.tmp 145),none⟩]
def c73_r23 : List SOp := [⟨some 148,.binOp .add 3 (.tmp 128) (.const (.int .i64 1)) 3,none⟩,⟨some 128,.move (.tmp 148),none⟩]
def c73_l20 : SC := (.seq (.reg c73_r20 none (some [2,5,127,128,129])) (.seq (.cond (.tmp 129) .skip (.exit 4) (some [2,5,127,128])) (.seq (.block 5 (.seq (.reg c73_r21 none (some [2,5,11,127,128])) (.reg c73_r22 (some [(0, 13)]) (some [2,5,127,128])))) (.reg c73_r23 none (some [2,5,127,128])))))
def c73_r24 : List SOp := [⟨some 149,.load 84 (.tmp 2),none⟩,⟨some 150,.nilCheck (.tmp 149),none⟩,⟨some 151,.fieldAddr 144 (.tmp 150) 5,none⟩,⟨some 152,.load 4 (.tmp 151),none⟩,⟨some 4,.assign (.tmp 152),none⟩]
def c73 : SC := (.seq (.reg c73_r0 none (some [2,3])) (.seq (.seq (.reg c73_r1 none (some [2,3,15])) (.cond (.tmp 15) (.seq (.reg c73_r2 none (some [4])) .ret) .skip (some [2,3]))) (.seq (.reg c73_r3 none (some [2,3])) (.seq (.reg c73_r4 none (some [2,5])) (.seq (.reg c73_r5 none (some [2,5,6])) (.seq (.seq (.reg c73_r6 none (some [2,5,6,33,34,35])) (.block 0 (.loop c73_l7 (some [2,5,6,33,34,35])))) (.seq (.seq (.reg c73_r13 none (some [2,5,6,87,88,89])) (.block 2 (.loop c73_l14 (some [2,5,6,87,88,89])))) (.seq (.seq (.reg c73_r19 none (some [2,5,127,128])) (.block 4 (.loop c73_l20 (some [2,5,127,128])))) (.seq (.reg c73_r24 none (some [4])) .ret)))))))))
theorem c73_eq : ∃ code, Try.f73.body = some code ∧ compile H73 code = c73 := ⟨_, rfl, by kernel_rfl⟩
theorem c73_fn : Try.prog.funcs[73]? = some Try.f73 := by kernel_rfl
theorem c73_rs : Try.f73.results.toList = [.tmp 4] := by kernel_rfl
theorem c73_ok : fnB Try.prog H73 Try.f73 = true := by kernel_rfl
theorem c73_nt : Try.f73.ntmps = 153 := by kernel_rfl

def H74 : Hint := ⟨[(7, [2]), (6, [3, 15, 16, 17]), (5, [3, 15, 16, 17]), (4, [3, 4, 5, 15, 16, 17]), (2000018, [3, 15, 16, 17]), (3, [3, 15, 16, 17, 18]), (1000003, [3, 15, 16, 17]), (2, [3, 15, 16, 17]), (1, [0, 3]), (0, [0])], []⟩
def c74_r0 : List SOp := [⟨some 2,.assign (.const (.slice none 0 0)),none⟩]
def c74_r1 : List SOp := [⟨some 6,.move (.tmp 0),none⟩,⟨some 7,.nilCheck (.tmp 6),none⟩,⟨some 8,.fieldAddr 144 (.tmp 7) 2,none⟩,⟨some 9,.load 141 (.tmp 8),none⟩,⟨some 10,.call ⟨.builtin .len, #[.tmp 9], #[141]⟩,none⟩,⟨some 11,.makeSlice 30 (.tmp 10) (.tmp 10),none⟩,⟨some 3,.assign (.tmp 11),none⟩]
def c74_r2 : List SOp := [⟨some 12,.move (.tmp 0),none⟩,⟨some 13,.nilCheck (.tmp 12),none⟩,⟨some 14,.fieldAddr 144 (.tmp 13) 2,none⟩,⟨some 15,.load 141 (.tmp 14),none⟩,⟨some 16,.call ⟨.builtin .len, #[.tmp 15], #[141]⟩,none⟩,⟨some 17,.move (.const (.int .i64 0)),none⟩]
def c74_r3 : List SOp := [⟨some 18,.binOp .lss 3 (.tmp 17) (.tmp 16) 3,none⟩]
def c74_r4 : List SOp := [⟨some 19,.move (.tmp 17),none⟩,⟨some 20,.indexAddr 141 (.tmp 15) (.tmp 17),none⟩,⟨some 21,.load 148 (.tmp 20),none⟩,⟨some 4,.assign (.tmp 19),none⟩,⟨some 5,.assign (.tmp 21),none⟩]
def c74_r5 : List SOp := [⟨some 22,.move (.tmp 3),none⟩,⟨some 23,.move (.tmp 4),none⟩,⟨some 24,.move (.tmp 5),none⟩,⟨some 25,.nilCheck (.tmp 24),none⟩,⟨some 26,.fieldAddr 147 (.tmp 25) 6,none⟩,⟨some 27,.load 3 (.tmp 26),none⟩,⟨some 28,.indexAddr 30 (.tmp 22) (.tmp 23),none⟩,⟨none,.store 3 (.tmp 28) (.tmp 27),none⟩]
def c74_r6 : List SOp := [⟨some 29,.binOp .add 3 (.tmp 17) (.const (.int .i64 1)) 3,none⟩,⟨some 17,.move (.tmp 29),none⟩]
def c74_l3 : SC := (.seq (.reg c74_r3 none (some [3,15,16,17,18])) (.seq (.cond (.tmp 18) .skip (.exit 0) (some [3,15,16,17])) (.seq (.block 1 (.seq (.reg c74_r4 none (some [3,4,5,15,16,17])) (.reg c74_r5 none (some [3,15,16,17])))) (.reg c74_r6 none (some [3,15,16,17])))))
def c74_r7 : List SOp := [⟨some 30,.move (.tmp 3),none⟩,⟨some 2,.assign (.tmp 30),none⟩]
def c74 : SC := (.seq (.reg c74_r0 none (some [0])) (.seq (.reg c74_r1 none (some [0,3])) (.seq (.seq (.reg c74_r2 none (some [3,15,16,17])) (.block 0 (.loop c74_l3 (some [3,15,16,17])))) (.seq (.reg c74_r7 none (some [2])) .ret))))
theorem c74_eq : ∃ code, Try.f74.body = some code ∧ compile H74 code = c74 := ⟨_, rfl, by kernel_rfl⟩
theorem c74_fn : Try.prog.funcs[74]? = some Try.f74 := by kernel_rfl
theorem c74_rs : Try.f74.results.toList = [.tmp 2] := by kernel_rfl
theorem c74_ok : fnB Try.prog H74 Try.f74 = true := by kernel_rfl
theorem c74_nt : Try.f74.ntmps = 31 := by kernel_rfl

def H75 : Hint := ⟨[(1, [2]), (0, [0])], []⟩
def c75_r0 : List SOp := [⟨some 2,.assign (.const (.bool false)),none⟩]
def c75_r1 : List SOp := [⟨some 3,.move (.tmp 0),none⟩,⟨some 4,.nilCheck (.tmp 3),none⟩,⟨some 5,.fieldAddr 144 (.tmp 4) 5,none⟩,⟨some 6,.load 4 (.tmp 5),none⟩,⟨some 2,.assign (.tmp 6),none⟩]
def c75 : SC := (.seq (.reg c75_r0 none (some [0])) (.seq (.reg c75_r1 none (some [2])) .ret))
theorem c75_eq : ∃ code, Try.f75.body = some code ∧ compile H75 code = c75 := ⟨_, rfl, by kernel_rfl⟩
theorem c75_fn : Try.prog.funcs[75]? = some Try.f75 := by kernel_rfl
theorem c75_rs : Try.f75.results.toList = [.tmp 2] := by kernel_rfl
theorem c75_ok : fnB Try.prog H75 Try.f75 = true := by kernel_rfl
theorem c75_nt : Try.f75.ntmps = 7 := by kernel_rfl

def H76 : Hint := ⟨[(7, [2]), (6, [0, 8, 9, 10]), (5, [2]), (2000018, [0, 8, 9, 10]), (4, [0, 8, 9, 10, 18]), (3, [0, 4, 8, 9, 10]), (2000011, [0, 8, 9, 10]), (2, [0, 8, 9, 10, 11]), (1000002, [0, 8, 9, 10]), (1, [0, 8, 9, 10]), (0, [0])], []⟩
def c76_r0 : List SOp := [⟨some 2,.assign (.const (.bool false)),none⟩]
def c76_r1 : List SOp := [⟨some 5,.move (.tmp 0),none⟩,⟨some 6,.nilCheck (.tmp 5),none⟩,⟨some 7,.fieldAddr 144 (.tmp 6) 2,none⟩,⟨some 8,.load 141 (.tmp 7),none⟩,⟨some 9,.call ⟨.builtin .len, #[.tmp 8], #[141]⟩,none⟩,⟨some 10,.move (.const (.int .i64 0)),none⟩]
def c76_r2 : List SOp := [⟨some 11,.binOp .lss 3 (.tmp 10) (.tmp 9) 3,none⟩]
def c76_r3 : List SOp := [⟨some 12,.indexAddr 141 (.tmp 8) (.tmp 10),none⟩,⟨some 13,.load 148 (.tmp 12),none⟩,⟨some 4,.assign (.tmp 13),none⟩]
def c76_r4 : List SOp := [⟨some 14,.move (.tmp 4),none⟩,⟨some 15,.nilCheck (.tmp 14),none⟩,⟨some 16,.fieldAddr 147 (.tmp 15) 7,none⟩,⟨some 17,.load 4 (.tmp 16),none⟩,⟨some 18,.unOp .not 4 (.tmp 17),none⟩]
def c76_r5 : List SOp := [⟨some 2,.assign (.const (.bool false)),none⟩]
def c76_r6 : List SOp := [⟨some 19,.binOp .add 3 (.tmp 10) (.const (.int .i64 1)) 3,none⟩,⟨some 10,.move (.tmp 19),none⟩]
def c76_l2 : SC := (.seq (.reg c76_r2 none (some [0,8,9,10,11])) (.seq (.cond (.tmp 11) .skip (.exit 0) (some [0,8,9,10])) (.seq (.block 1 (.seq (.reg c76_r3 none (some [0,4,8,9,10])) (.seq (.reg c76_r4 none (some [0,8,9,10,18])) (.cond (.tmp 18) (.seq (.reg c76_r5 none (some [2])) .ret) .skip (some [0,8,9,10]))))) (.reg c76_r6 none (some [0,8,9,10])))))
def c76_r7 : List SOp := [⟨some 20,.move (.tmp 0),none⟩,⟨some 21,.nilCheck (.tmp 20),none⟩,⟨some 22,.fieldAddr 144 (.tmp 21) 4,none⟩,⟨some 23,.load 4 (.tmp 22),none⟩,⟨some 24,.unOp .not 4 (.tmp 23),none⟩,⟨some 2,.assign (.tmp 24),none⟩]
def c76 : SC := (.seq (.reg c76_r0 none (some [0])) (.seq (.seq (.reg c76_r1 none (some [0,8,9,10])) (.block 0 (.loop c76_l2 (some [0,8,9,10])))) (.seq (.reg c76_r7 none (some [2])) .ret)))
theorem c76_eq : ∃ code, Try.f76.body = some code ∧ compile H76 code = c76 := ⟨_, rfl, by kernel_rfl⟩
theorem c76_fn : Try.prog.funcs[76]? = some Try.f76 := by kernel_rfl
theorem c76_rs : Try.f76.results.toList = [.tmp 2] := by kernel_rfl
theorem c76_ok : fnB Try.prog H76 Try.f76 = true := by kernel_rfl
theorem c76_nt : Try.f76.ntmps = 25 := by kernel_rfl

end Go.AM
