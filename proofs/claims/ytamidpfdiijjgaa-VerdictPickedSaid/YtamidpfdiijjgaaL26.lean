/-
  Printed by program (wip/tools/print.sh): compiled code.
-/
import Derived.Test.YtamidpfdiijjgaaAMb
import Derived.Test.YtamidpfdiijjgaaProg
namespace Go.AM
open Go Go.Proofs
set_option maxRecDepth 100000
/-! 26: rampart/rampartlaw24.VerdictPicked -/
def H26 : Hint := ⟨[(22, [4]), (16, [0, 5, 8, 9, 10, 11, 12, 13]), (21, [0, 5, 8, 9, 10, 11, 12, 13]), (20, [0, 5, 8, 9, 10, 11, 12, 13]), (19, [4]), (2000093, [0, 5, 8, 9, 10, 11, 12, 13]), (18, [0, 5, 8, 9, 10, 11, 12, 13, 93]), (2000062, [0, 5, 8, 9, 10, 11, 12, 13]), (17, [0, 5, 8, 9, 10, 11, 12, 13, 62]), (2000047, [0, 5, 8, 9, 10, 11, 12, 13]), (15, [0, 5, 8, 9, 10, 11, 12, 13, 47]), (1000015, [0, 5, 8, 9, 10, 11, 12, 13]), (14, [0, 5, 8, 9, 10, 11, 12, 13]), (13, [0, 5, 8, 9, 10, 11, 12]), (12, [0, 5, 8, 9, 10]), (11, [4]), (2000038, [0, 5, 8]), (10, [0, 5, 8, 38]), (9, [0, 5, 8]), (8, [4]), (2000032, [0, 5, 6]), (7, [0, 5, 6, 32]), (5, [0, 5, 6, 7]), (6, [0, 5, 6, 7]), (2000018, [0, 5, 6, 7]), (4, [0, 5, 6, 7, 18]), (1000004, [0, 5, 6, 7]), (3, [0, 5, 6, 7]), (2, [0, 5, 6]), (1, [0, 5]), (0, [0, 1])], []⟩
def c26_r0 : List SOp := [
  ⟨(some 4), .assign (.const (.bool false)), none⟩]
def c26_r1 : List SOp := [
  ⟨(some 14), .move (.tmp 1), none⟩,
  ⟨(some 15), .call ⟨.value (.func 29), #[(.tmp 14), (.const (.int .i64 6))], #[3, 3]⟩, none⟩,
  ⟨(some 5), .assign (.tmp 15), none⟩]
def c26_r2 : List SOp := [
  ⟨(some 6), .assign (.const (.slice none 0 0)), none⟩]
def c26_r3 : List SOp := [
  ⟨(some 7), .assign (.const (.int .i64 0)), none⟩]
def c26_r4 : List SOp := [
  ⟨(some 16), .move (.tmp 7), none⟩,
  ⟨(some 17), .move (.tmp 5), none⟩,
  ⟨(some 18), .binOp .lss 3 (.tmp 16) (.tmp 17) 3, none⟩]
def c26_r6 : List SOp := [
  ⟨(some 21), .move (.tmp 6), none⟩,
  ⟨(some 22), .move (.tmp 7), none⟩,
  ⟨(some 23), .binOp .rem 3 (.tmp 22) (.const (.int .i64 4)) 3, none⟩,
  ⟨(some 24), .binOp .add 3 (.const (.int .i64 1)) (.tmp 23) 3, none⟩,
  ⟨(some 25), .move (.tmp 7), none⟩,
  ⟨(some 26), .binOp .add 3 (.const (.int .i64 10)) (.tmp 25) 3, none⟩,
  ⟨(some 27), .build 107 #[(0, (.tmp 24)), (9, (.tmp 26)), (10, (.const (.int .i64 1)))], none⟩,
  ⟨(some 28), .buildSlice 89 1 #[(0, (.tmp 27))], none⟩,
  ⟨(some 29), .call ⟨.builtin .append, #[(.tmp 21), (.tmp 28)], #[89, 89]⟩, none⟩,
  ⟨(some 6), .assign (.tmp 29), none⟩]
def c26_r5 : List SOp := [
  ⟨(some 19), .move (.tmp 7), none⟩,
  ⟨(some 20), .binOp .add 3 (.tmp 19) (.const (.int .i64 1)) 3, none⟩,
  ⟨(some 7), .assign (.tmp 20), none⟩]
def c26_l4 : SC := (.seq (.seq (.reg c26_r4 none (some [0, 5, 6, 7, 18])) (.cond (.tmp 18) .skip (.exit 0) (some [0, 5, 6, 7]))) (.seq (.block 1 (.reg c26_r6 none (some [0, 5, 6, 7]))) (.reg c26_r5 none (some [0, 5, 6, 7]))))
def c26_r7 : List SOp := [
  ⟨(some 30), .move (.tmp 0), none⟩,
  ⟨(some 31), .call ⟨.builtin .len, #[(.tmp 30)], #[30]⟩, none⟩,
  ⟨(some 32), .binOp .gtr 3 (.tmp 31) (.const (.int .i64 20)) 3, none⟩]
def c26_r8 : List SOp := [
  ⟨(some 33), .call ⟨.value (.func 79), #[], #[]⟩, none⟩,
  ⟨(some 4), .assign (.tmp 33), none⟩]
def c26_r9 : List SOp := [
  ⟨(some 34), .move (.tmp 6), none⟩,
  ⟨(some 35), .move (.tmp 0), none⟩,
  ⟨(some 36), .call ⟨.value (.func 81), #[(.tmp 34), (.tmp 35), (.const (.int .i64 3))], #[89, 30, 3]⟩, none⟩,
  ⟨(some 8), .assign (.tmp 36), none⟩]
def c26_r10 : List SOp := [
  ⟨(some 37), .move (.tmp 8), none⟩,
  ⟨(some 38), .binOp .eql 91 (.tmp 37) (.const (.pointer none)) 91, none⟩]
def c26_r11 : List SOp := [
  ⟨(some 4), .assign (.const (.bool false)), none⟩]
def c26_r12 : List SOp := [
  ⟨(some 40), .move (.tmp 8), none⟩,
  ⟨(some 41), .call ⟨.value (.func 82), #[(.tmp 40)], #[91]⟩, none⟩,
  ⟨(some 39), .move (.tmp 41), none⟩,
  ⟨(some 42), .extract (.tmp 39) 0, none⟩,
  ⟨(some 43), .extract (.tmp 39) 1, none⟩,
  ⟨(some 9), .assign (.tmp 42), none⟩,
  ⟨(some 10), .assign (.tmp 43), none⟩]
def c26_r13 : List SOp := [
  ⟨(some 11), .assign (.const (.int .i64 0)), none⟩,
  ⟨(some 12), .assign (.const (.int .i64 0)), none⟩]
def c26_r14 : List SOp := [
  ⟨(some 13), .assign (.const (.int .i64 0)), none⟩]
def c26_r15 : List SOp := [
  ⟨(some 44), .move (.tmp 13), none⟩,
  ⟨(some 45), .move (.tmp 0), none⟩,
  ⟨(some 46), .call ⟨.builtin .len, #[(.tmp 45)], #[30]⟩, none⟩,
  ⟨(some 47), .binOp .lss 3 (.tmp 44) (.tmp 46) 3, none⟩]
def c26_r17 : List SOp := [
  ⟨(some 50), .move (.tmp 0), none⟩,
  ⟨(some 51), .move (.tmp 13), none⟩,
  ⟨(some 52), .indexAddr 30 (.tmp 50) (.tmp 51), none⟩,
  ⟨(some 53), .load 3 (.tmp 52), none⟩,
  ⟨(some 54), .binOp .lss 3 (.tmp 53) (.const (.int .i64 0)) 3, none⟩,
  ⟨(some 55), .move (.tmp 54), none⟩,
  ⟨(some 56), .move (.tmp 0), (some ((some 55), false))⟩,
  ⟨(some 57), .move (.tmp 13), (some ((some 55), false))⟩,
  ⟨(some 58), .indexAddr 30 (.tmp 56) (.tmp 57), (some ((some 55), false))⟩,
  ⟨(some 59), .load 3 (.tmp 58), (some ((some 55), false))⟩,
  ⟨(some 60), .move (.tmp 5), (some ((some 55), false))⟩,
  ⟨(some 61), .binOp .geq 3 (.tmp 59) (.tmp 60) 3, (some ((some 55), false))⟩,
  ⟨(some 62), .pick (.tmp 55) (.const (.bool true)) (.tmp 61), none⟩]
def c26_r18 : List SOp := [
  ⟨(some 63), .move (.tmp 11), none⟩,
  ⟨(some 64), .move (.tmp 9), none⟩,
  ⟨(some 65), .call ⟨.builtin .len, #[(.tmp 64)], #[94]⟩, none⟩,
  ⟨(some 66), .binOp .geq 3 (.tmp 63) (.tmp 65) 3, none⟩,
  ⟨(some 67), .move (.tmp 66), none⟩,
  ⟨(some 68), .move (.tmp 9), (some ((some 67), false))⟩,
  ⟨(some 69), .move (.tmp 11), (some ((some 67), false))⟩,
  ⟨(some 70), .indexAddr 94 (.tmp 68) (.tmp 69), (some ((some 67), false))⟩,
  ⟨(some 71), .fieldAddr 99 (.tmp 70) 0, (some ((some 67), false))⟩,
  ⟨(some 72), .load 3 (.tmp 71), (some ((some 67), false))⟩,
  ⟨(some 73), .move (.tmp 0), (some ((some 67), false))⟩,
  ⟨(some 74), .move (.tmp 13), (some ((some 67), false))⟩,
  ⟨(some 75), .indexAddr 30 (.tmp 73) (.tmp 74), (some ((some 67), false))⟩,
  ⟨(some 76), .load 3 (.tmp 75), (some ((some 67), false))⟩,
  ⟨(some 77), .binOp .add 3 (.const (.int .i64 10)) (.tmp 76) 3, (some ((some 67), false))⟩,
  ⟨(some 78), .binOp .neq 3 (.tmp 72) (.tmp 77) 3, (some ((some 67), false))⟩,
  ⟨(some 79), .pick (.tmp 67) (.const (.bool true)) (.tmp 78), none⟩,
  ⟨(some 80), .move (.tmp 79), none⟩,
  ⟨(some 81), .move (.tmp 9), (some ((some 80), false))⟩,
  ⟨(some 82), .move (.tmp 11), (some ((some 80), false))⟩,
  ⟨(some 83), .indexAddr 94 (.tmp 81) (.tmp 82), (some ((some 80), false))⟩,
  ⟨(some 84), .fieldAddr 99 (.tmp 83) 3, (some ((some 80), false))⟩,
  ⟨(some 85), .load 3 (.tmp 84), (some ((some 80), false))⟩,
  ⟨(some 86), .move (.tmp 0), (some ((some 80), false))⟩,
  ⟨(some 87), .move (.tmp 13), (some ((some 80), false))⟩,
  ⟨(some 88), .indexAddr 30 (.tmp 86) (.tmp 87), (some ((some 80), false))⟩,
  ⟨(some 89), .load 3 (.tmp 88), (some ((some 80), false))⟩,
  ⟨(some 90), .binOp .rem 3 (.tmp 89) (.const (.int .i64 4)) 3, (some ((some 80), false))⟩,
  ⟨(some 91), .binOp .add 3 (.const (.int .i64 1)) (.tmp 90) 3, (some ((some 80), false))⟩,
  ⟨(some 92), .binOp .neq 3 (.tmp 85) (.tmp 91) 3, (some ((some 80), false))⟩,
  ⟨(some 93), .pick (.tmp 80) (.const (.bool true)) (.tmp 92), none⟩]
def c26_r19 : List SOp := [
  ⟨(some 4), .assign (.const (.bool false)), none⟩]
def c26_r20 : List SOp := [
  ⟨(some 94), .move (.tmp 12), none⟩,
  ⟨(some 95), .move (.tmp 9), none⟩,
  ⟨(some 96), .move (.tmp 11), none⟩,
  ⟨(some 97), .indexAddr 94 (.tmp 95) (.tmp 96), none⟩,
  ⟨(some 98), .fieldAddr 99 (.tmp 97) 3, none⟩,
  ⟨(some 99), .load 3 (.tmp 98), none⟩,
  ⟨(some 100), .call ⟨.builtin .max, #[(.tmp 94), (.tmp 99)], #[3, 3]⟩, none⟩,
  ⟨(some 12), .assign (.tmp 100), none⟩]
def c26_r21 : List SOp := [
  ⟨(some 101), .move (.tmp 11), none⟩,
  ⟨(some 102), .binOp .add 3 (.tmp 101) (.const (.int .i64 1)) 3, none⟩,
  ⟨(some 11), .assign (.tmp 102), none⟩]
def c26_r16 : List SOp := [
  ⟨(some 48), .move (.tmp 13), none⟩,
  ⟨(some 49), .binOp .add 3 (.tmp 48) (.const (.int .i64 1)) 3, none⟩,
  ⟨(some 13), .assign (.tmp 49), none⟩]
def c26_l15 : SC := (.seq (.seq (.reg c26_r15 none (some [0, 5, 8, 9, 10, 11, 12, 13, 47])) (.cond (.tmp 47) .skip (.exit 2) (some [0, 5, 8, 9, 10, 11, 12, 13]))) (.seq (.block 3 (.seq (.seq (.reg c26_r17 none (some [0, 5, 8, 9, 10, 11, 12, 13, 62])) (.cond (.tmp 62) (.exit 3) .skip (some [0, 5, 8, 9, 10, 11, 12, 13]))) (.seq (.seq (.reg c26_r18 none (some [0, 5, 8, 9, 10, 11, 12, 13, 93])) (.cond (.tmp 93) (.seq (.reg c26_r19 none (some [4])) .ret) .skip (some [0, 5, 8, 9, 10, 11, 12, 13]))) (.seq (.reg c26_r20 none (some [0, 5, 8, 9, 10, 11, 12, 13])) (.reg c26_r21 none (some [0, 5, 8, 9, 10, 11, 12, 13])))))) (.reg c26_r16 none (some [0, 5, 8, 9, 10, 11, 12, 13]))))
def c26_r22 : List SOp := [
  ⟨(some 103), .move (.tmp 11), none⟩,
  ⟨(some 104), .move (.tmp 9), none⟩,
  ⟨(some 105), .call ⟨.builtin .len, #[(.tmp 104)], #[94]⟩, none⟩,
  ⟨(some 106), .binOp .eql 3 (.tmp 103) (.tmp 105) 3, none⟩,
  ⟨(some 107), .move (.tmp 106), none⟩,
  ⟨(some 108), .move (.tmp 10), (some ((some 107), true))⟩,
  ⟨(some 109), .move (.tmp 12), (some ((some 107), true))⟩,
  ⟨(some 110), .binOp .eql 3 (.tmp 108) (.tmp 109) 3, (some ((some 107), true))⟩,
  ⟨(some 111), .pick (.tmp 107) (.tmp 110) (.const (.bool false)), none⟩,
  ⟨(some 112), .move (.tmp 111), none⟩,
  ⟨(some 113), .move (.tmp 8), (some ((some 112), true))⟩,
  ⟨(some 114), .call ⟨.value (.func 85), #[(.tmp 113)], #[91]⟩, (some ((some 112), true))⟩,
  ⟨(some 115), .binOp .eql 3 (.tmp 114) (.const (.int .i64 0)) 3, (some ((some 112), true))⟩,
  ⟨(some 116), .pick (.tmp 112) (.tmp 115) (.const (.bool false)), none⟩,
  ⟨(some 117), .move (.tmp 116), none⟩,
  ⟨(some 118), .call ⟨.value (.func 79), #[], #[]⟩, (some ((some 117), true))⟩,
  ⟨(some 119), .pick (.tmp 117) (.tmp 118) (.const (.bool false)), none⟩,
  ⟨(some 4), .assign (.tmp 119), none⟩]
def c26 : SC := (.seq (.reg c26_r0 none (some [0, 1])) (.seq (.reg c26_r1 none (some [0, 5])) (.seq (.reg c26_r2 none (some [0, 5, 6])) (.seq (.seq (.reg c26_r3 none (some [0, 5, 6, 7])) (.block 0 (.loop c26_l4 (some [0, 5, 6, 7])))) (.seq (.seq (.reg c26_r7 none (some [0, 5, 6, 32])) (.cond (.tmp 32) (.seq (.reg c26_r8 none (some [4])) .ret) .skip (some [0, 5, 6]))) (.seq (.reg c26_r9 none (some [0, 5, 8])) (.seq (.seq (.reg c26_r10 none (some [0, 5, 8, 38])) (.cond (.tmp 38) (.seq (.reg c26_r11 none (some [4])) .ret) .skip (some [0, 5, 8]))) (.seq (.reg c26_r12 none (some [0, 5, 8, 9, 10])) (.seq (.reg c26_r13 none (some [0, 5, 8, 9, 10, 11, 12])) (.seq (.seq (.reg c26_r14 none (some [0, 5, 8, 9, 10, 11, 12, 13])) (.block 2 (.loop c26_l15 (some [0, 5, 8, 9, 10, 11, 12, 13])))) (.seq (.reg c26_r22 none (some [4])) .ret)))))))))))
theorem c26_eq : ∃ code, Try.f26.body = some code ∧ compile H26 code = c26 := ⟨_, rfl, by kernel_rfl⟩
theorem c26_fn : Try.prog.funcs[26]? = some Try.f26 := by kernel_rfl
theorem c26_rs : Try.f26.results.toList = [.tmp 4] := by kernel_rfl
theorem c26_ok : fnB Try.prog H26 Try.f26 = true := by kernel_rfl
theorem c26_nt : Try.f26.ntmps = 120 := by kernel_rfl
end Go.AM
