/-
  Printed by program (wip/tools/print.sh): compiled code.
-/
import Derived.Test.YtamidpfdiijjgaaAMb
import Derived.Test.YtamidpfdiijjgaaProg
namespace Go.AM
open Go Go.Proofs
set_option maxRecDepth 100000
/-! 16: rampart/rampartlaw15.ScanSteps -/
def H16 : Hint := ⟨[(26, [6]), (10, [0, 1, 2, 7, 8, 9, 10]), (22, [0, 1, 2, 7, 8, 9, 10, 12, 14]), (25, [0, 1, 2, 7, 8, 9, 10, 12, 14]), (24, [6]), (2000117, [0, 1, 2, 7, 8, 9, 10, 12, 14]), (23, [0, 1, 2, 7, 8, 9, 10, 12, 14, 117]), (2000090, [0, 1, 2, 7, 8, 9, 10, 12, 14]), (21, [0, 1, 2, 7, 8, 9, 10, 12, 14, 90]), (1000021, [0, 1, 2, 7, 8, 9, 10, 12, 14]), (20, [0, 1, 2, 7, 8, 9, 10, 12, 14]), (19, [6]), (2000086, [0, 1, 2, 7, 8, 9, 10, 12]), (18, [0, 1, 2, 7, 8, 9, 10, 12, 86]), (15, [0, 1, 2, 7, 8, 9, 10, 11, 12, 13]), (17, [0, 1, 2, 7, 8, 9, 10, 11, 12, 13]), (2000072, [0, 1, 2, 7, 8, 9, 10, 11, 12, 13]), (16, [0, 1, 2, 7, 8, 9, 10, 11, 12, 13, 72]), (2000053, [0, 1, 2, 7, 8, 9, 10, 11, 12, 13]), (14, [0, 1, 2, 7, 8, 9, 10, 11, 12, 13, 53]), (1000014, [0, 1, 2, 7, 8, 9, 10, 11, 12, 13]), (13, [0, 1, 2, 7, 8, 9, 10, 11, 12, 13]), (12, [0, 1, 2, 7, 8, 9, 10, 11, 12]), (11, [0, 1, 2, 7, 8, 9, 10, 11]), (2000041, [0, 1, 2, 7, 8, 9, 10]), (9, [0, 1, 2, 7, 8, 9, 10, 41]), (1000009, [0, 1, 2, 7, 8, 9, 10]), (8, [0, 1, 2, 7, 8, 9, 10]), (7, [0, 1, 2, 7, 8, 9]), (6, [0, 1, 2, 7, 8]), (5, [6]), (2000033, [0, 1, 2, 7]), (4, [0, 1, 2, 7, 33]), (3, [0, 1, 2, 7]), (2, [6]), (2000027, [0, 1, 2]), (1, [0, 1, 2, 27]), (0, [0, 1, 2])], []⟩
def c16_r0 : List SOp := [
  ⟨(some 6), .assign (.const (.bool false)), none⟩]
def c16_r1 : List SOp := [
  ⟨(some 15), .move (.tmp 0), none⟩,
  ⟨(some 16), .call ⟨.value (.func 61), #[(.tmp 15)], #[38]⟩, none⟩,
  ⟨(some 17), .unOp .not 4 (.tmp 16), none⟩,
  ⟨(some 18), .move (.tmp 17), none⟩,
  ⟨(some 19), .move (.tmp 1), (some ((some 18), false))⟩,
  ⟨(some 20), .call ⟨.builtin .len, #[(.tmp 19)], #[68]⟩, (some ((some 18), false))⟩,
  ⟨(some 21), .binOp .gtr 3 (.tmp 20) (.const (.int .i64 30)) 3, (some ((some 18), false))⟩,
  ⟨(some 22), .pick (.tmp 18) (.const (.bool true)) (.tmp 21), none⟩,
  ⟨(some 23), .move (.tmp 22), none⟩,
  ⟨(some 24), .move (.tmp 2), (some ((some 23), false))⟩,
  ⟨(some 25), .call ⟨.builtin .len, #[(.tmp 24)], #[9]⟩, (some ((some 23), false))⟩,
  ⟨(some 26), .binOp .gtr 3 (.tmp 25) (.const (.int .i64 300)) 3, (some ((some 23), false))⟩,
  ⟨(some 27), .pick (.tmp 23) (.const (.bool true)) (.tmp 26), none⟩]
def c16_r2 : List SOp := [
  ⟨(some 28), .call ⟨.value (.func 62), #[], #[]⟩, none⟩,
  ⟨(some 6), .assign (.tmp 28), none⟩]
def c16_r3 : List SOp := [
  ⟨(some 29), .move (.tmp 0), none⟩,
  ⟨(some 30), .move (.tmp 1), none⟩,
  ⟨(some 31), .call ⟨.value (.func 63), #[(.tmp 29), (.tmp 30)], #[38, 68]⟩, none⟩,
  ⟨(some 7), .assign (.tmp 31), none⟩]
def c16_r4 : List SOp := [
  ⟨(some 32), .move (.tmp 7), none⟩,
  ⟨(some 33), .binOp .eql 69 (.tmp 32) (.const (.pointer none)) 69, none⟩]
def c16_r5 : List SOp := [
  ⟨(some 6), .assign (.const (.bool false)), none⟩]
def c16_r6 : List SOp := [
  ⟨(some 34), .move (.tmp 0), none⟩,
  ⟨(some 35), .move (.tmp 1), none⟩,
  ⟨(some 36), .move (.tmp 2), none⟩,
  ⟨(some 37), .call ⟨.value (.func 64), #[(.tmp 34), (.tmp 35), (.tmp 36)], #[38, 68, 9]⟩, none⟩,
  ⟨(some 8), .assign (.tmp 37), none⟩]
def c16_r7 : List SOp := [
  ⟨(some 9), .assign (.const (.int .i64 0)), none⟩]
def c16_r8 : List SOp := [
  ⟨(some 10), .assign (.const (.int .i64 1)), none⟩]
def c16_r9 : List SOp := [
  ⟨(some 38), .move (.tmp 10), none⟩,
  ⟨(some 39), .move (.tmp 2), none⟩,
  ⟨(some 40), .call ⟨.builtin .len, #[(.tmp 39)], #[9]⟩, none⟩,
  ⟨(some 41), .binOp .leq 3 (.tmp 38) (.tmp 40) 3, none⟩]
def c16_r11 : List SOp := [
  ⟨(some 44), .move (.tmp 7), none⟩,
  ⟨(some 45), .move (.tmp 2), none⟩,
  ⟨(some 46), .move (.tmp 10), none⟩,
  ⟨(some 47), .binOp .sub 3 (.tmp 46) (.const (.int .i64 1)) 3, none⟩,
  ⟨(some 48), .index 9 (.tmp 45) (.tmp 47), none⟩,
  ⟨(some 49), .call ⟨.value (.func 65), #[(.tmp 44), (.tmp 48)], #[69, 5]⟩, none⟩,
  ⟨(some 11), .assign (.tmp 49), none⟩]
def c16_r12 : List SOp := [
  ⟨(some 12), .assign (.const (.slice none 0 0)), none⟩]
def c16_r13 : List SOp := [
  ⟨(some 13), .assign (.const (.int .i64 0)), none⟩]
def c16_r14 : List SOp := [
  ⟨(some 50), .move (.tmp 13), none⟩,
  ⟨(some 51), .move (.tmp 0), none⟩,
  ⟨(some 52), .call ⟨.builtin .len, #[(.tmp 51)], #[38]⟩, none⟩,
  ⟨(some 53), .binOp .lss 3 (.tmp 50) (.tmp 52) 3, none⟩]
def c16_r16 : List SOp := [
  ⟨(some 56), .move (.tmp 0), none⟩,
  ⟨(some 57), .move (.tmp 13), none⟩,
  ⟨(some 58), .indexAddr 38 (.tmp 56) (.tmp 57), none⟩,
  ⟨(some 59), .load 9 (.tmp 58), none⟩,
  ⟨(some 60), .move (.tmp 13), none⟩,
  ⟨(some 61), .move (.tmp 1), none⟩,
  ⟨(some 62), .call ⟨.builtin .len, #[(.tmp 61)], #[68]⟩, none⟩,
  ⟨(some 63), .binOp .lss 3 (.tmp 60) (.tmp 62) 3, none⟩,
  ⟨(some 64), .move (.tmp 63), none⟩,
  ⟨(some 65), .move (.tmp 1), (some ((some 64), true))⟩,
  ⟨(some 66), .move (.tmp 13), (some ((some 64), true))⟩,
  ⟨(some 67), .indexAddr 68 (.tmp 65) (.tmp 66), (some ((some 64), true))⟩,
  ⟨(some 68), .load 4 (.tmp 67), (some ((some 64), true))⟩,
  ⟨(some 69), .pick (.tmp 64) (.tmp 68) (.const (.bool false)), none⟩,
  ⟨(some 70), .move (.tmp 2), none⟩,
  ⟨(some 71), .move (.tmp 10), none⟩,
  ⟨(some 72), .call ⟨.value (.func 57), #[(.tmp 59), (.tmp 69), (.tmp 70), (.tmp 71)], #[9, 4, 9, 3]⟩, none⟩]
def c16_r17 : List SOp := [
  ⟨(some 73), .move (.tmp 12), none⟩,
  ⟨(some 74), .move (.tmp 13), none⟩,
  ⟨(some 75), .buildSlice 30 1 #[(0, (.tmp 74))], none⟩,
  ⟨(some 76), .call ⟨.builtin .append, #[(.tmp 73), (.tmp 75)], #[30, 30]⟩, none⟩,
  ⟨(some 12), .assign (.tmp 76), none⟩]
def c16_r15 : List SOp := [
  ⟨(some 54), .move (.tmp 13), none⟩,
  ⟨(some 55), .binOp .add 3 (.tmp 54) (.const (.int .i64 1)) 3, none⟩,
  ⟨(some 13), .assign (.tmp 55), none⟩]
def c16_l14 : SC := (.seq (.seq (.reg c16_r14 none (some [0, 1, 2, 7, 8, 9, 10, 11, 12, 13, 53])) (.cond (.tmp 53) .skip (.exit 2) (some [0, 1, 2, 7, 8, 9, 10, 11, 12, 13]))) (.seq (.block 3 (.seq (.reg c16_r16 none (some [0, 1, 2, 7, 8, 9, 10, 11, 12, 13, 72])) (.cond (.tmp 72) (.reg c16_r17 none (some [0, 1, 2, 7, 8, 9, 10, 11, 12, 13])) .skip (some [0, 1, 2, 7, 8, 9, 10, 11, 12, 13])))) (.reg c16_r15 none (some [0, 1, 2, 7, 8, 9, 10, 11, 12, 13]))))
def c16_r18 : List SOp := [
  ⟨(some 77), .move (.tmp 11), none⟩,
  ⟨(some 78), .move (.tmp 12), none⟩,
  ⟨(some 79), .call ⟨.value (.func 40), #[(.tmp 77), (.tmp 78)], #[30, 30]⟩, none⟩,
  ⟨(some 80), .unOp .not 4 (.tmp 79), none⟩,
  ⟨(some 81), .move (.tmp 80), none⟩,
  ⟨(some 82), .move (.tmp 7), (some ((some 81), false))⟩,
  ⟨(some 83), .call ⟨.value (.func 66), #[(.tmp 82)], #[69]⟩, (some ((some 81), false))⟩,
  ⟨(some 84), .move (.tmp 10), (some ((some 81), false))⟩,
  ⟨(some 85), .binOp .neq 3 (.tmp 83) (.tmp 84) 3, (some ((some 81), false))⟩,
  ⟨(some 86), .pick (.tmp 81) (.const (.bool true)) (.tmp 85), none⟩]
def c16_r19 : List SOp := [
  ⟨(some 6), .assign (.const (.bool false)), none⟩]
def c16_r20 : List SOp := [
  ⟨(some 14), .assign (.const (.int .i64 0)), none⟩]
def c16_r21 : List SOp := [
  ⟨(some 87), .move (.tmp 14), none⟩,
  ⟨(some 88), .move (.tmp 12), none⟩,
  ⟨(some 89), .call ⟨.builtin .len, #[(.tmp 88)], #[30]⟩, none⟩,
  ⟨(some 90), .binOp .lss 3 (.tmp 87) (.tmp 89) 3, none⟩]
def c16_r23 : List SOp := [
  ⟨(some 93), .move (.tmp 9), none⟩,
  ⟨(some 94), .move (.tmp 8), none⟩,
  ⟨(some 95), .call ⟨.builtin .len, #[(.tmp 94)], #[71]⟩, none⟩,
  ⟨(some 96), .binOp .geq 3 (.tmp 93) (.tmp 95) 3, none⟩,
  ⟨(some 97), .move (.tmp 96), none⟩,
  ⟨(some 98), .move (.tmp 8), (some ((some 97), false))⟩,
  ⟨(some 99), .move (.tmp 9), (some ((some 97), false))⟩,
  ⟨(some 100), .indexAddr 71 (.tmp 98) (.tmp 99), (some ((some 97), false))⟩,
  ⟨(some 101), .fieldAddr 75 (.tmp 100) 0, (some ((some 97), false))⟩,
  ⟨(some 102), .load 3 (.tmp 101), (some ((some 97), false))⟩,
  ⟨(some 103), .move (.tmp 12), (some ((some 97), false))⟩,
  ⟨(some 104), .move (.tmp 14), (some ((some 97), false))⟩,
  ⟨(some 105), .indexAddr 30 (.tmp 103) (.tmp 104), (some ((some 97), false))⟩,
  ⟨(some 106), .load 3 (.tmp 105), (some ((some 97), false))⟩,
  ⟨(some 107), .binOp .neq 3 (.tmp 102) (.tmp 106) 3, (some ((some 97), false))⟩,
  ⟨(some 108), .pick (.tmp 97) (.const (.bool true)) (.tmp 107), none⟩,
  ⟨(some 109), .move (.tmp 108), none⟩,
  ⟨(some 110), .move (.tmp 8), (some ((some 109), false))⟩,
  ⟨(some 111), .move (.tmp 9), (some ((some 109), false))⟩,
  ⟨(some 112), .indexAddr 71 (.tmp 110) (.tmp 111), (some ((some 109), false))⟩,
  ⟨(some 113), .fieldAddr 75 (.tmp 112) 1, (some ((some 109), false))⟩,
  ⟨(some 114), .load 3 (.tmp 113), (some ((some 109), false))⟩,
  ⟨(some 115), .move (.tmp 10), (some ((some 109), false))⟩,
  ⟨(some 116), .binOp .neq 3 (.tmp 114) (.tmp 115) 3, (some ((some 109), false))⟩,
  ⟨(some 117), .pick (.tmp 109) (.const (.bool true)) (.tmp 116), none⟩]
def c16_r24 : List SOp := [
  ⟨(some 6), .assign (.const (.bool false)), none⟩]
def c16_r25 : List SOp := [
  ⟨(some 118), .move (.tmp 9), none⟩,
  ⟨(some 119), .binOp .add 3 (.tmp 118) (.const (.int .i64 1)) 3, none⟩,
  ⟨(some 9), .assign (.tmp 119), none⟩]
def c16_r22 : List SOp := [
  ⟨(some 91), .move (.tmp 14), none⟩,
  ⟨(some 92), .binOp .add 3 (.tmp 91) (.const (.int .i64 1)) 3, none⟩,
  ⟨(some 14), .assign (.tmp 92), none⟩]
def c16_l21 : SC := (.seq (.seq (.reg c16_r21 none (some [0, 1, 2, 7, 8, 9, 10, 12, 14, 90])) (.cond (.tmp 90) .skip (.exit 4) (some [0, 1, 2, 7, 8, 9, 10, 12, 14]))) (.seq (.block 5 (.seq (.seq (.reg c16_r23 none (some [0, 1, 2, 7, 8, 9, 10, 12, 14, 117])) (.cond (.tmp 117) (.seq (.reg c16_r24 none (some [6])) .ret) .skip (some [0, 1, 2, 7, 8, 9, 10, 12, 14]))) (.reg c16_r25 none (some [0, 1, 2, 7, 8, 9, 10, 12, 14])))) (.reg c16_r22 none (some [0, 1, 2, 7, 8, 9, 10, 12, 14]))))
def c16_r10 : List SOp := [
  ⟨(some 42), .move (.tmp 10), none⟩,
  ⟨(some 43), .binOp .add 3 (.tmp 42) (.const (.int .i64 1)) 3, none⟩,
  ⟨(some 10), .assign (.tmp 43), none⟩]
def c16_l9 : SC := (.seq (.seq (.reg c16_r9 none (some [0, 1, 2, 7, 8, 9, 10, 41])) (.cond (.tmp 41) .skip (.exit 0) (some [0, 1, 2, 7, 8, 9, 10]))) (.seq (.block 1 (.seq (.reg c16_r11 none (some [0, 1, 2, 7, 8, 9, 10, 11])) (.seq (.reg c16_r12 none (some [0, 1, 2, 7, 8, 9, 10, 11, 12])) (.seq (.seq (.reg c16_r13 none (some [0, 1, 2, 7, 8, 9, 10, 11, 12, 13])) (.block 2 (.loop c16_l14 (some [0, 1, 2, 7, 8, 9, 10, 11, 12, 13])))) (.seq (.seq (.reg c16_r18 none (some [0, 1, 2, 7, 8, 9, 10, 12, 86])) (.cond (.tmp 86) (.seq (.reg c16_r19 none (some [6])) .ret) .skip (some [0, 1, 2, 7, 8, 9, 10, 12]))) (.seq (.reg c16_r20 none (some [0, 1, 2, 7, 8, 9, 10, 12, 14])) (.block 4 (.loop c16_l21 (some [0, 1, 2, 7, 8, 9, 10, 12, 14]))))))))) (.reg c16_r10 none (some [0, 1, 2, 7, 8, 9, 10]))))
def c16_r26 : List SOp := [
  ⟨(some 120), .move (.tmp 9), none⟩,
  ⟨(some 121), .move (.tmp 8), none⟩,
  ⟨(some 122), .call ⟨.builtin .len, #[(.tmp 121)], #[71]⟩, none⟩,
  ⟨(some 123), .binOp .eql 3 (.tmp 120) (.tmp 122) 3, none⟩,
  ⟨(some 124), .move (.tmp 123), none⟩,
  ⟨(some 125), .call ⟨.value (.func 62), #[], #[]⟩, (some ((some 124), true))⟩,
  ⟨(some 126), .pick (.tmp 124) (.tmp 125) (.const (.bool false)), none⟩,
  ⟨(some 6), .assign (.tmp 126), none⟩]
def c16 : SC := (.seq (.reg c16_r0 none (some [0, 1, 2])) (.seq (.seq (.reg c16_r1 none (some [0, 1, 2, 27])) (.cond (.tmp 27) (.seq (.reg c16_r2 none (some [6])) .ret) .skip (some [0, 1, 2]))) (.seq (.reg c16_r3 none (some [0, 1, 2, 7])) (.seq (.seq (.reg c16_r4 none (some [0, 1, 2, 7, 33])) (.cond (.tmp 33) (.seq (.reg c16_r5 none (some [6])) .ret) .skip (some [0, 1, 2, 7]))) (.seq (.reg c16_r6 none (some [0, 1, 2, 7, 8])) (.seq (.reg c16_r7 none (some [0, 1, 2, 7, 8, 9])) (.seq (.seq (.reg c16_r8 none (some [0, 1, 2, 7, 8, 9, 10])) (.block 0 (.loop c16_l9 (some [0, 1, 2, 7, 8, 9, 10])))) (.seq (.reg c16_r26 none (some [6])) .ret))))))))
theorem c16_eq : ∃ code, Try.f16.body = some code ∧ compile H16 code = c16 := ⟨_, rfl, by kernel_rfl⟩
theorem c16_fn : Try.prog.funcs[16]? = some Try.f16 := by kernel_rfl
theorem c16_rs : Try.f16.results.toList = [.tmp 6] := by kernel_rfl
theorem c16_ok : fnB Try.prog H16 Try.f16 = true := by kernel_rfl
theorem c16_nt : Try.f16.ntmps = 127 := by kernel_rfl
end Go.AM
