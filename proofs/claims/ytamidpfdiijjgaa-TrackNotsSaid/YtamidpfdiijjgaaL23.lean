/-
  Printed by program (wip/tools/print.sh): compiled code.
-/
import Derived.Test.YtamidpfdiijjgaaAMb
import Derived.Test.YtamidpfdiijjgaaProg
namespace Go.AM
open Go Go.Proofs
set_option maxRecDepth 100000
/-! 23: rampart/rampartlaw17.TrackNots -/
def H23 : Hint := ⟨[(25, [6]), (24, [10, 16]), (21, [8, 10, 12, 14, 15]), (23, [6]), (2000080, [8, 10, 12, 14, 15]), (22, [8, 10, 12, 14, 15, 80]), (2000069, [8, 10, 12, 14, 15]), (20, [8, 10, 12, 14, 15, 69]), (1000020, [8, 10, 12, 14, 15]), (19, [8, 10, 12, 14, 15]), (18, [6]), (2000066, [8, 10, 12, 14]), (17, [8, 10, 12, 14, 66]), (16, [8, 10, 12, 14]), (15, [6]), (2000058, [8, 9, 10, 11, 12]), (14, [8, 9, 10, 11, 12, 58]), (11, [7, 8, 9, 10, 11, 12, 13]), (13, [6]), (2000055, [7, 8, 9, 10, 11, 12, 13]), (12, [7, 8, 9, 10, 11, 12, 13, 55]), (2000045, [7, 8, 9, 10, 11, 12, 13]), (10, [7, 8, 9, 10, 11, 12, 13, 45]), (1000010, [7, 8, 9, 10, 11, 12, 13]), (9, [7, 8, 9, 10, 11, 12, 13]), (8, [6]), (2000042, [7, 8, 9, 10, 11, 12]), (7, [7, 8, 9, 10, 11, 12, 42]), (6, [7, 8, 9, 10, 11, 12]), (5, [7, 8, 9, 10, 11]), (4, [6]), (2000033, [7, 8, 9, 10]), (3, [7, 8, 9, 10, 33]), (2, [7, 8, 9, 10]), (1, [7, 8, 9]), (0, [0, 1, 2])], []⟩
def c23_r0 : List SOp := [
  ⟨(some 6), .assign (.const (.bool false)), none⟩]
def c23_r1 : List SOp := [
  ⟨(some 17), .move (.tmp 0), none⟩,
  ⟨(some 18), .call ⟨.value (.func 29), #[(.tmp 17), (.const (.int .i64 20))], #[3, 3]⟩, none⟩,
  ⟨(some 19), .move (.tmp 1), none⟩,
  ⟨(some 20), .call ⟨.value (.func 29), #[(.tmp 19), (.const (.int .i64 20))], #[3, 3]⟩, none⟩,
  ⟨(some 21), .move (.tmp 2), none⟩,
  ⟨(some 22), .call ⟨.value (.func 29), #[(.tmp 21), (.const (.int .i64 25))], #[3, 3]⟩, none⟩,
  ⟨(some 7), .assign (.tmp 18), none⟩,
  ⟨(some 8), .assign (.tmp 20), none⟩,
  ⟨(some 9), .assign (.tmp 22), none⟩]
def c23_r2 : List SOp := [
  ⟨(some 23), .build 52 #[(0, (.const (.string ⟨#[120]⟩)))], none⟩,
  ⟨(some 24), .move (.tmp 9), none⟩,
  ⟨(some 25), .build 52 #[(0, (.const (.string ⟨#[121]⟩))), (2, (.const (.bool true))), (3, (.tmp 24))], none⟩,
  ⟨(some 26), .buildSlice 42 2 #[(0, (.tmp 23)), (1, (.tmp 25))], none⟩,
  ⟨(some 27), .call ⟨.value (.func 72), #[(.tmp 26), (.const (.int .i64 3))], #[42, 3]⟩, none⟩,
  ⟨(some 10), .alloc 84, none⟩,
  ⟨none, .store 84 (.tmp 10) (.tmp 27), none⟩]
def c23_r3 : List SOp := [
  ⟨(some 28), .load 84 (.tmp 10), none⟩,
  ⟨(some 29), .binOp .eql 84 (.tmp 28) (.const (.pointer none)) 84, none⟩,
  ⟨(some 30), .move (.tmp 29), none⟩,
  ⟨(some 31), .load 84 (.tmp 10), (some ((some 30), false))⟩,
  ⟨(some 32), .call ⟨.value (.func 76), #[(.tmp 31)], #[84]⟩, (some ((some 30), false))⟩,
  ⟨(some 33), .pick (.tmp 30) (.const (.bool true)) (.tmp 32), none⟩]
def c23_r4 : List SOp := [
  ⟨(some 6), .assign (.const (.bool false)), none⟩]
def c23_r5 : List SOp := [
  ⟨(some 11), .alloc 3, none⟩,
  ⟨none, .store 3 (.tmp 11) (.const (.int .i64 0)), none⟩]
def c23_r6 : List SOp := [
  ⟨(some 34), .makeFunc (.func 77) #[] #[(.tmp 11), (.tmp 10)], none⟩,
  ⟨(some 12), .assign (.tmp 34), none⟩]
def c23_r7 : List SOp := [
  ⟨(some 35), .move (.tmp 12), none⟩,
  ⟨(some 36), .call ⟨.value (.tmp 35), #[(.const (.bool true)), (.const (.bool false))], #[4, 4]⟩, none⟩,
  ⟨(some 37), .unOp .not 4 (.tmp 36), none⟩,
  ⟨(some 38), .move (.tmp 37), none⟩,
  ⟨(some 39), .load 84 (.tmp 10), (some ((some 38), false))⟩,
  ⟨(some 40), .call ⟨.value (.func 76), #[(.tmp 39)], #[84]⟩, (some ((some 38), false))⟩,
  ⟨(some 41), .unOp .not 4 (.tmp 40), (some ((some 38), false))⟩,
  ⟨(some 42), .pick (.tmp 38) (.const (.bool true)) (.tmp 41), none⟩]
def c23_r8 : List SOp := [
  ⟨(some 6), .assign (.const (.bool false)), none⟩]
def c23_r9 : List SOp := [
  ⟨(some 13), .assign (.const (.int .i64 0)), none⟩]
def c23_r10 : List SOp := [
  ⟨(some 43), .move (.tmp 13), none⟩,
  ⟨(some 44), .move (.tmp 7), none⟩,
  ⟨(some 45), .binOp .lss 3 (.tmp 43) (.tmp 44) 3, none⟩]
def c23_r12 : List SOp := [
  ⟨(some 48), .move (.tmp 12), none⟩,
  ⟨(some 49), .call ⟨.value (.tmp 48), #[(.const (.bool false)), (.const (.bool false))], #[4, 4]⟩, none⟩,
  ⟨(some 50), .unOp .not 4 (.tmp 49), none⟩,
  ⟨(some 51), .move (.tmp 50), none⟩,
  ⟨(some 52), .load 84 (.tmp 10), (some ((some 51), false))⟩,
  ⟨(some 53), .call ⟨.value (.func 76), #[(.tmp 52)], #[84]⟩, (some ((some 51), false))⟩,
  ⟨(some 54), .unOp .not 4 (.tmp 53), (some ((some 51), false))⟩,
  ⟨(some 55), .pick (.tmp 51) (.const (.bool true)) (.tmp 54), none⟩]
def c23_r13 : List SOp := [
  ⟨(some 6), .assign (.const (.bool false)), none⟩]
def c23_r11 : List SOp := [
  ⟨(some 46), .move (.tmp 13), none⟩,
  ⟨(some 47), .binOp .add 3 (.tmp 46) (.const (.int .i64 1)) 3, none⟩,
  ⟨(some 13), .assign (.tmp 47), none⟩]
def c23_l10 : SC := (.seq (.seq (.reg c23_r10 none (some [7, 8, 9, 10, 11, 12, 13, 45])) (.cond (.tmp 45) .skip (.exit 0) (some [7, 8, 9, 10, 11, 12, 13]))) (.seq (.block 1 (.seq (.reg c23_r12 none (some [7, 8, 9, 10, 11, 12, 13, 55])) (.cond (.tmp 55) (.seq (.reg c23_r13 none (some [6])) .ret) .skip (some [7, 8, 9, 10, 11, 12, 13])))) (.reg c23_r11 none (some [7, 8, 9, 10, 11, 12, 13]))))
def c23_r14 : List SOp := [
  ⟨(some 56), .move (.tmp 12), none⟩,
  ⟨(some 57), .call ⟨.value (.tmp 56), #[(.const (.bool false)), (.const (.bool true))], #[4, 4]⟩, none⟩,
  ⟨(some 58), .unOp .not 4 (.tmp 57), none⟩]
def c23_r15 : List SOp := [
  ⟨(some 6), .assign (.const (.bool false)), none⟩]
def c23_r16 : List SOp := [
  ⟨(some 59), .load 3 (.tmp 11), none⟩,
  ⟨(some 60), .binOp .sub 3 (.tmp 59) (.const (.int .i64 1)) 3, none⟩,
  ⟨(some 61), .move (.tmp 9), none⟩,
  ⟨(some 62), .binOp .lss 3 (.tmp 60) (.tmp 61) 3, none⟩,
  ⟨(some 14), .assign (.tmp 62), none⟩]
def c23_r17 : List SOp := [
  ⟨(some 63), .load 84 (.tmp 10), none⟩,
  ⟨(some 64), .call ⟨.value (.func 76), #[(.tmp 63)], #[84]⟩, none⟩,
  ⟨(some 65), .move (.tmp 14), none⟩,
  ⟨(some 66), .binOp .neq 4 (.tmp 64) (.tmp 65) 4, none⟩]
def c23_r18 : List SOp := [
  ⟨(some 6), .assign (.const (.bool false)), none⟩]
def c23_r19 : List SOp := [
  ⟨(some 15), .assign (.const (.int .i64 0)), none⟩]
def c23_r20 : List SOp := [
  ⟨(some 67), .move (.tmp 15), none⟩,
  ⟨(some 68), .move (.tmp 8), none⟩,
  ⟨(some 69), .binOp .lss 3 (.tmp 67) (.tmp 68) 3, none⟩]
def c23_r22 : List SOp := [
  ⟨(some 72), .move (.tmp 12), none⟩,
  ⟨(some 73), .call ⟨.value (.tmp 72), #[(.const (.bool true)), (.const (.bool false))], #[4, 4]⟩, none⟩,
  ⟨(some 74), .unOp .not 4 (.tmp 73), none⟩,
  ⟨(some 75), .move (.tmp 74), none⟩,
  ⟨(some 76), .load 84 (.tmp 10), (some ((some 75), false))⟩,
  ⟨(some 77), .call ⟨.value (.func 76), #[(.tmp 76)], #[84]⟩, (some ((some 75), false))⟩,
  ⟨(some 78), .move (.tmp 14), (some ((some 75), false))⟩,
  ⟨(some 79), .binOp .neq 4 (.tmp 77) (.tmp 78) 4, (some ((some 75), false))⟩,
  ⟨(some 80), .pick (.tmp 75) (.const (.bool true)) (.tmp 79), none⟩]
def c23_r23 : List SOp := [
  ⟨(some 6), .assign (.const (.bool false)), none⟩]
def c23_r21 : List SOp := [
  ⟨(some 70), .move (.tmp 15), none⟩,
  ⟨(some 71), .binOp .add 3 (.tmp 70) (.const (.int .i64 1)) 3, none⟩,
  ⟨(some 15), .assign (.tmp 71), none⟩]
def c23_l20 : SC := (.seq (.seq (.reg c23_r20 none (some [8, 10, 12, 14, 15, 69])) (.cond (.tmp 69) .skip (.exit 2) (some [8, 10, 12, 14, 15]))) (.seq (.block 3 (.seq (.reg c23_r22 none (some [8, 10, 12, 14, 15, 80])) (.cond (.tmp 80) (.seq (.reg c23_r23 none (some [6])) .ret) .skip (some [8, 10, 12, 14, 15])))) (.reg c23_r21 none (some [8, 10, 12, 14, 15]))))
def c23_r24 : List SOp := [
  ⟨(some 81), .load 84 (.tmp 10), none⟩,
  ⟨(some 82), .call ⟨.value (.func 74), #[(.tmp 81)], #[84]⟩, none⟩,
  ⟨(some 16), .assign (.tmp 82), none⟩]
def c23_r25 : List SOp := [
  ⟨(some 83), .move (.tmp 16), none⟩,
  ⟨(some 84), .call ⟨.builtin .len, #[(.tmp 83)], #[30]⟩, none⟩,
  ⟨(some 85), .binOp .eql 3 (.tmp 84) (.const (.int .i64 1)) 3, none⟩,
  ⟨(some 86), .move (.tmp 85), none⟩,
  ⟨(some 87), .move (.tmp 16), (some ((some 86), true))⟩,
  ⟨(some 88), .indexAddr 30 (.tmp 87) (.const (.int .i64 0)), (some ((some 86), true))⟩,
  ⟨(some 89), .load 3 (.tmp 88), (some ((some 86), true))⟩,
  ⟨(some 90), .binOp .eql 3 (.tmp 89) (.const (.int .i64 1)) 3, (some ((some 86), true))⟩,
  ⟨(some 91), .pick (.tmp 86) (.tmp 90) (.const (.bool false)), none⟩,
  ⟨(some 92), .move (.tmp 91), none⟩,
  ⟨(some 93), .load 84 (.tmp 10), (some ((some 92), true))⟩,
  ⟨(some 94), .call ⟨.value (.func 75), #[(.tmp 93)], #[84]⟩, (some ((some 92), true))⟩,
  ⟨(some 95), .unOp .not 4 (.tmp 94), (some ((some 92), true))⟩,
  ⟨(some 96), .pick (.tmp 92) (.tmp 95) (.const (.bool false)), none⟩,
  ⟨(some 97), .move (.tmp 96), none⟩,
  ⟨(some 98), .call ⟨.value (.func 68), #[], #[]⟩, (some ((some 97), true))⟩,
  ⟨(some 99), .pick (.tmp 97) (.tmp 98) (.const (.bool false)), none⟩,
  ⟨(some 6), .assign (.tmp 99), none⟩]
def c23 : SC := (.seq (.reg c23_r0 none (some [0, 1, 2])) (.seq (.reg c23_r1 none (some [7, 8, 9])) (.seq (.reg c23_r2 none (some [7, 8, 9, 10])) (.seq (.seq (.reg c23_r3 none (some [7, 8, 9, 10, 33])) (.cond (.tmp 33) (.seq (.reg c23_r4 none (some [6])) .ret) .skip (some [7, 8, 9, 10]))) (.seq (.reg c23_r5 none (some [7, 8, 9, 10, 11])) (.seq (.reg c23_r6 none (some [7, 8, 9, 10, 11, 12])) (.seq (.seq (.reg c23_r7 none (some [7, 8, 9, 10, 11, 12, 42])) (.cond (.tmp 42) (.seq (.reg c23_r8 none (some [6])) .ret) .skip (some [7, 8, 9, 10, 11, 12]))) (.seq (.seq (.reg c23_r9 none (some [7, 8, 9, 10, 11, 12, 13])) (.block 0 (.loop c23_l10 (some [7, 8, 9, 10, 11, 12, 13])))) (.seq (.seq (.reg c23_r14 none (some [8, 9, 10, 11, 12, 58])) (.cond (.tmp 58) (.seq (.reg c23_r15 none (some [6])) .ret) .skip (some [8, 9, 10, 11, 12]))) (.seq (.reg c23_r16 none (some [8, 10, 12, 14])) (.seq (.seq (.reg c23_r17 none (some [8, 10, 12, 14, 66])) (.cond (.tmp 66) (.seq (.reg c23_r18 none (some [6])) .ret) .skip (some [8, 10, 12, 14]))) (.seq (.seq (.reg c23_r19 none (some [8, 10, 12, 14, 15])) (.block 2 (.loop c23_l20 (some [8, 10, 12, 14, 15])))) (.seq (.reg c23_r24 none (some [10, 16])) (.seq (.reg c23_r25 none (some [6])) .ret))))))))))))))
theorem c23_eq : ∃ code, Try.f23.body = some code ∧ compile H23 code = c23 := ⟨_, rfl, by kernel_rfl⟩
theorem c23_fn : Try.prog.funcs[23]? = some Try.f23 := by kernel_rfl
theorem c23_rs : Try.f23.results.toList = [.tmp 6] := by kernel_rfl
theorem c23_ok : fnB Try.prog H23 Try.f23 = true := by kernel_rfl
theorem c23_nt : Try.f23.ntmps = 100 := by kernel_rfl
end Go.AM
