/-
  Printed by program (wip/tools/print.sh): compiled code.
-/
import Derived.Test.YtamidpfdiijjgaaAMb
import Derived.Test.YtamidpfdiijjgaaProg
namespace Go.AM
open Go Go.Proofs
set_option maxRecDepth 100000
/-! 15: rampart/rampartlaw14.AutoFails -/
def H15 : Hint := ⟨[(15, [4]), (14, [5, 7, 9, 12]), (10, [5, 7, 9, 10, 11]), (13, [4]), (2000070, [5, 7, 9, 10, 11]), (12, [5, 7, 9, 10, 11, 70]), (11, [5, 7, 9, 10, 11]), (2000041, [5, 7, 9, 10, 11]), (9, [5, 7, 9, 10, 11, 41]), (1000009, [5, 7, 9, 10, 11]), (8, [5, 7, 9, 10, 11]), (7, [5, 7, 9, 10]), (6, [1, 5, 7, 9]), (5, [4]), (2000036, [1, 5, 7]), (4, [1, 5, 7, 36]), (3, [1, 5, 7, 8]), (2, [1, 5, 6]), (1, [1, 5]), (0, [0, 1])], []⟩
def c15_r0 : List SOp := [
  ⟨(some 4), .assign (.const (.bool false)), none⟩]
def c15_r1 : List SOp := [
  ⟨(some 13), .move (.tmp 0), none⟩,
  ⟨(some 14), .call ⟨.value (.func 29), #[(.tmp 13), (.const (.int .i64 16))], #[3, 3]⟩, none⟩,
  ⟨(some 15), .binOp .add 3 (.const (.int .i64 1)) (.tmp 14) 3, none⟩,
  ⟨(some 5), .assign (.tmp 15), none⟩]
def c15_r2 : List SOp := [
  ⟨(some 16), .move (.tmp 5), none⟩,
  ⟨(some 17), .slice 9 (.const (.string ⟨#[97, 97, 97, 97, 97, 97, 97, 97, 97, 97, 97, 97, 97, 97, 97, 97]⟩)) none (some (.tmp 16)) none, none⟩,
  ⟨(some 6), .assign (.tmp 17), none⟩]
def c15_r3 : List SOp := [
  ⟨(some 19), .move (.tmp 6), none⟩,
  ⟨(some 20), .buildSlice 38 2 #[(0, (.tmp 19)), (1, (.const (.string ⟨#[98]⟩)))], none⟩,
  ⟨(some 21), .call ⟨.value (.func 52), #[(.tmp 20), (.const (.int .i64 100))], #[38, 3]⟩, none⟩,
  ⟨(some 18), .move (.tmp 21), none⟩,
  ⟨(some 22), .extract (.tmp 18) 0, none⟩,
  ⟨(some 23), .extract (.tmp 18) 1, none⟩,
  ⟨(some 7), .assign (.tmp 22), none⟩,
  ⟨(some 8), .assign (.tmp 23), none⟩]
def c15_r4 : List SOp := [
  ⟨(some 24), .move (.tmp 8), none⟩,
  ⟨(some 25), .binOp .neq 58 (.tmp 24) (.const (.int .i64 0)) 58, none⟩,
  ⟨(some 26), .move (.tmp 25), none⟩,
  ⟨(some 27), .move (.tmp 7), (some ((some 26), false))⟩,
  ⟨(some 28), .binOp .eql 57 (.tmp 27) (.const (.pointer none)) 57, (some ((some 26), false))⟩,
  ⟨(some 29), .pick (.tmp 26) (.const (.bool true)) (.tmp 28), none⟩,
  ⟨(some 30), .move (.tmp 29), none⟩,
  ⟨(some 31), .move (.tmp 7), (some ((some 30), false))⟩,
  ⟨(some 32), .call ⟨.value (.func 56), #[(.tmp 31)], #[57]⟩, (some ((some 30), false))⟩,
  ⟨(some 33), .move (.tmp 5), (some ((some 30), false))⟩,
  ⟨(some 34), .binOp .add 3 (.tmp 33) (.const (.int .i64 2)) 3, (some ((some 30), false))⟩,
  ⟨(some 35), .binOp .neq 3 (.tmp 32) (.tmp 34) 3, (some ((some 30), false))⟩,
  ⟨(some 36), .pick (.tmp 30) (.const (.bool true)) (.tmp 35), none⟩]
def c15_r5 : List SOp := [
  ⟨(some 4), .assign (.const (.bool false)), none⟩]
def c15_r6 : List SOp := [
  ⟨(some 9), .assign (.const (.int .i64 0)), none⟩]
def c15_r7 : List SOp := [
  ⟨(some 37), .move (.tmp 1), none⟩,
  ⟨(some 38), .call ⟨.value (.func 29), #[(.tmp 37), (.const (.int .i64 40))], #[3, 3]⟩, none⟩,
  ⟨(some 10), .assign (.tmp 38), none⟩]
def c15_r8 : List SOp := [
  ⟨(some 11), .assign (.const (.int .i64 1)), none⟩]
def c15_r9 : List SOp := [
  ⟨(some 39), .move (.tmp 11), none⟩,
  ⟨(some 40), .move (.tmp 10), none⟩,
  ⟨(some 41), .binOp .leq 3 (.tmp 39) (.tmp 40) 3, none⟩]
def c15_r11 : List SOp := [
  ⟨(some 44), .move (.tmp 7), none⟩,
  ⟨(some 45), .move (.tmp 9), none⟩,
  ⟨(some 46), .call ⟨.value (.func 53), #[(.tmp 44), (.tmp 45), (.const (.int .u8 97))], #[57, 3, 5]⟩, none⟩,
  ⟨(some 9), .assign (.tmp 46), none⟩]
def c15_r12 : List SOp := [
  ⟨(some 47), .move (.tmp 9), none⟩,
  ⟨(some 48), .move (.tmp 11), none⟩,
  ⟨(some 49), .move (.tmp 5), none⟩,
  ⟨(some 50), .call ⟨.builtin .min, #[(.tmp 48), (.tmp 49)], #[3, 3]⟩, none⟩,
  ⟨(some 51), .binOp .neq 3 (.tmp 47) (.tmp 50) 3, none⟩,
  ⟨(some 52), .move (.tmp 51), none⟩,
  ⟨(some 53), .move (.tmp 7), (some ((some 52), false))⟩,
  ⟨(some 54), .move (.tmp 9), (some ((some 52), false))⟩,
  ⟨(some 55), .call ⟨.value (.func 58), #[(.tmp 53), (.tmp 54)], #[57, 3]⟩, (some ((some 52), false))⟩,
  ⟨(some 56), .move (.tmp 9), (some ((some 52), false))⟩,
  ⟨(some 57), .binOp .sub 3 (.tmp 56) (.const (.int .i64 1)) 3, (some ((some 52), false))⟩,
  ⟨(some 58), .binOp .neq 3 (.tmp 55) (.tmp 57) 3, (some ((some 52), false))⟩,
  ⟨(some 59), .pick (.tmp 52) (.const (.bool true)) (.tmp 58), none⟩,
  ⟨(some 60), .move (.tmp 59), none⟩,
  ⟨(some 61), .move (.tmp 7), (some ((some 60), false))⟩,
  ⟨(some 62), .move (.tmp 9), (some ((some 60), false))⟩,
  ⟨(some 63), .call ⟨.value (.func 54), #[(.tmp 61), (.tmp 62)], #[57, 3]⟩, (some ((some 60), false))⟩,
  ⟨(some 64), .call ⟨.builtin .len, #[(.tmp 63)], #[30]⟩, (some ((some 60), false))⟩,
  ⟨(some 65), .binOp .eql 3 (.tmp 64) (.const (.int .i64 1)) 3, (some ((some 60), false))⟩,
  ⟨(some 66), .move (.tmp 11), (some ((some 60), false))⟩,
  ⟨(some 67), .move (.tmp 5), (some ((some 60), false))⟩,
  ⟨(some 68), .binOp .geq 3 (.tmp 66) (.tmp 67) 3, (some ((some 60), false))⟩,
  ⟨(some 69), .binOp .neq 4 (.tmp 65) (.tmp 68) 4, (some ((some 60), false))⟩,
  ⟨(some 70), .pick (.tmp 60) (.const (.bool true)) (.tmp 69), none⟩]
def c15_r13 : List SOp := [
  ⟨(some 4), .assign (.const (.bool false)), none⟩]
def c15_r10 : List SOp := [
  ⟨(some 42), .move (.tmp 11), none⟩,
  ⟨(some 43), .binOp .add 3 (.tmp 42) (.const (.int .i64 1)) 3, none⟩,
  ⟨(some 11), .assign (.tmp 43), none⟩]
def c15_l9 : SC := (.seq (.seq (.reg c15_r9 none (some [5, 7, 9, 10, 11, 41])) (.cond (.tmp 41) .skip (.exit 0) (some [5, 7, 9, 10, 11]))) (.seq (.block 1 (.seq (.reg c15_r11 none (some [5, 7, 9, 10, 11])) (.seq (.reg c15_r12 none (some [5, 7, 9, 10, 11, 70])) (.cond (.tmp 70) (.seq (.reg c15_r13 none (some [4])) .ret) .skip (some [5, 7, 9, 10, 11]))))) (.reg c15_r10 none (some [5, 7, 9, 10, 11]))))
def c15_r14 : List SOp := [
  ⟨(some 71), .move (.tmp 7), none⟩,
  ⟨(some 72), .move (.tmp 9), none⟩,
  ⟨(some 73), .call ⟨.value (.func 53), #[(.tmp 71), (.tmp 72), (.const (.int .u8 98))], #[57, 3, 5]⟩, none⟩,
  ⟨(some 12), .assign (.tmp 73), none⟩]
def c15_r15 : List SOp := [
  ⟨(some 74), .move (.tmp 12), none⟩,
  ⟨(some 75), .move (.tmp 5), none⟩,
  ⟨(some 76), .binOp .add 3 (.tmp 75) (.const (.int .i64 1)) 3, none⟩,
  ⟨(some 77), .binOp .eql 3 (.tmp 74) (.tmp 76) 3, none⟩,
  ⟨(some 78), .move (.tmp 77), none⟩,
  ⟨(some 79), .move (.tmp 7), (some ((some 78), true))⟩,
  ⟨(some 80), .move (.tmp 12), (some ((some 78), true))⟩,
  ⟨(some 81), .call ⟨.value (.func 58), #[(.tmp 79), (.tmp 80)], #[57, 3]⟩, (some ((some 78), true))⟩,
  ⟨(some 82), .binOp .eql 3 (.tmp 81) (.const (.int .i64 0)) 3, (some ((some 78), true))⟩,
  ⟨(some 83), .pick (.tmp 78) (.tmp 82) (.const (.bool false)), none⟩,
  ⟨(some 84), .move (.tmp 83), none⟩,
  ⟨(some 85), .move (.tmp 7), (some ((some 84), true))⟩,
  ⟨(some 86), .move (.tmp 9), (some ((some 84), true))⟩,
  ⟨(some 87), .call ⟨.value (.func 53), #[(.tmp 85), (.tmp 86), (.const (.int .u8 99))], #[57, 3, 5]⟩, (some ((some 84), true))⟩,
  ⟨(some 88), .binOp .eql 3 (.tmp 87) (.const (.int .i64 0)) 3, (some ((some 84), true))⟩,
  ⟨(some 89), .pick (.tmp 84) (.tmp 88) (.const (.bool false)), none⟩,
  ⟨(some 90), .move (.tmp 89), none⟩,
  ⟨(some 91), .move (.tmp 7), (some ((some 90), true))⟩,
  ⟨(some 92), .move (.tmp 12), (some ((some 90), true))⟩,
  ⟨(some 93), .call ⟨.value (.func 54), #[(.tmp 91), (.tmp 92)], #[57, 3]⟩, (some ((some 90), true))⟩,
  ⟨(some 94), .call ⟨.builtin .len, #[(.tmp 93)], #[30]⟩, (some ((some 90), true))⟩,
  ⟨(some 95), .binOp .eql 3 (.tmp 94) (.const (.int .i64 1)) 3, (some ((some 90), true))⟩,
  ⟨(some 96), .pick (.tmp 90) (.tmp 95) (.const (.bool false)), none⟩,
  ⟨(some 97), .move (.tmp 96), none⟩,
  ⟨(some 98), .move (.tmp 7), (some ((some 97), true))⟩,
  ⟨(some 99), .move (.tmp 12), (some ((some 97), true))⟩,
  ⟨(some 100), .call ⟨.value (.func 54), #[(.tmp 98), (.tmp 99)], #[57, 3]⟩, (some ((some 97), true))⟩,
  ⟨(some 101), .indexAddr 30 (.tmp 100) (.const (.int .i64 0)), (some ((some 97), true))⟩,
  ⟨(some 102), .load 3 (.tmp 101), (some ((some 97), true))⟩,
  ⟨(some 103), .binOp .eql 3 (.tmp 102) (.const (.int .i64 1)) 3, (some ((some 97), true))⟩,
  ⟨(some 104), .pick (.tmp 97) (.tmp 103) (.const (.bool false)), none⟩,
  ⟨(some 105), .move (.tmp 104), none⟩,
  ⟨(some 106), .call ⟨.value (.func 51), #[], #[]⟩, (some ((some 105), true))⟩,
  ⟨(some 107), .pick (.tmp 105) (.tmp 106) (.const (.bool false)), none⟩,
  ⟨(some 4), .assign (.tmp 107), none⟩]
def c15 : SC := (.seq (.reg c15_r0 none (some [0, 1])) (.seq (.reg c15_r1 none (some [1, 5])) (.seq (.reg c15_r2 none (some [1, 5, 6])) (.seq (.reg c15_r3 none (some [1, 5, 7, 8])) (.seq (.seq (.reg c15_r4 none (some [1, 5, 7, 36])) (.cond (.tmp 36) (.seq (.reg c15_r5 none (some [4])) .ret) .skip (some [1, 5, 7]))) (.seq (.reg c15_r6 none (some [1, 5, 7, 9])) (.seq (.reg c15_r7 none (some [5, 7, 9, 10])) (.seq (.seq (.reg c15_r8 none (some [5, 7, 9, 10, 11])) (.block 0 (.loop c15_l9 (some [5, 7, 9, 10, 11])))) (.seq (.reg c15_r14 none (some [5, 7, 9, 12])) (.seq (.reg c15_r15 none (some [4])) .ret))))))))))
theorem c15_eq : ∃ code, Try.f15.body = some code ∧ compile H15 code = c15 := ⟨_, rfl, by kernel_rfl⟩
theorem c15_fn : Try.prog.funcs[15]? = some Try.f15 := by kernel_rfl
theorem c15_rs : Try.f15.results.toList = [.tmp 4] := by kernel_rfl
theorem c15_ok : fnB Try.prog H15 Try.f15 = true := by kernel_rfl
theorem c15_nt : Try.f15.ntmps = 108 := by kernel_rfl
end Go.AM
