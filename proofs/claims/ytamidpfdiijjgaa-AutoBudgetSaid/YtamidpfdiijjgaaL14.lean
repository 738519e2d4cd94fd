/-
  Printed by program (wip/tools/print.sh): compiled code.
-/
import Derived.Test.YtamidpfdiijjgaaAMb
import Derived.Test.YtamidpfdiijjgaaProg
namespace Go.AM
open Go Go.Proofs
set_option maxRecDepth 100000
/-! 14: rampart/rampartlaw14.AutoBudget -/
def H14 : Hint := ⟨[(10, [6]), (9, [8, 13]), (8, [6]), (2000057, [2, 7, 8]), (7, [2, 7, 8, 57]), (6, [2, 7, 8, 9, 11, 12]), (5, [0, 2, 7, 8, 9, 10]), (4, [0, 1, 2, 7, 8, 9]), (3, [0, 1, 2, 7]), (2, [6]), (2000016, [0, 1, 2]), (1, [0, 1, 2, 16]), (0, [0, 1, 2])], []⟩
def c14_r0 : List SOp := [
  ⟨(some 6), .assign (.const (.bool false)), none⟩]
def c14_r1 : List SOp := [
  ⟨(some 14), .move (.tmp 0), none⟩,
  ⟨(some 15), .call ⟨.value (.func 55), #[(.tmp 14)], #[38]⟩, none⟩,
  ⟨(some 16), .unOp .not 4 (.tmp 15), none⟩]
def c14_r2 : List SOp := [
  ⟨(some 17), .call ⟨.value (.func 51), #[], #[]⟩, none⟩,
  ⟨(some 6), .assign (.tmp 17), none⟩]
def c14_r3 : List SOp := [
  ⟨(some 18), .move (.tmp 0), none⟩,
  ⟨(some 19), .call ⟨.value (.func 39), #[(.tmp 18)], #[38]⟩, none⟩,
  ⟨(some 7), .assign (.tmp 19), none⟩]
def c14_r4 : List SOp := [
  ⟨(some 21), .move (.tmp 0), none⟩,
  ⟨(some 22), .move (.tmp 7), none⟩,
  ⟨(some 23), .call ⟨.value (.func 52), #[(.tmp 21), (.tmp 22)], #[38, 3]⟩, none⟩,
  ⟨(some 20), .move (.tmp 23), none⟩,
  ⟨(some 24), .extract (.tmp 20) 0, none⟩,
  ⟨(some 25), .extract (.tmp 20) 1, none⟩,
  ⟨(some 8), .assign (.tmp 24), none⟩,
  ⟨(some 9), .assign (.tmp 25), none⟩]
def c14_r5 : List SOp := [
  ⟨(some 26), .move (.tmp 1), none⟩,
  ⟨(some 27), .move (.tmp 7), none⟩,
  ⟨(some 28), .call ⟨.value (.func 29), #[(.tmp 26), (.tmp 27)], #[3, 3]⟩, none⟩,
  ⟨(some 29), .binOp .add 3 (.const (.int .i64 1)) (.tmp 28) 3, none⟩,
  ⟨(some 10), .assign (.tmp 29), none⟩]
def c14_r6 : List SOp := [
  ⟨(some 31), .move (.tmp 0), none⟩,
  ⟨(some 32), .move (.tmp 7), none⟩,
  ⟨(some 33), .move (.tmp 10), none⟩,
  ⟨(some 34), .binOp .sub 3 (.tmp 32) (.tmp 33) 3, none⟩,
  ⟨(some 35), .call ⟨.value (.func 52), #[(.tmp 31), (.tmp 34)], #[38, 3]⟩, none⟩,
  ⟨(some 30), .move (.tmp 35), none⟩,
  ⟨(some 36), .extract (.tmp 30) 0, none⟩,
  ⟨(some 37), .extract (.tmp 30) 1, none⟩,
  ⟨(some 11), .assign (.tmp 36), none⟩,
  ⟨(some 12), .assign (.tmp 37), none⟩]
def c14_r7 : List SOp := [
  ⟨(some 38), .move (.tmp 9), none⟩,
  ⟨(some 39), .binOp .neq 58 (.tmp 38) (.const (.int .i64 0)) 58, none⟩,
  ⟨(some 40), .move (.tmp 39), none⟩,
  ⟨(some 41), .move (.tmp 8), (some ((some 40), false))⟩,
  ⟨(some 42), .binOp .eql 57 (.tmp 41) (.const (.pointer none)) 57, (some ((some 40), false))⟩,
  ⟨(some 43), .pick (.tmp 40) (.const (.bool true)) (.tmp 42), none⟩,
  ⟨(some 44), .move (.tmp 43), none⟩,
  ⟨(some 45), .move (.tmp 12), (some ((some 44), false))⟩,
  ⟨(some 46), .binOp .neq 58 (.tmp 45) (.const (.int .i64 9)) 58, (some ((some 44), false))⟩,
  ⟨(some 47), .pick (.tmp 44) (.const (.bool true)) (.tmp 46), none⟩,
  ⟨(some 48), .move (.tmp 47), none⟩,
  ⟨(some 49), .move (.tmp 11), (some ((some 48), false))⟩,
  ⟨(some 50), .binOp .neq 57 (.tmp 49) (.const (.pointer none)) 57, (some ((some 48), false))⟩,
  ⟨(some 51), .pick (.tmp 48) (.const (.bool true)) (.tmp 50), none⟩,
  ⟨(some 52), .move (.tmp 51), none⟩,
  ⟨(some 53), .move (.tmp 8), (some ((some 52), false))⟩,
  ⟨(some 54), .call ⟨.value (.func 56), #[(.tmp 53)], #[57]⟩, (some ((some 52), false))⟩,
  ⟨(some 55), .move (.tmp 7), (some ((some 52), false))⟩,
  ⟨(some 56), .binOp .neq 3 (.tmp 54) (.tmp 55) 3, (some ((some 52), false))⟩,
  ⟨(some 57), .pick (.tmp 52) (.const (.bool true)) (.tmp 56), none⟩]
def c14_r8 : List SOp := [
  ⟨(some 6), .assign (.const (.bool false)), none⟩]
def c14_r9 : List SOp := [
  ⟨(some 58), .move (.tmp 7), none⟩,
  ⟨(some 59), .move (.tmp 2), none⟩,
  ⟨(some 60), .call ⟨.value (.func 29), #[(.tmp 59), (.const (.int .i64 100))], #[3, 3]⟩, none⟩,
  ⟨(some 61), .binOp .add 3 (.tmp 58) (.tmp 60) 3, none⟩,
  ⟨(some 13), .assign (.tmp 61), none⟩]
def c14_r10 : List SOp := [
  ⟨(some 62), .move (.tmp 8), none⟩,
  ⟨(some 63), .move (.tmp 13), none⟩,
  ⟨(some 64), .call ⟨.value (.func 53), #[(.tmp 62), (.tmp 63), (.const (.int .u8 97))], #[57, 3, 5]⟩, none⟩,
  ⟨(some 65), .binOp .eql 3 (.tmp 64) (.const (.int .i64 0)) 3, none⟩,
  ⟨(some 66), .move (.tmp 65), none⟩,
  ⟨(some 67), .move (.tmp 8), (some ((some 66), true))⟩,
  ⟨(some 68), .move (.tmp 13), (some ((some 66), true))⟩,
  ⟨(some 69), .call ⟨.value (.func 58), #[(.tmp 67), (.tmp 68)], #[57, 3]⟩, (some ((some 66), true))⟩,
  ⟨(some 70), .binOp .eql 3 (.tmp 69) (.const (.int .i64 0)) 3, (some ((some 66), true))⟩,
  ⟨(some 71), .pick (.tmp 66) (.tmp 70) (.const (.bool false)), none⟩,
  ⟨(some 72), .move (.tmp 71), none⟩,
  ⟨(some 73), .move (.tmp 8), (some ((some 72), true))⟩,
  ⟨(some 74), .move (.tmp 13), (some ((some 72), true))⟩,
  ⟨(some 75), .call ⟨.value (.func 54), #[(.tmp 73), (.tmp 74)], #[57, 3]⟩, (some ((some 72), true))⟩,
  ⟨(some 76), .call ⟨.builtin .len, #[(.tmp 75)], #[30]⟩, (some ((some 72), true))⟩,
  ⟨(some 77), .binOp .eql 3 (.tmp 76) (.const (.int .i64 0)) 3, (some ((some 72), true))⟩,
  ⟨(some 78), .pick (.tmp 72) (.tmp 77) (.const (.bool false)), none⟩,
  ⟨(some 79), .move (.tmp 78), none⟩,
  ⟨(some 80), .move (.tmp 8), (some ((some 79), true))⟩,
  ⟨(some 81), .move (.tmp 13), (some ((some 79), true))⟩,
  ⟨(some 82), .binOp .sub 3 (.const (.int .i64 (-1))) (.tmp 81) 3, (some ((some 79), true))⟩,
  ⟨(some 83), .call ⟨.value (.func 53), #[(.tmp 80), (.tmp 82), (.const (.int .u8 97))], #[57, 3, 5]⟩, (some ((some 79), true))⟩,
  ⟨(some 84), .binOp .eql 3 (.tmp 83) (.const (.int .i64 0)) 3, (some ((some 79), true))⟩,
  ⟨(some 85), .pick (.tmp 79) (.tmp 84) (.const (.bool false)), none⟩,
  ⟨(some 86), .move (.tmp 85), none⟩,
  ⟨(some 87), .move (.tmp 8), (some ((some 86), true))⟩,
  ⟨(some 88), .move (.tmp 13), (some ((some 86), true))⟩,
  ⟨(some 89), .binOp .sub 3 (.const (.int .i64 (-1))) (.tmp 88) 3, (some ((some 86), true))⟩,
  ⟨(some 90), .call ⟨.value (.func 54), #[(.tmp 87), (.tmp 89)], #[57, 3]⟩, (some ((some 86), true))⟩,
  ⟨(some 91), .call ⟨.builtin .len, #[(.tmp 90)], #[30]⟩, (some ((some 86), true))⟩,
  ⟨(some 92), .binOp .eql 3 (.tmp 91) (.const (.int .i64 0)) 3, (some ((some 86), true))⟩,
  ⟨(some 93), .pick (.tmp 86) (.tmp 92) (.const (.bool false)), none⟩,
  ⟨(some 94), .move (.tmp 93), none⟩,
  ⟨(some 95), .move (.tmp 8), (some ((some 94), true))⟩,
  ⟨(some 96), .call ⟨.value (.func 58), #[(.tmp 95), (.const (.int .i64 0))], #[57, 3]⟩, (some ((some 94), true))⟩,
  ⟨(some 97), .binOp .eql 3 (.tmp 96) (.const (.int .i64 0)) 3, (some ((some 94), true))⟩,
  ⟨(some 98), .pick (.tmp 94) (.tmp 97) (.const (.bool false)), none⟩,
  ⟨(some 99), .move (.tmp 98), none⟩,
  ⟨(some 100), .call ⟨.value (.func 51), #[], #[]⟩, (some ((some 99), true))⟩,
  ⟨(some 101), .pick (.tmp 99) (.tmp 100) (.const (.bool false)), none⟩,
  ⟨(some 6), .assign (.tmp 101), none⟩]
def c14 : SC := (.seq (.reg c14_r0 none (some [0, 1, 2])) (.seq (.seq (.reg c14_r1 none (some [0, 1, 2, 16])) (.cond (.tmp 16) (.seq (.reg c14_r2 none (some [6])) .ret) .skip (some [0, 1, 2]))) (.seq (.reg c14_r3 none (some [0, 1, 2, 7])) (.seq (.reg c14_r4 none (some [0, 1, 2, 7, 8, 9])) (.seq (.reg c14_r5 none (some [0, 2, 7, 8, 9, 10])) (.seq (.reg c14_r6 none (some [2, 7, 8, 9, 11, 12])) (.seq (.seq (.reg c14_r7 none (some [2, 7, 8, 57])) (.cond (.tmp 57) (.seq (.reg c14_r8 none (some [6])) .ret) .skip (some [2, 7, 8]))) (.seq (.reg c14_r9 none (some [8, 13])) (.seq (.reg c14_r10 none (some [6])) .ret)))))))))
theorem c14_eq : ∃ code, Try.f14.body = some code ∧ compile H14 code = c14 := ⟨_, rfl, by kernel_rfl⟩
theorem c14_fn : Try.prog.funcs[14]? = some Try.f14 := by kernel_rfl
theorem c14_rs : Try.f14.results.toList = [.tmp 6] := by kernel_rfl
theorem c14_ok : fnB Try.prog H14 Try.f14 = true := by kernel_rfl
theorem c14_nt : Try.f14.ntmps = 102 := by kernel_rfl
end Go.AM
