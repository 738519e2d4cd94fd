/-
  Printed by program (wip/tools/print.sh): compiled code.
-/
import Derived.Test.YtamidpfdiijjgaaAMb
import Derived.Test.YtamidpfdiijjgaaProg
namespace Go.AM
open Go Go.Proofs
set_option maxRecDepth 100000
/-! 22: rampart/rampartlaw17.TrackStays -/
def H22 : Hint := ⟨[(18, [6]), (17, [9, 10]), (16, [6]), (15, [9]), (2000082, [9, 10]), (14, [9, 10, 82]), (9, [7, 8, 9, 10, 11]), (13, [6]), (2000080, [7, 8, 9, 10, 11]), (12, [7, 8, 9, 10, 11, 80]), (11, [7, 8, 9, 10, 11, 12, 13]), (10, [7, 8, 9, 10, 11, 12]), (2000032, [7, 8, 9, 10, 11]), (8, [7, 8, 9, 10, 11, 32]), (1000008, [7, 8, 9, 10, 11]), (7, [7, 8, 9, 10, 11]), (6, [7, 8, 9, 10]), (5, [6]), (2000027, [1, 7, 8, 9]), (4, [1, 7, 8, 9, 27]), (3, [1, 7, 8, 9]), (2, [1, 7, 8]), (1, [1, 2, 7]), (0, [0, 1, 2])], []⟩
def c22_r0 : List SOp := [
  ⟨(some 6), .assign (.const (.bool false)), none⟩]
def c22_r1 : List SOp := [
  ⟨(some 14), .move (.tmp 0), none⟩,
  ⟨(some 15), .call ⟨.value (.func 29), #[(.tmp 14), (.const (.int .i64 32))], #[3, 3]⟩, none⟩,
  ⟨(some 16), .binOp .add 3 (.const (.int .i64 1)) (.tmp 15) 3, none⟩,
  ⟨(some 7), .assign (.tmp 16), none⟩]
def c22_r2 : List SOp := [
  ⟨(some 17), .move (.tmp 2), none⟩,
  ⟨(some 18), .call ⟨.value (.func 29), #[(.tmp 17), (.const (.int .i64 50))], #[3, 3]⟩, none⟩,
  ⟨(some 19), .binOp .add 3 (.const (.int .i64 1)) (.tmp 18) 3, none⟩,
  ⟨(some 8), .assign (.tmp 19), none⟩]
def c22_r3 : List SOp := [
  ⟨(some 20), .build 52 #[(0, (.const (.string ⟨#[97]⟩)))], none⟩,
  ⟨(some 21), .move (.tmp 8), none⟩,
  ⟨(some 22), .build 52 #[(0, (.const (.string ⟨#[98]⟩))), (5, (.const (.bool true))), (7, (.tmp 21))], none⟩,
  ⟨(some 23), .buildSlice 42 2 #[(0, (.tmp 20)), (1, (.tmp 22))], none⟩,
  ⟨(some 24), .move (.tmp 7), none⟩,
  ⟨(some 25), .call ⟨.value (.func 72), #[(.tmp 23), (.tmp 24)], #[42, 3]⟩, none⟩,
  ⟨(some 9), .assign (.tmp 25), none⟩]
def c22_r4 : List SOp := [
  ⟨(some 26), .move (.tmp 9), none⟩,
  ⟨(some 27), .binOp .eql 84 (.tmp 26) (.const (.pointer none)) 84, none⟩]
def c22_r5 : List SOp := [
  ⟨(some 6), .assign (.const (.bool false)), none⟩]
def c22_r6 : List SOp := [
  ⟨(some 28), .move (.tmp 1), none⟩,
  ⟨(some 29), .call ⟨.value (.func 29), #[(.tmp 28), (.const (.int .i64 80))], #[3, 3]⟩, none⟩,
  ⟨(some 10), .assign (.tmp 29), none⟩]
def c22_r7 : List SOp := [
  ⟨(some 11), .assign (.const (.int .i64 1)), none⟩]
def c22_r8 : List SOp := [
  ⟨(some 30), .move (.tmp 11), none⟩,
  ⟨(some 31), .move (.tmp 10), none⟩,
  ⟨(some 32), .binOp .leq 3 (.tmp 30) (.tmp 31) 3, none⟩]
def c22_r10 : List SOp := [
  ⟨(some 35), .move (.tmp 9), none⟩,
  ⟨(some 36), .buildSlice 68 2 #[(0, (.const (.bool true))), (1, (.const (.bool false)))], none⟩,
  ⟨(some 37), .call ⟨.value (.func 73), #[(.tmp 35), (.tmp 36)], #[84, 68]⟩, none⟩,
  ⟨(some 12), .assign (.tmp 37), none⟩]
def c22_r11 : List SOp := [
  ⟨(some 38), .move (.tmp 9), none⟩,
  ⟨(some 39), .call ⟨.value (.func 74), #[(.tmp 38)], #[84]⟩, none⟩,
  ⟨(some 13), .assign (.tmp 39), none⟩]
def c22_r12 : List SOp := [
  ⟨(some 40), .move (.tmp 12), none⟩,
  ⟨(some 41), .move (.tmp 11), none⟩,
  ⟨(some 42), .move (.tmp 8), none⟩,
  ⟨(some 43), .call ⟨.builtin .min, #[(.tmp 41), (.tmp 42)], #[3, 3]⟩, none⟩,
  ⟨(some 44), .move (.tmp 7), none⟩,
  ⟨(some 45), .binOp .gtr 3 (.tmp 43) (.tmp 44) 3, none⟩,
  ⟨(some 46), .binOp .neq 4 (.tmp 40) (.tmp 45) 4, none⟩,
  ⟨(some 47), .move (.tmp 46), none⟩,
  ⟨(some 48), .move (.tmp 12), (some ((some 47), true))⟩,
  ⟨(some 49), .unOp .not 4 (.tmp 48), (some ((some 47), true))⟩,
  ⟨(some 50), .pick (.tmp 47) (.tmp 49) (.const (.bool false)), none⟩,
  ⟨(some 51), .move (.tmp 50), none⟩,
  ⟨(some 52), .move (.tmp 12), (some ((some 51), false))⟩,
  ⟨(some 53), .move (.tmp 52), (some ((some 51), false))⟩,
  ⟨(some 54), .move (.tmp 8), (some ((some 53), true))⟩,
  ⟨(some 55), .move (.tmp 7), (some ((some 53), true))⟩,
  ⟨(some 56), .binOp .leq 3 (.tmp 54) (.tmp 55) 3, (some ((some 53), true))⟩,
  ⟨(some 57), .pick (.tmp 53) (.tmp 56) (.const (.bool false)), (some ((some 51), false))⟩,
  ⟨(some 58), .pick (.tmp 51) (.const (.bool true)) (.tmp 57), none⟩,
  ⟨(some 59), .move (.tmp 58), none⟩,
  ⟨(some 60), .move (.tmp 13), (some ((some 59), false))⟩,
  ⟨(some 61), .call ⟨.builtin .len, #[(.tmp 60)], #[30]⟩, (some ((some 59), false))⟩,
  ⟨(some 62), .binOp .neq 3 (.tmp 61) (.const (.int .i64 2)) 3, (some ((some 59), false))⟩,
  ⟨(some 63), .pick (.tmp 59) (.const (.bool true)) (.tmp 62), none⟩,
  ⟨(some 64), .move (.tmp 63), none⟩,
  ⟨(some 65), .move (.tmp 12), (some ((some 64), false))⟩,
  ⟨(some 66), .unOp .not 4 (.tmp 65), (some ((some 64), false))⟩,
  ⟨(some 67), .move (.tmp 66), (some ((some 64), false))⟩,
  ⟨(some 68), .move (.tmp 13), (some ((some 67), true))⟩,
  ⟨(some 69), .indexAddr 30 (.tmp 68) (.const (.int .i64 0)), (some ((some 67), true))⟩,
  ⟨(some 70), .load 3 (.tmp 69), (some ((some 67), true))⟩,
  ⟨(some 71), .move (.tmp 7), (some ((some 67), true))⟩,
  ⟨(some 72), .binOp .gtr 3 (.tmp 70) (.tmp 71) 3, (some ((some 67), true))⟩,
  ⟨(some 73), .move (.tmp 72), (some ((some 67), true))⟩,
  ⟨(some 74), .move (.tmp 13), (some ((some 73), false))⟩,
  ⟨(some 75), .indexAddr 30 (.tmp 74) (.const (.int .i64 1)), (some ((some 73), false))⟩,
  ⟨(some 76), .load 3 (.tmp 75), (some ((some 73), false))⟩,
  ⟨(some 77), .binOp .neq 3 (.tmp 76) (.const (.int .i64 0)) 3, (some ((some 73), false))⟩,
  ⟨(some 78), .pick (.tmp 73) (.const (.bool true)) (.tmp 77), (some ((some 67), true))⟩,
  ⟨(some 79), .pick (.tmp 67) (.tmp 78) (.const (.bool false)), (some ((some 64), false))⟩,
  ⟨(some 80), .pick (.tmp 64) (.const (.bool true)) (.tmp 79), none⟩]
def c22_r13 : List SOp := [
  ⟨(some 6), .assign (.const (.bool false)), none⟩]
def c22_r9 : List SOp := [
  ⟨(some 33), .move (.tmp 11), none⟩,
  ⟨(some 34), .binOp .add 3 (.tmp 33) (.const (.int .i64 1)) 3, none⟩,
  ⟨(some 11), .assign (.tmp 34), none⟩]
def c22_l8 : SC := (.seq (.seq (.reg c22_r8 none (some [7, 8, 9, 10, 11, 32])) (.cond (.tmp 32) .skip (.exit 0) (some [7, 8, 9, 10, 11]))) (.seq (.block 1 (.seq (.reg c22_r10 none (some [7, 8, 9, 10, 11, 12])) (.seq (.reg c22_r11 none (some [7, 8, 9, 10, 11, 12, 13])) (.seq (.reg c22_r12 none (some [7, 8, 9, 10, 11, 80])) (.cond (.tmp 80) (.seq (.reg c22_r13 none (some [6])) .ret) .skip (some [7, 8, 9, 10, 11])))))) (.reg c22_r9 none (some [7, 8, 9, 10, 11]))))
def c22_r14 : List SOp := [
  ⟨(some 81), .move (.tmp 9), none⟩,
  ⟨(some 82), .call ⟨.value (.func 75), #[(.tmp 81)], #[84]⟩, none⟩]
def c22_r15 : List SOp := [
  ⟨(some 83), .move (.tmp 9), none⟩,
  ⟨(some 84), .buildSlice 68 2 #[(0, (.const (.bool false))), (1, (.const (.bool true)))], none⟩,
  ⟨(some 85), .call ⟨.value (.func 73), #[(.tmp 83), (.tmp 84)], #[84, 68]⟩, none⟩]
def c22_r16 : List SOp := [
  ⟨(some 86), .move (.tmp 9), none⟩,
  ⟨(some 87), .call ⟨.value (.func 76), #[(.tmp 86)], #[84]⟩, none⟩,
  ⟨(some 88), .unOp .not 4 (.tmp 87), none⟩,
  ⟨(some 89), .move (.tmp 88), none⟩,
  ⟨(some 90), .move (.tmp 9), (some ((some 89), true))⟩,
  ⟨(some 91), .call ⟨.value (.func 75), #[(.tmp 90)], #[84]⟩, (some ((some 89), true))⟩,
  ⟨(some 92), .pick (.tmp 89) (.tmp 91) (.const (.bool false)), none⟩,
  ⟨(some 93), .move (.tmp 92), none⟩,
  ⟨(some 94), .call ⟨.value (.func 68), #[], #[]⟩, (some ((some 93), true))⟩,
  ⟨(some 95), .pick (.tmp 93) (.tmp 94) (.const (.bool false)), none⟩,
  ⟨(some 6), .assign (.tmp 95), none⟩]
def c22_r17 : List SOp := [
  ⟨(some 96), .move (.tmp 9), none⟩,
  ⟨(some 97), .buildSlice 68 2 #[(0, (.const (.bool false))), (1, (.const (.bool true)))], none⟩,
  ⟨(some 98), .call ⟨.value (.func 73), #[(.tmp 96), (.tmp 97)], #[84, 68]⟩, none⟩]
def c22_r18 : List SOp := [
  ⟨(some 99), .move (.tmp 9), none⟩,
  ⟨(some 100), .call ⟨.value (.func 76), #[(.tmp 99)], #[84]⟩, none⟩,
  ⟨(some 101), .move (.tmp 10), none⟩,
  ⟨(some 102), .binOp .gtr 3 (.tmp 101) (.const (.int .i64 0)) 3, none⟩,
  ⟨(some 103), .binOp .eql 4 (.tmp 100) (.tmp 102) 4, none⟩,
  ⟨(some 104), .move (.tmp 103), none⟩,
  ⟨(some 105), .call ⟨.value (.func 68), #[], #[]⟩, (some ((some 104), true))⟩,
  ⟨(some 106), .pick (.tmp 104) (.tmp 105) (.const (.bool false)), none⟩,
  ⟨(some 6), .assign (.tmp 106), none⟩]
def c22 : SC := (.seq (.reg c22_r0 none (some [0, 1, 2])) (.seq (.reg c22_r1 none (some [1, 2, 7])) (.seq (.reg c22_r2 none (some [1, 7, 8])) (.seq (.reg c22_r3 none (some [1, 7, 8, 9])) (.seq (.seq (.reg c22_r4 none (some [1, 7, 8, 9, 27])) (.cond (.tmp 27) (.seq (.reg c22_r5 none (some [6])) .ret) .skip (some [1, 7, 8, 9]))) (.seq (.reg c22_r6 none (some [7, 8, 9, 10])) (.seq (.seq (.reg c22_r7 none (some [7, 8, 9, 10, 11])) (.block 0 (.loop c22_l8 (some [7, 8, 9, 10, 11])))) (.seq (.seq (.reg c22_r14 none (some [9, 10, 82])) (.cond (.tmp 82) (.seq (.reg c22_r15 none (some [9])) (.seq (.reg c22_r16 none (some [6])) .ret)) .skip (some [9, 10]))) (.seq (.reg c22_r17 none (some [9, 10])) (.seq (.reg c22_r18 none (some [6])) .ret))))))))))
theorem c22_eq : ∃ code, Try.f22.body = some code ∧ compile H22 code = c22 := ⟨_, rfl, by kernel_rfl⟩
theorem c22_fn : Try.prog.funcs[22]? = some Try.f22 := by kernel_rfl
theorem c22_rs : Try.f22.results.toList = [.tmp 6] := by kernel_rfl
theorem c22_ok : fnB Try.prog H22 Try.f22 = true := by kernel_rfl
theorem c22_nt : Try.f22.ntmps = 107 := by kernel_rfl
end Go.AM
