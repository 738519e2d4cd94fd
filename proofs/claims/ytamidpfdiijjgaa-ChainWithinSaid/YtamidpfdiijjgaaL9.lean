/-
  Printed by program (wip/tools/print.sh): compiled code.
-/
import Derived.Test.YtamidpfdiijjgaaAM16
import Derived.Test.YtamidpfdiijjgaaProg
namespace Go.AM
open Go Go.Proofs
set_option maxRecDepth 100000
/-! 9: rampart/rampartlaw16.ChainPlaces -/
def H9 : Hint := ⟨[(13, [8]), (12, [10, 14, 15, 16, 17, 19]), (11, [8]), (10, [12, 13, 15, 16, 17, 18]), (2000051, [10, 12, 13, 14, 15, 16, 17]), (9, [10, 12, 13, 14, 15, 16, 17, 51]), (8, [3, 10, 12, 13, 14, 15, 16, 17]), (7, [3, 10, 12, 13, 14, 15]), (6, [3, 10, 12, 13, 14]), (2000034, [3, 10, 12, 13, 14]), (5, [3, 9, 10, 11, 12, 13, 14, 34]), (4, [3, 9, 10, 11, 12, 13, 14]), (3, [3, 9, 10, 11, 12, 13]), (2, [3, 9, 10, 11, 12]), (1, [3, 9, 10, 11]), (0, [0, 1, 2, 3])], []⟩
def c9_r0 : List SOp := [
  ⟨(some 8), .assign (.const (.bool false)), none⟩]
def c9_r1 : List SOp := [
  ⟨(some 20), .move (.tmp 0), none⟩,
  ⟨(some 21), .call ⟨.value (.func 29), #[(.tmp 20), (.const (.int .i64 40))], #[3, 3]⟩, none⟩,
  ⟨(some 22), .move (.tmp 1), none⟩,
  ⟨(some 23), .call ⟨.value (.func 29), #[(.tmp 22), (.const (.int .i64 45))], #[3, 3]⟩, none⟩,
  ⟨(some 24), .move (.tmp 2), none⟩,
  ⟨(some 25), .call ⟨.value (.func 29), #[(.tmp 24), (.const (.int .i64 45))], #[3, 3]⟩, none⟩,
  ⟨(some 9), .assign (.tmp 21), none⟩,
  ⟨(some 10), .assign (.tmp 23), none⟩,
  ⟨(some 11), .assign (.tmp 25), none⟩]
def c9_r2 : List SOp := [
  ⟨(some 26), .move (.tmp 9), none⟩,
  ⟨(some 27), .slice 9 (.const (.string ⟨#[97, 97, 97, 97, 97, 97, 97, 97, 97, 97, 97, 97, 97, 97, 97, 97, 97, 97, 97, 97, 97, 97, 97, 97, 97, 97, 97, 97, 97, 97, 97, 97, 97, 97, 97, 97, 97, 97, 97, 97, 97, 97, 97, 97, 97]⟩)) none (some (.tmp 26)) none, none⟩,
  ⟨(some 12), .assign (.tmp 27), none⟩]
def c9_r3 : List SOp := [
  ⟨(some 28), .move (.tmp 10), none⟩,
  ⟨(some 29), .move (.tmp 11), none⟩,
  ⟨(some 30), .move (.tmp 3), none⟩,
  ⟨(some 31), .build 52 #[(0, (.const (.string ⟨#[97]⟩))), (3, (.tmp 28)), (4, (.tmp 29)), (2, (.tmp 30))], none⟩,
  ⟨(some 13), .alloc 52, none⟩,
  ⟨none, .store 52 (.tmp 13) (.tmp 31), none⟩]
def c9_r4 : List SOp := [
  ⟨(some 32), .move (.tmp 9), none⟩,
  ⟨(some 14), .assign (.tmp 32), none⟩]
def c9_r5 : List SOp := [
  ⟨(some 33), .move (.tmp 11), none⟩,
  ⟨(some 34), .binOp .gtr 3 (.tmp 33) (.const (.int .i64 0)) 3, none⟩]
def c9_r6 : List SOp := [
  ⟨(some 35), .move (.tmp 9), none⟩,
  ⟨(some 36), .move (.tmp 10), none⟩,
  ⟨(some 37), .move (.tmp 11), none⟩,
  ⟨(some 38), .binOp .add 3 (.tmp 36) (.tmp 37) 3, none⟩,
  ⟨(some 39), .call ⟨.builtin .min, #[(.tmp 35), (.tmp 38)], #[3, 3]⟩, none⟩,
  ⟨(some 14), .assign (.tmp 39), none⟩]
def c9_r7 : List SOp := [
  ⟨(some 40), .move (.tmp 14), none⟩,
  ⟨(some 41), .move (.tmp 10), none⟩,
  ⟨(some 42), .binOp .sub 3 (.tmp 40) (.tmp 41) 3, none⟩,
  ⟨(some 43), .call ⟨.builtin .max, #[(.tmp 42), (.const (.int .i64 0))], #[3, 3]⟩, none⟩,
  ⟨(some 15), .assign (.tmp 43), none⟩]
def c9_r8 : List SOp := [
  ⟨(some 45), .load 52 (.tmp 13), none⟩,
  ⟨(some 46), .buildSlice 42 1 #[(0, (.tmp 45))], none⟩,
  ⟨(some 47), .move (.tmp 12), none⟩,
  ⟨(some 48), .call ⟨.value (.func 45), #[(.tmp 46), (.tmp 47)], #[42, 9]⟩, none⟩,
  ⟨(some 44), .move (.tmp 48), none⟩,
  ⟨(some 49), .extract (.tmp 44) 0, none⟩,
  ⟨(some 50), .extract (.tmp 44) 1, none⟩,
  ⟨(some 16), .assign (.tmp 49), none⟩,
  ⟨(some 17), .assign (.tmp 50), none⟩]
def c9_r9 : List SOp := [
  ⟨(some 51), .move (.tmp 3), none⟩]
def c9_r10 : List SOp := [
  ⟨(some 52), .load 52 (.tmp 13), none⟩,
  ⟨(some 53), .buildSlice 42 1 #[(0, (.tmp 52))], none⟩,
  ⟨(some 54), .move (.tmp 12), none⟩,
  ⟨(some 55), .call ⟨.value (.func 43), #[(.tmp 53), (.tmp 54)], #[42, 9]⟩, none⟩,
  ⟨(some 18), .assign (.tmp 55), none⟩]
def c9_r11 : List SOp := [
  ⟨(some 56), .move (.tmp 18), none⟩,
  ⟨(some 57), .call ⟨.builtin .len, #[(.tmp 56)], #[44]⟩, none⟩,
  ⟨(some 58), .binOp .eql 3 (.tmp 57) (.const (.int .i64 0)) 3, none⟩,
  ⟨(some 59), .move (.tmp 58), none⟩,
  ⟨(some 60), .load 52 (.tmp 13), (some ((some 59), true))⟩,
  ⟨(some 61), .buildSlice 42 1 #[(0, (.tmp 60))], (some ((some 59), true))⟩,
  ⟨(some 62), .move (.tmp 12), (some ((some 59), true))⟩,
  ⟨(some 63), .call ⟨.value (.func 47), #[(.tmp 61), (.tmp 62)], #[42, 9]⟩, (some ((some 59), true))⟩,
  ⟨(some 64), .move (.tmp 15), (some ((some 59), true))⟩,
  ⟨(some 65), .binOp .eql 3 (.tmp 64) (.const (.int .i64 0)) 3, (some ((some 59), true))⟩,
  ⟨(some 66), .binOp .eql 4 (.tmp 63) (.tmp 65) 4, (some ((some 59), true))⟩,
  ⟨(some 67), .pick (.tmp 59) (.tmp 66) (.const (.bool false)), none⟩,
  ⟨(some 68), .move (.tmp 67), none⟩,
  ⟨(some 69), .move (.tmp 17), (some ((some 68), true))⟩,
  ⟨(some 70), .pick (.tmp 68) (.tmp 69) (.const (.bool false)), none⟩,
  ⟨(some 71), .move (.tmp 70), none⟩,
  ⟨(some 72), .move (.tmp 16), (some ((some 71), true))⟩,
  ⟨(some 73), .binOp .eql 3 (.tmp 72) (.const (.int .i64 0)) 3, (some ((some 71), true))⟩,
  ⟨(some 74), .pick (.tmp 71) (.tmp 73) (.const (.bool false)), none⟩,
  ⟨(some 75), .move (.tmp 74), none⟩,
  ⟨(some 76), .call ⟨.value (.func 42), #[], #[]⟩, (some ((some 75), true))⟩,
  ⟨(some 77), .pick (.tmp 75) (.tmp 76) (.const (.bool false)), none⟩,
  ⟨(some 8), .assign (.tmp 77), none⟩]
def c9_r12 : List SOp := [
  ⟨(some 78), .load 52 (.tmp 13), none⟩,
  ⟨(some 79), .buildSlice 42 1 #[(0, (.tmp 78))], none⟩,
  ⟨(some 80), .move (.tmp 12), none⟩,
  ⟨(some 81), .call ⟨.value (.func 43), #[(.tmp 79), (.tmp 80)], #[42, 9]⟩, none⟩,
  ⟨(some 19), .assign (.tmp 81), none⟩]
def c9_r13 : List SOp := [
  ⟨(some 82), .move (.tmp 19), none⟩,
  ⟨(some 83), .call ⟨.builtin .len, #[(.tmp 82)], #[44]⟩, none⟩,
  ⟨(some 84), .binOp .eql 3 (.tmp 83) (.const (.int .i64 1)) 3, none⟩,
  ⟨(some 85), .move (.tmp 84), none⟩,
  ⟨(some 86), .move (.tmp 19), (some ((some 85), true))⟩,
  ⟨(some 87), .indexAddr 44 (.tmp 86) (.const (.int .i64 0)), (some ((some 85), true))⟩,
  ⟨(some 88), .load 30 (.tmp 87), (some ((some 85), true))⟩,
  ⟨(some 89), .call ⟨.builtin .len, #[(.tmp 88)], #[30]⟩, (some ((some 85), true))⟩,
  ⟨(some 90), .move (.tmp 15), (some ((some 85), true))⟩,
  ⟨(some 91), .binOp .eql 3 (.tmp 89) (.tmp 90) 3, (some ((some 85), true))⟩,
  ⟨(some 92), .pick (.tmp 85) (.tmp 91) (.const (.bool false)), none⟩,
  ⟨(some 93), .move (.tmp 92), none⟩,
  ⟨(some 94), .move (.tmp 15), (some ((some 93), true))⟩,
  ⟨(some 95), .binOp .eql 3 (.tmp 94) (.const (.int .i64 0)) 3, (some ((some 93), true))⟩,
  ⟨(some 96), .move (.tmp 95), (some ((some 93), true))⟩,
  ⟨(some 97), .move (.tmp 19), (some ((some 96), false))⟩,
  ⟨(some 98), .indexAddr 44 (.tmp 97) (.const (.int .i64 0)), (some ((some 96), false))⟩,
  ⟨(some 99), .load 30 (.tmp 98), (some ((some 96), false))⟩,
  ⟨(some 100), .indexAddr 30 (.tmp 99) (.const (.int .i64 0)), (some ((some 96), false))⟩,
  ⟨(some 101), .load 3 (.tmp 100), (some ((some 96), false))⟩,
  ⟨(some 102), .move (.tmp 10), (some ((some 96), false))⟩,
  ⟨(some 103), .binOp .add 3 (.tmp 102) (.const (.int .i64 1)) 3, (some ((some 96), false))⟩,
  ⟨(some 104), .binOp .eql 3 (.tmp 101) (.tmp 103) 3, (some ((some 96), false))⟩,
  ⟨(some 105), .move (.tmp 104), (some ((some 96), false))⟩,
  ⟨(some 106), .move (.tmp 19), (some ((some 105), true))⟩,
  ⟨(some 107), .indexAddr 44 (.tmp 106) (.const (.int .i64 0)), (some ((some 105), true))⟩,
  ⟨(some 108), .load 30 (.tmp 107), (some ((some 105), true))⟩,
  ⟨(some 109), .move (.tmp 15), (some ((some 105), true))⟩,
  ⟨(some 110), .binOp .sub 3 (.tmp 109) (.const (.int .i64 1)) 3, (some ((some 105), true))⟩,
  ⟨(some 111), .indexAddr 30 (.tmp 108) (.tmp 110), (some ((some 105), true))⟩,
  ⟨(some 112), .load 3 (.tmp 111), (some ((some 105), true))⟩,
  ⟨(some 113), .move (.tmp 14), (some ((some 105), true))⟩,
  ⟨(some 114), .binOp .eql 3 (.tmp 112) (.tmp 113) 3, (some ((some 105), true))⟩,
  ⟨(some 115), .pick (.tmp 105) (.tmp 114) (.const (.bool false)), (some ((some 96), false))⟩,
  ⟨(some 116), .pick (.tmp 96) (.const (.bool true)) (.tmp 115), (some ((some 93), true))⟩,
  ⟨(some 117), .pick (.tmp 93) (.tmp 116) (.const (.bool false)), none⟩,
  ⟨(some 118), .move (.tmp 117), none⟩,
  ⟨(some 119), .move (.tmp 17), (some ((some 118), true))⟩,
  ⟨(some 120), .move (.tmp 15), (some ((some 118), true))⟩,
  ⟨(some 121), .binOp .gtr 3 (.tmp 120) (.const (.int .i64 0)) 3, (some ((some 118), true))⟩,
  ⟨(some 122), .binOp .eql 4 (.tmp 119) (.tmp 121) 4, (some ((some 118), true))⟩,
  ⟨(some 123), .pick (.tmp 118) (.tmp 122) (.const (.bool false)), none⟩,
  ⟨(some 124), .move (.tmp 123), none⟩,
  ⟨(some 125), .move (.tmp 17), (some ((some 124), true))⟩,
  ⟨(some 126), .unOp .not 4 (.tmp 125), (some ((some 124), true))⟩,
  ⟨(some 127), .move (.tmp 126), (some ((some 124), true))⟩,
  ⟨(some 128), .move (.tmp 16), (some ((some 127), false))⟩,
  ⟨(some 129), .move (.tmp 10), (some ((some 127), false))⟩,
  ⟨(some 130), .binOp .add 3 (.tmp 129) (.const (.int .i64 1)) 3, (some ((some 127), false))⟩,
  ⟨(some 131), .binOp .eql 3 (.tmp 128) (.tmp 130) 3, (some ((some 127), false))⟩,
  ⟨(some 132), .pick (.tmp 127) (.const (.bool true)) (.tmp 131), (some ((some 124), true))⟩,
  ⟨(some 133), .pick (.tmp 124) (.tmp 132) (.const (.bool false)), none⟩,
  ⟨(some 134), .move (.tmp 133), none⟩,
  ⟨(some 135), .call ⟨.value (.func 42), #[], #[]⟩, (some ((some 134), true))⟩,
  ⟨(some 136), .pick (.tmp 134) (.tmp 135) (.const (.bool false)), none⟩,
  ⟨(some 8), .assign (.tmp 136), none⟩]
def c9 : SC := (.seq (.reg c9_r0 none (some [0, 1, 2, 3])) (.seq (.reg c9_r1 none (some [3, 9, 10, 11])) (.seq (.reg c9_r2 none (some [3, 9, 10, 11, 12])) (.seq (.reg c9_r3 none (some [3, 9, 10, 11, 12, 13])) (.seq (.reg c9_r4 none (some [3, 9, 10, 11, 12, 13, 14])) (.seq (.seq (.reg c9_r5 none (some [3, 9, 10, 11, 12, 13, 14, 34])) (.cond (.tmp 34) (.reg c9_r6 none (some [3, 10, 12, 13, 14])) .skip (some [3, 10, 12, 13, 14]))) (.seq (.reg c9_r7 none (some [3, 10, 12, 13, 14, 15])) (.seq (.reg c9_r8 none (some [3, 10, 12, 13, 14, 15, 16, 17])) (.seq (.seq (.reg c9_r9 none (some [10, 12, 13, 14, 15, 16, 17, 51])) (.cond (.tmp 51) (.seq (.reg c9_r10 none (some [12, 13, 15, 16, 17, 18])) (.seq (.reg c9_r11 none (some [8])) .ret)) .skip (some [10, 12, 13, 14, 15, 16, 17]))) (.seq (.reg c9_r12 none (some [10, 14, 15, 16, 17, 19])) (.seq (.reg c9_r13 none (some [8])) .ret)))))))))))
theorem c9_eq : ∃ code, Try.f9.body = some code ∧ compile H9 code = c9 := ⟨_, rfl, by kernel_rfl⟩
theorem c9_fn : Try.prog.funcs[9]? = some Try.f9 := by kernel_rfl
theorem c9_rs : Try.f9.results.toList = [.tmp 8] := by kernel_rfl
theorem c9_ok : fnB Try.prog H9 Try.f9 = true := by kernel_rfl
theorem c9_nt : Try.f9.ntmps = 137 := by kernel_rfl
end Go.AM
