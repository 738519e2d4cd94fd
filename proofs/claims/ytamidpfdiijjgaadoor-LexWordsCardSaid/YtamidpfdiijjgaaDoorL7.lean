/-
  Printed by program (wip/tools/print.sh): compiled code.
-/
import Derived.Test.YtamidpfdiijjgaaDoorAMb
import Derived.Test.YtamidpfdiijjgaaDoorProg
namespace Go.AM
open Go Go.Proofs
set_option maxRecDepth 100000
/-! 7: rampart/rampartlaw08.LexWords -/
def H7 : Hint := ⟨[(11, [4]), (10, [10, 11, 13, 16]), (9, [10, 11, 13]), (8, [10]), (7, [4]), (2000097, [1]), (6, [1, 97]), (5, [4]), (2000036, [1, 5, 7, 9]), (4, [1, 5, 7, 9, 36]), (3, [1, 5, 7, 9]), (2, [1, 5, 6]), (1, [1, 5]), (0, [0, 1])], []⟩
def c7_r0 : List SOp := [
  ⟨(some 4), .assign (.const (.bool false)), none⟩]
def c7_r1 : List SOp := [
  ⟨(some 17), .move (.tmp 0), none⟩,
  ⟨(some 18), .call ⟨.value (.func 11), #[(.tmp 17), (.const (.int .i64 24))], #[3, 3]⟩, none⟩,
  ⟨(some 19), .binOp .add 3 (.const (.int .i64 1)) (.tmp 18) 3, none⟩,
  ⟨(some 5), .assign (.tmp 19), none⟩]
def c7_r2 : List SOp := [
  ⟨(some 20), .move (.tmp 5), none⟩,
  ⟨(some 21), .slice 9 (.const (.string ⟨#[97, 66, 99, 68, 101, 70, 103, 72, 105, 74, 48, 49, 50, 51, 52, 53, 54, 55, 56, 57, 107, 76, 109, 78]⟩)) none (some (.tmp 20)) none, none⟩,
  ⟨(some 6), .assign (.tmp 21), none⟩]
def c7_r3 : List SOp := [
  ⟨(some 23), .move (.tmp 6), none⟩,
  ⟨(some 24), .binOp .add 9 (.const (.string ⟨#[36]⟩)) (.tmp 23) 9, none⟩,
  ⟨(some 25), .binOp .add 9 (.tmp 24) (.const (.string ⟨#[32]⟩)) 9, none⟩,
  ⟨(some 26), .move (.tmp 6), none⟩,
  ⟨(some 27), .binOp .add 9 (.tmp 25) (.tmp 26) 9, none⟩,
  ⟨(some 28), .call ⟨.value (.func 8), #[(.tmp 27)], #[9]⟩, none⟩,
  ⟨(some 22), .move (.tmp 28), none⟩,
  ⟨(some 29), .extract (.tmp 22) 0, none⟩,
  ⟨(some 30), .extract (.tmp 22) 1, none⟩,
  ⟨(some 31), .extract (.tmp 22) 2, none⟩,
  ⟨(some 7), .assign (.tmp 29), none⟩,
  ⟨(some 8), .assign (.tmp 30), none⟩,
  ⟨(some 9), .assign (.tmp 31), none⟩]
def c7_r4 : List SOp := [
  ⟨(some 32), .move (.tmp 9), none⟩,
  ⟨(some 33), .binOp .eql 23 (.tmp 32) (.const (.int .i64 0)) 23, none⟩,
  ⟨(some 34), .move (.tmp 5), none⟩,
  ⟨(some 35), .binOp .leq 3 (.tmp 34) (.const (.int .i64 20)) 3, none⟩,
  ⟨(some 36), .binOp .neq 4 (.tmp 33) (.tmp 35) 4, none⟩]
def c7_r5 : List SOp := [
  ⟨(some 4), .assign (.const (.bool false)), none⟩]
def c7_r6 : List SOp := [
  ⟨(some 37), .move (.tmp 9), none⟩,
  ⟨(some 38), .binOp .eql 23 (.tmp 37) (.const (.int .i64 0)) 23, none⟩,
  ⟨(some 39), .move (.tmp 38), none⟩,
  ⟨(some 40), .move (.tmp 7), (some ((some 39), true))⟩,
  ⟨(some 41), .call ⟨.builtin .len, #[(.tmp 40)], #[22]⟩, (some ((some 39), true))⟩,
  ⟨(some 42), .binOp .neq 3 (.tmp 41) (.const (.int .i64 2)) 3, (some ((some 39), true))⟩,
  ⟨(some 43), .move (.tmp 42), (some ((some 39), true))⟩,
  ⟨(some 44), .move (.tmp 7), (some ((some 43), false))⟩,
  ⟨(some 45), .indexAddr 22 (.tmp 44) (.const (.int .i64 0)), (some ((some 43), false))⟩,
  ⟨(some 46), .fieldAddr 30 (.tmp 45) 0, (some ((some 43), false))⟩,
  ⟨(some 47), .load 3 (.tmp 46), (some ((some 43), false))⟩,
  ⟨(some 48), .binOp .neq 3 (.tmp 47) (.const (.int .i64 5)) 3, (some ((some 43), false))⟩,
  ⟨(some 49), .pick (.tmp 43) (.const (.bool true)) (.tmp 48), (some ((some 39), true))⟩,
  ⟨(some 50), .move (.tmp 49), (some ((some 39), true))⟩,
  ⟨(some 51), .move (.tmp 7), (some ((some 50), false))⟩,
  ⟨(some 52), .indexAddr 22 (.tmp 51) (.const (.int .i64 1)), (some ((some 50), false))⟩,
  ⟨(some 53), .fieldAddr 30 (.tmp 52) 0, (some ((some 50), false))⟩,
  ⟨(some 54), .load 3 (.tmp 53), (some ((some 50), false))⟩,
  ⟨(some 55), .binOp .neq 3 (.tmp 54) (.const (.int .i64 1)) 3, (some ((some 50), false))⟩,
  ⟨(some 56), .pick (.tmp 50) (.const (.bool true)) (.tmp 55), (some ((some 39), true))⟩,
  ⟨(some 57), .move (.tmp 56), (some ((some 39), true))⟩,
  ⟨(some 58), .move (.tmp 7), (some ((some 57), false))⟩,
  ⟨(some 59), .indexAddr 22 (.tmp 58) (.const (.int .i64 0)), (some ((some 57), false))⟩,
  ⟨(some 60), .fieldAddr 30 (.tmp 59) 1, (some ((some 57), false))⟩,
  ⟨(some 61), .load 9 (.tmp 60), (some ((some 57), false))⟩,
  ⟨(some 62), .move (.tmp 7), (some ((some 57), false))⟩,
  ⟨(some 63), .indexAddr 22 (.tmp 62) (.const (.int .i64 1)), (some ((some 57), false))⟩,
  ⟨(some 64), .fieldAddr 30 (.tmp 63) 1, (some ((some 57), false))⟩,
  ⟨(some 65), .load 9 (.tmp 64), (some ((some 57), false))⟩,
  ⟨(some 66), .binOp .neq 9 (.tmp 61) (.tmp 65) 9, (some ((some 57), false))⟩,
  ⟨(some 67), .pick (.tmp 57) (.const (.bool true)) (.tmp 66), (some ((some 39), true))⟩,
  ⟨(some 68), .move (.tmp 67), (some ((some 39), true))⟩,
  ⟨(some 69), .move (.tmp 7), (some ((some 68), false))⟩,
  ⟨(some 70), .indexAddr 22 (.tmp 69) (.const (.int .i64 0)), (some ((some 68), false))⟩,
  ⟨(some 71), .fieldAddr 30 (.tmp 70) 1, (some ((some 68), false))⟩,
  ⟨(some 72), .load 9 (.tmp 71), (some ((some 68), false))⟩,
  ⟨(some 73), .call ⟨.builtin .len, #[(.tmp 72)], #[9]⟩, (some ((some 68), false))⟩,
  ⟨(some 74), .move (.tmp 5), (some ((some 68), false))⟩,
  ⟨(some 75), .binOp .neq 3 (.tmp 73) (.tmp 74) 3, (some ((some 68), false))⟩,
  ⟨(some 76), .pick (.tmp 68) (.const (.bool true)) (.tmp 75), (some ((some 39), true))⟩,
  ⟨(some 77), .move (.tmp 76), (some ((some 39), true))⟩,
  ⟨(some 78), .move (.tmp 7), (some ((some 77), false))⟩,
  ⟨(some 79), .indexAddr 22 (.tmp 78) (.const (.int .i64 0)), (some ((some 77), false))⟩,
  ⟨(some 80), .fieldAddr 30 (.tmp 79) 1, (some ((some 77), false))⟩,
  ⟨(some 81), .load 9 (.tmp 80), (some ((some 77), false))⟩,
  ⟨(some 82), .index 9 (.tmp 81) (.const (.int .i64 0)), (some ((some 77), false))⟩,
  ⟨(some 83), .binOp .neq 5 (.tmp 82) (.const (.int .u8 97)) 5, (some ((some 77), false))⟩,
  ⟨(some 84), .pick (.tmp 77) (.const (.bool true)) (.tmp 83), (some ((some 39), true))⟩,
  ⟨(some 85), .move (.tmp 84), (some ((some 39), true))⟩,
  ⟨(some 86), .move (.tmp 5), (some ((some 85), false))⟩,
  ⟨(some 87), .binOp .gtr 3 (.tmp 86) (.const (.int .i64 1)) 3, (some ((some 85), false))⟩,
  ⟨(some 88), .move (.tmp 87), (some ((some 85), false))⟩,
  ⟨(some 89), .move (.tmp 7), (some ((some 88), true))⟩,
  ⟨(some 90), .indexAddr 22 (.tmp 89) (.const (.int .i64 0)), (some ((some 88), true))⟩,
  ⟨(some 91), .fieldAddr 30 (.tmp 90) 1, (some ((some 88), true))⟩,
  ⟨(some 92), .load 9 (.tmp 91), (some ((some 88), true))⟩,
  ⟨(some 93), .index 9 (.tmp 92) (.const (.int .i64 1)), (some ((some 88), true))⟩,
  ⟨(some 94), .binOp .neq 5 (.tmp 93) (.const (.int .u8 98)) 5, (some ((some 88), true))⟩,
  ⟨(some 95), .pick (.tmp 88) (.tmp 94) (.const (.bool false)), (some ((some 85), false))⟩,
  ⟨(some 96), .pick (.tmp 85) (.const (.bool true)) (.tmp 95), (some ((some 39), true))⟩,
  ⟨(some 97), .pick (.tmp 39) (.tmp 96) (.const (.bool false)), none⟩]
def c7_r7 : List SOp := [
  ⟨(some 4), .assign (.const (.bool false)), none⟩]
def c7_r8 : List SOp := [
  ⟨(some 98), .move (.tmp 1), none⟩,
  ⟨(some 99), .call ⟨.value (.func 11), #[(.tmp 98), (.const (.int .i64 20))], #[3, 3]⟩, none⟩,
  ⟨(some 100), .binOp .add 3 (.const (.int .i64 999999999990)) (.tmp 99) 3, none⟩,
  ⟨(some 10), .assign (.tmp 100), none⟩]
def c7_r9 : List SOp := [
  ⟨(some 102), .move (.tmp 10), none⟩,
  ⟨(some 103), .call ⟨.value (.func 12), #[(.tmp 102)], #[3]⟩, none⟩,
  ⟨(some 104), .binOp .add 9 (.const (.string ⟨#[48, 48]⟩)) (.tmp 103) 9, none⟩,
  ⟨(some 105), .binOp .add 9 (.tmp 104) (.const (.string ⟨#[59]⟩)) 9, none⟩,
  ⟨(some 106), .call ⟨.value (.func 8), #[(.tmp 105)], #[9]⟩, none⟩,
  ⟨(some 101), .move (.tmp 106), none⟩,
  ⟨(some 107), .extract (.tmp 101) 0, none⟩,
  ⟨(some 108), .extract (.tmp 101) 1, none⟩,
  ⟨(some 109), .extract (.tmp 101) 2, none⟩,
  ⟨(some 11), .assign (.tmp 107), none⟩,
  ⟨(some 12), .assign (.tmp 108), none⟩,
  ⟨(some 13), .assign (.tmp 109), none⟩]
def c7_r10 : List SOp := [
  ⟨(some 111), .call ⟨.value (.func 8), #[(.const (.string ⟨#[53, 120]⟩))], #[9]⟩, none⟩,
  ⟨(some 110), .move (.tmp 111), none⟩,
  ⟨(some 112), .extract (.tmp 110) 0, none⟩,
  ⟨(some 113), .extract (.tmp 110) 1, none⟩,
  ⟨(some 114), .extract (.tmp 110) 2, none⟩,
  ⟨(some 14), .assign (.tmp 112), none⟩,
  ⟨(some 15), .assign (.tmp 113), none⟩,
  ⟨(some 16), .assign (.tmp 114), none⟩]
def c7_r11 : List SOp := [
  ⟨(some 115), .move (.tmp 13), none⟩,
  ⟨(some 116), .binOp .eql 23 (.tmp 115) (.const (.int .i64 0)) 23, none⟩,
  ⟨(some 117), .move (.tmp 10), none⟩,
  ⟨(some 118), .binOp .leq 3 (.tmp 117) (.const (.int .i64 999999999999)) 3, none⟩,
  ⟨(some 119), .binOp .eql 4 (.tmp 116) (.tmp 118) 4, none⟩,
  ⟨(some 120), .move (.tmp 119), none⟩,
  ⟨(some 121), .move (.tmp 13), (some ((some 120), true))⟩,
  ⟨(some 122), .binOp .neq 23 (.tmp 121) (.const (.int .i64 0)) 23, (some ((some 120), true))⟩,
  ⟨(some 123), .move (.tmp 122), (some ((some 120), true))⟩,
  ⟨(some 124), .move (.tmp 11), (some ((some 123), false))⟩,
  ⟨(some 125), .call ⟨.builtin .len, #[(.tmp 124)], #[22]⟩, (some ((some 123), false))⟩,
  ⟨(some 126), .binOp .eql 3 (.tmp 125) (.const (.int .i64 2)) 3, (some ((some 123), false))⟩,
  ⟨(some 127), .move (.tmp 126), (some ((some 123), false))⟩,
  ⟨(some 128), .move (.tmp 11), (some ((some 127), true))⟩,
  ⟨(some 129), .indexAddr 22 (.tmp 128) (.const (.int .i64 0)), (some ((some 127), true))⟩,
  ⟨(some 130), .fieldAddr 30 (.tmp 129) 2, (some ((some 127), true))⟩,
  ⟨(some 131), .load 3 (.tmp 130), (some ((some 127), true))⟩,
  ⟨(some 132), .move (.tmp 10), (some ((some 127), true))⟩,
  ⟨(some 133), .binOp .eql 3 (.tmp 131) (.tmp 132) 3, (some ((some 127), true))⟩,
  ⟨(some 134), .pick (.tmp 127) (.tmp 133) (.const (.bool false)), (some ((some 123), false))⟩,
  ⟨(some 135), .pick (.tmp 123) (.const (.bool true)) (.tmp 134), (some ((some 120), true))⟩,
  ⟨(some 136), .pick (.tmp 120) (.tmp 135) (.const (.bool false)), none⟩,
  ⟨(some 137), .move (.tmp 136), none⟩,
  ⟨(some 138), .move (.tmp 16), (some ((some 137), true))⟩,
  ⟨(some 139), .binOp .eql 23 (.tmp 138) (.const (.int .i64 6)) 23, (some ((some 137), true))⟩,
  ⟨(some 140), .pick (.tmp 137) (.tmp 139) (.const (.bool false)), none⟩,
  ⟨(some 141), .move (.tmp 140), none⟩,
  ⟨(some 142), .call ⟨.value (.func 10), #[], #[]⟩, (some ((some 141), true))⟩,
  ⟨(some 143), .pick (.tmp 141) (.tmp 142) (.const (.bool false)), none⟩,
  ⟨(some 4), .assign (.tmp 143), none⟩]
def c7 : SC := (.seq (.reg c7_r0 none (some [0, 1])) (.seq (.reg c7_r1 none (some [1, 5])) (.seq (.reg c7_r2 none (some [1, 5, 6])) (.seq (.reg c7_r3 none (some [1, 5, 7, 9])) (.seq (.seq (.reg c7_r4 none (some [1, 5, 7, 9, 36])) (.cond (.tmp 36) (.seq (.reg c7_r5 none (some [4])) .ret) .skip (some [1, 5, 7, 9]))) (.seq (.seq (.reg c7_r6 none (some [1, 97])) (.cond (.tmp 97) (.seq (.reg c7_r7 none (some [4])) .ret) .skip (some [1]))) (.seq (.reg c7_r8 none (some [10])) (.seq (.reg c7_r9 none (some [10, 11, 13])) (.seq (.reg c7_r10 none (some [10, 11, 13, 16])) (.seq (.reg c7_r11 none (some [4])) .ret))))))))))
theorem c7_eq : ∃ code, Tryd.f7.body = some code ∧ compile H7 code = c7 := ⟨_, rfl, by kernel_rfl⟩
theorem c7_fn : Tryd.prog.funcs[7]? = some Tryd.f7 := by kernel_rfl
theorem c7_rs : Tryd.f7.results.toList = [.tmp 4] := by kernel_rfl
theorem c7_ok : fnB Tryd.prog H7 Tryd.f7 = true := by kernel_rfl
theorem c7_nt : Tryd.f7.ntmps = 144 := by kernel_rfl
end Go.AM
