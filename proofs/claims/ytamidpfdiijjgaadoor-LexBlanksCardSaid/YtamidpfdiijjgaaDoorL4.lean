/-
  Printed by program (wip/tools/print.sh): compiled code.
-/
import Derived.Test.YtamidpfdiijjgaaDoorAMb
import Derived.Test.YtamidpfdiijjgaaDoorProg
namespace Go.AM
open Go Go.Proofs
set_option maxRecDepth 100000
/-! 4: rampart/rampartlaw08.LexBlanks -/
def H4 : Hint := ⟨[(21, [6]), (18, [7, 10, 14, 17]), (20, [6]), (2000140, [7, 10, 14, 17]), (19, [7, 10, 14, 17, 140]), (2000086, [7, 10, 14, 17]), (17, [7, 10, 14, 17, 86]), (1000017, [7, 10, 14, 17]), (16, [7, 10, 14, 17]), (15, [6]), (2000082, [7, 10, 14]), (14, [7, 10, 14, 82]), (13, [6]), (2000055, [7, 10, 14, 16]), (12, [7, 8, 9, 10, 14, 15, 16, 55]), (11, [7, 8, 9, 10, 14, 15, 16]), (9, [0, 7, 8, 9, 10, 11, 12, 13]), (10, [0, 7, 8, 9, 10, 11, 12, 13]), (2000036, [0, 7, 8, 9, 10, 11, 12, 13]), (8, [0, 7, 8, 9, 10, 11, 12, 13, 36]), (1000008, [0, 7, 8, 9, 10, 11, 12, 13]), (7, [0, 7, 8, 9, 10, 11, 12, 13]), (6, [0, 7, 8, 9, 10, 11, 12]), (5, [0, 7, 8, 9, 10, 11]), (4, [0, 2, 7, 8, 9, 10]), (3, [0, 1, 2, 7, 8, 9]), (2, [6]), (2000020, [0, 1, 2]), (1, [0, 1, 2, 20]), (0, [0, 1, 2])], []⟩
def c4_r0 : List SOp := [
  ⟨(some 6), .assign (.const (.bool false)), none⟩]
def c4_r1 : List SOp := [
  ⟨(some 18), .move (.tmp 0), none⟩,
  ⟨(some 19), .call ⟨.builtin .len, #[(.tmp 18)], #[9]⟩, none⟩,
  ⟨(some 20), .binOp .gtr 3 (.tmp 19) (.const (.int .i64 3000)) 3, none⟩]
def c4_r2 : List SOp := [
  ⟨(some 21), .call ⟨.value (.func 10), #[], #[]⟩, none⟩,
  ⟨(some 6), .assign (.tmp 21), none⟩]
def c4_r3 : List SOp := [
  ⟨(some 23), .move (.tmp 0), none⟩,
  ⟨(some 24), .call ⟨.value (.func 8), #[(.tmp 23)], #[9]⟩, none⟩,
  ⟨(some 22), .move (.tmp 24), none⟩,
  ⟨(some 25), .extract (.tmp 22) 0, none⟩,
  ⟨(some 26), .extract (.tmp 22) 1, none⟩,
  ⟨(some 27), .extract (.tmp 22) 2, none⟩,
  ⟨(some 7), .assign (.tmp 25), none⟩,
  ⟨(some 8), .assign (.tmp 26), none⟩,
  ⟨(some 9), .assign (.tmp 27), none⟩]
def c4_r4 : List SOp := [
  ⟨(some 28), .move (.tmp 1), none⟩,
  ⟨(some 29), .call ⟨.value (.func 11), #[(.tmp 28), (.const (.int .i64 5))], #[3, 3]⟩, none⟩,
  ⟨(some 10), .assign (.tmp 29), none⟩]
def c4_r5 : List SOp := [
  ⟨(some 30), .build 35 #[(0, (.const (.string ⟨#[10]⟩))), (1, (.const (.string ⟨#[32, 13, 10]⟩))), (2, (.const (.string ⟨#[35, 32, 119, 111, 114, 100, 115, 32, 34, 32, 36, 10]⟩)))], none⟩,
  ⟨(some 31), .move (.tmp 2), none⟩,
  ⟨(some 32), .call ⟨.value (.func 11), #[(.tmp 31), (.const (.int .i64 3))], #[3, 3]⟩, none⟩,
  ⟨(some 33), .index 35 (.tmp 30) (.tmp 32), none⟩,
  ⟨(some 11), .assign (.tmp 33), none⟩]
def c4_r6 : List SOp := [
  ⟨(some 12), .assign (.const (.string ⟨#[]⟩)), none⟩]
def c4_r7 : List SOp := [
  ⟨(some 13), .assign (.const (.int .i64 0)), none⟩]
def c4_r8 : List SOp := [
  ⟨(some 34), .move (.tmp 13), none⟩,
  ⟨(some 35), .move (.tmp 10), none⟩,
  ⟨(some 36), .binOp .lss 3 (.tmp 34) (.tmp 35) 3, none⟩]
def c4_r10 : List SOp := [
  ⟨(some 39), .move (.tmp 12), none⟩,
  ⟨(some 40), .move (.tmp 11), none⟩,
  ⟨(some 41), .binOp .add 9 (.tmp 39) (.tmp 40) 9, none⟩,
  ⟨(some 12), .assign (.tmp 41), none⟩]
def c4_r9 : List SOp := [
  ⟨(some 37), .move (.tmp 13), none⟩,
  ⟨(some 38), .binOp .add 3 (.tmp 37) (.const (.int .i64 1)) 3, none⟩,
  ⟨(some 13), .assign (.tmp 38), none⟩]
def c4_l8 : SC := (.seq (.seq (.reg c4_r8 none (some [0, 7, 8, 9, 10, 11, 12, 13, 36])) (.cond (.tmp 36) .skip (.exit 0) (some [0, 7, 8, 9, 10, 11, 12, 13]))) (.seq (.block 1 (.reg c4_r10 none (some [0, 7, 8, 9, 10, 11, 12, 13]))) (.reg c4_r9 none (some [0, 7, 8, 9, 10, 11, 12, 13]))))
def c4_r11 : List SOp := [
  ⟨(some 43), .move (.tmp 12), none⟩,
  ⟨(some 44), .move (.tmp 0), none⟩,
  ⟨(some 45), .binOp .add 9 (.tmp 43) (.tmp 44) 9, none⟩,
  ⟨(some 46), .binOp .add 9 (.tmp 45) (.const (.string ⟨#[10]⟩)) 9, none⟩,
  ⟨(some 47), .move (.tmp 12), none⟩,
  ⟨(some 48), .binOp .add 9 (.tmp 46) (.tmp 47) 9, none⟩,
  ⟨(some 49), .binOp .add 9 (.tmp 48) (.const (.string ⟨#[35]⟩)) 9, none⟩,
  ⟨(some 50), .call ⟨.value (.func 8), #[(.tmp 49)], #[9]⟩, none⟩,
  ⟨(some 42), .move (.tmp 50), none⟩,
  ⟨(some 51), .extract (.tmp 42) 0, none⟩,
  ⟨(some 52), .extract (.tmp 42) 1, none⟩,
  ⟨(some 53), .extract (.tmp 42) 2, none⟩,
  ⟨(some 14), .assign (.tmp 51), none⟩,
  ⟨(some 15), .assign (.tmp 52), none⟩,
  ⟨(some 16), .assign (.tmp 53), none⟩]
def c4_r12 : List SOp := [
  ⟨(some 54), .move (.tmp 9), none⟩,
  ⟨(some 55), .binOp .neq 23 (.tmp 54) (.const (.int .i64 0)) 23, none⟩]
def c4_r13 : List SOp := [
  ⟨(some 56), .move (.tmp 16), none⟩,
  ⟨(some 57), .move (.tmp 9), none⟩,
  ⟨(some 58), .binOp .eql 23 (.tmp 56) (.tmp 57) 23, none⟩,
  ⟨(some 59), .move (.tmp 58), none⟩,
  ⟨(some 60), .move (.tmp 15), (some ((some 59), true))⟩,
  ⟨(some 61), .move (.tmp 8), (some ((some 59), true))⟩,
  ⟨(some 62), .move (.tmp 10), (some ((some 59), true))⟩,
  ⟨(some 63), .binOp .add 3 (.tmp 61) (.tmp 62) 3, (some ((some 59), true))⟩,
  ⟨(some 64), .binOp .eql 3 (.tmp 60) (.tmp 63) 3, (some ((some 59), true))⟩,
  ⟨(some 65), .pick (.tmp 59) (.tmp 64) (.const (.bool false)), none⟩,
  ⟨(some 66), .move (.tmp 65), none⟩,
  ⟨(some 67), .move (.tmp 14), (some ((some 66), true))⟩,
  ⟨(some 68), .call ⟨.builtin .len, #[(.tmp 67)], #[22]⟩, (some ((some 66), true))⟩,
  ⟨(some 69), .binOp .eql 3 (.tmp 68) (.const (.int .i64 0)) 3, (some ((some 66), true))⟩,
  ⟨(some 70), .pick (.tmp 66) (.tmp 69) (.const (.bool false)), none⟩,
  ⟨(some 71), .move (.tmp 70), none⟩,
  ⟨(some 72), .call ⟨.value (.func 10), #[], #[]⟩, (some ((some 71), true))⟩,
  ⟨(some 73), .pick (.tmp 71) (.tmp 72) (.const (.bool false)), none⟩,
  ⟨(some 6), .assign (.tmp 73), none⟩]
def c4_r14 : List SOp := [
  ⟨(some 74), .move (.tmp 16), none⟩,
  ⟨(some 75), .binOp .neq 23 (.tmp 74) (.const (.int .i64 0)) 23, none⟩,
  ⟨(some 76), .move (.tmp 75), none⟩,
  ⟨(some 77), .move (.tmp 14), (some ((some 76), false))⟩,
  ⟨(some 78), .call ⟨.builtin .len, #[(.tmp 77)], #[22]⟩, (some ((some 76), false))⟩,
  ⟨(some 79), .move (.tmp 7), (some ((some 76), false))⟩,
  ⟨(some 80), .call ⟨.builtin .len, #[(.tmp 79)], #[22]⟩, (some ((some 76), false))⟩,
  ⟨(some 81), .binOp .neq 3 (.tmp 78) (.tmp 80) 3, (some ((some 76), false))⟩,
  ⟨(some 82), .pick (.tmp 76) (.const (.bool true)) (.tmp 81), none⟩]
def c4_r15 : List SOp := [
  ⟨(some 6), .assign (.const (.bool false)), none⟩]
def c4_r16 : List SOp := [
  ⟨(some 17), .assign (.const (.int .i64 0)), none⟩]
def c4_r17 : List SOp := [
  ⟨(some 83), .move (.tmp 17), none⟩,
  ⟨(some 84), .move (.tmp 7), none⟩,
  ⟨(some 85), .call ⟨.builtin .len, #[(.tmp 84)], #[22]⟩, none⟩,
  ⟨(some 86), .binOp .lss 3 (.tmp 83) (.tmp 85) 3, none⟩]
def c4_r19 : List SOp := [
  ⟨(some 89), .move (.tmp 7), none⟩,
  ⟨(some 90), .move (.tmp 17), none⟩,
  ⟨(some 91), .indexAddr 22 (.tmp 89) (.tmp 90), none⟩,
  ⟨(some 92), .fieldAddr 30 (.tmp 91) 0, none⟩,
  ⟨(some 93), .load 3 (.tmp 92), none⟩,
  ⟨(some 94), .move (.tmp 14), none⟩,
  ⟨(some 95), .move (.tmp 17), none⟩,
  ⟨(some 96), .indexAddr 22 (.tmp 94) (.tmp 95), none⟩,
  ⟨(some 97), .fieldAddr 30 (.tmp 96) 0, none⟩,
  ⟨(some 98), .load 3 (.tmp 97), none⟩,
  ⟨(some 99), .binOp .neq 3 (.tmp 93) (.tmp 98) 3, none⟩,
  ⟨(some 100), .move (.tmp 99), none⟩,
  ⟨(some 101), .move (.tmp 7), (some ((some 100), false))⟩,
  ⟨(some 102), .move (.tmp 17), (some ((some 100), false))⟩,
  ⟨(some 103), .indexAddr 22 (.tmp 101) (.tmp 102), (some ((some 100), false))⟩,
  ⟨(some 104), .fieldAddr 30 (.tmp 103) 1, (some ((some 100), false))⟩,
  ⟨(some 105), .load 9 (.tmp 104), (some ((some 100), false))⟩,
  ⟨(some 106), .move (.tmp 14), (some ((some 100), false))⟩,
  ⟨(some 107), .move (.tmp 17), (some ((some 100), false))⟩,
  ⟨(some 108), .indexAddr 22 (.tmp 106) (.tmp 107), (some ((some 100), false))⟩,
  ⟨(some 109), .fieldAddr 30 (.tmp 108) 1, (some ((some 100), false))⟩,
  ⟨(some 110), .load 9 (.tmp 109), (some ((some 100), false))⟩,
  ⟨(some 111), .binOp .neq 9 (.tmp 105) (.tmp 110) 9, (some ((some 100), false))⟩,
  ⟨(some 112), .pick (.tmp 100) (.const (.bool true)) (.tmp 111), none⟩,
  ⟨(some 113), .move (.tmp 112), none⟩,
  ⟨(some 114), .move (.tmp 7), (some ((some 113), false))⟩,
  ⟨(some 115), .move (.tmp 17), (some ((some 113), false))⟩,
  ⟨(some 116), .indexAddr 22 (.tmp 114) (.tmp 115), (some ((some 113), false))⟩,
  ⟨(some 117), .fieldAddr 30 (.tmp 116) 2, (some ((some 113), false))⟩,
  ⟨(some 118), .load 3 (.tmp 117), (some ((some 113), false))⟩,
  ⟨(some 119), .move (.tmp 14), (some ((some 113), false))⟩,
  ⟨(some 120), .move (.tmp 17), (some ((some 113), false))⟩,
  ⟨(some 121), .indexAddr 22 (.tmp 119) (.tmp 120), (some ((some 113), false))⟩,
  ⟨(some 122), .fieldAddr 30 (.tmp 121) 2, (some ((some 113), false))⟩,
  ⟨(some 123), .load 3 (.tmp 122), (some ((some 113), false))⟩,
  ⟨(some 124), .binOp .neq 3 (.tmp 118) (.tmp 123) 3, (some ((some 113), false))⟩,
  ⟨(some 125), .pick (.tmp 113) (.const (.bool true)) (.tmp 124), none⟩,
  ⟨(some 126), .move (.tmp 125), none⟩,
  ⟨(some 127), .move (.tmp 14), (some ((some 126), false))⟩,
  ⟨(some 128), .move (.tmp 17), (some ((some 126), false))⟩,
  ⟨(some 129), .indexAddr 22 (.tmp 127) (.tmp 128), (some ((some 126), false))⟩,
  ⟨(some 130), .fieldAddr 30 (.tmp 129) 3, (some ((some 126), false))⟩,
  ⟨(some 131), .load 3 (.tmp 130), (some ((some 126), false))⟩,
  ⟨(some 132), .move (.tmp 7), (some ((some 126), false))⟩,
  ⟨(some 133), .move (.tmp 17), (some ((some 126), false))⟩,
  ⟨(some 134), .indexAddr 22 (.tmp 132) (.tmp 133), (some ((some 126), false))⟩,
  ⟨(some 135), .fieldAddr 30 (.tmp 134) 3, (some ((some 126), false))⟩,
  ⟨(some 136), .load 3 (.tmp 135), (some ((some 126), false))⟩,
  ⟨(some 137), .move (.tmp 10), (some ((some 126), false))⟩,
  ⟨(some 138), .binOp .add 3 (.tmp 136) (.tmp 137) 3, (some ((some 126), false))⟩,
  ⟨(some 139), .binOp .neq 3 (.tmp 131) (.tmp 138) 3, (some ((some 126), false))⟩,
  ⟨(some 140), .pick (.tmp 126) (.const (.bool true)) (.tmp 139), none⟩]
def c4_r20 : List SOp := [
  ⟨(some 6), .assign (.const (.bool false)), none⟩]
def c4_r18 : List SOp := [
  ⟨(some 87), .move (.tmp 17), none⟩,
  ⟨(some 88), .binOp .add 3 (.tmp 87) (.const (.int .i64 1)) 3, none⟩,
  ⟨(some 17), .assign (.tmp 88), none⟩]
def c4_l17 : SC := (.seq (.seq (.reg c4_r17 none (some [7, 10, 14, 17, 86])) (.cond (.tmp 86) .skip (.exit 2) (some [7, 10, 14, 17]))) (.seq (.block 3 (.seq (.reg c4_r19 none (some [7, 10, 14, 17, 140])) (.cond (.tmp 140) (.seq (.reg c4_r20 none (some [6])) .ret) .skip (some [7, 10, 14, 17])))) (.reg c4_r18 none (some [7, 10, 14, 17]))))
def c4_r21 : List SOp := [
  ⟨(some 141), .call ⟨.value (.func 10), #[], #[]⟩, none⟩,
  ⟨(some 6), .assign (.tmp 141), none⟩]
def c4 : SC := (.seq (.reg c4_r0 none (some [0, 1, 2])) (.seq (.seq (.reg c4_r1 none (some [0, 1, 2, 20])) (.cond (.tmp 20) (.seq (.reg c4_r2 none (some [6])) .ret) .skip (some [0, 1, 2]))) (.seq (.reg c4_r3 none (some [0, 1, 2, 7, 8, 9])) (.seq (.reg c4_r4 none (some [0, 2, 7, 8, 9, 10])) (.seq (.reg c4_r5 none (some [0, 7, 8, 9, 10, 11])) (.seq (.reg c4_r6 none (some [0, 7, 8, 9, 10, 11, 12])) (.seq (.seq (.reg c4_r7 none (some [0, 7, 8, 9, 10, 11, 12, 13])) (.block 0 (.loop c4_l8 (some [0, 7, 8, 9, 10, 11, 12, 13])))) (.seq (.reg c4_r11 none (some [7, 8, 9, 10, 14, 15, 16])) (.seq (.seq (.reg c4_r12 none (some [7, 8, 9, 10, 14, 15, 16, 55])) (.cond (.tmp 55) (.seq (.reg c4_r13 none (some [6])) .ret) .skip (some [7, 10, 14, 16]))) (.seq (.seq (.reg c4_r14 none (some [7, 10, 14, 82])) (.cond (.tmp 82) (.seq (.reg c4_r15 none (some [6])) .ret) .skip (some [7, 10, 14]))) (.seq (.seq (.reg c4_r16 none (some [7, 10, 14, 17])) (.block 2 (.loop c4_l17 (some [7, 10, 14, 17])))) (.seq (.reg c4_r21 none (some [6])) .ret))))))))))))
theorem c4_eq : ∃ code, Tryd.f4.body = some code ∧ compile H4 code = c4 := ⟨_, rfl, by kernel_rfl⟩
theorem c4_fn : Tryd.prog.funcs[4]? = some Tryd.f4 := by kernel_rfl
theorem c4_rs : Tryd.f4.results.toList = [.tmp 6] := by kernel_rfl
theorem c4_ok : fnB Tryd.prog H4 Tryd.f4 = true := by kernel_rfl
theorem c4_nt : Tryd.f4.ntmps = 142 := by kernel_rfl
end Go.AM
