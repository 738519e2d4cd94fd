/-
  Printed by program (wip/tools/print.sh): compiled code.
-/
import Derived.Test.YtamidpfdiijjgaaAM16
import Derived.Test.YtamidpfdiijjgaaProg
namespace Go.AM
open Go Go.Proofs
set_option maxRecDepth 100000
/-! 8: rampart/rampartlaw16.ChainGrows -/
def H8 : Hint := ⟨[(23, [6]), (20, [7, 10, 12, 13, 16]), (22, [6]), (2000125, [7, 10, 12, 13, 16]), (21, [7, 10, 12, 13, 16, 125]), (2000118, [7, 10, 12, 13, 16]), (19, [7, 10, 12, 13, 16, 118]), (1000019, [7, 10, 12, 13, 16]), (18, [7, 10, 12, 13, 16]), (17, [6]), (2000112, [7, 10, 12, 13]), (16, [7, 10, 12, 13, 112]), (15, [7, 10, 11, 12, 13, 14, 15]), (14, [7, 10, 11, 12, 13]), (13, [7, 10, 11]), (12, [2, 7, 10]), (11, [6]), (2000048, [1, 2, 7]), (10, [1, 2, 7, 48]), (9, [1, 2, 7, 32, 33, 34]), (8, [1, 2, 7, 32, 33, 34]), (2000040, [1, 2, 7, 32, 33, 34]), (7, [1, 2, 7, 9, 32, 33, 34, 40]), (6, [1, 2, 7, 9, 32, 33, 34]), (2000035, [1, 2, 7, 32, 33, 34]), (5, [1, 2, 7, 32, 33, 34, 35]), (1000005, [1, 2, 7, 32, 33, 34]), (4, [1, 2, 7, 32, 33, 34]), (3, [0, 1, 2, 7]), (2, [6]), (2000029, [0, 1, 2]), (1, [0, 1, 2, 29]), (0, [0, 1, 2])], []⟩
def c8_r0 : List SOp := [
  ⟨(some 6), .assign (.const (.bool false)), none⟩]
def c8_r1 : List SOp := [
  ⟨(some 17), .move (.tmp 0), none⟩,
  ⟨(some 18), .call ⟨.builtin .len, #[(.tmp 17)], #[30]⟩, none⟩,
  ⟨(some 19), .binOp .gtr 3 (.tmp 18) (.const (.int .i64 10)) 3, none⟩,
  ⟨(some 20), .move (.tmp 19), none⟩,
  ⟨(some 21), .move (.tmp 1), (some ((some 20), false))⟩,
  ⟨(some 22), .call ⟨.builtin .len, #[(.tmp 21)], #[30]⟩, (some ((some 20), false))⟩,
  ⟨(some 23), .binOp .gtr 3 (.tmp 22) (.const (.int .i64 60)) 3, (some ((some 20), false))⟩,
  ⟨(some 24), .pick (.tmp 20) (.const (.bool true)) (.tmp 23), none⟩,
  ⟨(some 25), .move (.tmp 24), none⟩,
  ⟨(some 26), .move (.tmp 2), (some ((some 25), false))⟩,
  ⟨(some 27), .call ⟨.builtin .len, #[(.tmp 26)], #[30]⟩, (some ((some 25), false))⟩,
  ⟨(some 28), .binOp .gtr 3 (.tmp 27) (.const (.int .i64 60)) 3, (some ((some 25), false))⟩,
  ⟨(some 29), .pick (.tmp 25) (.const (.bool true)) (.tmp 28), none⟩]
def c8_r2 : List SOp := [
  ⟨(some 30), .call ⟨.value (.func 42), #[], #[]⟩, none⟩,
  ⟨(some 6), .assign (.tmp 30), none⟩]
def c8_r3 : List SOp := [
  ⟨(some 7), .assign (.const (.slice none 0 0)), none⟩]
def c8_r4 : List SOp := [
  ⟨(some 31), .move (.tmp 0), none⟩,
  ⟨(some 32), .call ⟨.value (.func 49), #[(.tmp 31)], #[30]⟩, none⟩,
  ⟨(some 33), .call ⟨.builtin .len, #[(.tmp 32)], #[42]⟩, none⟩,
  ⟨(some 34), .move (.const (.int .i64 0)), none⟩]
def c8_r5 : List SOp := [
  ⟨(some 35), .binOp .lss 3 (.tmp 34) (.tmp 33) 3, none⟩]
def c8_r6 : List SOp := [
  ⟨(some 36), .indexAddr 42 (.tmp 32) (.tmp 34), none⟩,
  ⟨(some 37), .load 52 (.tmp 36), none⟩,
  ⟨(some 9), .alloc 52, none⟩,
  ⟨none, .store 52 (.tmp 9) (.tmp 37), none⟩]
def c8_r7 : List SOp := [
  ⟨(some 38), .fieldAddr 52 (.tmp 9) 2, none⟩,
  ⟨(some 39), .load 4 (.tmp 38), none⟩,
  ⟨(some 40), .unOp .not 4 (.tmp 39), none⟩]
def c8_r8 : List SOp := [
  ⟨(some 41), .move (.tmp 7), none⟩,
  ⟨(some 42), .load 52 (.tmp 9), none⟩,
  ⟨(some 43), .buildSlice 42 1 #[(0, (.tmp 42))], none⟩,
  ⟨(some 44), .call ⟨.builtin .append, #[(.tmp 41), (.tmp 43)], #[42, 42]⟩, none⟩,
  ⟨(some 7), .assign (.tmp 44), none⟩]
def c8_r9 : List SOp := [
  ⟨(some 45), .binOp .add 3 (.tmp 34) (.const (.int .i64 1)) 3, none⟩,
  ⟨(some 34), .move (.tmp 45), none⟩]
def c8_l5 : SC := (.seq (.reg c8_r5 none (some [1, 2, 7, 32, 33, 34, 35])) (.seq (.cond (.tmp 35) .skip (.exit 0) (some [1, 2, 7, 32, 33, 34])) (.seq (.block 1 (.seq (.reg c8_r6 none (some [1, 2, 7, 9, 32, 33, 34])) (.seq (.reg c8_r7 none (some [1, 2, 7, 9, 32, 33, 34, 40])) (.cond (.tmp 40) (.reg c8_r8 none (some [1, 2, 7, 32, 33, 34])) .skip (some [1, 2, 7, 32, 33, 34]))))) (.reg c8_r9 none (some [1, 2, 7, 32, 33, 34])))))
def c8_r10 : List SOp := [
  ⟨(some 46), .move (.tmp 7), none⟩,
  ⟨(some 47), .call ⟨.value (.func 41), #[(.tmp 46)], #[42]⟩, none⟩,
  ⟨(some 48), .unOp .not 4 (.tmp 47), none⟩]
def c8_r11 : List SOp := [
  ⟨(some 49), .call ⟨.value (.func 42), #[], #[]⟩, none⟩,
  ⟨(some 6), .assign (.tmp 49), none⟩]
def c8_r12 : List SOp := [
  ⟨(some 50), .move (.tmp 1), none⟩,
  ⟨(some 51), .move (.tmp 1), none⟩,
  ⟨(some 52), .call ⟨.builtin .len, #[(.tmp 51)], #[30]⟩, none⟩,
  ⟨(some 53), .call ⟨.value (.func 50), #[(.tmp 50), (.tmp 52)], #[30, 3]⟩, none⟩,
  ⟨(some 10), .assign (.tmp 53), none⟩]
def c8_r13 : List SOp := [
  ⟨(some 54), .move (.tmp 10), none⟩,
  ⟨(some 55), .move (.tmp 2), none⟩,
  ⟨(some 56), .move (.tmp 2), none⟩,
  ⟨(some 57), .call ⟨.builtin .len, #[(.tmp 56)], #[30]⟩, none⟩,
  ⟨(some 58), .call ⟨.value (.func 50), #[(.tmp 55), (.tmp 57)], #[30, 3]⟩, none⟩,
  ⟨(some 59), .binOp .add 9 (.tmp 54) (.tmp 58) 9, none⟩,
  ⟨(some 11), .assign (.tmp 59), none⟩]
def c8_r14 : List SOp := [
  ⟨(some 61), .move (.tmp 7), none⟩,
  ⟨(some 62), .move (.tmp 10), none⟩,
  ⟨(some 63), .call ⟨.value (.func 45), #[(.tmp 61), (.tmp 62)], #[42, 9]⟩, none⟩,
  ⟨(some 60), .move (.tmp 63), none⟩,
  ⟨(some 64), .extract (.tmp 60) 0, none⟩,
  ⟨(some 65), .extract (.tmp 60) 1, none⟩,
  ⟨(some 12), .assign (.tmp 64), none⟩,
  ⟨(some 13), .assign (.tmp 65), none⟩]
def c8_r15 : List SOp := [
  ⟨(some 67), .move (.tmp 7), none⟩,
  ⟨(some 68), .move (.tmp 11), none⟩,
  ⟨(some 69), .call ⟨.value (.func 45), #[(.tmp 67), (.tmp 68)], #[42, 9]⟩, none⟩,
  ⟨(some 66), .move (.tmp 69), none⟩,
  ⟨(some 70), .extract (.tmp 66) 0, none⟩,
  ⟨(some 71), .extract (.tmp 66) 1, none⟩,
  ⟨(some 14), .assign (.tmp 70), none⟩,
  ⟨(some 15), .assign (.tmp 71), none⟩]
def c8_r16 : List SOp := [
  ⟨(some 72), .move (.tmp 13), none⟩,
  ⟨(some 73), .move (.tmp 7), none⟩,
  ⟨(some 74), .move (.tmp 10), none⟩,
  ⟨(some 75), .call ⟨.value (.func 47), #[(.tmp 73), (.tmp 74)], #[42, 9]⟩, none⟩,
  ⟨(some 76), .binOp .neq 4 (.tmp 72) (.tmp 75) 4, none⟩,
  ⟨(some 77), .move (.tmp 76), none⟩,
  ⟨(some 78), .move (.tmp 13), (some ((some 77), false))⟩,
  ⟨(some 79), .move (.tmp 78), (some ((some 77), false))⟩,
  ⟨(some 80), .move (.tmp 15), (some ((some 79), true))⟩,
  ⟨(some 81), .unOp .not 4 (.tmp 80), (some ((some 79), true))⟩,
  ⟨(some 82), .move (.tmp 81), (some ((some 79), true))⟩,
  ⟨(some 83), .move (.tmp 14), (some ((some 82), false))⟩,
  ⟨(some 84), .move (.tmp 12), (some ((some 82), false))⟩,
  ⟨(some 85), .binOp .neq 3 (.tmp 83) (.tmp 84) 3, (some ((some 82), false))⟩,
  ⟨(some 86), .pick (.tmp 82) (.const (.bool true)) (.tmp 85), (some ((some 79), true))⟩,
  ⟨(some 87), .pick (.tmp 79) (.tmp 86) (.const (.bool false)), (some ((some 77), false))⟩,
  ⟨(some 88), .pick (.tmp 77) (.const (.bool true)) (.tmp 87), none⟩,
  ⟨(some 89), .move (.tmp 88), none⟩,
  ⟨(some 90), .move (.tmp 15), (some ((some 89), false))⟩,
  ⟨(some 91), .move (.tmp 90), (some ((some 89), false))⟩,
  ⟨(some 92), .move (.tmp 13), (some ((some 91), true))⟩,
  ⟨(some 93), .unOp .not 4 (.tmp 92), (some ((some 91), true))⟩,
  ⟨(some 94), .pick (.tmp 91) (.tmp 93) (.const (.bool false)), (some ((some 89), false))⟩,
  ⟨(some 95), .move (.tmp 94), (some ((some 89), false))⟩,
  ⟨(some 96), .move (.tmp 14), (some ((some 95), true))⟩,
  ⟨(some 97), .move (.tmp 10), (some ((some 95), true))⟩,
  ⟨(some 98), .call ⟨.builtin .len, #[(.tmp 97)], #[9]⟩, (some ((some 95), true))⟩,
  ⟨(some 99), .binOp .leq 3 (.tmp 96) (.tmp 98) 3, (some ((some 95), true))⟩,
  ⟨(some 100), .pick (.tmp 95) (.tmp 99) (.const (.bool false)), (some ((some 89), false))⟩,
  ⟨(some 101), .pick (.tmp 89) (.const (.bool true)) (.tmp 100), none⟩,
  ⟨(some 102), .move (.tmp 101), none⟩,
  ⟨(some 103), .move (.tmp 7), (some ((some 102), false))⟩,
  ⟨(some 104), .move (.tmp 10), (some ((some 102), false))⟩,
  ⟨(some 105), .call ⟨.value (.func 47), #[(.tmp 103), (.tmp 104)], #[42, 9]⟩, (some ((some 102), false))⟩,
  ⟨(some 106), .move (.tmp 105), (some ((some 102), false))⟩,
  ⟨(some 107), .move (.tmp 7), (some ((some 106), true))⟩,
  ⟨(some 108), .move (.tmp 11), (some ((some 106), true))⟩,
  ⟨(some 109), .call ⟨.value (.func 47), #[(.tmp 107), (.tmp 108)], #[42, 9]⟩, (some ((some 106), true))⟩,
  ⟨(some 110), .unOp .not 4 (.tmp 109), (some ((some 106), true))⟩,
  ⟨(some 111), .pick (.tmp 106) (.tmp 110) (.const (.bool false)), (some ((some 102), false))⟩,
  ⟨(some 112), .pick (.tmp 102) (.const (.bool true)) (.tmp 111), none⟩]
def c8_r17 : List SOp := [
  ⟨(some 6), .assign (.const (.bool false)), none⟩]
def c8_r18 : List SOp := [
  ⟨(some 16), .assign (.const (.int .i64 0)), none⟩]
def c8_r19 : List SOp := [
  ⟨(some 113), .move (.tmp 13), none⟩,
  ⟨(some 114), .move (.tmp 113), none⟩,
  ⟨(some 115), .move (.tmp 16), (some ((some 114), true))⟩,
  ⟨(some 116), .move (.tmp 12), (some ((some 114), true))⟩,
  ⟨(some 117), .binOp .lss 3 (.tmp 115) (.tmp 116) 3, (some ((some 114), true))⟩,
  ⟨(some 118), .pick (.tmp 114) (.tmp 117) (.const (.bool false)), none⟩]
def c8_r21 : List SOp := [
  ⟨(some 121), .move (.tmp 7), none⟩,
  ⟨(some 122), .move (.tmp 10), none⟩,
  ⟨(some 123), .move (.tmp 16), none⟩,
  ⟨(some 124), .slice 9 (.tmp 122) none (some (.tmp 123)) none, none⟩,
  ⟨(some 125), .call ⟨.value (.func 47), #[(.tmp 121), (.tmp 124)], #[42, 9]⟩, none⟩]
def c8_r22 : List SOp := [
  ⟨(some 6), .assign (.const (.bool false)), none⟩]
def c8_r20 : List SOp := [
  ⟨(some 119), .move (.tmp 16), none⟩,
  ⟨(some 120), .binOp .add 3 (.tmp 119) (.const (.int .i64 1)) 3, none⟩,
  ⟨(some 16), .assign (.tmp 120), none⟩]
def c8_l19 : SC := (.seq (.seq (.reg c8_r19 none (some [7, 10, 12, 13, 16, 118])) (.cond (.tmp 118) .skip (.exit 2) (some [7, 10, 12, 13, 16]))) (.seq (.block 3 (.seq (.reg c8_r21 none (some [7, 10, 12, 13, 16, 125])) (.cond (.tmp 125) (.seq (.reg c8_r22 none (some [6])) .ret) .skip (some [7, 10, 12, 13, 16])))) (.reg c8_r20 none (some [7, 10, 12, 13, 16]))))
def c8_r23 : List SOp := [
  ⟨(some 126), .move (.tmp 13), none⟩,
  ⟨(some 127), .unOp .not 4 (.tmp 126), none⟩,
  ⟨(some 128), .move (.tmp 127), none⟩,
  ⟨(some 129), .move (.tmp 7), (some ((some 128), false))⟩,
  ⟨(some 130), .move (.tmp 10), (some ((some 128), false))⟩,
  ⟨(some 131), .move (.tmp 12), (some ((some 128), false))⟩,
  ⟨(some 132), .slice 9 (.tmp 130) none (some (.tmp 131)) none, (some ((some 128), false))⟩,
  ⟨(some 133), .call ⟨.value (.func 47), #[(.tmp 129), (.tmp 132)], #[42, 9]⟩, (some ((some 128), false))⟩,
  ⟨(some 134), .pick (.tmp 128) (.const (.bool true)) (.tmp 133), none⟩,
  ⟨(some 135), .move (.tmp 134), none⟩,
  ⟨(some 136), .call ⟨.value (.func 42), #[], #[]⟩, (some ((some 135), true))⟩,
  ⟨(some 137), .pick (.tmp 135) (.tmp 136) (.const (.bool false)), none⟩,
  ⟨(some 6), .assign (.tmp 137), none⟩]
def c8 : SC := (.seq (.reg c8_r0 none (some [0, 1, 2])) (.seq (.seq (.reg c8_r1 none (some [0, 1, 2, 29])) (.cond (.tmp 29) (.seq (.reg c8_r2 none (some [6])) .ret) .skip (some [0, 1, 2]))) (.seq (.reg c8_r3 none (some [0, 1, 2, 7])) (.seq (.seq (.reg c8_r4 none (some [1, 2, 7, 32, 33, 34])) (.block 0 (.loop c8_l5 (some [1, 2, 7, 32, 33, 34])))) (.seq (.seq (.reg c8_r10 none (some [1, 2, 7, 48])) (.cond (.tmp 48) (.seq (.reg c8_r11 none (some [6])) .ret) .skip (some [1, 2, 7]))) (.seq (.reg c8_r12 none (some [2, 7, 10])) (.seq (.reg c8_r13 none (some [7, 10, 11])) (.seq (.reg c8_r14 none (some [7, 10, 11, 12, 13])) (.seq (.reg c8_r15 none (some [7, 10, 11, 12, 13, 14, 15])) (.seq (.seq (.reg c8_r16 none (some [7, 10, 12, 13, 112])) (.cond (.tmp 112) (.seq (.reg c8_r17 none (some [6])) .ret) .skip (some [7, 10, 12, 13]))) (.seq (.seq (.reg c8_r18 none (some [7, 10, 12, 13, 16])) (.block 2 (.loop c8_l19 (some [7, 10, 12, 13, 16])))) (.seq (.reg c8_r23 none (some [6])) .ret))))))))))))
theorem c8_eq : ∃ code, Try.f8.body = some code ∧ compile H8 code = c8 := ⟨_, rfl, by kernel_rfl⟩
theorem c8_fn : Try.prog.funcs[8]? = some Try.f8 := by kernel_rfl
theorem c8_rs : Try.f8.results.toList = [.tmp 6] := by kernel_rfl
theorem c8_ok : fnB Try.prog H8 Try.f8 = true := by kernel_rfl
theorem c8_nt : Try.f8.ntmps = 138 := by kernel_rfl
end Go.AM
