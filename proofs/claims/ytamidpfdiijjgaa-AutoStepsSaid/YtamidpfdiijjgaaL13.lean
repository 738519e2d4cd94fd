/-
  Printed by program (wip/tools/print.sh): compiled code.
-/
import Derived.Test.YtamidpfdiijjgaaAMb
import Derived.Test.YtamidpfdiijjgaaProg
namespace Go.AM
open Go Go.Proofs
set_option maxRecDepth 100000
/-! 13: rampart/rampartlaw14.AutoSteps -/
def H13 : Hint := ⟨[(21, [4]), (11, [0, 1, 5, 7, 8]), (20, [4]), (2000135, [0, 1, 5, 7, 8]), (19, [0, 1, 5, 7, 8, 135]), (16, [0, 1, 5, 7, 8, 9, 10]), (18, [0, 1, 5, 7, 8, 9, 10]), (2000090, [0, 1, 5, 7, 8, 9, 10]), (17, [0, 1, 5, 7, 8, 9, 10, 90]), (2000081, [0, 1, 5, 7, 8, 9, 10]), (15, [0, 1, 5, 7, 8, 9, 10, 81]), (1000015, [0, 1, 5, 7, 8, 9, 10]), (14, [0, 1, 5, 7, 8, 9, 10]), (13, [0, 1, 5, 7, 8, 9]), (12, [0, 1, 5, 7, 8]), (2000068, [0, 1, 5, 7, 8]), (10, [0, 1, 5, 7, 8, 68]), (1000010, [0, 1, 5, 7, 8]), (9, [0, 1, 5, 7, 8]), (8, [0, 1, 5, 7]), (7, [4]), (2000050, [0, 1, 5]), (6, [0, 1, 5, 6, 50]), (5, [4]), (4, [4]), (2000022, [5, 6]), (3, [5, 6, 22]), (2000019, [0, 1, 5, 6]), (2, [0, 1, 5, 6, 19]), (1, [0, 1, 5, 6]), (0, [0, 1])], []⟩
def c13_r0 : List SOp := [
  ⟨(some 4), .assign (.const (.bool false)), none⟩]
def c13_r1 : List SOp := [
  ⟨(some 12), .move (.tmp 0), none⟩,
  ⟨(some 13), .call ⟨.builtin .append, #[(.const (.slice none 0 0)), (.tmp 12)], #[38, 38]⟩, none⟩,
  ⟨(some 14), .call ⟨.value (.func 52), #[(.tmp 13), (.const (.int .i64 4096))], #[38, 3]⟩, none⟩,
  ⟨(some 11), .move (.tmp 14), none⟩,
  ⟨(some 15), .extract (.tmp 11) 0, none⟩,
  ⟨(some 16), .extract (.tmp 11) 1, none⟩,
  ⟨(some 5), .assign (.tmp 15), none⟩,
  ⟨(some 6), .assign (.tmp 16), none⟩]
def c13_r2 : List SOp := [
  ⟨(some 17), .move (.tmp 0), none⟩,
  ⟨(some 18), .call ⟨.value (.func 55), #[(.tmp 17)], #[38]⟩, none⟩,
  ⟨(some 19), .unOp .not 4 (.tmp 18), none⟩]
def c13_r3 : List SOp := [
  ⟨(some 20), .move (.tmp 0), none⟩,
  ⟨(some 21), .call ⟨.builtin .len, #[(.tmp 20)], #[38]⟩, none⟩,
  ⟨(some 22), .binOp .gtr 3 (.tmp 21) (.const (.int .i64 20)) 3, none⟩]
def c13_r4 : List SOp := [
  ⟨(some 23), .call ⟨.value (.func 51), #[], #[]⟩, none⟩,
  ⟨(some 4), .assign (.tmp 23), none⟩]
def c13_r5 : List SOp := [
  ⟨(some 24), .move (.tmp 6), none⟩,
  ⟨(some 25), .binOp .eql 58 (.tmp 24) (.const (.int .i64 1)) 58, none⟩,
  ⟨(some 26), .move (.tmp 25), none⟩,
  ⟨(some 27), .move (.tmp 5), (some ((some 26), true))⟩,
  ⟨(some 28), .binOp .eql 57 (.tmp 27) (.const (.pointer none)) 57, (some ((some 26), true))⟩,
  ⟨(some 29), .pick (.tmp 26) (.tmp 28) (.const (.bool false)), none⟩,
  ⟨(some 30), .move (.tmp 29), none⟩,
  ⟨(some 31), .call ⟨.value (.func 51), #[], #[]⟩, (some ((some 30), true))⟩,
  ⟨(some 32), .pick (.tmp 30) (.tmp 31) (.const (.bool false)), none⟩,
  ⟨(some 4), .assign (.tmp 32), none⟩]
def c13_r6 : List SOp := [
  ⟨(some 33), .move (.tmp 6), none⟩,
  ⟨(some 34), .binOp .neq 58 (.tmp 33) (.const (.int .i64 0)) 58, none⟩,
  ⟨(some 35), .move (.tmp 34), none⟩,
  ⟨(some 36), .move (.tmp 5), (some ((some 35), false))⟩,
  ⟨(some 37), .binOp .eql 57 (.tmp 36) (.const (.pointer none)) 57, (some ((some 35), false))⟩,
  ⟨(some 38), .pick (.tmp 35) (.const (.bool true)) (.tmp 37), none⟩,
  ⟨(some 39), .move (.tmp 38), none⟩,
  ⟨(some 40), .move (.tmp 5), (some ((some 39), false))⟩,
  ⟨(some 41), .call ⟨.value (.func 56), #[(.tmp 40)], #[57]⟩, (some ((some 39), false))⟩,
  ⟨(some 42), .move (.tmp 0), (some ((some 39), false))⟩,
  ⟨(some 43), .call ⟨.value (.func 39), #[(.tmp 42)], #[38]⟩, (some ((some 39), false))⟩,
  ⟨(some 44), .binOp .neq 3 (.tmp 41) (.tmp 43) 3, (some ((some 39), false))⟩,
  ⟨(some 45), .pick (.tmp 39) (.const (.bool true)) (.tmp 44), none⟩,
  ⟨(some 46), .move (.tmp 45), none⟩,
  ⟨(some 47), .move (.tmp 1), (some ((some 46), false))⟩,
  ⟨(some 48), .call ⟨.builtin .len, #[(.tmp 47)], #[9]⟩, (some ((some 46), false))⟩,
  ⟨(some 49), .binOp .gtr 3 (.tmp 48) (.const (.int .i64 300)) 3, (some ((some 46), false))⟩,
  ⟨(some 50), .pick (.tmp 46) (.const (.bool true)) (.tmp 49), none⟩]
def c13_r7 : List SOp := [
  ⟨(some 51), .move (.tmp 6), none⟩,
  ⟨(some 52), .binOp .eql 58 (.tmp 51) (.const (.int .i64 0)) 58, none⟩,
  ⟨(some 53), .move (.tmp 52), none⟩,
  ⟨(some 54), .move (.tmp 5), (some ((some 53), true))⟩,
  ⟨(some 55), .binOp .neq 57 (.tmp 54) (.const (.pointer none)) 57, (some ((some 53), true))⟩,
  ⟨(some 56), .pick (.tmp 53) (.tmp 55) (.const (.bool false)), none⟩,
  ⟨(some 57), .move (.tmp 56), none⟩,
  ⟨(some 58), .move (.tmp 1), (some ((some 57), true))⟩,
  ⟨(some 59), .call ⟨.builtin .len, #[(.tmp 58)], #[9]⟩, (some ((some 57), true))⟩,
  ⟨(some 60), .binOp .gtr 3 (.tmp 59) (.const (.int .i64 300)) 3, (some ((some 57), true))⟩,
  ⟨(some 61), .pick (.tmp 57) (.tmp 60) (.const (.bool false)), none⟩,
  ⟨(some 62), .move (.tmp 61), none⟩,
  ⟨(some 63), .call ⟨.value (.func 51), #[], #[]⟩, (some ((some 62), true))⟩,
  ⟨(some 64), .pick (.tmp 62) (.tmp 63) (.const (.bool false)), none⟩,
  ⟨(some 4), .assign (.tmp 64), none⟩]
def c13_r8 : List SOp := [
  ⟨(some 7), .assign (.const (.int .i64 0)), none⟩]
def c13_r9 : List SOp := [
  ⟨(some 8), .assign (.const (.int .i64 1)), none⟩]
def c13_r10 : List SOp := [
  ⟨(some 65), .move (.tmp 8), none⟩,
  ⟨(some 66), .move (.tmp 1), none⟩,
  ⟨(some 67), .call ⟨.builtin .len, #[(.tmp 66)], #[9]⟩, none⟩,
  ⟨(some 68), .binOp .leq 3 (.tmp 65) (.tmp 67) 3, none⟩]
def c13_r12 : List SOp := [
  ⟨(some 71), .move (.tmp 5), none⟩,
  ⟨(some 72), .move (.tmp 7), none⟩,
  ⟨(some 73), .move (.tmp 1), none⟩,
  ⟨(some 74), .move (.tmp 8), none⟩,
  ⟨(some 75), .binOp .sub 3 (.tmp 74) (.const (.int .i64 1)) 3, none⟩,
  ⟨(some 76), .index 9 (.tmp 73) (.tmp 75), none⟩,
  ⟨(some 77), .call ⟨.value (.func 53), #[(.tmp 71), (.tmp 72), (.tmp 76)], #[57, 3, 5]⟩, none⟩,
  ⟨(some 7), .assign (.tmp 77), none⟩]
def c13_r13 : List SOp := [
  ⟨(some 9), .assign (.const (.slice none 0 0)), none⟩]
def c13_r14 : List SOp := [
  ⟨(some 10), .assign (.const (.int .i64 0)), none⟩]
def c13_r15 : List SOp := [
  ⟨(some 78), .move (.tmp 10), none⟩,
  ⟨(some 79), .move (.tmp 0), none⟩,
  ⟨(some 80), .call ⟨.builtin .len, #[(.tmp 79)], #[38]⟩, none⟩,
  ⟨(some 81), .binOp .lss 3 (.tmp 78) (.tmp 80) 3, none⟩]
def c13_r17 : List SOp := [
  ⟨(some 84), .move (.tmp 0), none⟩,
  ⟨(some 85), .move (.tmp 10), none⟩,
  ⟨(some 86), .indexAddr 38 (.tmp 84) (.tmp 85), none⟩,
  ⟨(some 87), .load 9 (.tmp 86), none⟩,
  ⟨(some 88), .move (.tmp 1), none⟩,
  ⟨(some 89), .move (.tmp 8), none⟩,
  ⟨(some 90), .call ⟨.value (.func 57), #[(.tmp 87), (.const (.bool false)), (.tmp 88), (.tmp 89)], #[9, 4, 9, 3]⟩, none⟩]
def c13_r18 : List SOp := [
  ⟨(some 91), .move (.tmp 9), none⟩,
  ⟨(some 92), .move (.tmp 10), none⟩,
  ⟨(some 93), .buildSlice 30 1 #[(0, (.tmp 92))], none⟩,
  ⟨(some 94), .call ⟨.builtin .append, #[(.tmp 91), (.tmp 93)], #[30, 30]⟩, none⟩,
  ⟨(some 9), .assign (.tmp 94), none⟩]
def c13_r16 : List SOp := [
  ⟨(some 82), .move (.tmp 10), none⟩,
  ⟨(some 83), .binOp .add 3 (.tmp 82) (.const (.int .i64 1)) 3, none⟩,
  ⟨(some 10), .assign (.tmp 83), none⟩]
def c13_l15 : SC := (.seq (.seq (.reg c13_r15 none (some [0, 1, 5, 7, 8, 9, 10, 81])) (.cond (.tmp 81) .skip (.exit 2) (some [0, 1, 5, 7, 8, 9, 10]))) (.seq (.block 3 (.seq (.reg c13_r17 none (some [0, 1, 5, 7, 8, 9, 10, 90])) (.cond (.tmp 90) (.reg c13_r18 none (some [0, 1, 5, 7, 8, 9, 10])) .skip (some [0, 1, 5, 7, 8, 9, 10])))) (.reg c13_r16 none (some [0, 1, 5, 7, 8, 9, 10]))))
def c13_r19 : List SOp := [
  ⟨(some 95), .move (.tmp 7), none⟩,
  ⟨(some 96), .binOp .lss 3 (.tmp 95) (.const (.int .i64 0)) 3, none⟩,
  ⟨(some 97), .move (.tmp 96), none⟩,
  ⟨(some 98), .move (.tmp 7), (some ((some 97), false))⟩,
  ⟨(some 99), .move (.tmp 5), (some ((some 97), false))⟩,
  ⟨(some 100), .call ⟨.value (.func 56), #[(.tmp 99)], #[57]⟩, (some ((some 97), false))⟩,
  ⟨(some 101), .binOp .geq 3 (.tmp 98) (.tmp 100) 3, (some ((some 97), false))⟩,
  ⟨(some 102), .pick (.tmp 97) (.const (.bool true)) (.tmp 101), none⟩,
  ⟨(some 103), .move (.tmp 102), none⟩,
  ⟨(some 104), .move (.tmp 5), (some ((some 103), false))⟩,
  ⟨(some 105), .move (.tmp 7), (some ((some 103), false))⟩,
  ⟨(some 106), .call ⟨.value (.func 54), #[(.tmp 104), (.tmp 105)], #[57, 3]⟩, (some ((some 103), false))⟩,
  ⟨(some 107), .move (.tmp 9), (some ((some 103), false))⟩,
  ⟨(some 108), .call ⟨.value (.func 40), #[(.tmp 106), (.tmp 107)], #[30, 30]⟩, (some ((some 103), false))⟩,
  ⟨(some 109), .unOp .not 4 (.tmp 108), (some ((some 103), false))⟩,
  ⟨(some 110), .pick (.tmp 103) (.const (.bool true)) (.tmp 109), none⟩,
  ⟨(some 111), .move (.tmp 110), none⟩,
  ⟨(some 112), .move (.tmp 5), (some ((some 111), false))⟩,
  ⟨(some 113), .move (.tmp 7), (some ((some 111), false))⟩,
  ⟨(some 114), .call ⟨.value (.func 58), #[(.tmp 112), (.tmp 113)], #[57, 3]⟩, (some ((some 111), false))⟩,
  ⟨(some 115), .binOp .lss 3 (.tmp 114) (.const (.int .i64 0)) 3, (some ((some 111), false))⟩,
  ⟨(some 116), .pick (.tmp 111) (.const (.bool true)) (.tmp 115), none⟩,
  ⟨(some 117), .move (.tmp 116), none⟩,
  ⟨(some 118), .move (.tmp 5), (some ((some 117), false))⟩,
  ⟨(some 119), .move (.tmp 7), (some ((some 117), false))⟩,
  ⟨(some 120), .call ⟨.value (.func 58), #[(.tmp 118), (.tmp 119)], #[57, 3]⟩, (some ((some 117), false))⟩,
  ⟨(some 121), .move (.tmp 5), (some ((some 117), false))⟩,
  ⟨(some 122), .call ⟨.value (.func 56), #[(.tmp 121)], #[57]⟩, (some ((some 117), false))⟩,
  ⟨(some 123), .binOp .geq 3 (.tmp 120) (.tmp 122) 3, (some ((some 117), false))⟩,
  ⟨(some 124), .pick (.tmp 117) (.const (.bool true)) (.tmp 123), none⟩,
  ⟨(some 125), .move (.tmp 124), none⟩,
  ⟨(some 126), .move (.tmp 7), (some ((some 125), false))⟩,
  ⟨(some 127), .binOp .gtr 3 (.tmp 126) (.const (.int .i64 0)) 3, (some ((some 125), false))⟩,
  ⟨(some 128), .move (.tmp 127), (some ((some 125), false))⟩,
  ⟨(some 129), .move (.tmp 5), (some ((some 128), true))⟩,
  ⟨(some 130), .move (.tmp 7), (some ((some 128), true))⟩,
  ⟨(some 131), .call ⟨.value (.func 58), #[(.tmp 129), (.tmp 130)], #[57, 3]⟩, (some ((some 128), true))⟩,
  ⟨(some 132), .move (.tmp 7), (some ((some 128), true))⟩,
  ⟨(some 133), .binOp .eql 3 (.tmp 131) (.tmp 132) 3, (some ((some 128), true))⟩,
  ⟨(some 134), .pick (.tmp 128) (.tmp 133) (.const (.bool false)), (some ((some 125), false))⟩,
  ⟨(some 135), .pick (.tmp 125) (.const (.bool true)) (.tmp 134), none⟩]
def c13_r20 : List SOp := [
  ⟨(some 4), .assign (.const (.bool false)), none⟩]
def c13_r11 : List SOp := [
  ⟨(some 69), .move (.tmp 8), none⟩,
  ⟨(some 70), .binOp .add 3 (.tmp 69) (.const (.int .i64 1)) 3, none⟩,
  ⟨(some 8), .assign (.tmp 70), none⟩]
def c13_l10 : SC := (.seq (.seq (.reg c13_r10 none (some [0, 1, 5, 7, 8, 68])) (.cond (.tmp 68) .skip (.exit 0) (some [0, 1, 5, 7, 8]))) (.seq (.block 1 (.seq (.reg c13_r12 none (some [0, 1, 5, 7, 8])) (.seq (.reg c13_r13 none (some [0, 1, 5, 7, 8, 9])) (.seq (.seq (.reg c13_r14 none (some [0, 1, 5, 7, 8, 9, 10])) (.block 2 (.loop c13_l15 (some [0, 1, 5, 7, 8, 9, 10])))) (.seq (.reg c13_r19 none (some [0, 1, 5, 7, 8, 135])) (.cond (.tmp 135) (.seq (.reg c13_r20 none (some [4])) .ret) .skip (some [0, 1, 5, 7, 8]))))))) (.reg c13_r11 none (some [0, 1, 5, 7, 8]))))
def c13_r21 : List SOp := [
  ⟨(some 136), .move (.tmp 1), none⟩,
  ⟨(some 137), .call ⟨.value (.func 59), #[(.tmp 136)], #[9]⟩, none⟩,
  ⟨(some 138), .move (.tmp 1), none⟩,
  ⟨(some 139), .call ⟨.value (.func 60), #[(.tmp 138)], #[9]⟩, none⟩,
  ⟨(some 140), .binOp .eql 9 (.tmp 137) (.tmp 139) 9, none⟩,
  ⟨(some 141), .move (.tmp 140), none⟩,
  ⟨(some 142), .call ⟨.value (.func 51), #[], #[]⟩, (some ((some 141), true))⟩,
  ⟨(some 143), .pick (.tmp 141) (.tmp 142) (.const (.bool false)), none⟩,
  ⟨(some 4), .assign (.tmp 143), none⟩]
def c13 : SC := (.seq (.reg c13_r0 none (some [0, 1])) (.seq (.reg c13_r1 none (some [0, 1, 5, 6])) (.seq (.seq (.reg c13_r2 none (some [0, 1, 5, 6, 19])) (.cond (.tmp 19) (.seq (.seq (.reg c13_r3 none (some [5, 6, 22])) (.cond (.tmp 22) (.seq (.reg c13_r4 none (some [4])) .ret) .skip (some [5, 6]))) (.seq (.reg c13_r5 none (some [4])) .ret)) .skip (some [0, 1, 5, 6]))) (.seq (.seq (.reg c13_r6 none (some [0, 1, 5, 6, 50])) (.cond (.tmp 50) (.seq (.reg c13_r7 none (some [4])) .ret) .skip (some [0, 1, 5]))) (.seq (.reg c13_r8 none (some [0, 1, 5, 7])) (.seq (.seq (.reg c13_r9 none (some [0, 1, 5, 7, 8])) (.block 0 (.loop c13_l10 (some [0, 1, 5, 7, 8])))) (.seq (.reg c13_r21 none (some [4])) .ret)))))))
theorem c13_eq : ∃ code, Try.f13.body = some code ∧ compile H13 code = c13 := ⟨_, rfl, by kernel_rfl⟩
theorem c13_fn : Try.prog.funcs[13]? = some Try.f13 := by kernel_rfl
theorem c13_rs : Try.f13.results.toList = [.tmp 4] := by kernel_rfl
theorem c13_ok : fnB Try.prog H13 Try.f13 = true := by kernel_rfl
theorem c13_nt : Try.f13.ntmps = 144 := by kernel_rfl
end Go.AM
