/-
  Printed by program (wip/tools/print.sh): compiled code.
-/
import Derived.Test.YtamidpfdiijjgaaAMb
import Derived.Test.YtamidpfdiijjgaaProg
namespace Go.AM
open Go Go.Proofs
set_option maxRecDepth 100000
/-! 28: rampart/rampartlaw24.VerdictEnds -/
def H28 : Hint := ⟨[(26, [6]), (18, [10, 11, 12, 13, 14, 15]), (25, [6]), (2000135, [10, 11, 12, 13, 14, 15]), (24, [10, 11, 12, 13, 14, 15, 135]), (23, [10, 11, 12, 13, 14, 15, 16, 17, 18, 19]), (22, [10, 11, 12, 13, 14, 15, 16, 17]), (2000103, [10, 11, 12, 13, 14, 15]), (21, [10, 11, 12, 13, 14, 15, 103]), (20, [10, 11, 12, 13, 14, 15]), (2000094, [10, 11, 12, 13, 14, 15]), (19, [10, 11, 12, 13, 14, 15, 94]), (2000088, [10, 11, 12, 13, 14, 15]), (17, [10, 11, 12, 13, 14, 15, 88]), (1000017, [10, 11, 12, 13, 14, 15]), (16, [10, 11, 12, 13, 14, 15]), (15, [10, 11, 12, 13, 14]), (14, [10, 11, 12, 13, 14]), (13, [10, 11, 12, 13, 14]), (12, [10, 11, 12, 13, 14]), (11, [6]), (2000064, [1, 2, 10, 11, 12]), (10, [1, 2, 10, 11, 12, 64]), (9, [1, 2, 10, 11, 12]), (7, [1, 2, 7, 8, 9]), (8, [1, 2, 7, 8, 9]), (2000039, [1, 2, 7, 8, 9]), (6, [1, 2, 7, 8, 9, 39]), (1000006, [1, 2, 7, 8, 9]), (5, [1, 2, 7, 8, 9]), (4, [1, 2, 7, 8]), (3, [1, 2, 7]), (2, [6]), (2000032, [0, 1, 2]), (1, [0, 1, 2, 32]), (0, [0, 1, 2])], []⟩
def c28_r0 : List SOp := [
  ⟨(some 6), .assign (.const (.bool false)), none⟩]
def c28_r1 : List SOp := [
  ⟨(some 20), .move (.tmp 0), none⟩,
  ⟨(some 21), .call ⟨.builtin .len, #[(.tmp 20)], #[30]⟩, none⟩,
  ⟨(some 22), .binOp .gtr 3 (.tmp 21) (.const (.int .i64 40)) 3, none⟩,
  ⟨(some 23), .move (.tmp 22), none⟩,
  ⟨(some 24), .move (.tmp 1), (some ((some 23), false))⟩,
  ⟨(some 25), .call ⟨.builtin .len, #[(.tmp 24)], #[30]⟩, (some ((some 23), false))⟩,
  ⟨(some 26), .binOp .gtr 3 (.tmp 25) (.const (.int .i64 40)) 3, (some ((some 23), false))⟩,
  ⟨(some 27), .pick (.tmp 23) (.const (.bool true)) (.tmp 26), none⟩,
  ⟨(some 28), .move (.tmp 27), none⟩,
  ⟨(some 29), .move (.tmp 2), (some ((some 28), false))⟩,
  ⟨(some 30), .call ⟨.builtin .len, #[(.tmp 29)], #[30]⟩, (some ((some 28), false))⟩,
  ⟨(some 31), .binOp .gtr 3 (.tmp 30) (.const (.int .i64 40)) 3, (some ((some 28), false))⟩,
  ⟨(some 32), .pick (.tmp 28) (.const (.bool true)) (.tmp 31), none⟩]
def c28_r2 : List SOp := [
  ⟨(some 33), .call ⟨.value (.func 79), #[], #[]⟩, none⟩,
  ⟨(some 6), .assign (.tmp 33), none⟩]
def c28_r3 : List SOp := [
  ⟨(some 34), .move (.tmp 0), none⟩,
  ⟨(some 35), .call ⟨.value (.func 80), #[(.tmp 34)], #[30]⟩, none⟩,
  ⟨(some 7), .assign (.tmp 35), none⟩]
def c28_r4 : List SOp := [
  ⟨(some 8), .assign (.const (.slice none 0 0)), none⟩]
def c28_r5 : List SOp := [
  ⟨(some 9), .assign (.const (.int .i64 0)), none⟩]
def c28_r6 : List SOp := [
  ⟨(some 36), .move (.tmp 9), none⟩,
  ⟨(some 37), .move (.tmp 7), none⟩,
  ⟨(some 38), .call ⟨.builtin .len, #[(.tmp 37)], #[89]⟩, none⟩,
  ⟨(some 39), .binOp .lss 3 (.tmp 36) (.tmp 38) 3, none⟩]
def c28_r8 : List SOp := [
  ⟨(some 42), .move (.tmp 8), none⟩,
  ⟨(some 43), .move (.tmp 9), none⟩,
  ⟨(some 44), .buildSlice 30 1 #[(0, (.tmp 43))], none⟩,
  ⟨(some 45), .call ⟨.builtin .append, #[(.tmp 42), (.tmp 44)], #[30, 30]⟩, none⟩,
  ⟨(some 8), .assign (.tmp 45), none⟩]
def c28_r7 : List SOp := [
  ⟨(some 40), .move (.tmp 9), none⟩,
  ⟨(some 41), .binOp .add 3 (.tmp 40) (.const (.int .i64 1)) 3, none⟩,
  ⟨(some 9), .assign (.tmp 41), none⟩]
def c28_l6 : SC := (.seq (.seq (.reg c28_r6 none (some [1, 2, 7, 8, 9, 39])) (.cond (.tmp 39) .skip (.exit 0) (some [1, 2, 7, 8, 9]))) (.seq (.block 1 (.reg c28_r8 none (some [1, 2, 7, 8, 9]))) (.reg c28_r7 none (some [1, 2, 7, 8, 9]))))
def c28_r9 : List SOp := [
  ⟨(some 46), .move (.tmp 7), none⟩,
  ⟨(some 47), .move (.tmp 8), none⟩,
  ⟨(some 48), .call ⟨.value (.func 81), #[(.tmp 46), (.tmp 47), (.const (.int .i64 8))], #[89, 30, 3]⟩, none⟩,
  ⟨(some 49), .move (.tmp 7), none⟩,
  ⟨(some 50), .move (.tmp 8), none⟩,
  ⟨(some 51), .call ⟨.value (.func 81), #[(.tmp 49), (.tmp 50), (.const (.int .i64 8))], #[89, 30, 3]⟩, none⟩,
  ⟨(some 52), .move (.tmp 7), none⟩,
  ⟨(some 53), .move (.tmp 8), none⟩,
  ⟨(some 54), .call ⟨.value (.func 81), #[(.tmp 52), (.tmp 53), (.const (.int .i64 8))], #[89, 30, 3]⟩, none⟩,
  ⟨(some 10), .assign (.tmp 48), none⟩,
  ⟨(some 11), .assign (.tmp 51), none⟩,
  ⟨(some 12), .assign (.tmp 54), none⟩]
def c28_r10 : List SOp := [
  ⟨(some 55), .move (.tmp 10), none⟩,
  ⟨(some 56), .binOp .eql 91 (.tmp 55) (.const (.pointer none)) 91, none⟩,
  ⟨(some 57), .move (.tmp 56), none⟩,
  ⟨(some 58), .move (.tmp 11), (some ((some 57), false))⟩,
  ⟨(some 59), .binOp .eql 91 (.tmp 58) (.const (.pointer none)) 91, (some ((some 57), false))⟩,
  ⟨(some 60), .pick (.tmp 57) (.const (.bool true)) (.tmp 59), none⟩,
  ⟨(some 61), .move (.tmp 60), none⟩,
  ⟨(some 62), .move (.tmp 12), (some ((some 61), false))⟩,
  ⟨(some 63), .binOp .eql 91 (.tmp 62) (.const (.pointer none)) 91, (some ((some 61), false))⟩,
  ⟨(some 64), .pick (.tmp 61) (.const (.bool true)) (.tmp 63), none⟩]
def c28_r11 : List SOp := [
  ⟨(some 6), .assign (.const (.bool false)), none⟩]
def c28_r12 : List SOp := [
  ⟨(some 65), .move (.tmp 1), none⟩,
  ⟨(some 66), .move (.tmp 1), none⟩,
  ⟨(some 67), .call ⟨.builtin .len, #[(.tmp 66)], #[30]⟩, none⟩,
  ⟨(some 68), .call ⟨.value (.func 50), #[(.tmp 65), (.tmp 67)], #[30, 3]⟩, none⟩,
  ⟨(some 69), .move (.tmp 2), none⟩,
  ⟨(some 70), .move (.tmp 2), none⟩,
  ⟨(some 71), .call ⟨.builtin .len, #[(.tmp 70)], #[30]⟩, none⟩,
  ⟨(some 72), .call ⟨.value (.func 50), #[(.tmp 69), (.tmp 71)], #[30, 3]⟩, none⟩,
  ⟨(some 13), .assign (.tmp 68), none⟩,
  ⟨(some 14), .assign (.tmp 72), none⟩]
def c28_r13 : List SOp := [
  ⟨(some 73), .move (.tmp 10), none⟩,
  ⟨(some 74), .call ⟨.value (.func 82), #[(.tmp 73)], #[91]⟩, none⟩]
def c28_r14 : List SOp := [
  ⟨(some 75), .move (.tmp 11), none⟩,
  ⟨(some 76), .call ⟨.value (.func 82), #[(.tmp 75)], #[91]⟩, none⟩]
def c28_r15 : List SOp := [
  ⟨(some 77), .move (.tmp 12), none⟩,
  ⟨(some 78), .call ⟨.value (.func 82), #[(.tmp 77)], #[91]⟩, none⟩]
def c28_r16 : List SOp := [
  ⟨(some 15), .assign (.const (.int .i64 0)), none⟩]
def c28_r17 : List SOp := [
  ⟨(some 79), .move (.tmp 15), none⟩,
  ⟨(some 80), .move (.tmp 13), none⟩,
  ⟨(some 81), .call ⟨.builtin .len, #[(.tmp 80)], #[9]⟩, none⟩,
  ⟨(some 82), .binOp .lss 3 (.tmp 79) (.tmp 81) 3, none⟩,
  ⟨(some 83), .move (.tmp 82), none⟩,
  ⟨(some 84), .move (.tmp 15), (some ((some 83), false))⟩,
  ⟨(some 85), .move (.tmp 14), (some ((some 83), false))⟩,
  ⟨(some 86), .call ⟨.builtin .len, #[(.tmp 85)], #[9]⟩, (some ((some 83), false))⟩,
  ⟨(some 87), .binOp .lss 3 (.tmp 84) (.tmp 86) 3, (some ((some 83), false))⟩,
  ⟨(some 88), .pick (.tmp 83) (.const (.bool true)) (.tmp 87), none⟩]
def c28_r19 : List SOp := [
  ⟨(some 91), .move (.tmp 15), none⟩,
  ⟨(some 92), .move (.tmp 14), none⟩,
  ⟨(some 93), .call ⟨.builtin .len, #[(.tmp 92)], #[9]⟩, none⟩,
  ⟨(some 94), .binOp .lss 3 (.tmp 91) (.tmp 93) 3, none⟩]
def c28_r20 : List SOp := [
  ⟨(some 95), .move (.tmp 11), none⟩,
  ⟨(some 96), .move (.tmp 14), none⟩,
  ⟨(some 97), .move (.tmp 15), none⟩,
  ⟨(some 98), .index 9 (.tmp 96) (.tmp 97), none⟩,
  ⟨(some 99), .call ⟨.value (.func 83), #[(.tmp 95), (.tmp 98)], #[91, 5]⟩, none⟩]
def c28_r21 : List SOp := [
  ⟨(some 100), .move (.tmp 15), none⟩,
  ⟨(some 101), .move (.tmp 13), none⟩,
  ⟨(some 102), .call ⟨.builtin .len, #[(.tmp 101)], #[9]⟩, none⟩,
  ⟨(some 103), .binOp .geq 3 (.tmp 100) (.tmp 102) 3, none⟩]
def c28_r22 : List SOp := [
  ⟨(some 105), .move (.tmp 10), none⟩,
  ⟨(some 106), .move (.tmp 13), none⟩,
  ⟨(some 107), .move (.tmp 15), none⟩,
  ⟨(some 108), .index 9 (.tmp 106) (.tmp 107), none⟩,
  ⟨(some 109), .call ⟨.value (.func 83), #[(.tmp 105), (.tmp 108)], #[91, 5]⟩, none⟩,
  ⟨(some 104), .move (.tmp 109), none⟩,
  ⟨(some 110), .extract (.tmp 104) 0, none⟩,
  ⟨(some 111), .extract (.tmp 104) 1, none⟩,
  ⟨(some 16), .assign (.tmp 110), none⟩,
  ⟨(some 17), .assign (.tmp 111), none⟩]
def c28_r23 : List SOp := [
  ⟨(some 113), .move (.tmp 12), none⟩,
  ⟨(some 114), .move (.tmp 13), none⟩,
  ⟨(some 115), .move (.tmp 15), none⟩,
  ⟨(some 116), .index 9 (.tmp 114) (.tmp 115), none⟩,
  ⟨(some 117), .call ⟨.value (.func 83), #[(.tmp 113), (.tmp 116)], #[91, 5]⟩, none⟩,
  ⟨(some 112), .move (.tmp 117), none⟩,
  ⟨(some 118), .extract (.tmp 112) 0, none⟩,
  ⟨(some 119), .extract (.tmp 112) 1, none⟩,
  ⟨(some 18), .assign (.tmp 118), none⟩,
  ⟨(some 19), .assign (.tmp 119), none⟩]
def c28_r24 : List SOp := [
  ⟨(some 120), .move (.tmp 16), none⟩,
  ⟨(some 121), .move (.tmp 18), none⟩,
  ⟨(some 122), .call ⟨.value (.func 89), #[(.tmp 120), (.tmp 121)], #[94, 94]⟩, none⟩,
  ⟨(some 123), .unOp .not 4 (.tmp 122), none⟩,
  ⟨(some 124), .move (.tmp 123), none⟩,
  ⟨(some 125), .move (.tmp 17), (some ((some 124), false))⟩,
  ⟨(some 126), .move (.tmp 19), (some ((some 124), false))⟩,
  ⟨(some 127), .binOp .neq 3 (.tmp 125) (.tmp 126) 3, (some ((some 124), false))⟩,
  ⟨(some 128), .pick (.tmp 124) (.const (.bool true)) (.tmp 127), none⟩,
  ⟨(some 129), .move (.tmp 128), none⟩,
  ⟨(some 130), .move (.tmp 10), (some ((some 129), false))⟩,
  ⟨(some 131), .call ⟨.value (.func 85), #[(.tmp 130)], #[91]⟩, (some ((some 129), false))⟩,
  ⟨(some 132), .move (.tmp 12), (some ((some 129), false))⟩,
  ⟨(some 133), .call ⟨.value (.func 85), #[(.tmp 132)], #[91]⟩, (some ((some 129), false))⟩,
  ⟨(some 134), .binOp .neq 3 (.tmp 131) (.tmp 133) 3, (some ((some 129), false))⟩,
  ⟨(some 135), .pick (.tmp 129) (.const (.bool true)) (.tmp 134), none⟩]
def c28_r25 : List SOp := [
  ⟨(some 6), .assign (.const (.bool false)), none⟩]
def c28_r18 : List SOp := [
  ⟨(some 89), .move (.tmp 15), none⟩,
  ⟨(some 90), .binOp .add 3 (.tmp 89) (.const (.int .i64 1)) 3, none⟩,
  ⟨(some 15), .assign (.tmp 90), none⟩]
def c28_l17 : SC := (.seq (.seq (.reg c28_r17 none (some [10, 11, 12, 13, 14, 15, 88])) (.cond (.tmp 88) .skip (.exit 2) (some [10, 11, 12, 13, 14, 15]))) (.seq (.block 3 (.seq (.seq (.reg c28_r19 none (some [10, 11, 12, 13, 14, 15, 94])) (.cond (.tmp 94) (.reg c28_r20 none (some [10, 11, 12, 13, 14, 15])) .skip (some [10, 11, 12, 13, 14, 15]))) (.seq (.seq (.reg c28_r21 none (some [10, 11, 12, 13, 14, 15, 103])) (.cond (.tmp 103) (.exit 3) .skip (some [10, 11, 12, 13, 14, 15]))) (.seq (.reg c28_r22 none (some [10, 11, 12, 13, 14, 15, 16, 17])) (.seq (.reg c28_r23 none (some [10, 11, 12, 13, 14, 15, 16, 17, 18, 19])) (.seq (.reg c28_r24 none (some [10, 11, 12, 13, 14, 15, 135])) (.cond (.tmp 135) (.seq (.reg c28_r25 none (some [6])) .ret) .skip (some [10, 11, 12, 13, 14, 15])))))))) (.reg c28_r18 none (some [10, 11, 12, 13, 14, 15]))))
def c28_r26 : List SOp := [
  ⟨(some 136), .move (.tmp 10), none⟩,
  ⟨(some 137), .call ⟨.value (.func 84), #[(.tmp 136)], #[91]⟩, none⟩,
  ⟨(some 138), .move (.tmp 13), none⟩,
  ⟨(some 139), .call ⟨.builtin .len, #[(.tmp 138)], #[9]⟩, none⟩,
  ⟨(some 140), .binOp .eql 3 (.tmp 137) (.tmp 139) 3, none⟩,
  ⟨(some 141), .move (.tmp 140), none⟩,
  ⟨(some 142), .move (.tmp 11), (some ((some 141), true))⟩,
  ⟨(some 143), .call ⟨.value (.func 84), #[(.tmp 142)], #[91]⟩, (some ((some 141), true))⟩,
  ⟨(some 144), .move (.tmp 14), (some ((some 141), true))⟩,
  ⟨(some 145), .call ⟨.builtin .len, #[(.tmp 144)], #[9]⟩, (some ((some 141), true))⟩,
  ⟨(some 146), .binOp .eql 3 (.tmp 143) (.tmp 145) 3, (some ((some 141), true))⟩,
  ⟨(some 147), .pick (.tmp 141) (.tmp 146) (.const (.bool false)), none⟩,
  ⟨(some 148), .move (.tmp 147), none⟩,
  ⟨(some 149), .call ⟨.value (.func 79), #[], #[]⟩, (some ((some 148), true))⟩,
  ⟨(some 150), .pick (.tmp 148) (.tmp 149) (.const (.bool false)), none⟩,
  ⟨(some 6), .assign (.tmp 150), none⟩]
def c28 : SC := (.seq (.reg c28_r0 none (some [0, 1, 2])) (.seq (.seq (.reg c28_r1 none (some [0, 1, 2, 32])) (.cond (.tmp 32) (.seq (.reg c28_r2 none (some [6])) .ret) .skip (some [0, 1, 2]))) (.seq (.reg c28_r3 none (some [1, 2, 7])) (.seq (.reg c28_r4 none (some [1, 2, 7, 8])) (.seq (.seq (.reg c28_r5 none (some [1, 2, 7, 8, 9])) (.block 0 (.loop c28_l6 (some [1, 2, 7, 8, 9])))) (.seq (.reg c28_r9 none (some [1, 2, 10, 11, 12])) (.seq (.seq (.reg c28_r10 none (some [1, 2, 10, 11, 12, 64])) (.cond (.tmp 64) (.seq (.reg c28_r11 none (some [6])) .ret) .skip (some [1, 2, 10, 11, 12]))) (.seq (.reg c28_r12 none (some [10, 11, 12, 13, 14])) (.seq (.reg c28_r13 none (some [10, 11, 12, 13, 14])) (.seq (.reg c28_r14 none (some [10, 11, 12, 13, 14])) (.seq (.reg c28_r15 none (some [10, 11, 12, 13, 14])) (.seq (.seq (.reg c28_r16 none (some [10, 11, 12, 13, 14, 15])) (.block 2 (.loop c28_l17 (some [10, 11, 12, 13, 14, 15])))) (.seq (.reg c28_r26 none (some [6])) .ret)))))))))))))
theorem c28_eq : ∃ code, Try.f28.body = some code ∧ compile H28 code = c28 := ⟨_, rfl, by kernel_rfl⟩
theorem c28_fn : Try.prog.funcs[28]? = some Try.f28 := by kernel_rfl
theorem c28_rs : Try.f28.results.toList = [.tmp 6] := by kernel_rfl
theorem c28_ok : fnB Try.prog H28 Try.f28 = true := by kernel_rfl
theorem c28_nt : Try.f28.ntmps = 151 := by kernel_rfl
end Go.AM
