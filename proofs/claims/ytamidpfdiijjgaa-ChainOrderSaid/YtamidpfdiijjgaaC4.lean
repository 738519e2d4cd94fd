/-
  Printed by program (wip/tools/print.sh): compiled code.
-/
import Derived.Test.YtamidpfdiijjgaaAM16
import Derived.Test.YtamidpfdiijjgaaProg
namespace Go.AM
open Go Go.Proofs
set_option maxRecDepth 100000
/-! 128: slices.pdqsortOrdered[int] -/
def H128 : Hint := ⟨[(27, [0, 1, 2, 3, 8, 9]), (26, [0, 2, 3, 8, 9, 14]), (25, [0, 1, 2, 3, 8, 9, 14]), (30, [0, 1, 2, 3, 8, 9]), (29, [0, 1, 3, 8, 9, 14]), (28, [0, 1, 2, 3, 8, 9, 14]), (2000113, [0, 1, 2, 3, 8, 9]), (24, [0, 1, 2, 3, 9, 14, 16, 17, 18, 113]), (23, [0, 1, 2, 3, 9, 14, 16, 17, 18]), (22, [0, 1, 2, 3, 9, 10, 14, 16, 17]), (21, [0, 1, 2, 3, 9, 10, 14]), (20, [0, 1, 2, 3, 10, 14, 15]), (19, [0, 1, 2, 3, 8, 9]), (18, [0, 2, 3, 8, 9, 13]), (2000087, [0, 1, 2, 3, 10, 11]), (17, [0, 1, 2, 3, 8, 9, 10, 11, 87]), (2000072, [0, 1, 2, 3, 8, 9, 10, 11]), (16, [0, 1, 2, 3, 8, 9, 10, 11, 72]), (2000068, [0, 1, 2, 3, 8, 9, 10, 11]), (15, [0, 1, 2, 3, 8, 9, 10, 11, 68]), (14, [0, 1, 2, 3, 8, 9, 10, 11, 12]), (13, [0, 1, 2, 3, 8, 9, 10, 11]), (12, [0, 1, 2, 3, 8, 9, 10, 11]), (2000050, [0, 1, 2, 3, 8, 9, 10, 11, 12]), (11, [0, 1, 2, 3, 8, 9, 10, 11, 12, 50]), (10, [0, 1, 2, 3, 8, 9, 10, 11, 12]), (9, [0, 1, 2, 3, 8, 9, 10]), (8, [0, 1, 2, 3, 8, 9, 10]), (2000035, [0, 1, 2, 3, 8, 9, 10]), (7, [0, 1, 2, 3, 8, 9, 10, 35]), (6, []), (2000029, [0, 1, 2, 3, 8, 9, 10]), (5, [0, 1, 2, 3, 8, 9, 10, 29]), (4, []), (2000023, [0, 1, 2, 3, 8, 9, 10]), (3, [0, 1, 2, 3, 8, 9, 10, 23]), (2, [0, 1, 2, 3, 8, 9, 10]), (1000002, [0, 1, 2, 3, 8, 9]), (1, [0, 1, 2, 3, 8, 9]), (0, [0, 1, 2, 3, 8])], []⟩
def c128_r0 : List SOp := [
  ⟨(some 8), .assign (.const (.bool true)), none⟩]
def c128_r1 : List SOp := [
  ⟨(some 9), .assign (.const (.bool true)), none⟩]
def c128_r2 : List SOp := [
  ⟨(some 19), .move (.tmp 2), none⟩,
  ⟨(some 20), .move (.tmp 1), none⟩,
  ⟨(some 21), .binOp .sub 3 (.tmp 19) (.tmp 20) 3, none⟩,
  ⟨(some 10), .assign (.tmp 21), none⟩]
def c128_r3 : List SOp := [
  ⟨(some 22), .move (.tmp 10), none⟩,
  ⟨(some 23), .binOp .leq 3 (.tmp 22) (.const (.int .i64 12)) 3, none⟩]
def c128_r4 : List SOp := [
  ⟨(some 24), .move (.tmp 0), none⟩,
  ⟨(some 25), .move (.tmp 1), none⟩,
  ⟨(some 26), .move (.tmp 2), none⟩,
  ⟨(some 27), .call ⟨.value (.func 131), #[(.tmp 24), (.tmp 25), (.tmp 26)], #[30, 3, 3]⟩, none⟩]
def c128_r5 : List SOp := [
  ⟨(some 28), .move (.tmp 3), none⟩,
  ⟨(some 29), .binOp .eql 3 (.tmp 28) (.const (.int .i64 0)) 3, none⟩]
def c128_r6 : List SOp := [
  ⟨(some 30), .move (.tmp 0), none⟩,
  ⟨(some 31), .move (.tmp 1), none⟩,
  ⟨(some 32), .move (.tmp 2), none⟩,
  ⟨(some 33), .call ⟨.value (.func 132), #[(.tmp 30), (.tmp 31), (.tmp 32)], #[30, 3, 3]⟩, none⟩]
def c128_r7 : List SOp := [
  ⟨(some 34), .move (.tmp 8), none⟩,
  ⟨(some 35), .unOp .not 4 (.tmp 34), none⟩]
def c128_r8 : List SOp := [
  ⟨(some 36), .move (.tmp 0), none⟩,
  ⟨(some 37), .move (.tmp 1), none⟩,
  ⟨(some 38), .move (.tmp 2), none⟩,
  ⟨(some 39), .call ⟨.value (.func 133), #[(.tmp 36), (.tmp 37), (.tmp 38)], #[30, 3, 3]⟩, none⟩]
def c128_r9 : List SOp := [
  ⟨(some 40), .move (.tmp 3), none⟩,
  ⟨(some 41), .binOp .sub 3 (.tmp 40) (.const (.int .i64 1)) 3, none⟩,
  ⟨(some 3), .assign (.tmp 41), none⟩]
def c128_r10 : List SOp := [
  ⟨(some 43), .move (.tmp 0), none⟩,
  ⟨(some 44), .move (.tmp 1), none⟩,
  ⟨(some 45), .move (.tmp 2), none⟩,
  ⟨(some 46), .call ⟨.value (.func 134), #[(.tmp 43), (.tmp 44), (.tmp 45)], #[30, 3, 3]⟩, none⟩,
  ⟨(some 42), .move (.tmp 46), none⟩,
  ⟨(some 47), .extract (.tmp 42) 0, none⟩,
  ⟨(some 48), .extract (.tmp 42) 1, none⟩,
  ⟨(some 11), .assign (.tmp 47), none⟩,
  ⟨(some 12), .assign (.tmp 48), none⟩]
def c128_r11 : List SOp := [
  ⟨(some 49), .move (.tmp 12), none⟩,
  ⟨(some 50), .binOp .eql 191 (.tmp 49) (.const (.int .i64 2)) 191, none⟩]
def c128_r12 : List SOp := [
  ⟨(some 51), .move (.tmp 0), none⟩,
  ⟨(some 52), .move (.tmp 1), none⟩,
  ⟨(some 53), .move (.tmp 2), none⟩,
  ⟨(some 54), .call ⟨.value (.func 135), #[(.tmp 51), (.tmp 52), (.tmp 53)], #[30, 3, 3]⟩, none⟩]
def c128_r13 : List SOp := [
  ⟨(some 55), .move (.tmp 2), none⟩,
  ⟨(some 56), .binOp .sub 3 (.tmp 55) (.const (.int .i64 1)) 3, none⟩,
  ⟨(some 57), .move (.tmp 11), none⟩,
  ⟨(some 58), .move (.tmp 1), none⟩,
  ⟨(some 59), .binOp .sub 3 (.tmp 57) (.tmp 58) 3, none⟩,
  ⟨(some 60), .binOp .sub 3 (.tmp 56) (.tmp 59) 3, none⟩,
  ⟨(some 11), .assign (.tmp 60), none⟩]
def c128_r14 : List SOp := [
  ⟨(some 12), .assign (.const (.int .i64 1)), none⟩]
def c128_r15 : List SOp := [
  ⟨(some 61), .move (.tmp 8), none⟩,
  ⟨(some 62), .move (.tmp 61), none⟩,
  ⟨(some 63), .move (.tmp 9), (some ((some 62), true))⟩,
  ⟨(some 64), .pick (.tmp 62) (.tmp 63) (.const (.bool false)), none⟩,
  ⟨(some 65), .move (.tmp 64), none⟩,
  ⟨(some 66), .move (.tmp 12), (some ((some 65), true))⟩,
  ⟨(some 67), .binOp .eql 191 (.tmp 66) (.const (.int .i64 1)) 191, (some ((some 65), true))⟩,
  ⟨(some 68), .pick (.tmp 65) (.tmp 67) (.const (.bool false)), none⟩]
def c128_r16 : List SOp := [
  ⟨(some 69), .move (.tmp 0), none⟩,
  ⟨(some 70), .move (.tmp 1), none⟩,
  ⟨(some 71), .move (.tmp 2), none⟩,
  ⟨(some 72), .call ⟨.value (.func 136), #[(.tmp 69), (.tmp 70), (.tmp 71)], #[30, 3, 3]⟩, none⟩]
def c128_r17 : List SOp := [
  ⟨(some 73), .move (.tmp 1), none⟩,
  ⟨(some 74), .binOp .gtr 3 (.tmp 73) (.const (.int .i64 0)) 3, none⟩,
  ⟨(some 75), .move (.tmp 74), none⟩,
  ⟨(some 76), .move (.tmp 0), (some ((some 75), true))⟩,
  ⟨(some 77), .move (.tmp 1), (some ((some 75), true))⟩,
  ⟨(some 78), .binOp .sub 3 (.tmp 77) (.const (.int .i64 1)) 3, (some ((some 75), true))⟩,
  ⟨(some 79), .indexAddr 30 (.tmp 76) (.tmp 78), (some ((some 75), true))⟩,
  ⟨(some 80), .load 3 (.tmp 79), (some ((some 75), true))⟩,
  ⟨(some 81), .move (.tmp 0), (some ((some 75), true))⟩,
  ⟨(some 82), .move (.tmp 11), (some ((some 75), true))⟩,
  ⟨(some 83), .indexAddr 30 (.tmp 81) (.tmp 82), (some ((some 75), true))⟩,
  ⟨(some 84), .load 3 (.tmp 83), (some ((some 75), true))⟩,
  ⟨(some 85), .call ⟨.value (.func 137), #[(.tmp 80), (.tmp 84)], #[3, 3]⟩, (some ((some 75), true))⟩,
  ⟨(some 86), .unOp .not 4 (.tmp 85), (some ((some 75), true))⟩,
  ⟨(some 87), .pick (.tmp 75) (.tmp 86) (.const (.bool false)), none⟩]
def c128_r18 : List SOp := [
  ⟨(some 88), .move (.tmp 0), none⟩,
  ⟨(some 89), .move (.tmp 1), none⟩,
  ⟨(some 90), .move (.tmp 2), none⟩,
  ⟨(some 91), .move (.tmp 11), none⟩,
  ⟨(some 92), .call ⟨.value (.func 138), #[(.tmp 88), (.tmp 89), (.tmp 90), (.tmp 91)], #[30, 3, 3, 3]⟩, none⟩,
  ⟨(some 13), .assign (.tmp 92), none⟩]
def c128_r19 : List SOp := [
  ⟨(some 93), .move (.tmp 13), none⟩,
  ⟨(some 1), .assign (.tmp 93), none⟩]
def c128_r20 : List SOp := [
  ⟨(some 95), .move (.tmp 0), none⟩,
  ⟨(some 96), .move (.tmp 1), none⟩,
  ⟨(some 97), .move (.tmp 2), none⟩,
  ⟨(some 98), .move (.tmp 11), none⟩,
  ⟨(some 99), .call ⟨.value (.func 139), #[(.tmp 95), (.tmp 96), (.tmp 97), (.tmp 98)], #[30, 3, 3, 3]⟩, none⟩,
  ⟨(some 94), .move (.tmp 99), none⟩,
  ⟨(some 100), .extract (.tmp 94) 0, none⟩,
  ⟨(some 101), .extract (.tmp 94) 1, none⟩,
  ⟨(some 14), .assign (.tmp 100), none⟩,
  ⟨(some 15), .assign (.tmp 101), none⟩]
def c128_r21 : List SOp := [
  ⟨(some 102), .move (.tmp 15), none⟩,
  ⟨(some 9), .assign (.tmp 102), none⟩]
def c128_r22 : List SOp := [
  ⟨(some 103), .move (.tmp 14), none⟩,
  ⟨(some 104), .move (.tmp 1), none⟩,
  ⟨(some 105), .binOp .sub 3 (.tmp 103) (.tmp 104) 3, none⟩,
  ⟨(some 106), .move (.tmp 2), none⟩,
  ⟨(some 107), .move (.tmp 14), none⟩,
  ⟨(some 108), .binOp .sub 3 (.tmp 106) (.tmp 107) 3, none⟩,
  ⟨(some 16), .assign (.tmp 105), none⟩,
  ⟨(some 17), .assign (.tmp 108), none⟩]
def c128_r23 : List SOp := [
  ⟨(some 109), .move (.tmp 10), none⟩,
  ⟨(some 110), .binOp .quo 3 (.tmp 109) (.const (.int .i64 8)) 3, none⟩,
  ⟨(some 18), .assign (.tmp 110), none⟩]
def c128_r24 : List SOp := [
  ⟨(some 111), .move (.tmp 16), none⟩,
  ⟨(some 112), .move (.tmp 17), none⟩,
  ⟨(some 113), .binOp .lss 3 (.tmp 111) (.tmp 112) 3, none⟩]
def c128_r25 : List SOp := [
  ⟨(some 114), .move (.tmp 16), none⟩,
  ⟨(some 115), .move (.tmp 18), none⟩,
  ⟨(some 116), .binOp .geq 3 (.tmp 114) (.tmp 115) 3, none⟩,
  ⟨(some 8), .assign (.tmp 116), none⟩]
def c128_r26 : List SOp := [
  ⟨(some 117), .move (.tmp 0), none⟩,
  ⟨(some 118), .move (.tmp 1), none⟩,
  ⟨(some 119), .move (.tmp 14), none⟩,
  ⟨(some 120), .move (.tmp 3), none⟩,
  ⟨(some 121), .call ⟨.value (.func 128), #[(.tmp 117), (.tmp 118), (.tmp 119), (.tmp 120)], #[30, 3, 3, 3]⟩, none⟩]
def c128_r27 : List SOp := [
  ⟨(some 122), .move (.tmp 14), none⟩,
  ⟨(some 123), .binOp .add 3 (.tmp 122) (.const (.int .i64 1)) 3, none⟩,
  ⟨(some 1), .assign (.tmp 123), none⟩]
def c128_r28 : List SOp := [
  ⟨(some 124), .move (.tmp 17), none⟩,
  ⟨(some 125), .move (.tmp 18), none⟩,
  ⟨(some 126), .binOp .geq 3 (.tmp 124) (.tmp 125) 3, none⟩,
  ⟨(some 8), .assign (.tmp 126), none⟩]
def c128_r29 : List SOp := [
  ⟨(some 127), .move (.tmp 0), none⟩,
  ⟨(some 128), .move (.tmp 14), none⟩,
  ⟨(some 129), .binOp .add 3 (.tmp 128) (.const (.int .i64 1)) 3, none⟩,
  ⟨(some 130), .move (.tmp 2), none⟩,
  ⟨(some 131), .move (.tmp 3), none⟩,
  ⟨(some 132), .call ⟨.value (.func 128), #[(.tmp 127), (.tmp 129), (.tmp 130), (.tmp 131)], #[30, 3, 3, 3]⟩, none⟩]
def c128_r30 : List SOp := [
  ⟨(some 133), .move (.tmp 14), none⟩,
  ⟨(some 2), .assign (.tmp 133), none⟩]
def c128_l2 : SC := (.block 1 (.seq (.reg c128_r2 none (some [0, 1, 2, 3, 8, 9, 10])) (.seq (.seq (.reg c128_r3 none (some [0, 1, 2, 3, 8, 9, 10, 23])) (.cond (.tmp 23) (.seq (.reg c128_r4 none (some [])) .ret) .skip (some [0, 1, 2, 3, 8, 9, 10]))) (.seq (.seq (.reg c128_r5 none (some [0, 1, 2, 3, 8, 9, 10, 29])) (.cond (.tmp 29) (.seq (.reg c128_r6 none (some [])) .ret) .skip (some [0, 1, 2, 3, 8, 9, 10]))) (.seq (.seq (.reg c128_r7 none (some [0, 1, 2, 3, 8, 9, 10, 35])) (.cond (.tmp 35) (.seq (.reg c128_r8 none (some [0, 1, 2, 3, 8, 9, 10])) (.reg c128_r9 none (some [0, 1, 2, 3, 8, 9, 10]))) .skip (some [0, 1, 2, 3, 8, 9, 10]))) (.seq (.reg c128_r10 none (some [0, 1, 2, 3, 8, 9, 10, 11, 12])) (.seq (.seq (.reg c128_r11 none (some [0, 1, 2, 3, 8, 9, 10, 11, 12, 50])) (.cond (.tmp 50) (.seq (.reg c128_r12 none (some [0, 1, 2, 3, 8, 9, 10, 11])) (.seq (.reg c128_r13 none (some [0, 1, 2, 3, 8, 9, 10, 11])) (.reg c128_r14 none (some [0, 1, 2, 3, 8, 9, 10, 11, 12])))) .skip (some [0, 1, 2, 3, 8, 9, 10, 11, 12]))) (.seq (.seq (.reg c128_r15 none (some [0, 1, 2, 3, 8, 9, 10, 11, 68])) (.cond (.tmp 68) (.seq (.reg c128_r16 none (some [0, 1, 2, 3, 8, 9, 10, 11, 72])) (.cond (.tmp 72) .ret .skip (some [0, 1, 2, 3, 8, 9, 10, 11]))) .skip (some [0, 1, 2, 3, 8, 9, 10, 11]))) (.seq (.seq (.reg c128_r17 none (some [0, 1, 2, 3, 8, 9, 10, 11, 87])) (.cond (.tmp 87) (.seq (.reg c128_r18 none (some [0, 2, 3, 8, 9, 13])) (.seq (.reg c128_r19 none (some [0, 1, 2, 3, 8, 9])) (.exit 1))) .skip (some [0, 1, 2, 3, 10, 11]))) (.seq (.reg c128_r20 none (some [0, 1, 2, 3, 10, 14, 15])) (.seq (.reg c128_r21 none (some [0, 1, 2, 3, 9, 10, 14])) (.seq (.reg c128_r22 none (some [0, 1, 2, 3, 9, 10, 14, 16, 17])) (.seq (.reg c128_r23 none (some [0, 1, 2, 3, 9, 14, 16, 17, 18])) (.seq (.reg c128_r24 none (some [0, 1, 2, 3, 9, 14, 16, 17, 18, 113])) (.cond (.tmp 113) (.seq (.reg c128_r25 none (some [0, 1, 2, 3, 8, 9, 14])) (.seq (.reg c128_r26 none (some [0, 2, 3, 8, 9, 14])) (.reg c128_r27 none (some [0, 1, 2, 3, 8, 9])))) (.seq (.reg c128_r28 none (some [0, 1, 2, 3, 8, 9, 14])) (.seq (.reg c128_r29 none (some [0, 1, 3, 8, 9, 14])) (.reg c128_r30 none (some [0, 1, 2, 3, 8, 9])))) (some [0, 1, 2, 3, 8, 9]))))))))))))))))
def c128 : SC := (.seq (.reg c128_r0 none (some [0, 1, 2, 3, 8])) (.seq (.reg c128_r1 none (some [0, 1, 2, 3, 8, 9])) (.block 0 (.loop c128_l2 (some [0, 1, 2, 3, 8, 9])))))
theorem c128_eq : ∃ code, Try.f128.body = some code ∧ compile H128 code = c128 := ⟨_, rfl, by kernel_rfl⟩
theorem c128_fn : Try.prog.funcs[128]? = some Try.f128 := by kernel_rfl
theorem c128_rs : Try.f128.results.toList = [] := by kernel_rfl
theorem c128_ok : fnB Try.prog H128 Try.f128 = true := by kernel_rfl
theorem c128_nt : Try.f128.ntmps = 134 := by kernel_rfl

/-! 129: math/bits.Len -/
def H129 : Hint := ⟨[(2, [2]), (1, [2]), (2000000, [0]), (0, [0])], []⟩
def c129_r0 : List SOp := [
  ⟨(some 2), .assign (.const (.int .i64 0)), none⟩]
def c129_r1 : List SOp := [
  ⟨(some 3), .move (.tmp 0), none⟩,
  ⟨(some 4), .convert 188 156 (.tmp 3), none⟩,
  ⟨(some 5), .call ⟨.value (.func 140), #[(.tmp 4)], #[156]⟩, none⟩,
  ⟨(some 2), .assign (.tmp 5), none⟩]
def c129_r2 : List SOp := [
  ⟨(some 6), .move (.tmp 0), none⟩,
  ⟨(some 7), .call ⟨.value (.func 141), #[(.tmp 6)], #[199]⟩, none⟩,
  ⟨(some 2), .assign (.tmp 7), none⟩]
def c129 : SC := (.seq (.reg c129_r0 none (some [0])) (.seq (.cond (.const (.bool false)) (.seq (.reg c129_r1 none (some [2])) .ret) .skip (some [0])) (.seq (.reg c129_r2 none (some [2])) .ret)))
theorem c129_eq : ∃ code, Try.f129.body = some code ∧ compile H129 code = c129 := ⟨_, rfl, by kernel_rfl⟩
theorem c129_fn : Try.prog.funcs[129]? = some Try.f129 := by kernel_rfl
theorem c129_rs : Try.f129.results.toList = [.tmp 2] := by kernel_rfl
theorem c129_ok : fnB Try.prog H129 Try.f129 = true := by kernel_rfl
theorem c129_nt : Try.f129.ntmps = 8 := by kernel_rfl

/-! 130: rampart/rampartref09.in -/
def H130 : Hint := ⟨[(1, [4]), (0, [1, 2])], [(1, [(1, 6)])]⟩
def c130_r0 : List SOp := [
  ⟨(some 2), .box 158 (.tmp 0), none⟩,
  ⟨(some 4), .assign (.const (.bool false)), none⟩]
def c130_r1 : List SOp := [
  ⟨(some 5), .fieldAddr 158 (.tmp 2) 0, none⟩,
  ⟨(some 6), .load 156 (.tmp 5), none⟩,
  ⟨(some 7), .move (.tmp 1), none⟩,
  ⟨(some 8), .binOp .xor 156 (.tmp 6) (.tmp 7) 156, none⟩,
  ⟨(some 9), .fieldAddr 158 (.tmp 2) 1, none⟩,
  ⟨(some 10), .load 3 (.tmp 9), none⟩,
  ⟨(some 11), .call ⟨.value (.func 125), #[(.tmp 10)], #[3]⟩, none⟩,
  ⟨(some 12), .binOp .and 156 (.tmp 8) (.tmp 11) 156, none⟩,
  ⟨(some 13), .binOp .eql 156 (.tmp 12) (.const (.int .u32 0)) 156, none⟩,
  ⟨(some 4), .assign (.tmp 13), none⟩]
def c130 : SC := (.seq (.reg c130_r0 none (some [1, 2])) (.seq (.reg c130_r1 (some [(1, 6)]) (some [4])) .ret))
theorem c130_eq : ∃ code, Try.f130.body = some code ∧ compile H130 code = c130 := ⟨_, rfl, by kernel_rfl⟩
theorem c130_fn : Try.prog.funcs[130]? = some Try.f130 := by kernel_rfl
theorem c130_rs : Try.f130.results.toList = [.tmp 4] := by kernel_rfl
theorem c130_ok : fnB Try.prog H130 Try.f130 = true := by kernel_rfl
theorem c130_nt : Try.f130.ntmps = 14 := by kernel_rfl

/-! 131: slices.insertionSortOrdered[int] -/
def H131 : Hint := ⟨[(2, [0, 1, 2, 6]), (5, [0, 1, 2, 6, 7]), (6, [0, 1, 2, 6, 7]), (2000030, [0, 1, 2, 6, 7]), (4, [0, 1, 2, 6, 7, 30]), (1000004, [0, 1, 2, 6, 7]), (3, [0, 1, 2, 6, 7]), (2000012, [0, 1, 2, 6]), (1, [0, 1, 2, 6, 12]), (1000001, [0, 1, 2, 6]), (0, [0, 1, 2, 6])], []⟩
def c131_r0 : List SOp := [
  ⟨(some 8), .move (.tmp 1), none⟩,
  ⟨(some 9), .binOp .add 3 (.tmp 8) (.const (.int .i64 1)) 3, none⟩,
  ⟨(some 6), .assign (.tmp 9), none⟩]
def c131_r1 : List SOp := [
  ⟨(some 10), .move (.tmp 6), none⟩,
  ⟨(some 11), .move (.tmp 2), none⟩,
  ⟨(some 12), .binOp .lss 3 (.tmp 10) (.tmp 11) 3, none⟩]
def c131_r3 : List SOp := [
  ⟨(some 15), .move (.tmp 6), none⟩,
  ⟨(some 7), .assign (.tmp 15), none⟩]
def c131_r4 : List SOp := [
  ⟨(some 16), .move (.tmp 7), none⟩,
  ⟨(some 17), .move (.tmp 1), none⟩,
  ⟨(some 18), .binOp .gtr 3 (.tmp 16) (.tmp 17) 3, none⟩,
  ⟨(some 19), .move (.tmp 18), none⟩,
  ⟨(some 20), .move (.tmp 0), (some ((some 19), true))⟩,
  ⟨(some 21), .move (.tmp 7), (some ((some 19), true))⟩,
  ⟨(some 22), .indexAddr 30 (.tmp 20) (.tmp 21), (some ((some 19), true))⟩,
  ⟨(some 23), .load 3 (.tmp 22), (some ((some 19), true))⟩,
  ⟨(some 24), .move (.tmp 0), (some ((some 19), true))⟩,
  ⟨(some 25), .move (.tmp 7), (some ((some 19), true))⟩,
  ⟨(some 26), .binOp .sub 3 (.tmp 25) (.const (.int .i64 1)) 3, (some ((some 19), true))⟩,
  ⟨(some 27), .indexAddr 30 (.tmp 24) (.tmp 26), (some ((some 19), true))⟩,
  ⟨(some 28), .load 3 (.tmp 27), (some ((some 19), true))⟩,
  ⟨(some 29), .call ⟨.value (.func 137), #[(.tmp 23), (.tmp 28)], #[3, 3]⟩, (some ((some 19), true))⟩,
  ⟨(some 30), .pick (.tmp 19) (.tmp 29) (.const (.bool false)), none⟩]
def c131_r6 : List SOp := [
  ⟨(some 33), .move (.tmp 0), none⟩,
  ⟨(some 34), .move (.tmp 7), none⟩,
  ⟨(some 35), .move (.tmp 0), none⟩,
  ⟨(some 36), .move (.tmp 7), none⟩,
  ⟨(some 37), .binOp .sub 3 (.tmp 36) (.const (.int .i64 1)) 3, none⟩,
  ⟨(some 38), .move (.tmp 0), none⟩,
  ⟨(some 39), .move (.tmp 7), none⟩,
  ⟨(some 40), .binOp .sub 3 (.tmp 39) (.const (.int .i64 1)) 3, none⟩,
  ⟨(some 41), .indexAddr 30 (.tmp 38) (.tmp 40), none⟩,
  ⟨(some 42), .load 3 (.tmp 41), none⟩,
  ⟨(some 43), .move (.tmp 0), none⟩,
  ⟨(some 44), .move (.tmp 7), none⟩,
  ⟨(some 45), .indexAddr 30 (.tmp 43) (.tmp 44), none⟩,
  ⟨(some 46), .load 3 (.tmp 45), none⟩,
  ⟨(some 47), .indexAddr 30 (.tmp 33) (.tmp 34), none⟩,
  ⟨none, .store 3 (.tmp 47) (.tmp 42), none⟩,
  ⟨(some 48), .indexAddr 30 (.tmp 35) (.tmp 37), none⟩,
  ⟨none, .store 3 (.tmp 48) (.tmp 46), none⟩]
def c131_r5 : List SOp := [
  ⟨(some 31), .move (.tmp 7), none⟩,
  ⟨(some 32), .binOp .sub 3 (.tmp 31) (.const (.int .i64 1)) 3, none⟩,
  ⟨(some 7), .assign (.tmp 32), none⟩]
def c131_l4 : SC := (.seq (.seq (.reg c131_r4 none (some [0, 1, 2, 6, 7, 30])) (.cond (.tmp 30) .skip (.exit 2) (some [0, 1, 2, 6, 7]))) (.seq (.block 3 (.reg c131_r6 none (some [0, 1, 2, 6, 7]))) (.reg c131_r5 none (some [0, 1, 2, 6, 7]))))
def c131_r2 : List SOp := [
  ⟨(some 13), .move (.tmp 6), none⟩,
  ⟨(some 14), .binOp .add 3 (.tmp 13) (.const (.int .i64 1)) 3, none⟩,
  ⟨(some 6), .assign (.tmp 14), none⟩]
def c131_l1 : SC := (.seq (.seq (.reg c131_r1 none (some [0, 1, 2, 6, 12])) (.cond (.tmp 12) .skip (.exit 0) (some [0, 1, 2, 6]))) (.seq (.block 1 (.seq (.reg c131_r3 none (some [0, 1, 2, 6, 7])) (.block 2 (.loop c131_l4 (some [0, 1, 2, 6, 7]))))) (.reg c131_r2 none (some [0, 1, 2, 6]))))
def c131 : SC := (.seq (.reg c131_r0 none (some [0, 1, 2, 6])) (.block 0 (.loop c131_l1 (some [0, 1, 2, 6]))))
theorem c131_eq : ∃ code, Try.f131.body = some code ∧ compile H131 code = c131 := ⟨_, rfl, by kernel_rfl⟩
theorem c131_fn : Try.prog.funcs[131]? = some Try.f131 := by kernel_rfl
theorem c131_rs : Try.f131.results.toList = [] := by kernel_rfl
theorem c131_ok : fnB Try.prog H131 Try.f131 = true := by kernel_rfl
theorem c131_nt : Try.f131.ntmps = 49 := by kernel_rfl

/-! 132: slices.heapSortOrdered[int] -/
def H132 : Hint := ⟨[(9, [0, 6, 7, 10]), (11, [0, 6, 7, 10]), (10, [0, 6, 7, 10]), (2000030, [0, 6, 7, 10]), (8, [0, 6, 7, 10, 30]), (1000008, [0, 6, 7, 10]), (7, [0, 6, 7, 10]), (5, [0, 6, 7, 8, 9]), (6, [0, 6, 7, 8, 9]), (2000019, [0, 6, 7, 8, 9]), (4, [0, 6, 7, 8, 9, 19]), (1000004, [0, 6, 7, 8, 9]), (3, [0, 6, 7, 8, 9]), (2, [0, 6, 7, 8]), (1, [0, 1, 2, 6, 7]), (0, [0, 1, 2, 6])], []⟩
def c132_r0 : List SOp := [
  ⟨(some 11), .move (.tmp 1), none⟩,
  ⟨(some 6), .assign (.tmp 11), none⟩]
def c132_r1 : List SOp := [
  ⟨(some 7), .assign (.const (.int .i64 0)), none⟩]
def c132_r2 : List SOp := [
  ⟨(some 12), .move (.tmp 2), none⟩,
  ⟨(some 13), .move (.tmp 1), none⟩,
  ⟨(some 14), .binOp .sub 3 (.tmp 12) (.tmp 13) 3, none⟩,
  ⟨(some 8), .assign (.tmp 14), none⟩]
def c132_r3 : List SOp := [
  ⟨(some 15), .move (.tmp 8), none⟩,
  ⟨(some 16), .binOp .sub 3 (.tmp 15) (.const (.int .i64 1)) 3, none⟩,
  ⟨(some 17), .binOp .quo 3 (.tmp 16) (.const (.int .i64 2)) 3, none⟩,
  ⟨(some 9), .assign (.tmp 17), none⟩]
def c132_r4 : List SOp := [
  ⟨(some 18), .move (.tmp 9), none⟩,
  ⟨(some 19), .binOp .geq 3 (.tmp 18) (.const (.int .i64 0)) 3, none⟩]
def c132_r6 : List SOp := [
  ⟨(some 22), .move (.tmp 0), none⟩,
  ⟨(some 23), .move (.tmp 9), none⟩,
  ⟨(some 24), .move (.tmp 8), none⟩,
  ⟨(some 25), .move (.tmp 6), none⟩,
  ⟨(some 26), .call ⟨.value (.func 142), #[(.tmp 22), (.tmp 23), (.tmp 24), (.tmp 25)], #[30, 3, 3, 3]⟩, none⟩]
def c132_r5 : List SOp := [
  ⟨(some 20), .move (.tmp 9), none⟩,
  ⟨(some 21), .binOp .sub 3 (.tmp 20) (.const (.int .i64 1)) 3, none⟩,
  ⟨(some 9), .assign (.tmp 21), none⟩]
def c132_l4 : SC := (.seq (.seq (.reg c132_r4 none (some [0, 6, 7, 8, 9, 19])) (.cond (.tmp 19) .skip (.exit 0) (some [0, 6, 7, 8, 9]))) (.seq (.block 1 (.reg c132_r6 none (some [0, 6, 7, 8, 9]))) (.reg c132_r5 none (some [0, 6, 7, 8, 9]))))
def c132_r7 : List SOp := [
  ⟨(some 27), .move (.tmp 8), none⟩,
  ⟨(some 28), .binOp .sub 3 (.tmp 27) (.const (.int .i64 1)) 3, none⟩,
  ⟨(some 10), .assign (.tmp 28), none⟩]
def c132_r8 : List SOp := [
  ⟨(some 29), .move (.tmp 10), none⟩,
  ⟨(some 30), .binOp .geq 3 (.tmp 29) (.const (.int .i64 0)) 3, none⟩]
def c132_r10 : List SOp := [
  ⟨(some 33), .move (.tmp 0), none⟩,
  ⟨(some 34), .move (.tmp 6), none⟩,
  ⟨(some 35), .move (.tmp 0), none⟩,
  ⟨(some 36), .move (.tmp 6), none⟩,
  ⟨(some 37), .move (.tmp 10), none⟩,
  ⟨(some 38), .binOp .add 3 (.tmp 36) (.tmp 37) 3, none⟩,
  ⟨(some 39), .move (.tmp 0), none⟩,
  ⟨(some 40), .move (.tmp 6), none⟩,
  ⟨(some 41), .move (.tmp 10), none⟩,
  ⟨(some 42), .binOp .add 3 (.tmp 40) (.tmp 41) 3, none⟩,
  ⟨(some 43), .indexAddr 30 (.tmp 39) (.tmp 42), none⟩,
  ⟨(some 44), .load 3 (.tmp 43), none⟩,
  ⟨(some 45), .move (.tmp 0), none⟩,
  ⟨(some 46), .move (.tmp 6), none⟩,
  ⟨(some 47), .indexAddr 30 (.tmp 45) (.tmp 46), none⟩,
  ⟨(some 48), .load 3 (.tmp 47), none⟩,
  ⟨(some 49), .indexAddr 30 (.tmp 33) (.tmp 34), none⟩,
  ⟨none, .store 3 (.tmp 49) (.tmp 44), none⟩,
  ⟨(some 50), .indexAddr 30 (.tmp 35) (.tmp 38), none⟩,
  ⟨none, .store 3 (.tmp 50) (.tmp 48), none⟩]
def c132_r11 : List SOp := [
  ⟨(some 51), .move (.tmp 0), none⟩,
  ⟨(some 52), .move (.tmp 7), none⟩,
  ⟨(some 53), .move (.tmp 10), none⟩,
  ⟨(some 54), .move (.tmp 6), none⟩,
  ⟨(some 55), .call ⟨.value (.func 142), #[(.tmp 51), (.tmp 52), (.tmp 53), (.tmp 54)], #[30, 3, 3, 3]⟩, none⟩]
def c132_r9 : List SOp := [
  ⟨(some 31), .move (.tmp 10), none⟩,
  ⟨(some 32), .binOp .sub 3 (.tmp 31) (.const (.int .i64 1)) 3, none⟩,
  ⟨(some 10), .assign (.tmp 32), none⟩]
def c132_l8 : SC := (.seq (.seq (.reg c132_r8 none (some [0, 6, 7, 10, 30])) (.cond (.tmp 30) .skip (.exit 2) (some [0, 6, 7, 10]))) (.seq (.block 3 (.seq (.reg c132_r10 none (some [0, 6, 7, 10])) (.reg c132_r11 none (some [0, 6, 7, 10])))) (.reg c132_r9 none (some [0, 6, 7, 10]))))
def c132 : SC := (.seq (.reg c132_r0 none (some [0, 1, 2, 6])) (.seq (.reg c132_r1 none (some [0, 1, 2, 6, 7])) (.seq (.reg c132_r2 none (some [0, 6, 7, 8])) (.seq (.seq (.reg c132_r3 none (some [0, 6, 7, 8, 9])) (.block 0 (.loop c132_l4 (some [0, 6, 7, 8, 9])))) (.seq (.reg c132_r7 none (some [0, 6, 7, 10])) (.block 2 (.loop c132_l8 (some [0, 6, 7, 10]))))))))
theorem c132_eq : ∃ code, Try.f132.body = some code ∧ compile H132 code = c132 := ⟨_, rfl, by kernel_rfl⟩
theorem c132_fn : Try.prog.funcs[132]? = some Try.f132 := by kernel_rfl
theorem c132_rs : Try.f132.results.toList = [] := by kernel_rfl
theorem c132_ok : fnB Try.prog H132 Try.f132 = true := by kernel_rfl
theorem c132_nt : Try.f132.ntmps = 56 := by kernel_rfl

/-! 133: slices.breakPatternsOrdered[int] -/
def H133 : Hint := ⟨[(6, [0, 1, 6, 7, 8, 9]), (10, [0, 1, 6, 7, 8, 9]), (9, [0, 1, 6, 7, 8, 9, 10]), (2000043, [0, 1, 6, 7, 8, 9, 10]), (8, [0, 1, 6, 7, 8, 9, 10, 43]), (7, [0, 1, 6, 7, 8, 9, 10]), (2000033, [0, 1, 6, 7, 8, 9]), (5, [0, 1, 6, 7, 8, 9, 33]), (1000005, [0, 1, 6, 7, 8, 9]), (4, [0, 1, 6, 7, 8, 9]), (3, [0, 1, 6, 7, 8]), (2, [0, 1, 6, 7]), (2000015, []), (1, [0, 1, 6, 15]), (0, [0, 1, 6])], []⟩
def c133_r0 : List SOp := [
  ⟨(some 11), .move (.tmp 2), none⟩,
  ⟨(some 12), .move (.tmp 1), none⟩,
  ⟨(some 13), .binOp .sub 3 (.tmp 11) (.tmp 12) 3, none⟩,
  ⟨(some 6), .assign (.tmp 13), none⟩]
def c133_r1 : List SOp := [
  ⟨(some 14), .move (.tmp 6), none⟩,
  ⟨(some 15), .binOp .geq 3 (.tmp 14) (.const (.int .i64 8)) 3, none⟩]
def c133_r2 : List SOp := [
  ⟨(some 16), .move (.tmp 6), none⟩,
  ⟨(some 17), .convert 3 200 (.tmp 16), none⟩,
  ⟨(some 7), .alloc 200, none⟩,
  ⟨none, .store 200 (.tmp 7) (.tmp 17), none⟩]
def c133_r3 : List SOp := [
  ⟨(some 18), .move (.tmp 6), none⟩,
  ⟨(some 19), .call ⟨.value (.func 143), #[(.tmp 18)], #[3]⟩, none⟩,
  ⟨(some 8), .assign (.tmp 19), none⟩]
def c133_r4 : List SOp := [
  ⟨(some 20), .move (.tmp 1), none⟩,
  ⟨(some 21), .move (.tmp 6), none⟩,
  ⟨(some 22), .binOp .quo 3 (.tmp 21) (.const (.int .i64 4)) 3, none⟩,
  ⟨(some 23), .binOp .mul 3 (.tmp 22) (.const (.int .i64 2)) 3, none⟩,
  ⟨(some 24), .binOp .add 3 (.tmp 20) (.tmp 23) 3, none⟩,
  ⟨(some 25), .binOp .sub 3 (.tmp 24) (.const (.int .i64 1)) 3, none⟩,
  ⟨(some 9), .assign (.tmp 25), none⟩]
def c133_r5 : List SOp := [
  ⟨(some 26), .move (.tmp 9), none⟩,
  ⟨(some 27), .move (.tmp 1), none⟩,
  ⟨(some 28), .move (.tmp 6), none⟩,
  ⟨(some 29), .binOp .quo 3 (.tmp 28) (.const (.int .i64 4)) 3, none⟩,
  ⟨(some 30), .binOp .mul 3 (.tmp 29) (.const (.int .i64 2)) 3, none⟩,
  ⟨(some 31), .binOp .add 3 (.tmp 27) (.tmp 30) 3, none⟩,
  ⟨(some 32), .binOp .add 3 (.tmp 31) (.const (.int .i64 1)) 3, none⟩,
  ⟨(some 33), .binOp .leq 3 (.tmp 26) (.tmp 32) 3, none⟩]
def c133_r7 : List SOp := [
  ⟨(some 36), .call ⟨.value (.func 144), #[(.tmp 7)], #[200]⟩, none⟩,
  ⟨(some 37), .move (.tmp 8), none⟩,
  ⟨(some 38), .binOp .sub 188 (.tmp 37) (.const (.int .u64 1)) 188, none⟩,
  ⟨(some 39), .binOp .and 188 (.tmp 36) (.tmp 38) 188, none⟩,
  ⟨(some 40), .convert 188 3 (.tmp 39), none⟩,
  ⟨(some 10), .assign (.tmp 40), none⟩]
def c133_r8 : List SOp := [
  ⟨(some 41), .move (.tmp 10), none⟩,
  ⟨(some 42), .move (.tmp 6), none⟩,
  ⟨(some 43), .binOp .geq 3 (.tmp 41) (.tmp 42) 3, none⟩]
def c133_r9 : List SOp := [
  ⟨(some 44), .move (.tmp 10), none⟩,
  ⟨(some 45), .move (.tmp 6), none⟩,
  ⟨(some 46), .binOp .sub 3 (.tmp 44) (.tmp 45) 3, none⟩,
  ⟨(some 10), .assign (.tmp 46), none⟩]
def c133_r10 : List SOp := [
  ⟨(some 47), .move (.tmp 0), none⟩,
  ⟨(some 48), .move (.tmp 9), none⟩,
  ⟨(some 49), .move (.tmp 0), none⟩,
  ⟨(some 50), .move (.tmp 1), none⟩,
  ⟨(some 51), .move (.tmp 10), none⟩,
  ⟨(some 52), .binOp .add 3 (.tmp 50) (.tmp 51) 3, none⟩,
  ⟨(some 53), .move (.tmp 0), none⟩,
  ⟨(some 54), .move (.tmp 1), none⟩,
  ⟨(some 55), .move (.tmp 10), none⟩,
  ⟨(some 56), .binOp .add 3 (.tmp 54) (.tmp 55) 3, none⟩,
  ⟨(some 57), .indexAddr 30 (.tmp 53) (.tmp 56), none⟩,
  ⟨(some 58), .load 3 (.tmp 57), none⟩,
  ⟨(some 59), .move (.tmp 0), none⟩,
  ⟨(some 60), .move (.tmp 9), none⟩,
  ⟨(some 61), .indexAddr 30 (.tmp 59) (.tmp 60), none⟩,
  ⟨(some 62), .load 3 (.tmp 61), none⟩,
  ⟨(some 63), .indexAddr 30 (.tmp 47) (.tmp 48), none⟩,
  ⟨none, .store 3 (.tmp 63) (.tmp 58), none⟩,
  ⟨(some 64), .indexAddr 30 (.tmp 49) (.tmp 52), none⟩,
  ⟨none, .store 3 (.tmp 64) (.tmp 62), none⟩]
def c133_r6 : List SOp := [
  ⟨(some 34), .move (.tmp 9), none⟩,
  ⟨(some 35), .binOp .add 3 (.tmp 34) (.const (.int .i64 1)) 3, none⟩,
  ⟨(some 9), .assign (.tmp 35), none⟩]
def c133_l5 : SC := (.seq (.seq (.reg c133_r5 none (some [0, 1, 6, 7, 8, 9, 33])) (.cond (.tmp 33) .skip (.exit 0) (some [0, 1, 6, 7, 8, 9]))) (.seq (.block 1 (.seq (.reg c133_r7 none (some [0, 1, 6, 7, 8, 9, 10])) (.seq (.seq (.reg c133_r8 none (some [0, 1, 6, 7, 8, 9, 10, 43])) (.cond (.tmp 43) (.reg c133_r9 none (some [0, 1, 6, 7, 8, 9, 10])) .skip (some [0, 1, 6, 7, 8, 9, 10]))) (.reg c133_r10 none (some [0, 1, 6, 7, 8, 9]))))) (.reg c133_r6 none (some [0, 1, 6, 7, 8, 9]))))
def c133 : SC := (.seq (.reg c133_r0 none (some [0, 1, 6])) (.seq (.reg c133_r1 none (some [0, 1, 6, 15])) (.cond (.tmp 15) (.seq (.reg c133_r2 none (some [0, 1, 6, 7])) (.seq (.reg c133_r3 none (some [0, 1, 6, 7, 8])) (.seq (.reg c133_r4 none (some [0, 1, 6, 7, 8, 9])) (.block 0 (.loop c133_l5 (some [0, 1, 6, 7, 8, 9])))))) .skip (some []))))
theorem c133_eq : ∃ code, Try.f133.body = some code ∧ compile H133 code = c133 := ⟨_, rfl, by kernel_rfl⟩
theorem c133_fn : Try.prog.funcs[133]? = some Try.f133 := by kernel_rfl
theorem c133_rs : Try.f133.results.toList = [] := by kernel_rfl
theorem c133_ok : fnB Try.prog H133 Try.f133 = true := by kernel_rfl
theorem c133_nt : Try.f133.ntmps = 65 := by kernel_rfl

/-! 134: slices.choosePivotOrdered[int] -/
def H134 : Hint := ⟨[(15, [6, 7]), (17, [6, 7]), (13, [6, 7]), (2000054, [6, 7]), (16, [11, 54]), (2000051, [6, 7]), (14, [11, 49, 51]), (12, [11, 49]), (11, [9, 11]), (10, [0, 9, 10, 11, 12]), (9, [0, 9, 10, 11, 12]), (8, [0, 9, 10, 11, 12]), (2000034, [0, 9, 10, 11, 12]), (7, [0, 9, 10, 11, 12, 34]), (2000032, [9, 11]), (6, [0, 8, 9, 10, 11, 12, 32]), (5, [0, 8, 9, 10, 11, 12]), (4, [0, 1, 8, 9, 10, 11]), (3, [0, 1, 8, 9, 10]), (2, [0, 1, 8, 9]), (1, [0, 1, 8]), (0, [0, 1, 2])], []⟩
def c134_r0 : List SOp := [
  ⟨(some 6), .assign (.const (.int .i64 0)), none⟩,
  ⟨(some 7), .assign (.const (.int .i64 0)), none⟩]
def c134_r1 : List SOp := [
  ⟨(some 13), .move (.tmp 2), none⟩,
  ⟨(some 14), .move (.tmp 1), none⟩,
  ⟨(some 15), .binOp .sub 3 (.tmp 13) (.tmp 14) 3, none⟩,
  ⟨(some 8), .assign (.tmp 15), none⟩]
def c134_r2 : List SOp := [
  ⟨(some 9), .alloc 3, none⟩]
def c134_r3 : List SOp := [
  ⟨(some 16), .move (.tmp 1), none⟩,
  ⟨(some 17), .move (.tmp 8), none⟩,
  ⟨(some 18), .binOp .quo 3 (.tmp 17) (.const (.int .i64 4)) 3, none⟩,
  ⟨(some 19), .binOp .mul 3 (.tmp 18) (.const (.int .i64 1)) 3, none⟩,
  ⟨(some 20), .binOp .add 3 (.tmp 16) (.tmp 19) 3, none⟩,
  ⟨(some 10), .assign (.tmp 20), none⟩]
def c134_r4 : List SOp := [
  ⟨(some 21), .move (.tmp 1), none⟩,
  ⟨(some 22), .move (.tmp 8), none⟩,
  ⟨(some 23), .binOp .quo 3 (.tmp 22) (.const (.int .i64 4)) 3, none⟩,
  ⟨(some 24), .binOp .mul 3 (.tmp 23) (.const (.int .i64 2)) 3, none⟩,
  ⟨(some 25), .binOp .add 3 (.tmp 21) (.tmp 24) 3, none⟩,
  ⟨(some 11), .assign (.tmp 25), none⟩]
def c134_r5 : List SOp := [
  ⟨(some 26), .move (.tmp 1), none⟩,
  ⟨(some 27), .move (.tmp 8), none⟩,
  ⟨(some 28), .binOp .quo 3 (.tmp 27) (.const (.int .i64 4)) 3, none⟩,
  ⟨(some 29), .binOp .mul 3 (.tmp 28) (.const (.int .i64 3)) 3, none⟩,
  ⟨(some 30), .binOp .add 3 (.tmp 26) (.tmp 29) 3, none⟩,
  ⟨(some 12), .assign (.tmp 30), none⟩]
def c134_r6 : List SOp := [
  ⟨(some 31), .move (.tmp 8), none⟩,
  ⟨(some 32), .binOp .geq 3 (.tmp 31) (.const (.int .i64 8)) 3, none⟩]
def c134_r7 : List SOp := [
  ⟨(some 33), .move (.tmp 8), none⟩,
  ⟨(some 34), .binOp .geq 3 (.tmp 33) (.const (.int .i64 50)) 3, none⟩]
def c134_r8 : List SOp := [
  ⟨(some 35), .move (.tmp 0), none⟩,
  ⟨(some 36), .move (.tmp 10), none⟩,
  ⟨(some 37), .call ⟨.value (.func 145), #[(.tmp 35), (.tmp 36), (.tmp 9)], #[30, 3, 204]⟩, none⟩,
  ⟨(some 10), .assign (.tmp 37), none⟩]
def c134_r9 : List SOp := [
  ⟨(some 38), .move (.tmp 0), none⟩,
  ⟨(some 39), .move (.tmp 11), none⟩,
  ⟨(some 40), .call ⟨.value (.func 145), #[(.tmp 38), (.tmp 39), (.tmp 9)], #[30, 3, 204]⟩, none⟩,
  ⟨(some 11), .assign (.tmp 40), none⟩]
def c134_r10 : List SOp := [
  ⟨(some 41), .move (.tmp 0), none⟩,
  ⟨(some 42), .move (.tmp 12), none⟩,
  ⟨(some 43), .call ⟨.value (.func 145), #[(.tmp 41), (.tmp 42), (.tmp 9)], #[30, 3, 204]⟩, none⟩,
  ⟨(some 12), .assign (.tmp 43), none⟩]
def c134_r11 : List SOp := [
  ⟨(some 44), .move (.tmp 0), none⟩,
  ⟨(some 45), .move (.tmp 10), none⟩,
  ⟨(some 46), .move (.tmp 11), none⟩,
  ⟨(some 47), .move (.tmp 12), none⟩,
  ⟨(some 48), .call ⟨.value (.func 146), #[(.tmp 44), (.tmp 45), (.tmp 46), (.tmp 47), (.tmp 9)], #[30, 3, 3, 3, 204]⟩, none⟩,
  ⟨(some 11), .assign (.tmp 48), none⟩]
def c134_r12 : List SOp := [
  ⟨(some 49), .load 3 (.tmp 9), none⟩]
def c134_r14 : List SOp := [
  ⟨(some 52), .binOp .eql 3 (.tmp 49) (.const (.int .i64 0)) 3, none⟩,
  ⟨(some 51), .assign (.tmp 52), none⟩]
def c134_r15 : List SOp := [
  ⟨(some 53), .move (.tmp 11), none⟩,
  ⟨(some 6), .assign (.tmp 53), none⟩,
  ⟨(some 7), .assign (.const (.int .i64 1)), none⟩]
def c134_r16 : List SOp := [
  ⟨(some 55), .binOp .eql 3 (.tmp 49) (.const (.int .i64 12)) 3, none⟩,
  ⟨(some 54), .assign (.tmp 55), none⟩]
def c134_r17 : List SOp := [
  ⟨(some 56), .move (.tmp 11), none⟩,
  ⟨(some 6), .assign (.tmp 56), none⟩,
  ⟨(some 7), .assign (.const (.int .i64 2)), none⟩]
def c134_r13 : List SOp := [
  ⟨(some 50), .move (.tmp 11), none⟩,
  ⟨(some 6), .assign (.tmp 50), none⟩,
  ⟨(some 7), .assign (.const (.int .i64 0)), none⟩]
def c134 : SC := (.seq (.reg c134_r0 none (some [0, 1, 2])) (.seq (.reg c134_r1 none (some [0, 1, 8])) (.seq (.reg c134_r2 none (some [0, 1, 8, 9])) (.seq (.reg c134_r3 none (some [0, 1, 8, 9, 10])) (.seq (.reg c134_r4 none (some [0, 1, 8, 9, 10, 11])) (.seq (.reg c134_r5 none (some [0, 8, 9, 10, 11, 12])) (.seq (.seq (.reg c134_r6 none (some [0, 8, 9, 10, 11, 12, 32])) (.cond (.tmp 32) (.seq (.seq (.reg c134_r7 none (some [0, 9, 10, 11, 12, 34])) (.cond (.tmp 34) (.seq (.reg c134_r8 none (some [0, 9, 10, 11, 12])) (.seq (.reg c134_r9 none (some [0, 9, 10, 11, 12])) (.reg c134_r10 none (some [0, 9, 10, 11, 12])))) .skip (some [0, 9, 10, 11, 12]))) (.reg c134_r11 none (some [9, 11]))) .skip (some [9, 11]))) (.seq (.reg c134_r12 none (some [11, 49])) (.block 0 (.seq (.reg c134_r14 none (some [11, 49, 51])) (.cond (.tmp 51) (.seq (.reg c134_r15 none (some [6, 7])) .ret) (.seq (.reg c134_r16 none (some [11, 54])) (.cond (.tmp 54) (.seq (.reg c134_r17 none (some [6, 7])) .ret) (.seq (.reg c134_r13 none (some [6, 7])) .ret) (some [6, 7]))) (some [6, 7]))))))))))))
theorem c134_eq : ∃ code, Try.f134.body = some code ∧ compile H134 code = c134 := ⟨_, rfl, by kernel_rfl⟩
theorem c134_fn : Try.prog.funcs[134]? = some Try.f134 := by kernel_rfl
theorem c134_rs : Try.f134.results.toList = [.tmp 6, .tmp 7] := by kernel_rfl
theorem c134_ok : fnB Try.prog H134 Try.f134 = true := by kernel_rfl
theorem c134_nt : Try.f134.ntmps = 57 := by kernel_rfl

/-! 135: slices.reverseRangeOrdered[int] -/
def H135 : Hint := ⟨[(5, [0, 6, 7]), (4, [0, 6, 7]), (3, [0, 6, 7]), (2000013, [0, 6, 7]), (2, [0, 6, 7, 13]), (1000002, [0, 6, 7]), (1, [0, 6, 7]), (0, [0, 2, 6])], []⟩
def c135_r0 : List SOp := [
  ⟨(some 8), .move (.tmp 1), none⟩,
  ⟨(some 6), .assign (.tmp 8), none⟩]
def c135_r1 : List SOp := [
  ⟨(some 9), .move (.tmp 2), none⟩,
  ⟨(some 10), .binOp .sub 3 (.tmp 9) (.const (.int .i64 1)) 3, none⟩,
  ⟨(some 7), .assign (.tmp 10), none⟩]
def c135_r2 : List SOp := [
  ⟨(some 11), .move (.tmp 6), none⟩,
  ⟨(some 12), .move (.tmp 7), none⟩,
  ⟨(some 13), .binOp .lss 3 (.tmp 11) (.tmp 12) 3, none⟩]
def c135_r3 : List SOp := [
  ⟨(some 14), .move (.tmp 0), none⟩,
  ⟨(some 15), .move (.tmp 6), none⟩,
  ⟨(some 16), .move (.tmp 0), none⟩,
  ⟨(some 17), .move (.tmp 7), none⟩,
  ⟨(some 18), .move (.tmp 0), none⟩,
  ⟨(some 19), .move (.tmp 7), none⟩,
  ⟨(some 20), .indexAddr 30 (.tmp 18) (.tmp 19), none⟩,
  ⟨(some 21), .load 3 (.tmp 20), none⟩,
  ⟨(some 22), .move (.tmp 0), none⟩,
  ⟨(some 23), .move (.tmp 6), none⟩,
  ⟨(some 24), .indexAddr 30 (.tmp 22) (.tmp 23), none⟩,
  ⟨(some 25), .load 3 (.tmp 24), none⟩,
  ⟨(some 26), .indexAddr 30 (.tmp 14) (.tmp 15), none⟩,
  ⟨none, .store 3 (.tmp 26) (.tmp 21), none⟩,
  ⟨(some 27), .indexAddr 30 (.tmp 16) (.tmp 17), none⟩,
  ⟨none, .store 3 (.tmp 27) (.tmp 25), none⟩]
def c135_r4 : List SOp := [
  ⟨(some 28), .move (.tmp 6), none⟩,
  ⟨(some 29), .binOp .add 3 (.tmp 28) (.const (.int .i64 1)) 3, none⟩,
  ⟨(some 6), .assign (.tmp 29), none⟩]
def c135_r5 : List SOp := [
  ⟨(some 30), .move (.tmp 7), none⟩,
  ⟨(some 31), .binOp .sub 3 (.tmp 30) (.const (.int .i64 1)) 3, none⟩,
  ⟨(some 7), .assign (.tmp 31), none⟩]
def c135_l2 : SC := (.seq (.seq (.reg c135_r2 none (some [0, 6, 7, 13])) (.cond (.tmp 13) .skip (.exit 0) (some [0, 6, 7]))) (.block 1 (.seq (.reg c135_r3 none (some [0, 6, 7])) (.seq (.reg c135_r4 none (some [0, 6, 7])) (.reg c135_r5 none (some [0, 6, 7]))))))
def c135 : SC := (.seq (.reg c135_r0 none (some [0, 2, 6])) (.seq (.reg c135_r1 none (some [0, 6, 7])) (.block 0 (.loop c135_l2 (some [0, 6, 7])))))
theorem c135_eq : ∃ code, Try.f135.body = some code ∧ compile H135 code = c135 := ⟨_, rfl, by kernel_rfl⟩
theorem c135_fn : Try.prog.funcs[135]? = some Try.f135 := by kernel_rfl
theorem c135_rs : Try.f135.results.toList = [] := by kernel_rfl
theorem c135_ok : fnB Try.prog H135 Try.f135 = true := by kernel_rfl
theorem c135_nt : Try.f135.ntmps = 32 := by kernel_rfl

/-! 136: slices.partialInsertionSortOrdered[int] -/
def H136 : Hint := ⟨[(24, [6]), (4, [0, 1, 2, 7, 8]), (21, [0, 1, 2, 7, 8, 10]), (23, [0, 1, 2, 7, 8, 10]), (2000116, [0, 1, 2, 7, 8, 10]), (22, [0, 1, 2, 7, 8, 10, 116]), (2000103, [0, 1, 2, 7, 8, 10]), (20, [0, 1, 2, 7, 8, 10, 103]), (1000020, [0, 1, 2, 7, 8, 10]), (19, [0, 1, 2, 7, 8, 10]), (2000098, [0, 1, 2, 7, 8]), (18, [0, 1, 2, 7, 8, 98]), (15, [0, 1, 2, 7, 8, 9]), (17, [0, 1, 2, 7, 8, 9]), (2000078, [0, 1, 2, 7, 8, 9]), (16, [0, 1, 2, 7, 8, 9, 78]), (2000065, [0, 1, 2, 7, 8, 9]), (14, [0, 1, 2, 7, 8, 9, 65]), (1000014, [0, 1, 2, 7, 8, 9]), (13, [0, 1, 2, 7, 8, 9]), (2000061, [0, 1, 2, 7, 8]), (12, [0, 1, 2, 7, 8, 61]), (11, [0, 1, 2, 7, 8]), (10, [6]), (2000041, [0, 1, 2, 7, 8]), (9, [0, 1, 2, 7, 8, 41]), (8, [6]), (2000037, [0, 1, 2, 7, 8]), (7, [0, 1, 2, 7, 8, 37]), (6, [0, 1, 2, 7, 8]), (2000032, [0, 1, 2, 7, 8]), (5, [0, 1, 2, 7, 8, 32]), (1000005, [0, 1, 2, 7, 8]), (2000014, [0, 1, 2, 7, 8]), (3, [0, 1, 2, 7, 8, 14]), (1000003, [0, 1, 2, 7, 8]), (2, [0, 1, 2, 7, 8]), (1, [0, 1, 2, 7]), (0, [0, 1, 2])], []⟩
def c136_r0 : List SOp := [
  ⟨(some 6), .assign (.const (.bool false)), none⟩]
def c136_r1 : List SOp := [
  ⟨(some 11), .move (.tmp 1), none⟩,
  ⟨(some 12), .binOp .add 3 (.tmp 11) (.const (.int .i64 1)) 3, none⟩,
  ⟨(some 7), .assign (.tmp 12), none⟩]
def c136_r2 : List SOp := [
  ⟨(some 8), .assign (.const (.int .i64 0)), none⟩]
def c136_r3 : List SOp := [
  ⟨(some 13), .move (.tmp 8), none⟩,
  ⟨(some 14), .binOp .lss 3 (.tmp 13) (.const (.int .i64 5)) 3, none⟩]
def c136_r5 : List SOp := [
  ⟨(some 17), .move (.tmp 7), none⟩,
  ⟨(some 18), .move (.tmp 2), none⟩,
  ⟨(some 19), .binOp .lss 3 (.tmp 17) (.tmp 18) 3, none⟩,
  ⟨(some 20), .move (.tmp 19), none⟩,
  ⟨(some 21), .move (.tmp 0), (some ((some 20), true))⟩,
  ⟨(some 22), .move (.tmp 7), (some ((some 20), true))⟩,
  ⟨(some 23), .indexAddr 30 (.tmp 21) (.tmp 22), (some ((some 20), true))⟩,
  ⟨(some 24), .load 3 (.tmp 23), (some ((some 20), true))⟩,
  ⟨(some 25), .move (.tmp 0), (some ((some 20), true))⟩,
  ⟨(some 26), .move (.tmp 7), (some ((some 20), true))⟩,
  ⟨(some 27), .binOp .sub 3 (.tmp 26) (.const (.int .i64 1)) 3, (some ((some 20), true))⟩,
  ⟨(some 28), .indexAddr 30 (.tmp 25) (.tmp 27), (some ((some 20), true))⟩,
  ⟨(some 29), .load 3 (.tmp 28), (some ((some 20), true))⟩,
  ⟨(some 30), .call ⟨.value (.func 137), #[(.tmp 24), (.tmp 29)], #[3, 3]⟩, (some ((some 20), true))⟩,
  ⟨(some 31), .unOp .not 4 (.tmp 30), (some ((some 20), true))⟩,
  ⟨(some 32), .pick (.tmp 20) (.tmp 31) (.const (.bool false)), none⟩]
def c136_r6 : List SOp := [
  ⟨(some 33), .move (.tmp 7), none⟩,
  ⟨(some 34), .binOp .add 3 (.tmp 33) (.const (.int .i64 1)) 3, none⟩,
  ⟨(some 7), .assign (.tmp 34), none⟩]
def c136_l5 : SC := (.seq (.seq (.reg c136_r5 none (some [0, 1, 2, 7, 8, 32])) (.cond (.tmp 32) .skip (.exit 2) (some [0, 1, 2, 7, 8]))) (.block 3 (.reg c136_r6 none (some [0, 1, 2, 7, 8]))))
def c136_r7 : List SOp := [
  ⟨(some 35), .move (.tmp 7), none⟩,
  ⟨(some 36), .move (.tmp 2), none⟩,
  ⟨(some 37), .binOp .eql 3 (.tmp 35) (.tmp 36) 3, none⟩]
def c136_r8 : List SOp := [
  ⟨(some 6), .assign (.const (.bool true)), none⟩]
def c136_r9 : List SOp := [
  ⟨(some 38), .move (.tmp 2), none⟩,
  ⟨(some 39), .move (.tmp 1), none⟩,
  ⟨(some 40), .binOp .sub 3 (.tmp 38) (.tmp 39) 3, none⟩,
  ⟨(some 41), .binOp .lss 3 (.tmp 40) (.const (.int .i64 50)) 3, none⟩]
def c136_r10 : List SOp := [
  ⟨(some 6), .assign (.const (.bool false)), none⟩]
def c136_r11 : List SOp := [
  ⟨(some 42), .move (.tmp 0), none⟩,
  ⟨(some 43), .move (.tmp 7), none⟩,
  ⟨(some 44), .move (.tmp 0), none⟩,
  ⟨(some 45), .move (.tmp 7), none⟩,
  ⟨(some 46), .binOp .sub 3 (.tmp 45) (.const (.int .i64 1)) 3, none⟩,
  ⟨(some 47), .move (.tmp 0), none⟩,
  ⟨(some 48), .move (.tmp 7), none⟩,
  ⟨(some 49), .binOp .sub 3 (.tmp 48) (.const (.int .i64 1)) 3, none⟩,
  ⟨(some 50), .indexAddr 30 (.tmp 47) (.tmp 49), none⟩,
  ⟨(some 51), .load 3 (.tmp 50), none⟩,
  ⟨(some 52), .move (.tmp 0), none⟩,
  ⟨(some 53), .move (.tmp 7), none⟩,
  ⟨(some 54), .indexAddr 30 (.tmp 52) (.tmp 53), none⟩,
  ⟨(some 55), .load 3 (.tmp 54), none⟩,
  ⟨(some 56), .indexAddr 30 (.tmp 42) (.tmp 43), none⟩,
  ⟨none, .store 3 (.tmp 56) (.tmp 51), none⟩,
  ⟨(some 57), .indexAddr 30 (.tmp 44) (.tmp 46), none⟩,
  ⟨none, .store 3 (.tmp 57) (.tmp 55), none⟩]
def c136_r12 : List SOp := [
  ⟨(some 58), .move (.tmp 7), none⟩,
  ⟨(some 59), .move (.tmp 1), none⟩,
  ⟨(some 60), .binOp .sub 3 (.tmp 58) (.tmp 59) 3, none⟩,
  ⟨(some 61), .binOp .geq 3 (.tmp 60) (.const (.int .i64 2)) 3, none⟩]
def c136_r13 : List SOp := [
  ⟨(some 62), .move (.tmp 7), none⟩,
  ⟨(some 63), .binOp .sub 3 (.tmp 62) (.const (.int .i64 1)) 3, none⟩,
  ⟨(some 9), .assign (.tmp 63), none⟩]
def c136_r14 : List SOp := [
  ⟨(some 64), .move (.tmp 9), none⟩,
  ⟨(some 65), .binOp .geq 3 (.tmp 64) (.const (.int .i64 1)) 3, none⟩]
def c136_r16 : List SOp := [
  ⟨(some 68), .move (.tmp 0), none⟩,
  ⟨(some 69), .move (.tmp 9), none⟩,
  ⟨(some 70), .indexAddr 30 (.tmp 68) (.tmp 69), none⟩,
  ⟨(some 71), .load 3 (.tmp 70), none⟩,
  ⟨(some 72), .move (.tmp 0), none⟩,
  ⟨(some 73), .move (.tmp 9), none⟩,
  ⟨(some 74), .binOp .sub 3 (.tmp 73) (.const (.int .i64 1)) 3, none⟩,
  ⟨(some 75), .indexAddr 30 (.tmp 72) (.tmp 74), none⟩,
  ⟨(some 76), .load 3 (.tmp 75), none⟩,
  ⟨(some 77), .call ⟨.value (.func 137), #[(.tmp 71), (.tmp 76)], #[3, 3]⟩, none⟩,
  ⟨(some 78), .unOp .not 4 (.tmp 77), none⟩]
def c136_r17 : List SOp := [
  ⟨(some 79), .move (.tmp 0), none⟩,
  ⟨(some 80), .move (.tmp 9), none⟩,
  ⟨(some 81), .move (.tmp 0), none⟩,
  ⟨(some 82), .move (.tmp 9), none⟩,
  ⟨(some 83), .binOp .sub 3 (.tmp 82) (.const (.int .i64 1)) 3, none⟩,
  ⟨(some 84), .move (.tmp 0), none⟩,
  ⟨(some 85), .move (.tmp 9), none⟩,
  ⟨(some 86), .binOp .sub 3 (.tmp 85) (.const (.int .i64 1)) 3, none⟩,
  ⟨(some 87), .indexAddr 30 (.tmp 84) (.tmp 86), none⟩,
  ⟨(some 88), .load 3 (.tmp 87), none⟩,
  ⟨(some 89), .move (.tmp 0), none⟩,
  ⟨(some 90), .move (.tmp 9), none⟩,
  ⟨(some 91), .indexAddr 30 (.tmp 89) (.tmp 90), none⟩,
  ⟨(some 92), .load 3 (.tmp 91), none⟩,
  ⟨(some 93), .indexAddr 30 (.tmp 79) (.tmp 80), none⟩,
  ⟨none, .store 3 (.tmp 93) (.tmp 88), none⟩,
  ⟨(some 94), .indexAddr 30 (.tmp 81) (.tmp 83), none⟩,
  ⟨none, .store 3 (.tmp 94) (.tmp 92), none⟩]
def c136_r15 : List SOp := [
  ⟨(some 66), .move (.tmp 9), none⟩,
  ⟨(some 67), .binOp .sub 3 (.tmp 66) (.const (.int .i64 1)) 3, none⟩,
  ⟨(some 9), .assign (.tmp 67), none⟩]
def c136_l14 : SC := (.seq (.seq (.reg c136_r14 none (some [0, 1, 2, 7, 8, 9, 65])) (.cond (.tmp 65) .skip (.exit 4) (some [0, 1, 2, 7, 8, 9]))) (.seq (.block 5 (.seq (.seq (.reg c136_r16 none (some [0, 1, 2, 7, 8, 9, 78])) (.cond (.tmp 78) (.exit 4) .skip (some [0, 1, 2, 7, 8, 9]))) (.reg c136_r17 none (some [0, 1, 2, 7, 8, 9])))) (.reg c136_r15 none (some [0, 1, 2, 7, 8, 9]))))
def c136_r18 : List SOp := [
  ⟨(some 95), .move (.tmp 2), none⟩,
  ⟨(some 96), .move (.tmp 7), none⟩,
  ⟨(some 97), .binOp .sub 3 (.tmp 95) (.tmp 96) 3, none⟩,
  ⟨(some 98), .binOp .geq 3 (.tmp 97) (.const (.int .i64 2)) 3, none⟩]
def c136_r19 : List SOp := [
  ⟨(some 99), .move (.tmp 7), none⟩,
  ⟨(some 100), .binOp .add 3 (.tmp 99) (.const (.int .i64 1)) 3, none⟩,
  ⟨(some 10), .assign (.tmp 100), none⟩]
def c136_r20 : List SOp := [
  ⟨(some 101), .move (.tmp 10), none⟩,
  ⟨(some 102), .move (.tmp 2), none⟩,
  ⟨(some 103), .binOp .lss 3 (.tmp 101) (.tmp 102) 3, none⟩]
def c136_r22 : List SOp := [
  ⟨(some 106), .move (.tmp 0), none⟩,
  ⟨(some 107), .move (.tmp 10), none⟩,
  ⟨(some 108), .indexAddr 30 (.tmp 106) (.tmp 107), none⟩,
  ⟨(some 109), .load 3 (.tmp 108), none⟩,
  ⟨(some 110), .move (.tmp 0), none⟩,
  ⟨(some 111), .move (.tmp 10), none⟩,
  ⟨(some 112), .binOp .sub 3 (.tmp 111) (.const (.int .i64 1)) 3, none⟩,
  ⟨(some 113), .indexAddr 30 (.tmp 110) (.tmp 112), none⟩,
  ⟨(some 114), .load 3 (.tmp 113), none⟩,
  ⟨(some 115), .call ⟨.value (.func 137), #[(.tmp 109), (.tmp 114)], #[3, 3]⟩, none⟩,
  ⟨(some 116), .unOp .not 4 (.tmp 115), none⟩]
def c136_r23 : List SOp := [
  ⟨(some 117), .move (.tmp 0), none⟩,
  ⟨(some 118), .move (.tmp 10), none⟩,
  ⟨(some 119), .move (.tmp 0), none⟩,
  ⟨(some 120), .move (.tmp 10), none⟩,
  ⟨(some 121), .binOp .sub 3 (.tmp 120) (.const (.int .i64 1)) 3, none⟩,
  ⟨(some 122), .move (.tmp 0), none⟩,
  ⟨(some 123), .move (.tmp 10), none⟩,
  ⟨(some 124), .binOp .sub 3 (.tmp 123) (.const (.int .i64 1)) 3, none⟩,
  ⟨(some 125), .indexAddr 30 (.tmp 122) (.tmp 124), none⟩,
  ⟨(some 126), .load 3 (.tmp 125), none⟩,
  ⟨(some 127), .move (.tmp 0), none⟩,
  ⟨(some 128), .move (.tmp 10), none⟩,
  ⟨(some 129), .indexAddr 30 (.tmp 127) (.tmp 128), none⟩,
  ⟨(some 130), .load 3 (.tmp 129), none⟩,
  ⟨(some 131), .indexAddr 30 (.tmp 117) (.tmp 118), none⟩,
  ⟨none, .store 3 (.tmp 131) (.tmp 126), none⟩,
  ⟨(some 132), .indexAddr 30 (.tmp 119) (.tmp 121), none⟩,
  ⟨none, .store 3 (.tmp 132) (.tmp 130), none⟩]
def c136_r21 : List SOp := [
  ⟨(some 104), .move (.tmp 10), none⟩,
  ⟨(some 105), .binOp .add 3 (.tmp 104) (.const (.int .i64 1)) 3, none⟩,
  ⟨(some 10), .assign (.tmp 105), none⟩]
def c136_l20 : SC := (.seq (.seq (.reg c136_r20 none (some [0, 1, 2, 7, 8, 10, 103])) (.cond (.tmp 103) .skip (.exit 6) (some [0, 1, 2, 7, 8, 10]))) (.seq (.block 7 (.seq (.seq (.reg c136_r22 none (some [0, 1, 2, 7, 8, 10, 116])) (.cond (.tmp 116) (.exit 6) .skip (some [0, 1, 2, 7, 8, 10]))) (.reg c136_r23 none (some [0, 1, 2, 7, 8, 10])))) (.reg c136_r21 none (some [0, 1, 2, 7, 8, 10]))))
def c136_r4 : List SOp := [
  ⟨(some 15), .move (.tmp 8), none⟩,
  ⟨(some 16), .binOp .add 3 (.tmp 15) (.const (.int .i64 1)) 3, none⟩,
  ⟨(some 8), .assign (.tmp 16), none⟩]
def c136_l3 : SC := (.seq (.seq (.reg c136_r3 none (some [0, 1, 2, 7, 8, 14])) (.cond (.tmp 14) .skip (.exit 0) (some [0, 1, 2, 7, 8]))) (.seq (.block 1 (.seq (.block 2 (.loop c136_l5 (some [0, 1, 2, 7, 8]))) (.seq (.seq (.reg c136_r7 none (some [0, 1, 2, 7, 8, 37])) (.cond (.tmp 37) (.seq (.reg c136_r8 none (some [6])) .ret) .skip (some [0, 1, 2, 7, 8]))) (.seq (.seq (.reg c136_r9 none (some [0, 1, 2, 7, 8, 41])) (.cond (.tmp 41) (.seq (.reg c136_r10 none (some [6])) .ret) .skip (some [0, 1, 2, 7, 8]))) (.seq (.reg c136_r11 none (some [0, 1, 2, 7, 8])) (.seq (.seq (.reg c136_r12 none (some [0, 1, 2, 7, 8, 61])) (.cond (.tmp 61) (.seq (.reg c136_r13 none (some [0, 1, 2, 7, 8, 9])) (.block 4 (.loop c136_l14 (some [0, 1, 2, 7, 8, 9])))) .skip (some [0, 1, 2, 7, 8]))) (.seq (.reg c136_r18 none (some [0, 1, 2, 7, 8, 98])) (.cond (.tmp 98) (.seq (.reg c136_r19 none (some [0, 1, 2, 7, 8, 10])) (.block 6 (.loop c136_l20 (some [0, 1, 2, 7, 8, 10])))) .skip (some [0, 1, 2, 7, 8]))))))))) (.reg c136_r4 none (some [0, 1, 2, 7, 8]))))
def c136_r24 : List SOp := [
  ⟨(some 6), .assign (.const (.bool false)), none⟩]
def c136 : SC := (.seq (.reg c136_r0 none (some [0, 1, 2])) (.seq (.reg c136_r1 none (some [0, 1, 2, 7])) (.seq (.seq (.reg c136_r2 none (some [0, 1, 2, 7, 8])) (.block 0 (.loop c136_l3 (some [0, 1, 2, 7, 8])))) (.seq (.reg c136_r24 none (some [6])) .ret))))
theorem c136_eq : ∃ code, Try.f136.body = some code ∧ compile H136 code = c136 := ⟨_, rfl, by kernel_rfl⟩
theorem c136_fn : Try.prog.funcs[136]? = some Try.f136 := by kernel_rfl
theorem c136_rs : Try.f136.results.toList = [.tmp 6] := by kernel_rfl
theorem c136_ok : fnB Try.prog H136 Try.f136 = true := by kernel_rfl
theorem c136_nt : Try.f136.ntmps = 133 := by kernel_rfl

/-! 137: cmp.Less[int] -/
def H137 : Hint := ⟨[(1, [4]), (0, [0, 1])], []⟩
def c137_r0 : List SOp := [
  ⟨(some 4), .assign (.const (.bool false)), none⟩]
def c137_r1 : List SOp := [
  ⟨(some 5), .move (.tmp 0), none⟩,
  ⟨(some 6), .call ⟨.value (.func 147), #[(.tmp 5)], #[3]⟩, none⟩,
  ⟨(some 7), .move (.tmp 6), none⟩,
  ⟨(some 8), .move (.tmp 1), (some ((some 7), true))⟩,
  ⟨(some 9), .call ⟨.value (.func 147), #[(.tmp 8)], #[3]⟩, (some ((some 7), true))⟩,
  ⟨(some 10), .unOp .not 4 (.tmp 9), (some ((some 7), true))⟩,
  ⟨(some 11), .pick (.tmp 7) (.tmp 10) (.const (.bool false)), none⟩,
  ⟨(some 12), .move (.tmp 11), none⟩,
  ⟨(some 13), .move (.tmp 0), (some ((some 12), false))⟩,
  ⟨(some 14), .move (.tmp 1), (some ((some 12), false))⟩,
  ⟨(some 15), .binOp .lss 3 (.tmp 13) (.tmp 14) 3, (some ((some 12), false))⟩,
  ⟨(some 16), .pick (.tmp 12) (.const (.bool true)) (.tmp 15), none⟩,
  ⟨(some 4), .assign (.tmp 16), none⟩]
def c137 : SC := (.seq (.reg c137_r0 none (some [0, 1])) (.seq (.reg c137_r1 none (some [4])) .ret))
theorem c137_eq : ∃ code, Try.f137.body = some code ∧ compile H137 code = c137 := ⟨_, rfl, by kernel_rfl⟩
theorem c137_fn : Try.prog.funcs[137]? = some Try.f137 := by kernel_rfl
theorem c137_rs : Try.f137.results.toList = [.tmp 4] := by kernel_rfl
theorem c137_ok : fnB Try.prog H137 Try.f137 = true := by kernel_rfl
theorem c137_nt : Try.f137.ntmps = 17 := by kernel_rfl

/-! 138: slices.partitionEqualOrdered[int] -/
def H138 : Hint := ⟨[(11, [8]), (10, [0, 1, 9, 10]), (9, [0, 1, 9, 10]), (8, [0, 1, 9, 10]), (2000064, [0, 1, 9, 10]), (7, [0, 1, 9, 10, 64]), (6, [0, 1, 9, 10]), (2000059, [0, 1, 9, 10]), (5, [0, 1, 9, 10, 59]), (1000005, [0, 1, 9, 10]), (4, [0, 1, 9, 10]), (2000043, [0, 1, 9, 10]), (3, [0, 1, 9, 10, 43]), (1000003, [0, 1, 9, 10]), (2, [0, 1, 9, 10]), (1, [0, 1, 2]), (0, [0, 1, 2, 3])], []⟩
def c138_r0 : List SOp := [
  ⟨(some 8), .assign (.const (.int .i64 0)), none⟩]
def c138_r1 : List SOp := [
  ⟨(some 11), .move (.tmp 0), none⟩,
  ⟨(some 12), .move (.tmp 1), none⟩,
  ⟨(some 13), .move (.tmp 0), none⟩,
  ⟨(some 14), .move (.tmp 3), none⟩,
  ⟨(some 15), .move (.tmp 0), none⟩,
  ⟨(some 16), .move (.tmp 3), none⟩,
  ⟨(some 17), .indexAddr 30 (.tmp 15) (.tmp 16), none⟩,
  ⟨(some 18), .load 3 (.tmp 17), none⟩,
  ⟨(some 19), .move (.tmp 0), none⟩,
  ⟨(some 20), .move (.tmp 1), none⟩,
  ⟨(some 21), .indexAddr 30 (.tmp 19) (.tmp 20), none⟩,
  ⟨(some 22), .load 3 (.tmp 21), none⟩,
  ⟨(some 23), .indexAddr 30 (.tmp 11) (.tmp 12), none⟩,
  ⟨none, .store 3 (.tmp 23) (.tmp 18), none⟩,
  ⟨(some 24), .indexAddr 30 (.tmp 13) (.tmp 14), none⟩,
  ⟨none, .store 3 (.tmp 24) (.tmp 22), none⟩]
def c138_r2 : List SOp := [
  ⟨(some 25), .move (.tmp 1), none⟩,
  ⟨(some 26), .binOp .add 3 (.tmp 25) (.const (.int .i64 1)) 3, none⟩,
  ⟨(some 27), .move (.tmp 2), none⟩,
  ⟨(some 28), .binOp .sub 3 (.tmp 27) (.const (.int .i64 1)) 3, none⟩,
  ⟨(some 9), .assign (.tmp 26), none⟩,
  ⟨(some 10), .assign (.tmp 28), none⟩]
def c138_r3 : List SOp := [
  ⟨(some 29), .move (.tmp 9), none⟩,
  ⟨(some 30), .move (.tmp 10), none⟩,
  ⟨(some 31), .binOp .leq 3 (.tmp 29) (.tmp 30) 3, none⟩,
  ⟨(some 32), .move (.tmp 31), none⟩,
  ⟨(some 33), .move (.tmp 0), (some ((some 32), true))⟩,
  ⟨(some 34), .move (.tmp 1), (some ((some 32), true))⟩,
  ⟨(some 35), .indexAddr 30 (.tmp 33) (.tmp 34), (some ((some 32), true))⟩,
  ⟨(some 36), .load 3 (.tmp 35), (some ((some 32), true))⟩,
  ⟨(some 37), .move (.tmp 0), (some ((some 32), true))⟩,
  ⟨(some 38), .move (.tmp 9), (some ((some 32), true))⟩,
  ⟨(some 39), .indexAddr 30 (.tmp 37) (.tmp 38), (some ((some 32), true))⟩,
  ⟨(some 40), .load 3 (.tmp 39), (some ((some 32), true))⟩,
  ⟨(some 41), .call ⟨.value (.func 137), #[(.tmp 36), (.tmp 40)], #[3, 3]⟩, (some ((some 32), true))⟩,
  ⟨(some 42), .unOp .not 4 (.tmp 41), (some ((some 32), true))⟩,
  ⟨(some 43), .pick (.tmp 32) (.tmp 42) (.const (.bool false)), none⟩]
def c138_r4 : List SOp := [
  ⟨(some 44), .move (.tmp 9), none⟩,
  ⟨(some 45), .binOp .add 3 (.tmp 44) (.const (.int .i64 1)) 3, none⟩,
  ⟨(some 9), .assign (.tmp 45), none⟩]
def c138_l3 : SC := (.seq (.seq (.reg c138_r3 none (some [0, 1, 9, 10, 43])) (.cond (.tmp 43) .skip (.exit 2) (some [0, 1, 9, 10]))) (.block 3 (.reg c138_r4 none (some [0, 1, 9, 10]))))
def c138_r5 : List SOp := [
  ⟨(some 46), .move (.tmp 9), none⟩,
  ⟨(some 47), .move (.tmp 10), none⟩,
  ⟨(some 48), .binOp .leq 3 (.tmp 46) (.tmp 47) 3, none⟩,
  ⟨(some 49), .move (.tmp 48), none⟩,
  ⟨(some 50), .move (.tmp 0), (some ((some 49), true))⟩,
  ⟨(some 51), .move (.tmp 1), (some ((some 49), true))⟩,
  ⟨(some 52), .indexAddr 30 (.tmp 50) (.tmp 51), (some ((some 49), true))⟩,
  ⟨(some 53), .load 3 (.tmp 52), (some ((some 49), true))⟩,
  ⟨(some 54), .move (.tmp 0), (some ((some 49), true))⟩,
  ⟨(some 55), .move (.tmp 10), (some ((some 49), true))⟩,
  ⟨(some 56), .indexAddr 30 (.tmp 54) (.tmp 55), (some ((some 49), true))⟩,
  ⟨(some 57), .load 3 (.tmp 56), (some ((some 49), true))⟩,
  ⟨(some 58), .call ⟨.value (.func 137), #[(.tmp 53), (.tmp 57)], #[3, 3]⟩, (some ((some 49), true))⟩,
  ⟨(some 59), .pick (.tmp 49) (.tmp 58) (.const (.bool false)), none⟩]
def c138_r6 : List SOp := [
  ⟨(some 60), .move (.tmp 10), none⟩,
  ⟨(some 61), .binOp .sub 3 (.tmp 60) (.const (.int .i64 1)) 3, none⟩,
  ⟨(some 10), .assign (.tmp 61), none⟩]
def c138_l5 : SC := (.seq (.seq (.reg c138_r5 none (some [0, 1, 9, 10, 59])) (.cond (.tmp 59) .skip (.exit 4) (some [0, 1, 9, 10]))) (.block 5 (.reg c138_r6 none (some [0, 1, 9, 10]))))
def c138_r7 : List SOp := [
  ⟨(some 62), .move (.tmp 9), none⟩,
  ⟨(some 63), .move (.tmp 10), none⟩,
  ⟨(some 64), .binOp .gtr 3 (.tmp 62) (.tmp 63) 3, none⟩]
def c138_r8 : List SOp := [
  ⟨(some 65), .move (.tmp 0), none⟩,
  ⟨(some 66), .move (.tmp 9), none⟩,
  ⟨(some 67), .move (.tmp 0), none⟩,
  ⟨(some 68), .move (.tmp 10), none⟩,
  ⟨(some 69), .move (.tmp 0), none⟩,
  ⟨(some 70), .move (.tmp 10), none⟩,
  ⟨(some 71), .indexAddr 30 (.tmp 69) (.tmp 70), none⟩,
  ⟨(some 72), .load 3 (.tmp 71), none⟩,
  ⟨(some 73), .move (.tmp 0), none⟩,
  ⟨(some 74), .move (.tmp 9), none⟩,
  ⟨(some 75), .indexAddr 30 (.tmp 73) (.tmp 74), none⟩,
  ⟨(some 76), .load 3 (.tmp 75), none⟩,
  ⟨(some 77), .indexAddr 30 (.tmp 65) (.tmp 66), none⟩,
  ⟨none, .store 3 (.tmp 77) (.tmp 72), none⟩,
  ⟨(some 78), .indexAddr 30 (.tmp 67) (.tmp 68), none⟩,
  ⟨none, .store 3 (.tmp 78) (.tmp 76), none⟩]
def c138_r9 : List SOp := [
  ⟨(some 79), .move (.tmp 9), none⟩,
  ⟨(some 80), .binOp .add 3 (.tmp 79) (.const (.int .i64 1)) 3, none⟩,
  ⟨(some 9), .assign (.tmp 80), none⟩]
def c138_r10 : List SOp := [
  ⟨(some 81), .move (.tmp 10), none⟩,
  ⟨(some 82), .binOp .sub 3 (.tmp 81) (.const (.int .i64 1)) 3, none⟩,
  ⟨(some 10), .assign (.tmp 82), none⟩]
def c138_l3x2 : SC := (.block 1 (.seq (.block 2 (.loop c138_l3 (some [0, 1, 9, 10]))) (.seq (.block 4 (.loop c138_l5 (some [0, 1, 9, 10]))) (.seq (.seq (.reg c138_r7 none (some [0, 1, 9, 10, 64])) (.cond (.tmp 64) (.exit 0) .skip (some [0, 1, 9, 10]))) (.seq (.reg c138_r8 none (some [0, 1, 9, 10])) (.seq (.reg c138_r9 none (some [0, 1, 9, 10])) (.reg c138_r10 none (some [0, 1, 9, 10]))))))))
def c138_r11 : List SOp := [
  ⟨(some 83), .move (.tmp 9), none⟩,
  ⟨(some 8), .assign (.tmp 83), none⟩]
def c138 : SC := (.seq (.reg c138_r0 none (some [0, 1, 2, 3])) (.seq (.reg c138_r1 none (some [0, 1, 2])) (.seq (.reg c138_r2 none (some [0, 1, 9, 10])) (.seq (.block 0 (.loop c138_l3x2 (some [0, 1, 9, 10]))) (.seq (.reg c138_r11 none (some [8])) .ret)))))
theorem c138_eq : ∃ code, Try.f138.body = some code ∧ compile H138 code = c138 := ⟨_, rfl, by kernel_rfl⟩
theorem c138_fn : Try.prog.funcs[138]? = some Try.f138 := by kernel_rfl
theorem c138_rs : Try.f138.results.toList = [.tmp 8] := by kernel_rfl
theorem c138_ok : fnB Try.prog H138 Try.f138 = true := by kernel_rfl
theorem c138_nt : Try.f138.ntmps = 84 := by kernel_rfl

/-! 139: slices.partitionOrdered[int] -/
def H139 : Hint := ⟨[(22, [8, 9]), (21, [11]), (20, [0, 1, 10, 11]), (19, [0, 1, 10, 11]), (18, [0, 1, 10, 11]), (2000134, [0, 1, 10, 11]), (17, [0, 1, 10, 11, 134]), (16, [0, 1, 10, 11]), (2000129, [0, 1, 10, 11]), (15, [0, 1, 10, 11, 129]), (1000015, [0, 1, 10, 11]), (14, [0, 1, 10, 11]), (2000112, [0, 1, 10, 11]), (13, [0, 1, 10, 11, 112]), (1000013, [0, 1, 10, 11]), (12, [0, 1, 10, 11]), (11, [0, 1, 10, 11]), (10, [0, 1, 10, 11]), (9, [8, 9]), (8, [11]), (2000065, [0, 1, 10, 11]), (7, [0, 1, 10, 11, 65]), (6, [0, 1, 10, 11]), (2000060, [0, 1, 10, 11]), (5, [0, 1, 10, 11, 60]), (1000005, [0, 1, 10, 11]), (4, [0, 1, 10, 11]), (2000043, [0, 1, 10, 11]), (3, [0, 1, 10, 11, 43]), (1000003, [0, 1, 10, 11]), (2, [0, 1, 10, 11]), (1, [0, 1, 2]), (0, [0, 1, 2, 3])], []⟩
def c139_r0 : List SOp := [
  ⟨(some 8), .assign (.const (.int .i64 0)), none⟩,
  ⟨(some 9), .assign (.const (.bool false)), none⟩]
def c139_r1 : List SOp := [
  ⟨(some 12), .move (.tmp 0), none⟩,
  ⟨(some 13), .move (.tmp 1), none⟩,
  ⟨(some 14), .move (.tmp 0), none⟩,
  ⟨(some 15), .move (.tmp 3), none⟩,
  ⟨(some 16), .move (.tmp 0), none⟩,
  ⟨(some 17), .move (.tmp 3), none⟩,
  ⟨(some 18), .indexAddr 30 (.tmp 16) (.tmp 17), none⟩,
  ⟨(some 19), .load 3 (.tmp 18), none⟩,
  ⟨(some 20), .move (.tmp 0), none⟩,
  ⟨(some 21), .move (.tmp 1), none⟩,
  ⟨(some 22), .indexAddr 30 (.tmp 20) (.tmp 21), none⟩,
  ⟨(some 23), .load 3 (.tmp 22), none⟩,
  ⟨(some 24), .indexAddr 30 (.tmp 12) (.tmp 13), none⟩,
  ⟨none, .store 3 (.tmp 24) (.tmp 19), none⟩,
  ⟨(some 25), .indexAddr 30 (.tmp 14) (.tmp 15), none⟩,
  ⟨none, .store 3 (.tmp 25) (.tmp 23), none⟩]
def c139_r2 : List SOp := [
  ⟨(some 26), .move (.tmp 1), none⟩,
  ⟨(some 27), .binOp .add 3 (.tmp 26) (.const (.int .i64 1)) 3, none⟩,
  ⟨(some 28), .move (.tmp 2), none⟩,
  ⟨(some 29), .binOp .sub 3 (.tmp 28) (.const (.int .i64 1)) 3, none⟩,
  ⟨(some 10), .assign (.tmp 27), none⟩,
  ⟨(some 11), .assign (.tmp 29), none⟩]
def c139_r3 : List SOp := [
  ⟨(some 30), .move (.tmp 10), none⟩,
  ⟨(some 31), .move (.tmp 11), none⟩,
  ⟨(some 32), .binOp .leq 3 (.tmp 30) (.tmp 31) 3, none⟩,
  ⟨(some 33), .move (.tmp 32), none⟩,
  ⟨(some 34), .move (.tmp 0), (some ((some 33), true))⟩,
  ⟨(some 35), .move (.tmp 10), (some ((some 33), true))⟩,
  ⟨(some 36), .indexAddr 30 (.tmp 34) (.tmp 35), (some ((some 33), true))⟩,
  ⟨(some 37), .load 3 (.tmp 36), (some ((some 33), true))⟩,
  ⟨(some 38), .move (.tmp 0), (some ((some 33), true))⟩,
  ⟨(some 39), .move (.tmp 1), (some ((some 33), true))⟩,
  ⟨(some 40), .indexAddr 30 (.tmp 38) (.tmp 39), (some ((some 33), true))⟩,
  ⟨(some 41), .load 3 (.tmp 40), (some ((some 33), true))⟩,
  ⟨(some 42), .call ⟨.value (.func 137), #[(.tmp 37), (.tmp 41)], #[3, 3]⟩, (some ((some 33), true))⟩,
  ⟨(some 43), .pick (.tmp 33) (.tmp 42) (.const (.bool false)), none⟩]
def c139_r4 : List SOp := [
  ⟨(some 44), .move (.tmp 10), none⟩,
  ⟨(some 45), .binOp .add 3 (.tmp 44) (.const (.int .i64 1)) 3, none⟩,
  ⟨(some 10), .assign (.tmp 45), none⟩]
def c139_l3 : SC := (.seq (.seq (.reg c139_r3 none (some [0, 1, 10, 11, 43])) (.cond (.tmp 43) .skip (.exit 0) (some [0, 1, 10, 11]))) (.block 1 (.reg c139_r4 none (some [0, 1, 10, 11]))))
def c139_r5 : List SOp := [
  ⟨(some 46), .move (.tmp 10), none⟩,
  ⟨(some 47), .move (.tmp 11), none⟩,
  ⟨(some 48), .binOp .leq 3 (.tmp 46) (.tmp 47) 3, none⟩,
  ⟨(some 49), .move (.tmp 48), none⟩,
  ⟨(some 50), .move (.tmp 0), (some ((some 49), true))⟩,
  ⟨(some 51), .move (.tmp 11), (some ((some 49), true))⟩,
  ⟨(some 52), .indexAddr 30 (.tmp 50) (.tmp 51), (some ((some 49), true))⟩,
  ⟨(some 53), .load 3 (.tmp 52), (some ((some 49), true))⟩,
  ⟨(some 54), .move (.tmp 0), (some ((some 49), true))⟩,
  ⟨(some 55), .move (.tmp 1), (some ((some 49), true))⟩,
  ⟨(some 56), .indexAddr 30 (.tmp 54) (.tmp 55), (some ((some 49), true))⟩,
  ⟨(some 57), .load 3 (.tmp 56), (some ((some 49), true))⟩,
  ⟨(some 58), .call ⟨.value (.func 137), #[(.tmp 53), (.tmp 57)], #[3, 3]⟩, (some ((some 49), true))⟩,
  ⟨(some 59), .unOp .not 4 (.tmp 58), (some ((some 49), true))⟩,
  ⟨(some 60), .pick (.tmp 49) (.tmp 59) (.const (.bool false)), none⟩]
def c139_r6 : List SOp := [
  ⟨(some 61), .move (.tmp 11), none⟩,
  ⟨(some 62), .binOp .sub 3 (.tmp 61) (.const (.int .i64 1)) 3, none⟩,
  ⟨(some 11), .assign (.tmp 62), none⟩]
def c139_l5 : SC := (.seq (.seq (.reg c139_r5 none (some [0, 1, 10, 11, 60])) (.cond (.tmp 60) .skip (.exit 2) (some [0, 1, 10, 11]))) (.block 3 (.reg c139_r6 none (some [0, 1, 10, 11]))))
def c139_r7 : List SOp := [
  ⟨(some 63), .move (.tmp 10), none⟩,
  ⟨(some 64), .move (.tmp 11), none⟩,
  ⟨(some 65), .binOp .gtr 3 (.tmp 63) (.tmp 64) 3, none⟩]
def c139_r8 : List SOp := [
  ⟨(some 66), .move (.tmp 0), none⟩,
  ⟨(some 67), .move (.tmp 11), none⟩,
  ⟨(some 68), .move (.tmp 0), none⟩,
  ⟨(some 69), .move (.tmp 1), none⟩,
  ⟨(some 70), .move (.tmp 0), none⟩,
  ⟨(some 71), .move (.tmp 1), none⟩,
  ⟨(some 72), .indexAddr 30 (.tmp 70) (.tmp 71), none⟩,
  ⟨(some 73), .load 3 (.tmp 72), none⟩,
  ⟨(some 74), .move (.tmp 0), none⟩,
  ⟨(some 75), .move (.tmp 11), none⟩,
  ⟨(some 76), .indexAddr 30 (.tmp 74) (.tmp 75), none⟩,
  ⟨(some 77), .load 3 (.tmp 76), none⟩,
  ⟨(some 78), .indexAddr 30 (.tmp 66) (.tmp 67), none⟩,
  ⟨none, .store 3 (.tmp 78) (.tmp 73), none⟩,
  ⟨(some 79), .indexAddr 30 (.tmp 68) (.tmp 69), none⟩,
  ⟨none, .store 3 (.tmp 79) (.tmp 77), none⟩]
def c139_r9 : List SOp := [
  ⟨(some 80), .move (.tmp 11), none⟩,
  ⟨(some 8), .assign (.tmp 80), none⟩,
  ⟨(some 9), .assign (.const (.bool true)), none⟩]
def c139_r10 : List SOp := [
  ⟨(some 81), .move (.tmp 0), none⟩,
  ⟨(some 82), .move (.tmp 10), none⟩,
  ⟨(some 83), .move (.tmp 0), none⟩,
  ⟨(some 84), .move (.tmp 11), none⟩,
  ⟨(some 85), .move (.tmp 0), none⟩,
  ⟨(some 86), .move (.tmp 11), none⟩,
  ⟨(some 87), .indexAddr 30 (.tmp 85) (.tmp 86), none⟩,
  ⟨(some 88), .load 3 (.tmp 87), none⟩,
  ⟨(some 89), .move (.tmp 0), none⟩,
  ⟨(some 90), .move (.tmp 10), none⟩,
  ⟨(some 91), .indexAddr 30 (.tmp 89) (.tmp 90), none⟩,
  ⟨(some 92), .load 3 (.tmp 91), none⟩,
  ⟨(some 93), .indexAddr 30 (.tmp 81) (.tmp 82), none⟩,
  ⟨none, .store 3 (.tmp 93) (.tmp 88), none⟩,
  ⟨(some 94), .indexAddr 30 (.tmp 83) (.tmp 84), none⟩,
  ⟨none, .store 3 (.tmp 94) (.tmp 92), none⟩]
def c139_r11 : List SOp := [
  ⟨(some 95), .move (.tmp 10), none⟩,
  ⟨(some 96), .binOp .add 3 (.tmp 95) (.const (.int .i64 1)) 3, none⟩,
  ⟨(some 10), .assign (.tmp 96), none⟩]
def c139_r12 : List SOp := [
  ⟨(some 97), .move (.tmp 11), none⟩,
  ⟨(some 98), .binOp .sub 3 (.tmp 97) (.const (.int .i64 1)) 3, none⟩,
  ⟨(some 11), .assign (.tmp 98), none⟩]
def c139_r13 : List SOp := [
  ⟨(some 99), .move (.tmp 10), none⟩,
  ⟨(some 100), .move (.tmp 11), none⟩,
  ⟨(some 101), .binOp .leq 3 (.tmp 99) (.tmp 100) 3, none⟩,
  ⟨(some 102), .move (.tmp 101), none⟩,
  ⟨(some 103), .move (.tmp 0), (some ((some 102), true))⟩,
  ⟨(some 104), .move (.tmp 10), (some ((some 102), true))⟩,
  ⟨(some 105), .indexAddr 30 (.tmp 103) (.tmp 104), (some ((some 102), true))⟩,
  ⟨(some 106), .load 3 (.tmp 105), (some ((some 102), true))⟩,
  ⟨(some 107), .move (.tmp 0), (some ((some 102), true))⟩,
  ⟨(some 108), .move (.tmp 1), (some ((some 102), true))⟩,
  ⟨(some 109), .indexAddr 30 (.tmp 107) (.tmp 108), (some ((some 102), true))⟩,
  ⟨(some 110), .load 3 (.tmp 109), (some ((some 102), true))⟩,
  ⟨(some 111), .call ⟨.value (.func 137), #[(.tmp 106), (.tmp 110)], #[3, 3]⟩, (some ((some 102), true))⟩,
  ⟨(some 112), .pick (.tmp 102) (.tmp 111) (.const (.bool false)), none⟩]
def c139_r14 : List SOp := [
  ⟨(some 113), .move (.tmp 10), none⟩,
  ⟨(some 114), .binOp .add 3 (.tmp 113) (.const (.int .i64 1)) 3, none⟩,
  ⟨(some 10), .assign (.tmp 114), none⟩]
def c139_l13 : SC := (.seq (.seq (.reg c139_r13 none (some [0, 1, 10, 11, 112])) (.cond (.tmp 112) .skip (.exit 6) (some [0, 1, 10, 11]))) (.block 7 (.reg c139_r14 none (some [0, 1, 10, 11]))))
def c139_r15 : List SOp := [
  ⟨(some 115), .move (.tmp 10), none⟩,
  ⟨(some 116), .move (.tmp 11), none⟩,
  ⟨(some 117), .binOp .leq 3 (.tmp 115) (.tmp 116) 3, none⟩,
  ⟨(some 118), .move (.tmp 117), none⟩,
  ⟨(some 119), .move (.tmp 0), (some ((some 118), true))⟩,
  ⟨(some 120), .move (.tmp 11), (some ((some 118), true))⟩,
  ⟨(some 121), .indexAddr 30 (.tmp 119) (.tmp 120), (some ((some 118), true))⟩,
  ⟨(some 122), .load 3 (.tmp 121), (some ((some 118), true))⟩,
  ⟨(some 123), .move (.tmp 0), (some ((some 118), true))⟩,
  ⟨(some 124), .move (.tmp 1), (some ((some 118), true))⟩,
  ⟨(some 125), .indexAddr 30 (.tmp 123) (.tmp 124), (some ((some 118), true))⟩,
  ⟨(some 126), .load 3 (.tmp 125), (some ((some 118), true))⟩,
  ⟨(some 127), .call ⟨.value (.func 137), #[(.tmp 122), (.tmp 126)], #[3, 3]⟩, (some ((some 118), true))⟩,
  ⟨(some 128), .unOp .not 4 (.tmp 127), (some ((some 118), true))⟩,
  ⟨(some 129), .pick (.tmp 118) (.tmp 128) (.const (.bool false)), none⟩]
def c139_r16 : List SOp := [
  ⟨(some 130), .move (.tmp 11), none⟩,
  ⟨(some 131), .binOp .sub 3 (.tmp 130) (.const (.int .i64 1)) 3, none⟩,
  ⟨(some 11), .assign (.tmp 131), none⟩]
def c139_l15 : SC := (.seq (.seq (.reg c139_r15 none (some [0, 1, 10, 11, 129])) (.cond (.tmp 129) .skip (.exit 8) (some [0, 1, 10, 11]))) (.block 9 (.reg c139_r16 none (some [0, 1, 10, 11]))))
def c139_r17 : List SOp := [
  ⟨(some 132), .move (.tmp 10), none⟩,
  ⟨(some 133), .move (.tmp 11), none⟩,
  ⟨(some 134), .binOp .gtr 3 (.tmp 132) (.tmp 133) 3, none⟩]
def c139_r18 : List SOp := [
  ⟨(some 135), .move (.tmp 0), none⟩,
  ⟨(some 136), .move (.tmp 10), none⟩,
  ⟨(some 137), .move (.tmp 0), none⟩,
  ⟨(some 138), .move (.tmp 11), none⟩,
  ⟨(some 139), .move (.tmp 0), none⟩,
  ⟨(some 140), .move (.tmp 11), none⟩,
  ⟨(some 141), .indexAddr 30 (.tmp 139) (.tmp 140), none⟩,
  ⟨(some 142), .load 3 (.tmp 141), none⟩,
  ⟨(some 143), .move (.tmp 0), none⟩,
  ⟨(some 144), .move (.tmp 10), none⟩,
  ⟨(some 145), .indexAddr 30 (.tmp 143) (.tmp 144), none⟩,
  ⟨(some 146), .load 3 (.tmp 145), none⟩,
  ⟨(some 147), .indexAddr 30 (.tmp 135) (.tmp 136), none⟩,
  ⟨none, .store 3 (.tmp 147) (.tmp 142), none⟩,
  ⟨(some 148), .indexAddr 30 (.tmp 137) (.tmp 138), none⟩,
  ⟨none, .store 3 (.tmp 148) (.tmp 146), none⟩]
def c139_r19 : List SOp := [
  ⟨(some 149), .move (.tmp 10), none⟩,
  ⟨(some 150), .binOp .add 3 (.tmp 149) (.const (.int .i64 1)) 3, none⟩,
  ⟨(some 10), .assign (.tmp 150), none⟩]
def c139_r20 : List SOp := [
  ⟨(some 151), .move (.tmp 11), none⟩,
  ⟨(some 152), .binOp .sub 3 (.tmp 151) (.const (.int .i64 1)) 3, none⟩,
  ⟨(some 11), .assign (.tmp 152), none⟩]
def c139_l13x4 : SC := (.block 5 (.seq (.block 6 (.loop c139_l13 (some [0, 1, 10, 11]))) (.seq (.block 8 (.loop c139_l15 (some [0, 1, 10, 11]))) (.seq (.seq (.reg c139_r17 none (some [0, 1, 10, 11, 134])) (.cond (.tmp 134) (.exit 4) .skip (some [0, 1, 10, 11]))) (.seq (.reg c139_r18 none (some [0, 1, 10, 11])) (.seq (.reg c139_r19 none (some [0, 1, 10, 11])) (.reg c139_r20 none (some [0, 1, 10, 11]))))))))
def c139_r21 : List SOp := [
  ⟨(some 153), .move (.tmp 0), none⟩,
  ⟨(some 154), .move (.tmp 11), none⟩,
  ⟨(some 155), .move (.tmp 0), none⟩,
  ⟨(some 156), .move (.tmp 1), none⟩,
  ⟨(some 157), .move (.tmp 0), none⟩,
  ⟨(some 158), .move (.tmp 1), none⟩,
  ⟨(some 159), .indexAddr 30 (.tmp 157) (.tmp 158), none⟩,
  ⟨(some 160), .load 3 (.tmp 159), none⟩,
  ⟨(some 161), .move (.tmp 0), none⟩,
  ⟨(some 162), .move (.tmp 11), none⟩,
  ⟨(some 163), .indexAddr 30 (.tmp 161) (.tmp 162), none⟩,
  ⟨(some 164), .load 3 (.tmp 163), none⟩,
  ⟨(some 165), .indexAddr 30 (.tmp 153) (.tmp 154), none⟩,
  ⟨none, .store 3 (.tmp 165) (.tmp 160), none⟩,
  ⟨(some 166), .indexAddr 30 (.tmp 155) (.tmp 156), none⟩,
  ⟨none, .store 3 (.tmp 166) (.tmp 164), none⟩]
def c139_r22 : List SOp := [
  ⟨(some 167), .move (.tmp 11), none⟩,
  ⟨(some 8), .assign (.tmp 167), none⟩,
  ⟨(some 9), .assign (.const (.bool false)), none⟩]
def c139 : SC := (.seq (.reg c139_r0 none (some [0, 1, 2, 3])) (.seq (.reg c139_r1 none (some [0, 1, 2])) (.seq (.reg c139_r2 none (some [0, 1, 10, 11])) (.seq (.block 0 (.loop c139_l3 (some [0, 1, 10, 11]))) (.seq (.block 2 (.loop c139_l5 (some [0, 1, 10, 11]))) (.seq (.seq (.reg c139_r7 none (some [0, 1, 10, 11, 65])) (.cond (.tmp 65) (.seq (.reg c139_r8 none (some [11])) (.seq (.reg c139_r9 none (some [8, 9])) .ret)) .skip (some [0, 1, 10, 11]))) (.seq (.reg c139_r10 none (some [0, 1, 10, 11])) (.seq (.reg c139_r11 none (some [0, 1, 10, 11])) (.seq (.reg c139_r12 none (some [0, 1, 10, 11])) (.seq (.block 4 (.loop c139_l13x4 (some [0, 1, 10, 11]))) (.seq (.reg c139_r21 none (some [11])) (.seq (.reg c139_r22 none (some [8, 9])) .ret))))))))))))
theorem c139_eq : ∃ code, Try.f139.body = some code ∧ compile H139 code = c139 := ⟨_, rfl, by kernel_rfl⟩
theorem c139_fn : Try.prog.funcs[139]? = some Try.f139 := by kernel_rfl
theorem c139_rs : Try.f139.results.toList = [.tmp 8, .tmp 9] := by kernel_rfl
theorem c139_ok : fnB Try.prog H139 Try.f139 = true := by kernel_rfl
theorem c139_nt : Try.f139.ntmps = 168 := by kernel_rfl

/-! 140: math/bits.Len32 -/
def H140 : Hint := ⟨[(7, [2]), (6, [0, 2]), (5, [0, 2]), (2000008, [0, 2]), (4, [0, 2, 8]), (3, [0, 2]), (2, [0]), (2000004, [0, 2]), (1, [0, 2, 4]), (0, [0, 2])], []⟩
def c140_r0 : List SOp := [
  ⟨(some 2), .assign (.const (.int .i64 0)), none⟩]
def c140_r1 : List SOp := [
  ⟨(some 3), .move (.tmp 0), none⟩,
  ⟨(some 4), .binOp .geq 156 (.tmp 3) (.const (.int .u32 65536)) 156, none⟩]
def c140_r2 : List SOp := [
  ⟨(some 5), .move (.tmp 0), none⟩,
  ⟨(some 6), .binOp .shr 156 (.tmp 5) (.const (.int .u64 16)) 188, none⟩,
  ⟨(some 0), .assign (.tmp 6), none⟩]
def c140_r3 : List SOp := [
  ⟨(some 2), .assign (.const (.int .i64 16)), none⟩]
def c140_r4 : List SOp := [
  ⟨(some 7), .move (.tmp 0), none⟩,
  ⟨(some 8), .binOp .geq 156 (.tmp 7) (.const (.int .u32 256)) 156, none⟩]
def c140_r5 : List SOp := [
  ⟨(some 9), .move (.tmp 0), none⟩,
  ⟨(some 10), .binOp .shr 156 (.tmp 9) (.const (.int .u64 8)) 188, none⟩,
  ⟨(some 0), .assign (.tmp 10), none⟩]
def c140_r6 : List SOp := [
  ⟨(some 11), .move (.tmp 2), none⟩,
  ⟨(some 12), .binOp .add 3 (.tmp 11) (.const (.int .i64 8)) 3, none⟩,
  ⟨(some 2), .assign (.tmp 12), none⟩]
def c140_r7 : List SOp := [
  ⟨(some 13), .move (.tmp 2), none⟩,
  ⟨(some 14), .move (.tmp 0), none⟩,
  ⟨(some 15), .convert 156 5 (.tmp 14), none⟩,
  ⟨(some 16), .index 9 (.const (.string ⟨#[0, 1, 2, 2, 3, 3, 3, 3, 4, 4, 4, 4, 4, 4, 4, 4, 5, 5, 5, 5, 5, 5, 5, 5, 5, 5, 5, 5, 5, 5, 5, 5, 6, 6, 6, 6, 6, 6, 6, 6, 6, 6, 6, 6, 6, 6, 6, 6, 6, 6, 6, 6, 6, 6, 6, 6, 6, 6, 6, 6, 6, 6, 6, 6, 7, 7, 7, 7, 7, 7, 7, 7, 7, 7, 7, 7, 7, 7, 7, 7, 7, 7, 7, 7, 7, 7, 7, 7, 7, 7, 7, 7, 7, 7, 7, 7, 7, 7, 7, 7, 7, 7, 7, 7, 7, 7, 7, 7, 7, 7, 7, 7, 7, 7, 7, 7, 7, 7, 7, 7, 7, 7, 7, 7, 7, 7, 7, 7, 8, 8, 8, 8, 8, 8, 8, 8, 8, 8, 8, 8, 8, 8, 8, 8, 8, 8, 8, 8, 8, 8, 8, 8, 8, 8, 8, 8, 8, 8, 8, 8, 8, 8, 8, 8, 8, 8, 8, 8, 8, 8, 8, 8, 8, 8, 8, 8, 8, 8, 8, 8, 8, 8, 8, 8, 8, 8, 8, 8, 8, 8, 8, 8, 8, 8, 8, 8, 8, 8, 8, 8, 8, 8, 8, 8, 8, 8, 8, 8, 8, 8, 8, 8, 8, 8, 8, 8, 8, 8, 8, 8, 8, 8, 8, 8, 8, 8, 8, 8, 8, 8, 8, 8, 8, 8, 8, 8, 8, 8, 8, 8, 8, 8, 8, 8, 8, 8, 8, 8, 8, 8, 8, 8, 8, 8, 8, 8]⟩)) (.tmp 15), none⟩,
  ⟨(some 17), .convert 5 3 (.tmp 16), none⟩,
  ⟨(some 18), .binOp .add 3 (.tmp 13) (.tmp 17) 3, none⟩,
  ⟨(some 2), .assign (.tmp 18), none⟩]
def c140 : SC := (.seq (.reg c140_r0 none (some [0, 2])) (.seq (.seq (.reg c140_r1 none (some [0, 2, 4])) (.cond (.tmp 4) (.seq (.reg c140_r2 none (some [0])) (.reg c140_r3 none (some [0, 2]))) .skip (some [0, 2]))) (.seq (.seq (.reg c140_r4 none (some [0, 2, 8])) (.cond (.tmp 8) (.seq (.reg c140_r5 none (some [0, 2])) (.reg c140_r6 none (some [0, 2]))) .skip (some [0, 2]))) (.seq (.reg c140_r7 none (some [2])) .ret))))
theorem c140_eq : ∃ code, Try.f140.body = some code ∧ compile H140 code = c140 := ⟨_, rfl, by kernel_rfl⟩
theorem c140_fn : Try.prog.funcs[140]? = some Try.f140 := by kernel_rfl
theorem c140_rs : Try.f140.results.toList = [.tmp 2] := by kernel_rfl
theorem c140_ok : fnB Try.prog H140 Try.f140 = true := by kernel_rfl
theorem c140_nt : Try.f140.ntmps = 19 := by kernel_rfl

/-! 141: math/bits.Len64 -/
def H141 : Hint := ⟨[(10, [2]), (9, [0, 2]), (8, [0, 2]), (2000014, [0, 2]), (7, [0, 2, 14]), (6, [0, 2]), (5, [0, 2]), (2000008, [0, 2]), (4, [0, 2, 8]), (3, [0, 2]), (2, [0]), (2000004, [0, 2]), (1, [0, 2, 4]), (0, [0, 2])], []⟩
def c141_r0 : List SOp := [
  ⟨(some 2), .assign (.const (.int .i64 0)), none⟩]
def c141_r1 : List SOp := [
  ⟨(some 3), .move (.tmp 0), none⟩,
  ⟨(some 4), .binOp .geq 199 (.tmp 3) (.const (.int .u64 4294967296)) 199, none⟩]
def c141_r2 : List SOp := [
  ⟨(some 5), .move (.tmp 0), none⟩,
  ⟨(some 6), .binOp .shr 199 (.tmp 5) (.const (.int .u64 32)) 188, none⟩,
  ⟨(some 0), .assign (.tmp 6), none⟩]
def c141_r3 : List SOp := [
  ⟨(some 2), .assign (.const (.int .i64 32)), none⟩]
def c141_r4 : List SOp := [
  ⟨(some 7), .move (.tmp 0), none⟩,
  ⟨(some 8), .binOp .geq 199 (.tmp 7) (.const (.int .u64 65536)) 199, none⟩]
def c141_r5 : List SOp := [
  ⟨(some 9), .move (.tmp 0), none⟩,
  ⟨(some 10), .binOp .shr 199 (.tmp 9) (.const (.int .u64 16)) 188, none⟩,
  ⟨(some 0), .assign (.tmp 10), none⟩]
def c141_r6 : List SOp := [
  ⟨(some 11), .move (.tmp 2), none⟩,
  ⟨(some 12), .binOp .add 3 (.tmp 11) (.const (.int .i64 16)) 3, none⟩,
  ⟨(some 2), .assign (.tmp 12), none⟩]
def c141_r7 : List SOp := [
  ⟨(some 13), .move (.tmp 0), none⟩,
  ⟨(some 14), .binOp .geq 199 (.tmp 13) (.const (.int .u64 256)) 199, none⟩]
def c141_r8 : List SOp := [
  ⟨(some 15), .move (.tmp 0), none⟩,
  ⟨(some 16), .binOp .shr 199 (.tmp 15) (.const (.int .u64 8)) 188, none⟩,
  ⟨(some 0), .assign (.tmp 16), none⟩]
def c141_r9 : List SOp := [
  ⟨(some 17), .move (.tmp 2), none⟩,
  ⟨(some 18), .binOp .add 3 (.tmp 17) (.const (.int .i64 8)) 3, none⟩,
  ⟨(some 2), .assign (.tmp 18), none⟩]
def c141_r10 : List SOp := [
  ⟨(some 19), .move (.tmp 2), none⟩,
  ⟨(some 20), .move (.tmp 0), none⟩,
  ⟨(some 21), .convert 199 5 (.tmp 20), none⟩,
  ⟨(some 22), .index 9 (.const (.string ⟨#[0, 1, 2, 2, 3, 3, 3, 3, 4, 4, 4, 4, 4, 4, 4, 4, 5, 5, 5, 5, 5, 5, 5, 5, 5, 5, 5, 5, 5, 5, 5, 5, 6, 6, 6, 6, 6, 6, 6, 6, 6, 6, 6, 6, 6, 6, 6, 6, 6, 6, 6, 6, 6, 6, 6, 6, 6, 6, 6, 6, 6, 6, 6, 6, 7, 7, 7, 7, 7, 7, 7, 7, 7, 7, 7, 7, 7, 7, 7, 7, 7, 7, 7, 7, 7, 7, 7, 7, 7, 7, 7, 7, 7, 7, 7, 7, 7, 7, 7, 7, 7, 7, 7, 7, 7, 7, 7, 7, 7, 7, 7, 7, 7, 7, 7, 7, 7, 7, 7, 7, 7, 7, 7, 7, 7, 7, 7, 7, 8, 8, 8, 8, 8, 8, 8, 8, 8, 8, 8, 8, 8, 8, 8, 8, 8, 8, 8, 8, 8, 8, 8, 8, 8, 8, 8, 8, 8, 8, 8, 8, 8, 8, 8, 8, 8, 8, 8, 8, 8, 8, 8, 8, 8, 8, 8, 8, 8, 8, 8, 8, 8, 8, 8, 8, 8, 8, 8, 8, 8, 8, 8, 8, 8, 8, 8, 8, 8, 8, 8, 8, 8, 8, 8, 8, 8, 8, 8, 8, 8, 8, 8, 8, 8, 8, 8, 8, 8, 8, 8, 8, 8, 8, 8, 8, 8, 8, 8, 8, 8, 8, 8, 8, 8, 8, 8, 8, 8, 8, 8, 8, 8, 8, 8, 8, 8, 8, 8, 8, 8, 8, 8, 8, 8, 8, 8, 8]⟩)) (.tmp 21), none⟩,
  ⟨(some 23), .convert 5 3 (.tmp 22), none⟩,
  ⟨(some 24), .binOp .add 3 (.tmp 19) (.tmp 23) 3, none⟩,
  ⟨(some 2), .assign (.tmp 24), none⟩]
def c141 : SC := (.seq (.reg c141_r0 none (some [0, 2])) (.seq (.seq (.reg c141_r1 none (some [0, 2, 4])) (.cond (.tmp 4) (.seq (.reg c141_r2 none (some [0])) (.reg c141_r3 none (some [0, 2]))) .skip (some [0, 2]))) (.seq (.seq (.reg c141_r4 none (some [0, 2, 8])) (.cond (.tmp 8) (.seq (.reg c141_r5 none (some [0, 2])) (.reg c141_r6 none (some [0, 2]))) .skip (some [0, 2]))) (.seq (.seq (.reg c141_r7 none (some [0, 2, 14])) (.cond (.tmp 14) (.seq (.reg c141_r8 none (some [0, 2])) (.reg c141_r9 none (some [0, 2]))) .skip (some [0, 2]))) (.seq (.reg c141_r10 none (some [2])) .ret)))))
theorem c141_eq : ∃ code, Try.f141.body = some code ∧ compile H141 code = c141 := ⟨_, rfl, by kernel_rfl⟩
theorem c141_fn : Try.prog.funcs[141]? = some Try.f141 := by kernel_rfl
theorem c141_rs : Try.f141.results.toList = [.tmp 2] := by kernel_rfl
theorem c141_ok : fnB Try.prog H141 Try.f141 = true := by kernel_rfl
theorem c141_nt : Try.f141.ntmps = 25 := by kernel_rfl

/-! 142: slices.siftDownOrdered[int] -/
def H142 : Hint := ⟨[(7, [0, 2, 3, 8]), (6, [0, 2, 3, 9]), (2000052, [0, 2, 3, 8, 9]), (5, [0, 2, 3, 8, 9, 52]), (4, [0, 2, 3, 8, 9]), (2000036, [0, 2, 3, 8, 9]), (3, [0, 2, 3, 8, 9, 36]), (2000016, [0, 2, 3, 8, 9]), (2, [0, 2, 3, 8, 9, 16]), (1, [0, 2, 3, 8, 9]), (1000001, [0, 2, 3, 8]), (0, [0, 2, 3, 8])], []⟩
def c142_r0 : List SOp := [
  ⟨(some 10), .move (.tmp 1), none⟩,
  ⟨(some 8), .assign (.tmp 10), none⟩]
def c142_r1 : List SOp := [
  ⟨(some 11), .move (.tmp 8), none⟩,
  ⟨(some 12), .binOp .mul 3 (.const (.int .i64 2)) (.tmp 11) 3, none⟩,
  ⟨(some 13), .binOp .add 3 (.tmp 12) (.const (.int .i64 1)) 3, none⟩,
  ⟨(some 9), .assign (.tmp 13), none⟩]
def c142_r2 : List SOp := [
  ⟨(some 14), .move (.tmp 9), none⟩,
  ⟨(some 15), .move (.tmp 2), none⟩,
  ⟨(some 16), .binOp .geq 3 (.tmp 14) (.tmp 15) 3, none⟩]
def c142_r3 : List SOp := [
  ⟨(some 17), .move (.tmp 9), none⟩,
  ⟨(some 18), .binOp .add 3 (.tmp 17) (.const (.int .i64 1)) 3, none⟩,
  ⟨(some 19), .move (.tmp 2), none⟩,
  ⟨(some 20), .binOp .lss 3 (.tmp 18) (.tmp 19) 3, none⟩,
  ⟨(some 21), .move (.tmp 20), none⟩,
  ⟨(some 22), .move (.tmp 0), (some ((some 21), true))⟩,
  ⟨(some 23), .move (.tmp 3), (some ((some 21), true))⟩,
  ⟨(some 24), .move (.tmp 9), (some ((some 21), true))⟩,
  ⟨(some 25), .binOp .add 3 (.tmp 23) (.tmp 24) 3, (some ((some 21), true))⟩,
  ⟨(some 26), .indexAddr 30 (.tmp 22) (.tmp 25), (some ((some 21), true))⟩,
  ⟨(some 27), .load 3 (.tmp 26), (some ((some 21), true))⟩,
  ⟨(some 28), .move (.tmp 0), (some ((some 21), true))⟩,
  ⟨(some 29), .move (.tmp 3), (some ((some 21), true))⟩,
  ⟨(some 30), .move (.tmp 9), (some ((some 21), true))⟩,
  ⟨(some 31), .binOp .add 3 (.tmp 29) (.tmp 30) 3, (some ((some 21), true))⟩,
  ⟨(some 32), .binOp .add 3 (.tmp 31) (.const (.int .i64 1)) 3, (some ((some 21), true))⟩,
  ⟨(some 33), .indexAddr 30 (.tmp 28) (.tmp 32), (some ((some 21), true))⟩,
  ⟨(some 34), .load 3 (.tmp 33), (some ((some 21), true))⟩,
  ⟨(some 35), .call ⟨.value (.func 137), #[(.tmp 27), (.tmp 34)], #[3, 3]⟩, (some ((some 21), true))⟩,
  ⟨(some 36), .pick (.tmp 21) (.tmp 35) (.const (.bool false)), none⟩]
def c142_r4 : List SOp := [
  ⟨(some 37), .move (.tmp 9), none⟩,
  ⟨(some 38), .binOp .add 3 (.tmp 37) (.const (.int .i64 1)) 3, none⟩,
  ⟨(some 9), .assign (.tmp 38), none⟩]
def c142_r5 : List SOp := [
  ⟨(some 39), .move (.tmp 0), none⟩,
  ⟨(some 40), .move (.tmp 3), none⟩,
  ⟨(some 41), .move (.tmp 8), none⟩,
  ⟨(some 42), .binOp .add 3 (.tmp 40) (.tmp 41) 3, none⟩,
  ⟨(some 43), .indexAddr 30 (.tmp 39) (.tmp 42), none⟩,
  ⟨(some 44), .load 3 (.tmp 43), none⟩,
  ⟨(some 45), .move (.tmp 0), none⟩,
  ⟨(some 46), .move (.tmp 3), none⟩,
  ⟨(some 47), .move (.tmp 9), none⟩,
  ⟨(some 48), .binOp .add 3 (.tmp 46) (.tmp 47) 3, none⟩,
  ⟨(some 49), .indexAddr 30 (.tmp 45) (.tmp 48), none⟩,
  ⟨(some 50), .load 3 (.tmp 49), none⟩,
  ⟨(some 51), .call ⟨.value (.func 137), #[(.tmp 44), (.tmp 50)], #[3, 3]⟩, none⟩,
  ⟨(some 52), .unOp .not 4 (.tmp 51), none⟩]
def c142_r6 : List SOp := [
  ⟨(some 53), .move (.tmp 0), none⟩,
  ⟨(some 54), .move (.tmp 3), none⟩,
  ⟨(some 55), .move (.tmp 8), none⟩,
  ⟨(some 56), .binOp .add 3 (.tmp 54) (.tmp 55) 3, none⟩,
  ⟨(some 57), .move (.tmp 0), none⟩,
  ⟨(some 58), .move (.tmp 3), none⟩,
  ⟨(some 59), .move (.tmp 9), none⟩,
  ⟨(some 60), .binOp .add 3 (.tmp 58) (.tmp 59) 3, none⟩,
  ⟨(some 61), .move (.tmp 0), none⟩,
  ⟨(some 62), .move (.tmp 3), none⟩,
  ⟨(some 63), .move (.tmp 9), none⟩,
  ⟨(some 64), .binOp .add 3 (.tmp 62) (.tmp 63) 3, none⟩,
  ⟨(some 65), .indexAddr 30 (.tmp 61) (.tmp 64), none⟩,
  ⟨(some 66), .load 3 (.tmp 65), none⟩,
  ⟨(some 67), .move (.tmp 0), none⟩,
  ⟨(some 68), .move (.tmp 3), none⟩,
  ⟨(some 69), .move (.tmp 8), none⟩,
  ⟨(some 70), .binOp .add 3 (.tmp 68) (.tmp 69) 3, none⟩,
  ⟨(some 71), .indexAddr 30 (.tmp 67) (.tmp 70), none⟩,
  ⟨(some 72), .load 3 (.tmp 71), none⟩,
  ⟨(some 73), .indexAddr 30 (.tmp 53) (.tmp 56), none⟩,
  ⟨none, .store 3 (.tmp 73) (.tmp 66), none⟩,
  ⟨(some 74), .indexAddr 30 (.tmp 57) (.tmp 60), none⟩,
  ⟨none, .store 3 (.tmp 74) (.tmp 72), none⟩]
def c142_r7 : List SOp := [
  ⟨(some 75), .move (.tmp 9), none⟩,
  ⟨(some 8), .assign (.tmp 75), none⟩]
def c142_l1 : SC := (.block 1 (.seq (.reg c142_r1 none (some [0, 2, 3, 8, 9])) (.seq (.seq (.reg c142_r2 none (some [0, 2, 3, 8, 9, 16])) (.cond (.tmp 16) (.exit 0) .skip (some [0, 2, 3, 8, 9]))) (.seq (.seq (.reg c142_r3 none (some [0, 2, 3, 8, 9, 36])) (.cond (.tmp 36) (.reg c142_r4 none (some [0, 2, 3, 8, 9])) .skip (some [0, 2, 3, 8, 9]))) (.seq (.seq (.reg c142_r5 none (some [0, 2, 3, 8, 9, 52])) (.cond (.tmp 52) .ret .skip (some [0, 2, 3, 8, 9]))) (.seq (.reg c142_r6 none (some [0, 2, 3, 9])) (.reg c142_r7 none (some [0, 2, 3, 8]))))))))
def c142 : SC := (.seq (.reg c142_r0 none (some [0, 2, 3, 8])) (.block 0 (.loop c142_l1 (some [0, 2, 3, 8]))))
theorem c142_eq : ∃ code, Try.f142.body = some code ∧ compile H142 code = c142 := ⟨_, rfl, by kernel_rfl⟩
theorem c142_fn : Try.prog.funcs[142]? = some Try.f142 := by kernel_rfl
theorem c142_rs : Try.f142.results.toList = [] := by kernel_rfl
theorem c142_ok : fnB Try.prog H142 Try.f142 = true := by kernel_rfl
theorem c142_nt : Try.f142.ntmps = 76 := by kernel_rfl

/-! 143: slices.nextPowerOfTwo -/
def H143 : Hint := ⟨[(1, [2]), (0, [0])], []⟩
def c143_r0 : List SOp := [
  ⟨(some 2), .assign (.const (.int .u64 0)), none⟩]
def c143_r1 : List SOp := [
  ⟨(some 3), .move (.tmp 0), none⟩,
  ⟨(some 4), .convert 3 188 (.tmp 3), none⟩,
  ⟨(some 5), .call ⟨.value (.func 129), #[(.tmp 4)], #[188]⟩, none⟩,
  ⟨(some 6), .binOp .shl 188 (.const (.int .u64 1)) (.tmp 5) 3, none⟩,
  ⟨(some 2), .assign (.tmp 6), none⟩]
def c143 : SC := (.seq (.reg c143_r0 none (some [0])) (.seq (.reg c143_r1 none (some [2])) .ret))
theorem c143_eq : ∃ code, Try.f143.body = some code ∧ compile H143 code = c143 := ⟨_, rfl, by kernel_rfl⟩
theorem c143_fn : Try.prog.funcs[143]? = some Try.f143 := by kernel_rfl
theorem c143_rs : Try.f143.results.toList = [.tmp 2] := by kernel_rfl
theorem c143_ok : fnB Try.prog H143 Try.f143 = true := by kernel_rfl
theorem c143_nt : Try.f143.ntmps = 7 := by kernel_rfl

/-! 144: (*slices.xorshift).Next -/
def H144 : Hint := ⟨[(4, [2]), (3, [0]), (2, [0]), (1, [0]), (0, [0])], []⟩
def c144_r0 : List SOp := [
  ⟨(some 2), .assign (.const (.int .u64 0)), none⟩]
def c144_r1 : List SOp := [
  ⟨(some 3), .move (.tmp 0), none⟩,
  ⟨(some 4), .nilCheck (.tmp 3), none⟩,
  ⟨(some 5), .load 200 (.tmp 4), none⟩,
  ⟨(some 6), .move (.tmp 0), none⟩,
  ⟨(some 7), .nilCheck (.tmp 6), none⟩,
  ⟨(some 8), .load 200 (.tmp 7), none⟩,
  ⟨(some 9), .binOp .shl 200 (.tmp 8) (.const (.int .u64 13)) 188, none⟩,
  ⟨(some 10), .binOp .xor 200 (.tmp 5) (.tmp 9) 200, none⟩,
  ⟨(some 11), .nilCheck (.tmp 3), none⟩,
  ⟨none, .store 200 (.tmp 11) (.tmp 10), none⟩]
def c144_r2 : List SOp := [
  ⟨(some 12), .move (.tmp 0), none⟩,
  ⟨(some 13), .nilCheck (.tmp 12), none⟩,
  ⟨(some 14), .load 200 (.tmp 13), none⟩,
  ⟨(some 15), .move (.tmp 0), none⟩,
  ⟨(some 16), .nilCheck (.tmp 15), none⟩,
  ⟨(some 17), .load 200 (.tmp 16), none⟩,
  ⟨(some 18), .binOp .shr 200 (.tmp 17) (.const (.int .u64 7)) 188, none⟩,
  ⟨(some 19), .binOp .xor 200 (.tmp 14) (.tmp 18) 200, none⟩,
  ⟨(some 20), .nilCheck (.tmp 12), none⟩,
  ⟨none, .store 200 (.tmp 20) (.tmp 19), none⟩]
def c144_r3 : List SOp := [
  ⟨(some 21), .move (.tmp 0), none⟩,
  ⟨(some 22), .nilCheck (.tmp 21), none⟩,
  ⟨(some 23), .load 200 (.tmp 22), none⟩,
  ⟨(some 24), .move (.tmp 0), none⟩,
  ⟨(some 25), .nilCheck (.tmp 24), none⟩,
  ⟨(some 26), .load 200 (.tmp 25), none⟩,
  ⟨(some 27), .binOp .shl 200 (.tmp 26) (.const (.int .u64 17)) 188, none⟩,
  ⟨(some 28), .binOp .xor 200 (.tmp 23) (.tmp 27) 200, none⟩,
  ⟨(some 29), .nilCheck (.tmp 21), none⟩,
  ⟨none, .store 200 (.tmp 29) (.tmp 28), none⟩]
def c144_r4 : List SOp := [
  ⟨(some 30), .move (.tmp 0), none⟩,
  ⟨(some 31), .nilCheck (.tmp 30), none⟩,
  ⟨(some 32), .load 200 (.tmp 31), none⟩,
  ⟨(some 2), .assign (.tmp 32), none⟩]
def c144 : SC := (.seq (.reg c144_r0 none (some [0])) (.seq (.reg c144_r1 none (some [0])) (.seq (.reg c144_r2 none (some [0])) (.seq (.reg c144_r3 none (some [0])) (.seq (.reg c144_r4 none (some [2])) .ret)))))
theorem c144_eq : ∃ code, Try.f144.body = some code ∧ compile H144 code = c144 := ⟨_, rfl, by kernel_rfl⟩
theorem c144_fn : Try.prog.funcs[144]? = some Try.f144 := by kernel_rfl
theorem c144_rs : Try.f144.results.toList = [.tmp 2] := by kernel_rfl
theorem c144_ok : fnB Try.prog H144 Try.f144 = true := by kernel_rfl
theorem c144_nt : Try.f144.ntmps = 33 := by kernel_rfl

/-! 145: slices.medianAdjacentOrdered[int] -/
def H145 : Hint := ⟨[(1, [6]), (0, [0, 1, 2])], []⟩
def c145_r0 : List SOp := [
  ⟨(some 6), .assign (.const (.int .i64 0)), none⟩]
def c145_r1 : List SOp := [
  ⟨(some 7), .move (.tmp 0), none⟩,
  ⟨(some 8), .move (.tmp 1), none⟩,
  ⟨(some 9), .binOp .sub 3 (.tmp 8) (.const (.int .i64 1)) 3, none⟩,
  ⟨(some 10), .move (.tmp 1), none⟩,
  ⟨(some 11), .move (.tmp 1), none⟩,
  ⟨(some 12), .binOp .add 3 (.tmp 11) (.const (.int .i64 1)) 3, none⟩,
  ⟨(some 13), .move (.tmp 2), none⟩,
  ⟨(some 14), .call ⟨.value (.func 146), #[(.tmp 7), (.tmp 9), (.tmp 10), (.tmp 12), (.tmp 13)], #[30, 3, 3, 3, 204]⟩, none⟩,
  ⟨(some 6), .assign (.tmp 14), none⟩]
def c145 : SC := (.seq (.reg c145_r0 none (some [0, 1, 2])) (.seq (.reg c145_r1 none (some [6])) .ret))
theorem c145_eq : ∃ code, Try.f145.body = some code ∧ compile H145 code = c145 := ⟨_, rfl, by kernel_rfl⟩
theorem c145_fn : Try.prog.funcs[145]? = some Try.f145 := by kernel_rfl
theorem c145_rs : Try.f145.results.toList = [.tmp 6] := by kernel_rfl
theorem c145_ok : fnB Try.prog H145 Try.f145 = true := by kernel_rfl
theorem c145_nt : Try.f145.ntmps = 15 := by kernel_rfl

/-! 146: slices.medianOrdered[int] -/
def H146 : Hint := ⟨[(4, [10]), (3, [2]), (2, [0, 1, 2, 4]), (1, [0, 1, 2, 3, 4]), (0, [0, 1, 2, 3, 4])], []⟩
def c146_r0 : List SOp := [
  ⟨(some 10), .assign (.const (.int .i64 0)), none⟩]
def c146_r1 : List SOp := [
  ⟨(some 12), .move (.tmp 0), none⟩,
  ⟨(some 13), .move (.tmp 1), none⟩,
  ⟨(some 14), .move (.tmp 2), none⟩,
  ⟨(some 15), .move (.tmp 4), none⟩,
  ⟨(some 16), .call ⟨.value (.func 148), #[(.tmp 12), (.tmp 13), (.tmp 14), (.tmp 15)], #[30, 3, 3, 204]⟩, none⟩,
  ⟨(some 11), .move (.tmp 16), none⟩,
  ⟨(some 17), .extract (.tmp 11) 0, none⟩,
  ⟨(some 18), .extract (.tmp 11) 1, none⟩,
  ⟨(some 1), .assign (.tmp 17), none⟩,
  ⟨(some 2), .assign (.tmp 18), none⟩]
def c146_r2 : List SOp := [
  ⟨(some 20), .move (.tmp 0), none⟩,
  ⟨(some 21), .move (.tmp 2), none⟩,
  ⟨(some 22), .move (.tmp 3), none⟩,
  ⟨(some 23), .move (.tmp 4), none⟩,
  ⟨(some 24), .call ⟨.value (.func 148), #[(.tmp 20), (.tmp 21), (.tmp 22), (.tmp 23)], #[30, 3, 3, 204]⟩, none⟩,
  ⟨(some 19), .move (.tmp 24), none⟩,
  ⟨(some 25), .extract (.tmp 19) 0, none⟩,
  ⟨(some 26), .extract (.tmp 19) 1, none⟩,
  ⟨(some 2), .assign (.tmp 25), none⟩,
  ⟨(some 3), .assign (.tmp 26), none⟩]
def c146_r3 : List SOp := [
  ⟨(some 28), .move (.tmp 0), none⟩,
  ⟨(some 29), .move (.tmp 1), none⟩,
  ⟨(some 30), .move (.tmp 2), none⟩,
  ⟨(some 31), .move (.tmp 4), none⟩,
  ⟨(some 32), .call ⟨.value (.func 148), #[(.tmp 28), (.tmp 29), (.tmp 30), (.tmp 31)], #[30, 3, 3, 204]⟩, none⟩,
  ⟨(some 27), .move (.tmp 32), none⟩,
  ⟨(some 33), .extract (.tmp 27) 0, none⟩,
  ⟨(some 34), .extract (.tmp 27) 1, none⟩,
  ⟨(some 1), .assign (.tmp 33), none⟩,
  ⟨(some 2), .assign (.tmp 34), none⟩]
def c146_r4 : List SOp := [
  ⟨(some 35), .move (.tmp 2), none⟩,
  ⟨(some 10), .assign (.tmp 35), none⟩]
def c146 : SC := (.seq (.reg c146_r0 none (some [0, 1, 2, 3, 4])) (.seq (.reg c146_r1 none (some [0, 1, 2, 3, 4])) (.seq (.reg c146_r2 none (some [0, 1, 2, 4])) (.seq (.reg c146_r3 none (some [2])) (.seq (.reg c146_r4 none (some [10])) .ret)))))
theorem c146_eq : ∃ code, Try.f146.body = some code ∧ compile H146 code = c146 := ⟨_, rfl, by kernel_rfl⟩
theorem c146_fn : Try.prog.funcs[146]? = some Try.f146 := by kernel_rfl
theorem c146_rs : Try.f146.results.toList = [.tmp 10] := by kernel_rfl
theorem c146_ok : fnB Try.prog H146 Try.f146 = true := by kernel_rfl
theorem c146_nt : Try.f146.ntmps = 36 := by kernel_rfl

/-! 147: cmp.isNaN[int] -/
def H147 : Hint := ⟨[(1, [2]), (0, [0])], []⟩
def c147_r0 : List SOp := [
  ⟨(some 2), .assign (.const (.bool false)), none⟩]
def c147_r1 : List SOp := [
  ⟨(some 3), .move (.tmp 0), none⟩,
  ⟨(some 4), .move (.tmp 0), none⟩,
  ⟨(some 5), .binOp .neq 3 (.tmp 3) (.tmp 4) 3, none⟩,
  ⟨(some 2), .assign (.tmp 5), none⟩]
def c147 : SC := (.seq (.reg c147_r0 none (some [0])) (.seq (.reg c147_r1 none (some [2])) .ret))
theorem c147_eq : ∃ code, Try.f147.body = some code ∧ compile H147 code = c147 := ⟨_, rfl, by kernel_rfl⟩
theorem c147_fn : Try.prog.funcs[147]? = some Try.f147 := by kernel_rfl
theorem c147_rs : Try.f147.results.toList = [.tmp 2] := by kernel_rfl
theorem c147_ok : fnB Try.prog H147 Try.f147 = true := by kernel_rfl
theorem c147_nt : Try.f147.ntmps = 6 := by kernel_rfl

/-! 148: slices.order2Ordered[int] -/
def H148 : Hint := ⟨[(4, [8, 9]), (3, [8, 9]), (2, [1, 2]), (2000018, [1, 2]), (1, [1, 2, 3, 18]), (0, [0, 1, 2, 3])], []⟩
def c148_r0 : List SOp := [
  ⟨(some 8), .assign (.const (.int .i64 0)), none⟩,
  ⟨(some 9), .assign (.const (.int .i64 0)), none⟩]
def c148_r1 : List SOp := [
  ⟨(some 10), .move (.tmp 0), none⟩,
  ⟨(some 11), .move (.tmp 2), none⟩,
  ⟨(some 12), .indexAddr 30 (.tmp 10) (.tmp 11), none⟩,
  ⟨(some 13), .load 3 (.tmp 12), none⟩,
  ⟨(some 14), .move (.tmp 0), none⟩,
  ⟨(some 15), .move (.tmp 1), none⟩,
  ⟨(some 16), .indexAddr 30 (.tmp 14) (.tmp 15), none⟩,
  ⟨(some 17), .load 3 (.tmp 16), none⟩,
  ⟨(some 18), .call ⟨.value (.func 137), #[(.tmp 13), (.tmp 17)], #[3, 3]⟩, none⟩]
def c148_r2 : List SOp := [
  ⟨(some 19), .move (.tmp 3), none⟩,
  ⟨(some 20), .nilCheck (.tmp 19), none⟩,
  ⟨(some 21), .load 3 (.tmp 20), none⟩,
  ⟨(some 22), .binOp .add 3 (.tmp 21) (.const (.int .i64 1)) 3, none⟩,
  ⟨(some 23), .nilCheck (.tmp 19), none⟩,
  ⟨none, .store 3 (.tmp 23) (.tmp 22), none⟩]
def c148_r3 : List SOp := [
  ⟨(some 24), .move (.tmp 2), none⟩,
  ⟨(some 25), .move (.tmp 1), none⟩,
  ⟨(some 8), .assign (.tmp 24), none⟩,
  ⟨(some 9), .assign (.tmp 25), none⟩]
def c148_r4 : List SOp := [
  ⟨(some 26), .move (.tmp 1), none⟩,
  ⟨(some 27), .move (.tmp 2), none⟩,
  ⟨(some 8), .assign (.tmp 26), none⟩,
  ⟨(some 9), .assign (.tmp 27), none⟩]
def c148 : SC := (.seq (.reg c148_r0 none (some [0, 1, 2, 3])) (.seq (.seq (.reg c148_r1 none (some [1, 2, 3, 18])) (.cond (.tmp 18) (.seq (.reg c148_r2 none (some [1, 2])) (.seq (.reg c148_r3 none (some [8, 9])) .ret)) .skip (some [1, 2]))) (.seq (.reg c148_r4 none (some [8, 9])) .ret)))
theorem c148_eq : ∃ code, Try.f148.body = some code ∧ compile H148 code = c148 := ⟨_, rfl, by kernel_rfl⟩
theorem c148_fn : Try.prog.funcs[148]? = some Try.f148 := by kernel_rfl
theorem c148_rs : Try.f148.results.toList = [.tmp 8, .tmp 9] := by kernel_rfl
theorem c148_ok : fnB Try.prog H148 Try.f148 = true := by kernel_rfl
theorem c148_nt : Try.f148.ntmps = 28 := by kernel_rfl

end Go.AM
