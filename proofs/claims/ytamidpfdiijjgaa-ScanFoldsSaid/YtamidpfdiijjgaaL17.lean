/-
  Printed by program (wip/tools/print.sh): compiled code.
-/
import Derived.Test.YtamidpfdiijjgaaAMb
import Derived.Test.YtamidpfdiijjgaaProg
namespace Go.AM
open Go Go.Proofs
set_option maxRecDepth 100000
/-! 17: rampart/rampartlaw15.ScanFolds -/
def H17 : Hint := ⟨[(35, [6]), (23, [7, 11, 14, 15, 16, 17, 18]), (34, [7, 11, 14, 15, 16, 17, 18]), (33, [6]), (2000228, [7, 11, 14, 15, 16, 17, 18]), (32, [7, 11, 14, 15, 16, 17, 18, 228]), (2000198, [7, 11, 14, 15, 16, 17, 18]), (31, [7, 11, 14, 15, 16, 17, 18, 198]), (30, [6]), (2000181, [7, 11, 14, 15, 16, 17, 18, 19]), (29, [7, 11, 14, 15, 16, 17, 18, 19, 181]), (28, [7, 11, 14, 15, 16, 17, 18, 19]), (27, [6]), (2000155, [7, 11, 14, 15, 16, 17, 18]), (26, [7, 11, 14, 15, 16, 17, 18, 155]), (25, [6]), (2000139, [7, 11, 14, 15, 16, 17, 18]), (24, [7, 11, 14, 15, 16, 17, 18, 139]), (2000113, [7, 11, 14, 15, 16, 17, 18]), (22, [7, 11, 14, 15, 16, 17, 18, 113]), (1000022, [7, 11, 14, 15, 16, 17, 18]), (21, [7, 11, 14, 15, 16, 17, 18]), (20, [7, 11, 14, 15, 16, 17]), (19, [6]), (2000109, [7, 11, 14, 15, 16]), (18, [7, 11, 14, 15, 16, 109]), (17, [7, 11, 14, 15, 16]), (14, [7, 8, 11, 12, 13]), (16, [7, 8, 11, 12, 13]), (2000077, [7, 8, 11, 12, 13]), (15, [7, 8, 11, 12, 13, 77]), (2000063, [7, 8, 11, 12, 13]), (13, [7, 8, 11, 12, 13, 63]), (1000013, [7, 8, 11, 12, 13]), (12, [7, 8, 11, 12, 13]), (11, [7, 8, 11, 12]), (10, [7, 8, 11]), (7, [0, 1, 2, 7, 8, 9]), (9, [0, 1, 2, 7, 8, 9]), (8, [0, 1, 2, 7, 8, 9, 10]), (2000032, [0, 1, 2, 7, 8, 9]), (6, [0, 1, 2, 7, 8, 9, 32]), (1000006, [0, 1, 2, 7, 8, 9]), (5, [0, 1, 2, 7, 8, 9]), (4, [0, 1, 2, 7, 8]), (3, [0, 1, 2, 7]), (2, [6]), (2000027, [0, 1, 2]), (1, [0, 1, 2, 27]), (0, [0, 1, 2])], [(17, [(7, 3)])]⟩
def c17_r0 : List SOp := [
  ⟨(some 6), .assign (.const (.bool false)), none⟩]
def c17_r1 : List SOp := [
  ⟨(some 20), .move (.tmp 0), none⟩,
  ⟨(some 21), .call ⟨.builtin .len, #[(.tmp 20)], #[30]⟩, none⟩,
  ⟨(some 22), .binOp .gtr 3 (.tmp 21) (.const (.int .i64 8)) 3, none⟩,
  ⟨(some 23), .move (.tmp 22), none⟩,
  ⟨(some 24), .move (.tmp 1), (some ((some 23), false))⟩,
  ⟨(some 25), .call ⟨.builtin .len, #[(.tmp 24)], #[30]⟩, (some ((some 23), false))⟩,
  ⟨(some 26), .binOp .gtr 3 (.tmp 25) (.const (.int .i64 60)) 3, (some ((some 23), false))⟩,
  ⟨(some 27), .pick (.tmp 23) (.const (.bool true)) (.tmp 26), none⟩]
def c17_r2 : List SOp := [
  ⟨(some 28), .call ⟨.value (.func 62), #[], #[]⟩, none⟩,
  ⟨(some 6), .assign (.tmp 28), none⟩]
def c17_r3 : List SOp := [
  ⟨(some 7), .assign (.const (.slice none 0 0)), none⟩]
def c17_r4 : List SOp := [
  ⟨(some 8), .assign (.const (.slice none 0 0)), none⟩]
def c17_r5 : List SOp := [
  ⟨(some 9), .assign (.const (.int .i64 0)), none⟩]
def c17_r6 : List SOp := [
  ⟨(some 29), .move (.tmp 9), none⟩,
  ⟨(some 30), .move (.tmp 0), none⟩,
  ⟨(some 31), .call ⟨.builtin .len, #[(.tmp 30)], #[30]⟩, none⟩,
  ⟨(some 32), .binOp .lss 3 (.tmp 29) (.tmp 31) 3, none⟩]
def c17_r8 : List SOp := [
  ⟨(some 35), .move (.tmp 0), none⟩,
  ⟨(some 36), .move (.tmp 9), none⟩,
  ⟨(some 37), .indexAddr 30 (.tmp 35) (.tmp 36), none⟩,
  ⟨(some 38), .load 3 (.tmp 37), none⟩,
  ⟨(some 39), .call ⟨.value (.func 29), #[(.tmp 38), (.const (.int .i64 1048576))], #[3, 3]⟩, none⟩,
  ⟨(some 10), .assign (.tmp 39), none⟩]
def c17_r9 : List SOp := [
  ⟨(some 40), .move (.tmp 7), none⟩,
  ⟨(some 41), .move (.tmp 10), none⟩,
  ⟨(some 42), .move (.tmp 10), none⟩,
  ⟨(some 43), .binOp .quo 3 (.tmp 42) (.const (.int .i64 5)) 3, none⟩,
  ⟨(some 44), .buildSlice 30 2 #[(0, (.tmp 41)), (1, (.tmp 43))], none⟩,
  ⟨(some 45), .move (.tmp 10), none⟩,
  ⟨(some 46), .binOp .rem 3 (.tmp 45) (.const (.int .i64 3)) 3, none⟩,
  ⟨(some 47), .binOp .add 3 (.const (.int .i64 1)) (.tmp 46) 3, none⟩,
  ⟨(some 48), .call ⟨.value (.func 50), #[(.tmp 44), (.tmp 47)], #[30, 3]⟩, none⟩,
  ⟨(some 49), .buildSlice 38 1 #[(0, (.tmp 48))], none⟩,
  ⟨(some 50), .call ⟨.builtin .append, #[(.tmp 40), (.tmp 49)], #[38, 38]⟩, none⟩,
  ⟨(some 51), .move (.tmp 8), none⟩,
  ⟨(some 52), .buildSlice 68 1 #[(0, (.const (.bool true)))], none⟩,
  ⟨(some 53), .call ⟨.builtin .append, #[(.tmp 51), (.tmp 52)], #[68, 68]⟩, none⟩,
  ⟨(some 7), .assign (.tmp 50), none⟩,
  ⟨(some 8), .assign (.tmp 53), none⟩]
def c17_r7 : List SOp := [
  ⟨(some 33), .move (.tmp 9), none⟩,
  ⟨(some 34), .binOp .add 3 (.tmp 33) (.const (.int .i64 1)) 3, none⟩,
  ⟨(some 9), .assign (.tmp 34), none⟩]
def c17_l6 : SC := (.seq (.seq (.reg c17_r6 none (some [0, 1, 2, 7, 8, 9, 32])) (.cond (.tmp 32) .skip (.exit 0) (some [0, 1, 2, 7, 8, 9]))) (.seq (.block 1 (.seq (.reg c17_r8 none (some [0, 1, 2, 7, 8, 9, 10])) (.reg c17_r9 none (some [0, 1, 2, 7, 8, 9])))) (.reg c17_r7 none (some [0, 1, 2, 7, 8, 9]))))
def c17_r10 : List SOp := [
  ⟨(some 54), .move (.tmp 1), none⟩,
  ⟨(some 55), .move (.tmp 2), none⟩,
  ⟨(some 56), .call ⟨.value (.func 29), #[(.tmp 55), (.const (.int .i64 40))], #[3, 3]⟩, none⟩,
  ⟨(some 57), .call ⟨.value (.func 50), #[(.tmp 54), (.tmp 56)], #[30, 3]⟩, none⟩,
  ⟨(some 11), .assign (.tmp 57), none⟩]
def c17_r11 : List SOp := [
  ⟨(some 58), .move (.tmp 11), none⟩,
  ⟨(some 59), .convert 9 25 (.tmp 58), none⟩,
  ⟨(some 12), .assign (.tmp 59), none⟩]
def c17_r12 : List SOp := [
  ⟨(some 13), .assign (.const (.int .i64 0)), none⟩]
def c17_r13 : List SOp := [
  ⟨(some 60), .move (.tmp 13), none⟩,
  ⟨(some 61), .move (.tmp 12), none⟩,
  ⟨(some 62), .call ⟨.builtin .len, #[(.tmp 61)], #[25]⟩, none⟩,
  ⟨(some 63), .binOp .lss 3 (.tmp 60) (.tmp 62) 3, none⟩]
def c17_r15 : List SOp := [
  ⟨(some 66), .move (.tmp 12), none⟩,
  ⟨(some 67), .move (.tmp 13), none⟩,
  ⟨(some 68), .indexAddr 25 (.tmp 66) (.tmp 67), none⟩,
  ⟨(some 69), .load 5 (.tmp 68), none⟩,
  ⟨(some 70), .binOp .geq 5 (.tmp 69) (.const (.int .u8 97)) 5, none⟩,
  ⟨(some 71), .move (.tmp 70), none⟩,
  ⟨(some 72), .move (.tmp 12), (some ((some 71), true))⟩,
  ⟨(some 73), .move (.tmp 13), (some ((some 71), true))⟩,
  ⟨(some 74), .indexAddr 25 (.tmp 72) (.tmp 73), (some ((some 71), true))⟩,
  ⟨(some 75), .load 5 (.tmp 74), (some ((some 71), true))⟩,
  ⟨(some 76), .binOp .leq 5 (.tmp 75) (.const (.int .u8 122)) 5, (some ((some 71), true))⟩,
  ⟨(some 77), .pick (.tmp 71) (.tmp 76) (.const (.bool false)), none⟩]
def c17_r16 : List SOp := [
  ⟨(some 78), .move (.tmp 12), none⟩,
  ⟨(some 79), .move (.tmp 13), none⟩,
  ⟨(some 80), .move (.tmp 12), none⟩,
  ⟨(some 81), .move (.tmp 13), none⟩,
  ⟨(some 82), .indexAddr 25 (.tmp 80) (.tmp 81), none⟩,
  ⟨(some 83), .load 5 (.tmp 82), none⟩,
  ⟨(some 84), .binOp .sub 5 (.tmp 83) (.const (.int .u8 32)) 5, none⟩,
  ⟨(some 85), .indexAddr 25 (.tmp 78) (.tmp 79), none⟩,
  ⟨none, .store 5 (.tmp 85) (.tmp 84), none⟩]
def c17_r14 : List SOp := [
  ⟨(some 64), .move (.tmp 13), none⟩,
  ⟨(some 65), .binOp .add 3 (.tmp 64) (.const (.int .i64 1)) 3, none⟩,
  ⟨(some 13), .assign (.tmp 65), none⟩]
def c17_l13 : SC := (.seq (.seq (.reg c17_r13 none (some [7, 8, 11, 12, 13, 63])) (.cond (.tmp 63) .skip (.exit 2) (some [7, 8, 11, 12, 13]))) (.seq (.block 3 (.seq (.reg c17_r15 none (some [7, 8, 11, 12, 13, 77])) (.cond (.tmp 77) (.reg c17_r16 none (some [7, 8, 11, 12, 13])) .skip (some [7, 8, 11, 12, 13])))) (.reg c17_r14 none (some [7, 8, 11, 12, 13]))))
def c17_r17 : List SOp := [
  ⟨(some 86), .move (.tmp 7), none⟩,
  ⟨(some 87), .move (.tmp 8), none⟩,
  ⟨(some 88), .move (.tmp 11), none⟩,
  ⟨(some 89), .call ⟨.value (.func 64), #[(.tmp 86), (.tmp 87), (.tmp 88)], #[38, 68, 9]⟩, none⟩,
  ⟨(some 90), .move (.tmp 7), none⟩,
  ⟨(some 91), .move (.tmp 8), none⟩,
  ⟨(some 92), .move (.tmp 12), none⟩,
  ⟨(some 93), .convert 25 9 (.tmp 92), none⟩,
  ⟨(some 94), .call ⟨.value (.func 64), #[(.tmp 90), (.tmp 91), (.tmp 93)], #[38, 68, 9]⟩, none⟩,
  ⟨(some 95), .move (.tmp 7), none⟩,
  ⟨(some 96), .move (.tmp 11), none⟩,
  ⟨(some 97), .call ⟨.value (.func 64), #[(.tmp 95), (.const (.slice none 0 0)), (.tmp 96)], #[38, 68, 9]⟩, none⟩,
  ⟨(some 14), .assign (.tmp 89), none⟩,
  ⟨(some 15), .assign (.tmp 94), none⟩,
  ⟨(some 16), .assign (.tmp 97), none⟩]
def c17_r18 : List SOp := [
  ⟨(some 98), .move (.tmp 14), none⟩,
  ⟨(some 99), .call ⟨.builtin .len, #[(.tmp 98)], #[71]⟩, none⟩,
  ⟨(some 100), .move (.tmp 15), none⟩,
  ⟨(some 101), .call ⟨.builtin .len, #[(.tmp 100)], #[71]⟩, none⟩,
  ⟨(some 102), .binOp .neq 3 (.tmp 99) (.tmp 101) 3, none⟩,
  ⟨(some 103), .move (.tmp 102), none⟩,
  ⟨(some 104), .move (.tmp 16), (some ((some 103), false))⟩,
  ⟨(some 105), .call ⟨.builtin .len, #[(.tmp 104)], #[71]⟩, (some ((some 103), false))⟩,
  ⟨(some 106), .move (.tmp 14), (some ((some 103), false))⟩,
  ⟨(some 107), .call ⟨.builtin .len, #[(.tmp 106)], #[71]⟩, (some ((some 103), false))⟩,
  ⟨(some 108), .binOp .gtr 3 (.tmp 105) (.tmp 107) 3, (some ((some 103), false))⟩,
  ⟨(some 109), .pick (.tmp 103) (.const (.bool true)) (.tmp 108), none⟩]
def c17_r19 : List SOp := [
  ⟨(some 6), .assign (.const (.bool false)), none⟩]
def c17_r20 : List SOp := [
  ⟨(some 17), .assign (.const (.int .i64 0)), none⟩]
def c17_r21 : List SOp := [
  ⟨(some 18), .assign (.const (.int .i64 0)), none⟩]
def c17_r22 : List SOp := [
  ⟨(some 110), .move (.tmp 18), none⟩,
  ⟨(some 111), .move (.tmp 14), none⟩,
  ⟨(some 112), .call ⟨.builtin .len, #[(.tmp 111)], #[71]⟩, none⟩,
  ⟨(some 113), .binOp .lss 3 (.tmp 110) (.tmp 112) 3, none⟩]
def c17_r24 : List SOp := [
  ⟨(some 116), .move (.tmp 14), none⟩,
  ⟨(some 117), .move (.tmp 18), none⟩,
  ⟨(some 118), .indexAddr 71 (.tmp 116) (.tmp 117), none⟩,
  ⟨(some 119), .fieldAddr 75 (.tmp 118) 0, none⟩,
  ⟨(some 120), .load 3 (.tmp 119), none⟩,
  ⟨(some 121), .move (.tmp 15), none⟩,
  ⟨(some 122), .move (.tmp 18), none⟩,
  ⟨(some 123), .indexAddr 71 (.tmp 121) (.tmp 122), none⟩,
  ⟨(some 124), .fieldAddr 75 (.tmp 123) 0, none⟩,
  ⟨(some 125), .load 3 (.tmp 124), none⟩,
  ⟨(some 126), .binOp .neq 3 (.tmp 120) (.tmp 125) 3, none⟩,
  ⟨(some 127), .move (.tmp 126), none⟩,
  ⟨(some 128), .move (.tmp 14), (some ((some 127), false))⟩,
  ⟨(some 129), .move (.tmp 18), (some ((some 127), false))⟩,
  ⟨(some 130), .indexAddr 71 (.tmp 128) (.tmp 129), (some ((some 127), false))⟩,
  ⟨(some 131), .fieldAddr 75 (.tmp 130) 1, (some ((some 127), false))⟩,
  ⟨(some 132), .load 3 (.tmp 131), (some ((some 127), false))⟩,
  ⟨(some 133), .move (.tmp 15), (some ((some 127), false))⟩,
  ⟨(some 134), .move (.tmp 18), (some ((some 127), false))⟩,
  ⟨(some 135), .indexAddr 71 (.tmp 133) (.tmp 134), (some ((some 127), false))⟩,
  ⟨(some 136), .fieldAddr 75 (.tmp 135) 1, (some ((some 127), false))⟩,
  ⟨(some 137), .load 3 (.tmp 136), (some ((some 127), false))⟩,
  ⟨(some 138), .binOp .neq 3 (.tmp 132) (.tmp 137) 3, (some ((some 127), false))⟩,
  ⟨(some 139), .pick (.tmp 127) (.const (.bool true)) (.tmp 138), none⟩]
def c17_r25 : List SOp := [
  ⟨(some 6), .assign (.const (.bool false)), none⟩]
def c17_r26 : List SOp := [
  ⟨(some 140), .move (.tmp 14), none⟩,
  ⟨(some 141), .move (.tmp 18), none⟩,
  ⟨(some 142), .indexAddr 71 (.tmp 140) (.tmp 141), none⟩,
  ⟨(some 143), .fieldAddr 75 (.tmp 142) 0, none⟩,
  ⟨(some 144), .load 3 (.tmp 143), none⟩,
  ⟨(some 145), .binOp .lss 3 (.tmp 144) (.const (.int .i64 0)) 3, none⟩,
  ⟨(some 146), .move (.tmp 145), none⟩,
  ⟨(some 147), .move (.tmp 14), (some ((some 146), false))⟩,
  ⟨(some 148), .move (.tmp 18), (some ((some 146), false))⟩,
  ⟨(some 149), .indexAddr 71 (.tmp 147) (.tmp 148), (some ((some 146), false))⟩,
  ⟨(some 150), .fieldAddr 75 (.tmp 149) 0, (some ((some 146), false))⟩,
  ⟨(some 151), .load 3 (.tmp 150), (some ((some 146), false))⟩,
  ⟨(some 152), .move (.tmp 7), (some ((some 146), false))⟩,
  ⟨(some 153), .call ⟨.builtin .len, #[(.tmp 152)], #[38]⟩, (some ((some 146), false))⟩,
  ⟨(some 154), .binOp .geq 3 (.tmp 151) (.tmp 153) 3, (some ((some 146), false))⟩,
  ⟨(some 155), .pick (.tmp 146) (.const (.bool true)) (.tmp 154), none⟩]
def c17_r27 : List SOp := [
  ⟨(some 6), .assign (.const (.bool false)), none⟩]
def c17_r28 : List SOp := [
  ⟨(some 156), .move (.tmp 7), none⟩,
  ⟨(some 157), .move (.tmp 14), none⟩,
  ⟨(some 158), .move (.tmp 18), none⟩,
  ⟨(some 159), .indexAddr 71 (.tmp 157) (.tmp 158), none⟩,
  ⟨(some 160), .fieldAddr 75 (.tmp 159) 0, none⟩,
  ⟨(some 161), .load 3 (.tmp 160), none⟩,
  ⟨(some 162), .indexAddr 38 (.tmp 156) (.tmp 161), none⟩,
  ⟨(some 163), .load 9 (.tmp 162), none⟩,
  ⟨(some 19), .assign (.tmp 163), none⟩]
def c17_r29 : List SOp := [
  ⟨(some 164), .move (.tmp 14), none⟩,
  ⟨(some 165), .move (.tmp 18), none⟩,
  ⟨(some 166), .indexAddr 71 (.tmp 164) (.tmp 165), none⟩,
  ⟨(some 167), .fieldAddr 75 (.tmp 166) 1, none⟩,
  ⟨(some 168), .load 3 (.tmp 167), none⟩,
  ⟨(some 169), .move (.tmp 19), none⟩,
  ⟨(some 170), .call ⟨.builtin .len, #[(.tmp 169)], #[9]⟩, none⟩,
  ⟨(some 171), .binOp .lss 3 (.tmp 168) (.tmp 170) 3, none⟩,
  ⟨(some 172), .move (.tmp 171), none⟩,
  ⟨(some 173), .move (.tmp 14), (some ((some 172), false))⟩,
  ⟨(some 174), .move (.tmp 18), (some ((some 172), false))⟩,
  ⟨(some 175), .indexAddr 71 (.tmp 173) (.tmp 174), (some ((some 172), false))⟩,
  ⟨(some 176), .fieldAddr 75 (.tmp 175) 1, (some ((some 172), false))⟩,
  ⟨(some 177), .load 3 (.tmp 176), (some ((some 172), false))⟩,
  ⟨(some 178), .move (.tmp 11), (some ((some 172), false))⟩,
  ⟨(some 179), .call ⟨.builtin .len, #[(.tmp 178)], #[9]⟩, (some ((some 172), false))⟩,
  ⟨(some 180), .binOp .gtr 3 (.tmp 177) (.tmp 179) 3, (some ((some 172), false))⟩,
  ⟨(some 181), .pick (.tmp 172) (.const (.bool true)) (.tmp 180), none⟩]
def c17_r30 : List SOp := [
  ⟨(some 6), .assign (.const (.bool false)), none⟩]
def c17_r31 : List SOp := [
  ⟨(some 182), .move (.tmp 11), none⟩,
  ⟨(some 183), .move (.tmp 14), none⟩,
  ⟨(some 184), .move (.tmp 18), none⟩,
  ⟨(some 185), .indexAddr 71 (.tmp 183) (.tmp 184), none⟩,
  ⟨(some 186), .fieldAddr 75 (.tmp 185) 1, none⟩,
  ⟨(some 187), .load 3 (.tmp 186), none⟩,
  ⟨(some 188), .move (.tmp 19), none⟩,
  ⟨(some 189), .call ⟨.builtin .len, #[(.tmp 188)], #[9]⟩, none⟩,
  ⟨(some 190), .binOp .sub 3 (.tmp 187) (.tmp 189) 3, none⟩,
  ⟨(some 191), .move (.tmp 14), none⟩,
  ⟨(some 192), .move (.tmp 18), none⟩,
  ⟨(some 193), .indexAddr 71 (.tmp 191) (.tmp 192), none⟩,
  ⟨(some 194), .fieldAddr 75 (.tmp 193) 1, none⟩,
  ⟨(some 195), .load 3 (.tmp 194), none⟩,
  ⟨(some 196), .slice 9 (.tmp 182) (some (.tmp 190)) (some (.tmp 195)) none, none⟩,
  ⟨(some 197), .move (.tmp 19), none⟩,
  ⟨(some 198), .binOp .eql 9 (.tmp 196) (.tmp 197) 9, none⟩]
def c17_r32 : List SOp := [
  ⟨(some 199), .move (.tmp 17), none⟩,
  ⟨(some 200), .move (.tmp 16), none⟩,
  ⟨(some 201), .call ⟨.builtin .len, #[(.tmp 200)], #[71]⟩, none⟩,
  ⟨(some 202), .binOp .geq 3 (.tmp 199) (.tmp 201) 3, none⟩,
  ⟨(some 203), .move (.tmp 202), none⟩,
  ⟨(some 204), .move (.tmp 16), (some ((some 203), false))⟩,
  ⟨(some 205), .move (.tmp 17), (some ((some 203), false))⟩,
  ⟨(some 206), .indexAddr 71 (.tmp 204) (.tmp 205), (some ((some 203), false))⟩,
  ⟨(some 207), .fieldAddr 75 (.tmp 206) 0, (some ((some 203), false))⟩,
  ⟨(some 208), .load 3 (.tmp 207), (some ((some 203), false))⟩,
  ⟨(some 209), .move (.tmp 14), (some ((some 203), false))⟩,
  ⟨(some 210), .move (.tmp 18), (some ((some 203), false))⟩,
  ⟨(some 211), .indexAddr 71 (.tmp 209) (.tmp 210), (some ((some 203), false))⟩,
  ⟨(some 212), .fieldAddr 75 (.tmp 211) 0, (some ((some 203), false))⟩,
  ⟨(some 213), .load 3 (.tmp 212), (some ((some 203), false))⟩,
  ⟨(some 214), .binOp .neq 3 (.tmp 208) (.tmp 213) 3, (some ((some 203), false))⟩,
  ⟨(some 215), .pick (.tmp 203) (.const (.bool true)) (.tmp 214), none⟩,
  ⟨(some 216), .move (.tmp 215), none⟩,
  ⟨(some 217), .move (.tmp 16), (some ((some 216), false))⟩,
  ⟨(some 218), .move (.tmp 17), (some ((some 216), false))⟩,
  ⟨(some 219), .indexAddr 71 (.tmp 217) (.tmp 218), (some ((some 216), false))⟩,
  ⟨(some 220), .fieldAddr 75 (.tmp 219) 1, (some ((some 216), false))⟩,
  ⟨(some 221), .load 3 (.tmp 220), (some ((some 216), false))⟩,
  ⟨(some 222), .move (.tmp 14), (some ((some 216), false))⟩,
  ⟨(some 223), .move (.tmp 18), (some ((some 216), false))⟩,
  ⟨(some 224), .indexAddr 71 (.tmp 222) (.tmp 223), (some ((some 216), false))⟩,
  ⟨(some 225), .fieldAddr 75 (.tmp 224) 1, (some ((some 216), false))⟩,
  ⟨(some 226), .load 3 (.tmp 225), (some ((some 216), false))⟩,
  ⟨(some 227), .binOp .neq 3 (.tmp 221) (.tmp 226) 3, (some ((some 216), false))⟩,
  ⟨(some 228), .pick (.tmp 216) (.const (.bool true)) (.tmp 227), none⟩]
def c17_r33 : List SOp := [
  ⟨(some 6), .assign (.const (.bool false)), none⟩]
def c17_r34 : List SOp := [
  ⟨(some 229), .move (.tmp 17), none⟩,
  ⟨(some 230), .binOp .add 3 (.tmp 229) (.const (.int .i64 1)) 3, none⟩,
  ⟨(some 17), .assign (.tmp 230), none⟩]
def c17_r23 : List SOp := [
  ⟨(some 114), .move (.tmp 18), none⟩,
  ⟨(some 115), .binOp .add 3 (.tmp 114) (.const (.int .i64 1)) 3, none⟩,
  ⟨(some 18), .assign (.tmp 115), none⟩]
def c17_l22 : SC := (.seq (.seq (.reg c17_r22 none (some [7, 11, 14, 15, 16, 17, 18, 113])) (.cond (.tmp 113) .skip (.exit 4) (some [7, 11, 14, 15, 16, 17, 18]))) (.seq (.block 5 (.seq (.seq (.reg c17_r24 none (some [7, 11, 14, 15, 16, 17, 18, 139])) (.cond (.tmp 139) (.seq (.reg c17_r25 none (some [6])) .ret) .skip (some [7, 11, 14, 15, 16, 17, 18]))) (.seq (.seq (.reg c17_r26 none (some [7, 11, 14, 15, 16, 17, 18, 155])) (.cond (.tmp 155) (.seq (.reg c17_r27 none (some [6])) .ret) .skip (some [7, 11, 14, 15, 16, 17, 18]))) (.seq (.reg c17_r28 none (some [7, 11, 14, 15, 16, 17, 18, 19])) (.seq (.seq (.reg c17_r29 none (some [7, 11, 14, 15, 16, 17, 18, 19, 181])) (.cond (.tmp 181) (.seq (.reg c17_r30 none (some [6])) .ret) .skip (some [7, 11, 14, 15, 16, 17, 18, 19]))) (.seq (.reg c17_r31 none (some [7, 11, 14, 15, 16, 17, 18, 198])) (.cond (.tmp 198) (.seq (.seq (.reg c17_r32 none (some [7, 11, 14, 15, 16, 17, 18, 228])) (.cond (.tmp 228) (.seq (.reg c17_r33 none (some [6])) .ret) .skip (some [7, 11, 14, 15, 16, 17, 18]))) (.reg c17_r34 none (some [7, 11, 14, 15, 16, 17, 18]))) .skip (some [7, 11, 14, 15, 16, 17, 18])))))))) (.reg c17_r23 none (some [7, 11, 14, 15, 16, 17, 18]))))
def c17_r35 : List SOp := [
  ⟨(some 231), .move (.tmp 17), none⟩,
  ⟨(some 232), .move (.tmp 16), none⟩,
  ⟨(some 233), .call ⟨.builtin .len, #[(.tmp 232)], #[71]⟩, none⟩,
  ⟨(some 234), .binOp .eql 3 (.tmp 231) (.tmp 233) 3, none⟩,
  ⟨(some 235), .move (.tmp 234), none⟩,
  ⟨(some 236), .call ⟨.value (.func 62), #[], #[]⟩, (some ((some 235), true))⟩,
  ⟨(some 237), .pick (.tmp 235) (.tmp 236) (.const (.bool false)), none⟩,
  ⟨(some 6), .assign (.tmp 237), none⟩]
def c17 : SC := (.seq (.reg c17_r0 none (some [0, 1, 2])) (.seq (.seq (.reg c17_r1 none (some [0, 1, 2, 27])) (.cond (.tmp 27) (.seq (.reg c17_r2 none (some [6])) .ret) .skip (some [0, 1, 2]))) (.seq (.reg c17_r3 none (some [0, 1, 2, 7])) (.seq (.reg c17_r4 none (some [0, 1, 2, 7, 8])) (.seq (.seq (.reg c17_r5 none (some [0, 1, 2, 7, 8, 9])) (.block 0 (.loop c17_l6 (some [0, 1, 2, 7, 8, 9])))) (.seq (.reg c17_r10 none (some [7, 8, 11])) (.seq (.reg c17_r11 none (some [7, 8, 11, 12])) (.seq (.seq (.reg c17_r12 none (some [7, 8, 11, 12, 13])) (.block 2 (.loop c17_l13 (some [7, 8, 11, 12, 13])))) (.seq (.reg c17_r17 (some [(7, 3)]) (some [7, 11, 14, 15, 16])) (.seq (.seq (.reg c17_r18 none (some [7, 11, 14, 15, 16, 109])) (.cond (.tmp 109) (.seq (.reg c17_r19 none (some [6])) .ret) .skip (some [7, 11, 14, 15, 16]))) (.seq (.reg c17_r20 none (some [7, 11, 14, 15, 16, 17])) (.seq (.seq (.reg c17_r21 none (some [7, 11, 14, 15, 16, 17, 18])) (.block 4 (.loop c17_l22 (some [7, 11, 14, 15, 16, 17, 18])))) (.seq (.reg c17_r35 none (some [6])) .ret)))))))))))))
theorem c17_eq : ∃ code, Try.f17.body = some code ∧ compile H17 code = c17 := ⟨_, rfl, by kernel_rfl⟩
theorem c17_fn : Try.prog.funcs[17]? = some Try.f17 := by kernel_rfl
theorem c17_rs : Try.f17.results.toList = [.tmp 6] := by kernel_rfl
theorem c17_ok : fnB Try.prog H17 Try.f17 = true := by kernel_rfl
theorem c17_nt : Try.f17.ntmps = 238 := by kernel_rfl
end Go.AM
