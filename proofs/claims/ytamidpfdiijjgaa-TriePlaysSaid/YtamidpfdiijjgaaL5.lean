/-
  Printed by program (wip/tools/print.sh): compiled code.
-/
import Derived.Test.YtamidpfdiijjgaaAM16
import Derived.Test.YtamidpfdiijjgaaProg
namespace Go.AM
open Go Go.Proofs
set_option maxRecDepth 100000
/-! 5: rampart/rampartlaw13.TriePlays -/
def H5 : Hint := ⟨[(43, [6]), (42, [7, 22, 23, 24, 27, 30]), (41, [7, 22, 23, 24, 27]), (40, [7, 22, 23, 24]), (39, [2, 7, 22]), (30, [1, 2, 7, 8, 9, 19]), (38, [6]), (2000195, [1, 2, 7, 8, 9, 19]), (37, [1, 2, 7, 8, 9, 19, 195]), (34, [1, 2, 7, 8, 9, 19, 20, 21]), (36, [1, 2, 7, 8, 9, 19, 20, 21]), (2000185, [1, 2, 7, 8, 9, 19, 20, 21]), (35, [1, 2, 7, 8, 9, 19, 20, 21, 185]), (2000174, [1, 2, 7, 8, 9, 19, 20, 21]), (33, [1, 2, 7, 8, 9, 19, 20, 21, 174]), (1000033, [1, 2, 7, 8, 9, 19, 20, 21]), (32, [1, 2, 7, 8, 9, 19, 20, 21]), (31, [1, 2, 7, 8, 9, 19, 20]), (2000168, [1, 2, 7, 8, 9, 19]), (29, [1, 2, 7, 8, 9, 19, 168]), (1000029, [1, 2, 7, 8, 9, 19]), (28, [1, 2, 7, 8, 9, 19]), (8, [0, 1, 2, 7, 8, 9, 10]), (27, [6]), (2000164, [0, 1, 2, 7, 8, 9, 10]), (26, [0, 1, 2, 7, 8, 9, 10, 164]), (16, [0, 1, 2, 7, 8, 9, 10, 11, 12, 13]), (25, [0, 1, 2, 7, 8, 9, 10, 11, 12, 13]), (24, [6]), (2000151, [0, 1, 2, 7, 8, 9, 10, 11, 13, 14]), (23, [0, 1, 2, 7, 8, 9, 10, 11, 13, 14, 151]), (22, [0, 1, 2, 7, 8, 9, 10, 11, 12, 13, 14, 16, 17, 18]), (21, [0, 1, 2, 7, 8, 9, 10, 11, 12, 13, 14]), (2000104, [0, 1, 2, 7, 8, 9, 10, 11, 12, 13, 14]), (20, [0, 1, 2, 7, 8, 9, 10, 11, 12, 13, 14, 104]), (19, [6]), (2000100, [0, 1, 2, 7, 8, 9, 10, 11, 12, 13, 14]), (18, [0, 1, 2, 7, 8, 9, 10, 11, 12, 13, 14, 100]), (17, [0, 1, 2, 7, 8, 9, 10, 11, 12, 13, 14, 15]), (2000077, [0, 1, 2, 7, 8, 9, 10, 11, 12, 13]), (15, [0, 1, 2, 7, 8, 9, 10, 11, 12, 13, 77]), (1000015, [0, 1, 2, 7, 8, 9, 10, 11, 12, 13]), (14, [0, 1, 2, 7, 8, 9, 10, 11, 12, 13]), (13, [0, 1, 2, 7, 8, 9, 10, 11, 12]), (12, [6]), (2000073, [0, 1, 2, 7, 8, 9, 10, 11]), (11, [0, 1, 2, 7, 8, 9, 10, 11, 73]), (10, [0, 1, 2, 7, 8, 9, 10, 11]), (9, [0, 1, 2, 7, 8, 9, 10, 11]), (2000048, [0, 1, 2, 7, 8, 9, 10]), (7, [0, 1, 2, 7, 8, 9, 10, 48]), (1000007, [0, 1, 2, 7, 8, 9, 10]), (6, [0, 1, 2, 7, 8, 9, 10]), (5, [0, 1, 2, 7, 8, 9]), (4, [0, 1, 2, 7, 8]), (3, [6]), (2000038, [0, 1, 2, 7]), (2, [0, 1, 2, 7, 38]), (1, [0, 1, 2, 7]), (0, [0, 1, 2])], []⟩
def c5_r0 : List SOp := [
  ⟨(some 6), .assign (.const (.bool false)), none⟩]
def c5_r1 : List SOp := [
  ⟨(some 31), .call ⟨.value (.func 30), #[], #[]⟩, none⟩,
  ⟨(some 7), .assign (.tmp 31), none⟩]
def c5_r2 : List SOp := [
  ⟨(some 32), .move (.tmp 7), none⟩,
  ⟨(some 33), .binOp .eql 23 (.tmp 32) (.const (.pointer none)) 23, none⟩,
  ⟨(some 34), .move (.tmp 33), none⟩,
  ⟨(some 35), .move (.tmp 0), (some ((some 34), false))⟩,
  ⟨(some 36), .call ⟨.builtin .len, #[(.tmp 35)], #[38]⟩, (some ((some 34), false))⟩,
  ⟨(some 37), .binOp .gtr 3 (.tmp 36) (.const (.int .i64 20)) 3, (some ((some 34), false))⟩,
  ⟨(some 38), .pick (.tmp 34) (.const (.bool true)) (.tmp 37), none⟩]
def c5_r3 : List SOp := [
  ⟨(some 39), .move (.tmp 7), none⟩,
  ⟨(some 40), .binOp .neq 23 (.tmp 39) (.const (.pointer none)) 23, none⟩,
  ⟨(some 41), .move (.tmp 40), none⟩,
  ⟨(some 42), .call ⟨.value (.func 36), #[], #[]⟩, (some ((some 41), true))⟩,
  ⟨(some 43), .pick (.tmp 41) (.tmp 42) (.const (.bool false)), none⟩,
  ⟨(some 6), .assign (.tmp 43), none⟩]
def c5_r4 : List SOp := [
  ⟨(some 8), .assign (.const (.slice none 0 0)), none⟩]
def c5_r5 : List SOp := [
  ⟨(some 44), .buildSlice 38 1 #[(0, (.const (.string ⟨#[]⟩)))], none⟩,
  ⟨(some 9), .assign (.tmp 44), none⟩]
def c5_r6 : List SOp := [
  ⟨(some 10), .assign (.const (.int .i64 0)), none⟩]
def c5_r7 : List SOp := [
  ⟨(some 45), .move (.tmp 10), none⟩,
  ⟨(some 46), .move (.tmp 0), none⟩,
  ⟨(some 47), .call ⟨.builtin .len, #[(.tmp 46)], #[38]⟩, none⟩,
  ⟨(some 48), .binOp .lss 3 (.tmp 45) (.tmp 47) 3, none⟩]
def c5_r9 : List SOp := [
  ⟨(some 51), .move (.tmp 0), none⟩,
  ⟨(some 52), .move (.tmp 10), none⟩,
  ⟨(some 53), .indexAddr 38 (.tmp 51) (.tmp 52), none⟩,
  ⟨(some 54), .load 9 (.tmp 53), none⟩,
  ⟨(some 55), .move (.tmp 0), none⟩,
  ⟨(some 56), .move (.tmp 10), none⟩,
  ⟨(some 57), .indexAddr 38 (.tmp 55) (.tmp 56), none⟩,
  ⟨(some 58), .load 9 (.tmp 57), none⟩,
  ⟨(some 59), .call ⟨.builtin .len, #[(.tmp 58)], #[9]⟩, none⟩,
  ⟨(some 60), .call ⟨.builtin .min, #[(.tmp 59), (.const (.int .i64 16))], #[3, 3]⟩, none⟩,
  ⟨(some 61), .slice 9 (.tmp 54) none (some (.tmp 60)) none, none⟩,
  ⟨(some 11), .assign (.tmp 61), none⟩]
def c5_r10 : List SOp := [
  ⟨(some 62), .move (.tmp 8), none⟩,
  ⟨(some 63), .move (.tmp 11), none⟩,
  ⟨(some 64), .buildSlice 38 1 #[(0, (.tmp 63))], none⟩,
  ⟨(some 65), .call ⟨.builtin .append, #[(.tmp 62), (.tmp 64)], #[38, 38]⟩, none⟩,
  ⟨(some 8), .assign (.tmp 65), none⟩]
def c5_r11 : List SOp := [
  ⟨(some 66), .move (.tmp 7), none⟩,
  ⟨(some 67), .move (.tmp 0), none⟩,
  ⟨(some 68), .move (.tmp 10), none⟩,
  ⟨(some 69), .indexAddr 38 (.tmp 67) (.tmp 68), none⟩,
  ⟨(some 70), .load 9 (.tmp 69), none⟩,
  ⟨(some 71), .call ⟨.value (.func 31), #[(.tmp 66), (.tmp 70)], #[23, 9]⟩, none⟩,
  ⟨(some 72), .move (.tmp 10), none⟩,
  ⟨(some 73), .binOp .neq 3 (.tmp 71) (.tmp 72) 3, none⟩]
def c5_r12 : List SOp := [
  ⟨(some 6), .assign (.const (.bool false)), none⟩]
def c5_r13 : List SOp := [
  ⟨(some 12), .assign (.const (.int .i64 0)), none⟩]
def c5_r14 : List SOp := [
  ⟨(some 13), .assign (.const (.int .i64 0)), none⟩]
def c5_r15 : List SOp := [
  ⟨(some 74), .move (.tmp 13), none⟩,
  ⟨(some 75), .move (.tmp 11), none⟩,
  ⟨(some 76), .call ⟨.builtin .len, #[(.tmp 75)], #[9]⟩, none⟩,
  ⟨(some 77), .binOp .lss 3 (.tmp 74) (.tmp 76) 3, none⟩]
def c5_r17 : List SOp := [
  ⟨(some 81), .move (.tmp 7), none⟩,
  ⟨(some 82), .move (.tmp 12), none⟩,
  ⟨(some 83), .move (.tmp 11), none⟩,
  ⟨(some 84), .move (.tmp 13), none⟩,
  ⟨(some 85), .index 9 (.tmp 83) (.tmp 84), none⟩,
  ⟨(some 86), .call ⟨.value (.func 33), #[(.tmp 81), (.tmp 82), (.tmp 85)], #[23, 3, 5]⟩, none⟩,
  ⟨(some 80), .move (.tmp 86), none⟩,
  ⟨(some 87), .extract (.tmp 80) 0, none⟩,
  ⟨(some 88), .extract (.tmp 80) 1, none⟩,
  ⟨(some 14), .assign (.tmp 87), none⟩,
  ⟨(some 15), .assign (.tmp 88), none⟩]
def c5_r18 : List SOp := [
  ⟨(some 89), .move (.tmp 15), none⟩,
  ⟨(some 90), .unOp .not 4 (.tmp 89), none⟩,
  ⟨(some 91), .move (.tmp 90), none⟩,
  ⟨(some 92), .move (.tmp 14), (some ((some 91), false))⟩,
  ⟨(some 93), .binOp .lss 3 (.tmp 92) (.const (.int .i64 1)) 3, (some ((some 91), false))⟩,
  ⟨(some 94), .pick (.tmp 91) (.const (.bool true)) (.tmp 93), none⟩,
  ⟨(some 95), .move (.tmp 94), none⟩,
  ⟨(some 96), .move (.tmp 14), (some ((some 95), false))⟩,
  ⟨(some 97), .move (.tmp 9), (some ((some 95), false))⟩,
  ⟨(some 98), .call ⟨.builtin .len, #[(.tmp 97)], #[38]⟩, (some ((some 95), false))⟩,
  ⟨(some 99), .binOp .gtr 3 (.tmp 96) (.tmp 98) 3, (some ((some 95), false))⟩,
  ⟨(some 100), .pick (.tmp 95) (.const (.bool true)) (.tmp 99), none⟩]
def c5_r19 : List SOp := [
  ⟨(some 6), .assign (.const (.bool false)), none⟩]
def c5_r20 : List SOp := [
  ⟨(some 101), .move (.tmp 14), none⟩,
  ⟨(some 102), .move (.tmp 9), none⟩,
  ⟨(some 103), .call ⟨.builtin .len, #[(.tmp 102)], #[38]⟩, none⟩,
  ⟨(some 104), .binOp .eql 3 (.tmp 101) (.tmp 103) 3, none⟩]
def c5_r21 : List SOp := [
  ⟨(some 105), .move (.tmp 9), none⟩,
  ⟨(some 106), .move (.tmp 11), none⟩,
  ⟨(some 107), .move (.tmp 13), none⟩,
  ⟨(some 108), .binOp .add 3 (.tmp 107) (.const (.int .i64 1)) 3, none⟩,
  ⟨(some 109), .slice 9 (.tmp 106) none (some (.tmp 108)) none, none⟩,
  ⟨(some 110), .buildSlice 38 1 #[(0, (.tmp 109))], none⟩,
  ⟨(some 111), .call ⟨.builtin .append, #[(.tmp 105), (.tmp 110)], #[38, 38]⟩, none⟩,
  ⟨(some 9), .assign (.tmp 111), none⟩]
def c5_r22 : List SOp := [
  ⟨(some 113), .move (.tmp 7), none⟩,
  ⟨(some 114), .move (.tmp 14), none⟩,
  ⟨(some 115), .call ⟨.value (.func 37), #[(.tmp 113), (.tmp 114)], #[23, 3]⟩, none⟩,
  ⟨(some 112), .move (.tmp 115), none⟩,
  ⟨(some 116), .extract (.tmp 112) 0, none⟩,
  ⟨(some 117), .extract (.tmp 112) 1, none⟩,
  ⟨(some 118), .extract (.tmp 112) 2, none⟩,
  ⟨(some 16), .assign (.tmp 116), none⟩,
  ⟨(some 17), .assign (.tmp 117), none⟩,
  ⟨(some 18), .assign (.tmp 118), none⟩]
def c5_r23 : List SOp := [
  ⟨(some 119), .move (.tmp 9), none⟩,
  ⟨(some 120), .move (.tmp 14), none⟩,
  ⟨(some 121), .indexAddr 38 (.tmp 119) (.tmp 120), none⟩,
  ⟨(some 122), .load 9 (.tmp 121), none⟩,
  ⟨(some 123), .move (.tmp 11), none⟩,
  ⟨(some 124), .move (.tmp 13), none⟩,
  ⟨(some 125), .binOp .add 3 (.tmp 124) (.const (.int .i64 1)) 3, none⟩,
  ⟨(some 126), .slice 9 (.tmp 123) none (some (.tmp 125)) none, none⟩,
  ⟨(some 127), .binOp .neq 9 (.tmp 122) (.tmp 126) 9, none⟩,
  ⟨(some 128), .move (.tmp 127), none⟩,
  ⟨(some 129), .move (.tmp 7), (some ((some 128), false))⟩,
  ⟨(some 130), .move (.tmp 14), (some ((some 128), false))⟩,
  ⟨(some 131), .call ⟨.value (.func 35), #[(.tmp 129), (.tmp 130)], #[23, 3]⟩, (some ((some 128), false))⟩,
  ⟨(some 132), .move (.tmp 13), (some ((some 128), false))⟩,
  ⟨(some 133), .binOp .add 3 (.tmp 132) (.const (.int .i64 1)) 3, (some ((some 128), false))⟩,
  ⟨(some 134), .binOp .neq 3 (.tmp 131) (.tmp 133) 3, (some ((some 128), false))⟩,
  ⟨(some 135), .pick (.tmp 128) (.const (.bool true)) (.tmp 134), none⟩,
  ⟨(some 136), .move (.tmp 135), none⟩,
  ⟨(some 137), .move (.tmp 18), (some ((some 136), false))⟩,
  ⟨(some 138), .unOp .not 4 (.tmp 137), (some ((some 136), false))⟩,
  ⟨(some 139), .pick (.tmp 136) (.const (.bool true)) (.tmp 138), none⟩,
  ⟨(some 140), .move (.tmp 139), none⟩,
  ⟨(some 141), .move (.tmp 16), (some ((some 140), false))⟩,
  ⟨(some 142), .move (.tmp 12), (some ((some 140), false))⟩,
  ⟨(some 143), .binOp .neq 3 (.tmp 141) (.tmp 142) 3, (some ((some 140), false))⟩,
  ⟨(some 144), .pick (.tmp 140) (.const (.bool true)) (.tmp 143), none⟩,
  ⟨(some 145), .move (.tmp 144), none⟩,
  ⟨(some 146), .move (.tmp 17), (some ((some 145), false))⟩,
  ⟨(some 147), .move (.tmp 11), (some ((some 145), false))⟩,
  ⟨(some 148), .move (.tmp 13), (some ((some 145), false))⟩,
  ⟨(some 149), .index 9 (.tmp 147) (.tmp 148), (some ((some 145), false))⟩,
  ⟨(some 150), .binOp .neq 5 (.tmp 146) (.tmp 149) 5, (some ((some 145), false))⟩,
  ⟨(some 151), .pick (.tmp 145) (.const (.bool true)) (.tmp 150), none⟩]
def c5_r24 : List SOp := [
  ⟨(some 6), .assign (.const (.bool false)), none⟩]
def c5_r25 : List SOp := [
  ⟨(some 152), .move (.tmp 14), none⟩,
  ⟨(some 12), .assign (.tmp 152), none⟩]
def c5_r16 : List SOp := [
  ⟨(some 78), .move (.tmp 13), none⟩,
  ⟨(some 79), .binOp .add 3 (.tmp 78) (.const (.int .i64 1)) 3, none⟩,
  ⟨(some 13), .assign (.tmp 79), none⟩]
def c5_l15 : SC := (.seq (.seq (.reg c5_r15 none (some [0, 1, 2, 7, 8, 9, 10, 11, 12, 13, 77])) (.cond (.tmp 77) .skip (.exit 2) (some [0, 1, 2, 7, 8, 9, 10, 11, 12, 13]))) (.seq (.block 3 (.seq (.reg c5_r17 none (some [0, 1, 2, 7, 8, 9, 10, 11, 12, 13, 14, 15])) (.seq (.seq (.reg c5_r18 none (some [0, 1, 2, 7, 8, 9, 10, 11, 12, 13, 14, 100])) (.cond (.tmp 100) (.seq (.reg c5_r19 none (some [6])) .ret) .skip (some [0, 1, 2, 7, 8, 9, 10, 11, 12, 13, 14]))) (.seq (.seq (.reg c5_r20 none (some [0, 1, 2, 7, 8, 9, 10, 11, 12, 13, 14, 104])) (.cond (.tmp 104) (.reg c5_r21 none (some [0, 1, 2, 7, 8, 9, 10, 11, 12, 13, 14])) .skip (some [0, 1, 2, 7, 8, 9, 10, 11, 12, 13, 14]))) (.seq (.reg c5_r22 none (some [0, 1, 2, 7, 8, 9, 10, 11, 12, 13, 14, 16, 17, 18])) (.seq (.seq (.reg c5_r23 none (some [0, 1, 2, 7, 8, 9, 10, 11, 13, 14, 151])) (.cond (.tmp 151) (.seq (.reg c5_r24 none (some [6])) .ret) .skip (some [0, 1, 2, 7, 8, 9, 10, 11, 13, 14]))) (.reg c5_r25 none (some [0, 1, 2, 7, 8, 9, 10, 11, 12, 13])))))))) (.reg c5_r16 none (some [0, 1, 2, 7, 8, 9, 10, 11, 12, 13]))))
def c5_r26 : List SOp := [
  ⟨(some 153), .move (.tmp 7), none⟩,
  ⟨(some 154), .call ⟨.value (.func 32), #[(.tmp 153)], #[23]⟩, none⟩,
  ⟨(some 155), .move (.tmp 9), none⟩,
  ⟨(some 156), .call ⟨.builtin .len, #[(.tmp 155)], #[38]⟩, none⟩,
  ⟨(some 157), .binOp .neq 3 (.tmp 154) (.tmp 156) 3, none⟩,
  ⟨(some 158), .move (.tmp 157), none⟩,
  ⟨(some 159), .move (.tmp 7), (some ((some 158), false))⟩,
  ⟨(some 160), .call ⟨.value (.func 32), #[(.tmp 159)], #[23]⟩, (some ((some 158), false))⟩,
  ⟨(some 161), .move (.tmp 8), (some ((some 158), false))⟩,
  ⟨(some 162), .call ⟨.value (.func 39), #[(.tmp 161)], #[38]⟩, (some ((some 158), false))⟩,
  ⟨(some 163), .binOp .neq 3 (.tmp 160) (.tmp 162) 3, (some ((some 158), false))⟩,
  ⟨(some 164), .pick (.tmp 158) (.const (.bool true)) (.tmp 163), none⟩]
def c5_r27 : List SOp := [
  ⟨(some 6), .assign (.const (.bool false)), none⟩]
def c5_r8 : List SOp := [
  ⟨(some 49), .move (.tmp 10), none⟩,
  ⟨(some 50), .binOp .add 3 (.tmp 49) (.const (.int .i64 1)) 3, none⟩,
  ⟨(some 10), .assign (.tmp 50), none⟩]
def c5_l7 : SC := (.seq (.seq (.reg c5_r7 none (some [0, 1, 2, 7, 8, 9, 10, 48])) (.cond (.tmp 48) .skip (.exit 0) (some [0, 1, 2, 7, 8, 9, 10]))) (.seq (.block 1 (.seq (.reg c5_r9 none (some [0, 1, 2, 7, 8, 9, 10, 11])) (.seq (.reg c5_r10 none (some [0, 1, 2, 7, 8, 9, 10, 11])) (.seq (.seq (.reg c5_r11 none (some [0, 1, 2, 7, 8, 9, 10, 11, 73])) (.cond (.tmp 73) (.seq (.reg c5_r12 none (some [6])) .ret) .skip (some [0, 1, 2, 7, 8, 9, 10, 11]))) (.seq (.reg c5_r13 none (some [0, 1, 2, 7, 8, 9, 10, 11, 12])) (.seq (.seq (.reg c5_r14 none (some [0, 1, 2, 7, 8, 9, 10, 11, 12, 13])) (.block 2 (.loop c5_l15 (some [0, 1, 2, 7, 8, 9, 10, 11, 12, 13])))) (.seq (.reg c5_r26 none (some [0, 1, 2, 7, 8, 9, 10, 164])) (.cond (.tmp 164) (.seq (.reg c5_r27 none (some [6])) .ret) .skip (some [0, 1, 2, 7, 8, 9, 10]))))))))) (.reg c5_r8 none (some [0, 1, 2, 7, 8, 9, 10]))))
def c5_r28 : List SOp := [
  ⟨(some 19), .assign (.const (.int .i64 0)), none⟩]
def c5_r29 : List SOp := [
  ⟨(some 165), .move (.tmp 19), none⟩,
  ⟨(some 166), .move (.tmp 9), none⟩,
  ⟨(some 167), .call ⟨.builtin .len, #[(.tmp 166)], #[38]⟩, none⟩,
  ⟨(some 168), .binOp .lss 3 (.tmp 165) (.tmp 167) 3, none⟩]
def c5_r31 : List SOp := [
  ⟨(some 20), .assign (.const (.slice none 0 0)), none⟩]
def c5_r32 : List SOp := [
  ⟨(some 21), .assign (.const (.int .i64 0)), none⟩]
def c5_r33 : List SOp := [
  ⟨(some 171), .move (.tmp 21), none⟩,
  ⟨(some 172), .move (.tmp 8), none⟩,
  ⟨(some 173), .call ⟨.builtin .len, #[(.tmp 172)], #[38]⟩, none⟩,
  ⟨(some 174), .binOp .lss 3 (.tmp 171) (.tmp 173) 3, none⟩]
def c5_r35 : List SOp := [
  ⟨(some 177), .move (.tmp 8), none⟩,
  ⟨(some 178), .move (.tmp 21), none⟩,
  ⟨(some 179), .indexAddr 38 (.tmp 177) (.tmp 178), none⟩,
  ⟨(some 180), .load 9 (.tmp 179), none⟩,
  ⟨(some 181), .move (.tmp 9), none⟩,
  ⟨(some 182), .move (.tmp 19), none⟩,
  ⟨(some 183), .indexAddr 38 (.tmp 181) (.tmp 182), none⟩,
  ⟨(some 184), .load 9 (.tmp 183), none⟩,
  ⟨(some 185), .binOp .eql 9 (.tmp 180) (.tmp 184) 9, none⟩]
def c5_r36 : List SOp := [
  ⟨(some 186), .move (.tmp 20), none⟩,
  ⟨(some 187), .move (.tmp 21), none⟩,
  ⟨(some 188), .buildSlice 30 1 #[(0, (.tmp 187))], none⟩,
  ⟨(some 189), .call ⟨.builtin .append, #[(.tmp 186), (.tmp 188)], #[30, 30]⟩, none⟩,
  ⟨(some 20), .assign (.tmp 189), none⟩]
def c5_r34 : List SOp := [
  ⟨(some 175), .move (.tmp 21), none⟩,
  ⟨(some 176), .binOp .add 3 (.tmp 175) (.const (.int .i64 1)) 3, none⟩,
  ⟨(some 21), .assign (.tmp 176), none⟩]
def c5_l33 : SC := (.seq (.seq (.reg c5_r33 none (some [1, 2, 7, 8, 9, 19, 20, 21, 174])) (.cond (.tmp 174) .skip (.exit 6) (some [1, 2, 7, 8, 9, 19, 20, 21]))) (.seq (.block 7 (.seq (.reg c5_r35 none (some [1, 2, 7, 8, 9, 19, 20, 21, 185])) (.cond (.tmp 185) (.reg c5_r36 none (some [1, 2, 7, 8, 9, 19, 20, 21])) .skip (some [1, 2, 7, 8, 9, 19, 20, 21])))) (.reg c5_r34 none (some [1, 2, 7, 8, 9, 19, 20, 21]))))
def c5_r37 : List SOp := [
  ⟨(some 190), .move (.tmp 7), none⟩,
  ⟨(some 191), .move (.tmp 19), none⟩,
  ⟨(some 192), .call ⟨.value (.func 34), #[(.tmp 190), (.tmp 191)], #[23, 3]⟩, none⟩,
  ⟨(some 193), .move (.tmp 20), none⟩,
  ⟨(some 194), .call ⟨.value (.func 40), #[(.tmp 192), (.tmp 193)], #[30, 30]⟩, none⟩,
  ⟨(some 195), .unOp .not 4 (.tmp 194), none⟩]
def c5_r38 : List SOp := [
  ⟨(some 6), .assign (.const (.bool false)), none⟩]
def c5_r30 : List SOp := [
  ⟨(some 169), .move (.tmp 19), none⟩,
  ⟨(some 170), .binOp .add 3 (.tmp 169) (.const (.int .i64 1)) 3, none⟩,
  ⟨(some 19), .assign (.tmp 170), none⟩]
def c5_l29 : SC := (.seq (.seq (.reg c5_r29 none (some [1, 2, 7, 8, 9, 19, 168])) (.cond (.tmp 168) .skip (.exit 4) (some [1, 2, 7, 8, 9, 19]))) (.seq (.block 5 (.seq (.reg c5_r31 none (some [1, 2, 7, 8, 9, 19, 20])) (.seq (.seq (.reg c5_r32 none (some [1, 2, 7, 8, 9, 19, 20, 21])) (.block 6 (.loop c5_l33 (some [1, 2, 7, 8, 9, 19, 20, 21])))) (.seq (.reg c5_r37 none (some [1, 2, 7, 8, 9, 19, 195])) (.cond (.tmp 195) (.seq (.reg c5_r38 none (some [6])) .ret) .skip (some [1, 2, 7, 8, 9, 19])))))) (.reg c5_r30 none (some [1, 2, 7, 8, 9, 19]))))
def c5_r39 : List SOp := [
  ⟨(some 196), .move (.tmp 9), none⟩,
  ⟨(some 197), .call ⟨.builtin .len, #[(.tmp 196)], #[38]⟩, none⟩,
  ⟨(some 198), .move (.tmp 1), none⟩,
  ⟨(some 199), .call ⟨.value (.func 29), #[(.tmp 198), (.const (.int .i64 100))], #[3, 3]⟩, none⟩,
  ⟨(some 200), .binOp .add 3 (.tmp 197) (.tmp 199) 3, none⟩,
  ⟨(some 22), .assign (.tmp 200), none⟩]
def c5_r40 : List SOp := [
  ⟨(some 202), .move (.tmp 7), none⟩,
  ⟨(some 203), .move (.tmp 22), none⟩,
  ⟨(some 204), .move (.tmp 2), none⟩,
  ⟨(some 205), .call ⟨.value (.func 33), #[(.tmp 202), (.tmp 203), (.tmp 204)], #[23, 3, 5]⟩, none⟩,
  ⟨(some 201), .move (.tmp 205), none⟩,
  ⟨(some 206), .extract (.tmp 201) 0, none⟩,
  ⟨(some 207), .extract (.tmp 201) 1, none⟩,
  ⟨(some 23), .assign (.tmp 206), none⟩,
  ⟨(some 24), .assign (.tmp 207), none⟩]
def c5_r41 : List SOp := [
  ⟨(some 209), .move (.tmp 7), none⟩,
  ⟨(some 210), .move (.tmp 22), none⟩,
  ⟨(some 211), .call ⟨.value (.func 37), #[(.tmp 209), (.tmp 210)], #[23, 3]⟩, none⟩,
  ⟨(some 208), .move (.tmp 211), none⟩,
  ⟨(some 212), .extract (.tmp 208) 0, none⟩,
  ⟨(some 213), .extract (.tmp 208) 1, none⟩,
  ⟨(some 214), .extract (.tmp 208) 2, none⟩,
  ⟨(some 25), .assign (.tmp 212), none⟩,
  ⟨(some 26), .assign (.tmp 213), none⟩,
  ⟨(some 27), .assign (.tmp 214), none⟩]
def c5_r42 : List SOp := [
  ⟨(some 216), .move (.tmp 7), none⟩,
  ⟨(some 217), .call ⟨.value (.func 37), #[(.tmp 216), (.const (.int .i64 0))], #[23, 3]⟩, none⟩,
  ⟨(some 215), .move (.tmp 217), none⟩,
  ⟨(some 218), .extract (.tmp 215) 0, none⟩,
  ⟨(some 219), .extract (.tmp 215) 1, none⟩,
  ⟨(some 220), .extract (.tmp 215) 2, none⟩,
  ⟨(some 28), .assign (.tmp 218), none⟩,
  ⟨(some 29), .assign (.tmp 219), none⟩,
  ⟨(some 30), .assign (.tmp 220), none⟩]
def c5_r43 : List SOp := [
  ⟨(some 221), .move (.tmp 23), none⟩,
  ⟨(some 222), .binOp .eql 3 (.tmp 221) (.const (.int .i64 0)) 3, none⟩,
  ⟨(some 223), .move (.tmp 222), none⟩,
  ⟨(some 224), .move (.tmp 24), (some ((some 223), true))⟩,
  ⟨(some 225), .unOp .not 4 (.tmp 224), (some ((some 223), true))⟩,
  ⟨(some 226), .pick (.tmp 223) (.tmp 225) (.const (.bool false)), none⟩,
  ⟨(some 227), .move (.tmp 226), none⟩,
  ⟨(some 228), .move (.tmp 27), (some ((some 227), true))⟩,
  ⟨(some 229), .unOp .not 4 (.tmp 228), (some ((some 227), true))⟩,
  ⟨(some 230), .pick (.tmp 227) (.tmp 229) (.const (.bool false)), none⟩,
  ⟨(some 231), .move (.tmp 230), none⟩,
  ⟨(some 232), .move (.tmp 30), (some ((some 231), true))⟩,
  ⟨(some 233), .unOp .not 4 (.tmp 232), (some ((some 231), true))⟩,
  ⟨(some 234), .pick (.tmp 231) (.tmp 233) (.const (.bool false)), none⟩,
  ⟨(some 235), .move (.tmp 234), none⟩,
  ⟨(some 236), .move (.tmp 7), (some ((some 235), true))⟩,
  ⟨(some 237), .move (.tmp 22), (some ((some 235), true))⟩,
  ⟨(some 238), .call ⟨.value (.func 34), #[(.tmp 236), (.tmp 237)], #[23, 3]⟩, (some ((some 235), true))⟩,
  ⟨(some 239), .call ⟨.builtin .len, #[(.tmp 238)], #[30]⟩, (some ((some 235), true))⟩,
  ⟨(some 240), .binOp .eql 3 (.tmp 239) (.const (.int .i64 0)) 3, (some ((some 235), true))⟩,
  ⟨(some 241), .pick (.tmp 235) (.tmp 240) (.const (.bool false)), none⟩,
  ⟨(some 242), .move (.tmp 241), none⟩,
  ⟨(some 243), .move (.tmp 7), (some ((some 242), true))⟩,
  ⟨(some 244), .move (.tmp 22), (some ((some 242), true))⟩,
  ⟨(some 245), .binOp .sub 3 (.const (.int .i64 (-1))) (.tmp 244) 3, (some ((some 242), true))⟩,
  ⟨(some 246), .call ⟨.value (.func 34), #[(.tmp 243), (.tmp 245)], #[23, 3]⟩, (some ((some 242), true))⟩,
  ⟨(some 247), .call ⟨.builtin .len, #[(.tmp 246)], #[30]⟩, (some ((some 242), true))⟩,
  ⟨(some 248), .binOp .eql 3 (.tmp 247) (.const (.int .i64 0)) 3, (some ((some 242), true))⟩,
  ⟨(some 249), .pick (.tmp 242) (.tmp 248) (.const (.bool false)), none⟩,
  ⟨(some 250), .move (.tmp 249), none⟩,
  ⟨(some 251), .move (.tmp 7), (some ((some 250), true))⟩,
  ⟨(some 252), .move (.tmp 22), (some ((some 250), true))⟩,
  ⟨(some 253), .call ⟨.value (.func 35), #[(.tmp 251), (.tmp 252)], #[23, 3]⟩, (some ((some 250), true))⟩,
  ⟨(some 254), .binOp .eql 3 (.tmp 253) (.const (.int .i64 0)) 3, (some ((some 250), true))⟩,
  ⟨(some 255), .pick (.tmp 250) (.tmp 254) (.const (.bool false)), none⟩,
  ⟨(some 256), .move (.tmp 255), none⟩,
  ⟨(some 257), .call ⟨.value (.func 36), #[], #[]⟩, (some ((some 256), true))⟩,
  ⟨(some 258), .pick (.tmp 256) (.tmp 257) (.const (.bool false)), none⟩,
  ⟨(some 6), .assign (.tmp 258), none⟩]
def c5 : SC := (.seq (.reg c5_r0 none (some [0, 1, 2])) (.seq (.reg c5_r1 none (some [0, 1, 2, 7])) (.seq (.seq (.reg c5_r2 none (some [0, 1, 2, 7, 38])) (.cond (.tmp 38) (.seq (.reg c5_r3 none (some [6])) .ret) .skip (some [0, 1, 2, 7]))) (.seq (.reg c5_r4 none (some [0, 1, 2, 7, 8])) (.seq (.reg c5_r5 none (some [0, 1, 2, 7, 8, 9])) (.seq (.seq (.reg c5_r6 none (some [0, 1, 2, 7, 8, 9, 10])) (.block 0 (.loop c5_l7 (some [0, 1, 2, 7, 8, 9, 10])))) (.seq (.seq (.reg c5_r28 none (some [1, 2, 7, 8, 9, 19])) (.block 4 (.loop c5_l29 (some [1, 2, 7, 8, 9, 19])))) (.seq (.reg c5_r39 none (some [2, 7, 22])) (.seq (.reg c5_r40 none (some [7, 22, 23, 24])) (.seq (.reg c5_r41 none (some [7, 22, 23, 24, 27])) (.seq (.reg c5_r42 none (some [7, 22, 23, 24, 27, 30])) (.seq (.reg c5_r43 none (some [6])) .ret))))))))))))
theorem c5_eq : ∃ code, Try.f5.body = some code ∧ compile H5 code = c5 := ⟨_, rfl, by kernel_rfl⟩
theorem c5_fn : Try.prog.funcs[5]? = some Try.f5 := by kernel_rfl
theorem c5_rs : Try.f5.results.toList = [.tmp 6] := by kernel_rfl
theorem c5_ok : fnB Try.prog H5 Try.f5 = true := by kernel_rfl
theorem c5_nt : Try.f5.ntmps = 259 := by kernel_rfl
end Go.AM
