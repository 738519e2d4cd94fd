/-
  Printed by program (wip/tools/print.sh): compiled code.
-/
import Derived.Test.YtamidpfdiijjgaaAMb
import Derived.Test.YtamidpfdiijjgaaProg
namespace Go.AM
open Go Go.Proofs
set_option maxRecDepth 100000
/-! 25: rampart/rampartlaw24.VerdictOnce -/
def H25 : Hint := ⟨[(32, [6]), (16, [10, 11, 12, 13]), (31, [6]), (2000213, [10, 11, 12, 13]), (30, [10, 11, 12, 13, 213]), (25, [10, 11, 12, 13, 14, 15, 16, 17]), (29, [10, 11, 12, 13, 14, 15, 16, 17]), (28, [10, 11, 12, 13, 14, 15, 16, 17]), (27, [6]), (2000176, [10, 11, 12, 13, 14, 15, 16, 17]), (26, [10, 11, 12, 13, 14, 15, 16, 17, 176]), (2000077, [10, 11, 12, 13, 14, 15, 16, 17]), (24, [10, 11, 12, 13, 14, 15, 16, 17, 77]), (1000024, [10, 11, 12, 13, 14, 15, 16, 17]), (23, [10, 11, 12, 13, 14, 15, 16, 17]), (22, [10, 11, 12, 13, 14, 15, 16]), (20, [10, 11, 12, 13, 14, 15]), (21, [10, 11, 12, 13, 14, 15]), (2000059, [10, 11, 12, 13, 14, 15]), (19, [10, 11, 12, 13, 59]), (18, [10, 11, 12, 13]), (17, [10, 11, 12, 13]), (2000055, [10, 11, 12, 13]), (15, [10, 11, 12, 13, 55]), (1000015, [10, 11, 12, 13]), (14, [10, 11, 12, 13]), (13, [10, 11, 12]), (12, [1, 10, 11]), (11, [6]), (2000046, [1, 10]), (10, [1, 10, 46]), (9, [1, 10]), (7, [1, 2, 7, 8, 9]), (8, [1, 2, 7, 8, 9]), (2000032, [1, 2, 7, 8, 9]), (6, [1, 2, 7, 8, 9, 32]), (1000006, [1, 2, 7, 8, 9]), (5, [1, 2, 7, 8, 9]), (4, [1, 2, 7, 8]), (3, [1, 2, 7]), (2, [6]), (2000025, [0, 1, 2]), (1, [0, 1, 2, 25]), (0, [0, 1, 2])], []⟩
def c25_r0 : List SOp := [
  ⟨(some 6), .assign (.const (.bool false)), none⟩]
def c25_r1 : List SOp := [
  ⟨(some 18), .move (.tmp 0), none⟩,
  ⟨(some 19), .call ⟨.builtin .len, #[(.tmp 18)], #[30]⟩, none⟩,
  ⟨(some 20), .binOp .gtr 3 (.tmp 19) (.const (.int .i64 40)) 3, none⟩,
  ⟨(some 21), .move (.tmp 20), none⟩,
  ⟨(some 22), .move (.tmp 1), (some ((some 21), false))⟩,
  ⟨(some 23), .call ⟨.builtin .len, #[(.tmp 22)], #[30]⟩, (some ((some 21), false))⟩,
  ⟨(some 24), .binOp .gtr 3 (.tmp 23) (.const (.int .i64 60)) 3, (some ((some 21), false))⟩,
  ⟨(some 25), .pick (.tmp 21) (.const (.bool true)) (.tmp 24), none⟩]
def c25_r2 : List SOp := [
  ⟨(some 26), .call ⟨.value (.func 79), #[], #[]⟩, none⟩,
  ⟨(some 6), .assign (.tmp 26), none⟩]
def c25_r3 : List SOp := [
  ⟨(some 27), .move (.tmp 0), none⟩,
  ⟨(some 28), .call ⟨.value (.func 80), #[(.tmp 27)], #[30]⟩, none⟩,
  ⟨(some 7), .assign (.tmp 28), none⟩]
def c25_r4 : List SOp := [
  ⟨(some 8), .assign (.const (.slice none 0 0)), none⟩]
def c25_r5 : List SOp := [
  ⟨(some 9), .assign (.const (.int .i64 0)), none⟩]
def c25_r6 : List SOp := [
  ⟨(some 29), .move (.tmp 9), none⟩,
  ⟨(some 30), .move (.tmp 7), none⟩,
  ⟨(some 31), .call ⟨.builtin .len, #[(.tmp 30)], #[89]⟩, none⟩,
  ⟨(some 32), .binOp .lss 3 (.tmp 29) (.tmp 31) 3, none⟩]
def c25_r8 : List SOp := [
  ⟨(some 35), .move (.tmp 8), none⟩,
  ⟨(some 36), .move (.tmp 9), none⟩,
  ⟨(some 37), .buildSlice 30 1 #[(0, (.tmp 36))], none⟩,
  ⟨(some 38), .call ⟨.builtin .append, #[(.tmp 35), (.tmp 37)], #[30, 30]⟩, none⟩,
  ⟨(some 8), .assign (.tmp 38), none⟩]
def c25_r7 : List SOp := [
  ⟨(some 33), .move (.tmp 9), none⟩,
  ⟨(some 34), .binOp .add 3 (.tmp 33) (.const (.int .i64 1)) 3, none⟩,
  ⟨(some 9), .assign (.tmp 34), none⟩]
def c25_l6 : SC := (.seq (.seq (.reg c25_r6 none (some [1, 2, 7, 8, 9, 32])) (.cond (.tmp 32) .skip (.exit 0) (some [1, 2, 7, 8, 9]))) (.seq (.block 1 (.reg c25_r8 none (some [1, 2, 7, 8, 9]))) (.reg c25_r7 none (some [1, 2, 7, 8, 9]))))
def c25_r9 : List SOp := [
  ⟨(some 39), .move (.tmp 7), none⟩,
  ⟨(some 40), .move (.tmp 8), none⟩,
  ⟨(some 41), .move (.tmp 2), none⟩,
  ⟨(some 42), .call ⟨.value (.func 29), #[(.tmp 41), (.const (.int .i64 32))], #[3, 3]⟩, none⟩,
  ⟨(some 43), .binOp .add 3 (.const (.int .i64 1)) (.tmp 42) 3, none⟩,
  ⟨(some 44), .call ⟨.value (.func 81), #[(.tmp 39), (.tmp 40), (.tmp 43)], #[89, 30, 3]⟩, none⟩,
  ⟨(some 10), .assign (.tmp 44), none⟩]
def c25_r10 : List SOp := [
  ⟨(some 45), .move (.tmp 10), none⟩,
  ⟨(some 46), .binOp .eql 91 (.tmp 45) (.const (.pointer none)) 91, none⟩]
def c25_r11 : List SOp := [
  ⟨(some 6), .assign (.const (.bool false)), none⟩]
def c25_r12 : List SOp := [
  ⟨(some 11), .alloc 93, none⟩]
def c25_r13 : List SOp := [
  ⟨(some 47), .move (.tmp 1), none⟩,
  ⟨(some 48), .move (.tmp 1), none⟩,
  ⟨(some 49), .call ⟨.builtin .len, #[(.tmp 48)], #[30]⟩, none⟩,
  ⟨(some 50), .call ⟨.builtin .min, #[(.tmp 49), (.const (.int .i64 40))], #[3, 3]⟩, none⟩,
  ⟨(some 51), .call ⟨.value (.func 50), #[(.tmp 47), (.tmp 50)], #[30, 3]⟩, none⟩,
  ⟨(some 12), .assign (.tmp 51), none⟩]
def c25_r14 : List SOp := [
  ⟨(some 13), .assign (.const (.int .i64 0)), none⟩]
def c25_r15 : List SOp := [
  ⟨(some 52), .move (.tmp 13), none⟩,
  ⟨(some 53), .move (.tmp 12), none⟩,
  ⟨(some 54), .call ⟨.builtin .len, #[(.tmp 53)], #[9]⟩, none⟩,
  ⟨(some 55), .binOp .leq 3 (.tmp 52) (.tmp 54) 3, none⟩]
def c25_r17 : List SOp := [
  ⟨(some 14), .assign (.const (.slice none 0 0)), none⟩]
def c25_r18 : List SOp := [
  ⟨(some 15), .assign (.const (.int .i64 0)), none⟩]
def c25_r19 : List SOp := [
  ⟨(some 58), .move (.tmp 13), none⟩,
  ⟨(some 59), .binOp .eql 3 (.tmp 58) (.const (.int .i64 0)) 3, none⟩]
def c25_r20 : List SOp := [
  ⟨(some 61), .move (.tmp 10), none⟩,
  ⟨(some 62), .call ⟨.value (.func 82), #[(.tmp 61)], #[91]⟩, none⟩,
  ⟨(some 60), .move (.tmp 62), none⟩,
  ⟨(some 63), .extract (.tmp 60) 0, none⟩,
  ⟨(some 64), .extract (.tmp 60) 1, none⟩,
  ⟨(some 14), .assign (.tmp 63), none⟩,
  ⟨(some 15), .assign (.tmp 64), none⟩]
def c25_r21 : List SOp := [
  ⟨(some 66), .move (.tmp 10), none⟩,
  ⟨(some 67), .move (.tmp 12), none⟩,
  ⟨(some 68), .move (.tmp 13), none⟩,
  ⟨(some 69), .binOp .sub 3 (.tmp 68) (.const (.int .i64 1)) 3, none⟩,
  ⟨(some 70), .index 9 (.tmp 67) (.tmp 69), none⟩,
  ⟨(some 71), .call ⟨.value (.func 83), #[(.tmp 66), (.tmp 70)], #[91, 5]⟩, none⟩,
  ⟨(some 65), .move (.tmp 71), none⟩,
  ⟨(some 72), .extract (.tmp 65) 0, none⟩,
  ⟨(some 73), .extract (.tmp 65) 1, none⟩,
  ⟨(some 14), .assign (.tmp 72), none⟩,
  ⟨(some 15), .assign (.tmp 73), none⟩]
def c25_r22 : List SOp := [
  ⟨(some 16), .assign (.const (.int .i64 0)), none⟩]
def c25_r23 : List SOp := [
  ⟨(some 17), .assign (.const (.int .i64 0)), none⟩]
def c25_r24 : List SOp := [
  ⟨(some 74), .move (.tmp 17), none⟩,
  ⟨(some 75), .move (.tmp 14), none⟩,
  ⟨(some 76), .call ⟨.builtin .len, #[(.tmp 75)], #[94]⟩, none⟩,
  ⟨(some 77), .binOp .lss 3 (.tmp 74) (.tmp 76) 3, none⟩]
def c25_r26 : List SOp := [
  ⟨(some 80), .move (.tmp 14), none⟩,
  ⟨(some 81), .move (.tmp 17), none⟩,
  ⟨(some 82), .indexAddr 94 (.tmp 80) (.tmp 81), none⟩,
  ⟨(some 83), .fieldAddr 99 (.tmp 82) 2, none⟩,
  ⟨(some 84), .load 3 (.tmp 83), none⟩,
  ⟨(some 85), .move (.tmp 13), none⟩,
  ⟨(some 86), .binOp .neq 3 (.tmp 84) (.tmp 85) 3, none⟩,
  ⟨(some 87), .move (.tmp 86), none⟩,
  ⟨(some 88), .move (.tmp 14), (some ((some 87), false))⟩,
  ⟨(some 89), .move (.tmp 17), (some ((some 87), false))⟩,
  ⟨(some 90), .indexAddr 94 (.tmp 88) (.tmp 89), (some ((some 87), false))⟩,
  ⟨(some 91), .fieldAddr 99 (.tmp 90) 1, (some ((some 87), false))⟩,
  ⟨(some 92), .load 3 (.tmp 91), (some ((some 87), false))⟩,
  ⟨(some 93), .binOp .neq 3 (.tmp 92) (.const (.int .i64 0)) 3, (some ((some 87), false))⟩,
  ⟨(some 94), .pick (.tmp 87) (.const (.bool true)) (.tmp 93), none⟩,
  ⟨(some 95), .move (.tmp 94), none⟩,
  ⟨(some 96), .move (.tmp 14), (some ((some 95), false))⟩,
  ⟨(some 97), .move (.tmp 17), (some ((some 95), false))⟩,
  ⟨(some 98), .indexAddr 94 (.tmp 96) (.tmp 97), (some ((some 95), false))⟩,
  ⟨(some 99), .fieldAddr 99 (.tmp 98) 0, (some ((some 95), false))⟩,
  ⟨(some 100), .load 3 (.tmp 99), (some ((some 95), false))⟩,
  ⟨(some 101), .binOp .lss 3 (.tmp 100) (.const (.int .i64 0)) 3, (some ((some 95), false))⟩,
  ⟨(some 102), .pick (.tmp 95) (.const (.bool true)) (.tmp 101), none⟩,
  ⟨(some 103), .move (.tmp 102), none⟩,
  ⟨(some 104), .move (.tmp 14), (some ((some 103), false))⟩,
  ⟨(some 105), .move (.tmp 17), (some ((some 103), false))⟩,
  ⟨(some 106), .indexAddr 94 (.tmp 104) (.tmp 105), (some ((some 103), false))⟩,
  ⟨(some 107), .fieldAddr 99 (.tmp 106) 0, (some ((some 103), false))⟩,
  ⟨(some 108), .load 3 (.tmp 107), (some ((some 103), false))⟩,
  ⟨(some 109), .binOp .geq 3 (.tmp 108) (.const (.int .i64 200)) 3, (some ((some 103), false))⟩,
  ⟨(some 110), .pick (.tmp 103) (.const (.bool true)) (.tmp 109), none⟩,
  ⟨(some 111), .move (.tmp 110), none⟩,
  ⟨(some 112), .move (.tmp 14), (some ((some 111), false))⟩,
  ⟨(some 113), .move (.tmp 17), (some ((some 111), false))⟩,
  ⟨(some 114), .indexAddr 94 (.tmp 112) (.tmp 113), (some ((some 111), false))⟩,
  ⟨(some 115), .fieldAddr 99 (.tmp 114) 0, (some ((some 111), false))⟩,
  ⟨(some 116), .load 3 (.tmp 115), (some ((some 111), false))⟩,
  ⟨(some 117), .binOp .gtr 3 (.tmp 116) (.const (.int .i64 0)) 3, (some ((some 111), false))⟩,
  ⟨(some 118), .move (.tmp 117), (some ((some 111), false))⟩,
  ⟨(some 119), .move (.tmp 14), (some ((some 118), true))⟩,
  ⟨(some 120), .move (.tmp 17), (some ((some 118), true))⟩,
  ⟨(some 121), .indexAddr 94 (.tmp 119) (.tmp 120), (some ((some 118), true))⟩,
  ⟨(some 122), .fieldAddr 99 (.tmp 121) 0, (some ((some 118), true))⟩,
  ⟨(some 123), .load 3 (.tmp 122), (some ((some 118), true))⟩,
  ⟨(some 124), .indexAddr 93 (.tmp 11) (.tmp 123), (some ((some 118), true))⟩,
  ⟨(some 125), .load 4 (.tmp 124), (some ((some 118), true))⟩,
  ⟨(some 126), .pick (.tmp 118) (.tmp 125) (.const (.bool false)), (some ((some 111), false))⟩,
  ⟨(some 127), .pick (.tmp 111) (.const (.bool true)) (.tmp 126), none⟩,
  ⟨(some 128), .move (.tmp 127), none⟩,
  ⟨(some 129), .move (.tmp 14), (some ((some 128), false))⟩,
  ⟨(some 130), .move (.tmp 17), (some ((some 128), false))⟩,
  ⟨(some 131), .indexAddr 94 (.tmp 129) (.tmp 130), (some ((some 128), false))⟩,
  ⟨(some 132), .fieldAddr 99 (.tmp 131) 0, (some ((some 128), false))⟩,
  ⟨(some 133), .load 3 (.tmp 132), (some ((some 128), false))⟩,
  ⟨(some 134), .binOp .eql 3 (.tmp 133) (.const (.int .i64 0)) 3, (some ((some 128), false))⟩,
  ⟨(some 135), .move (.tmp 134), (some ((some 128), false))⟩,
  ⟨(some 136), .move (.tmp 14), (some ((some 135), true))⟩,
  ⟨(some 137), .move (.tmp 17), (some ((some 135), true))⟩,
  ⟨(some 138), .indexAddr 94 (.tmp 136) (.tmp 137), (some ((some 135), true))⟩,
  ⟨(some 139), .fieldAddr 99 (.tmp 138) 3, (some ((some 135), true))⟩,
  ⟨(some 140), .load 3 (.tmp 139), (some ((some 135), true))⟩,
  ⟨(some 141), .binOp .neq 3 (.tmp 140) (.const (.int .i64 4)) 3, (some ((some 135), true))⟩,
  ⟨(some 142), .move (.tmp 141), (some ((some 135), true))⟩,
  ⟨(some 143), .move (.tmp 17), (some ((some 142), false))⟩,
  ⟨(some 144), .move (.tmp 14), (some ((some 142), false))⟩,
  ⟨(some 145), .call ⟨.builtin .len, #[(.tmp 144)], #[94]⟩, (some ((some 142), false))⟩,
  ⟨(some 146), .binOp .sub 3 (.tmp 145) (.const (.int .i64 1)) 3, (some ((some 142), false))⟩,
  ⟨(some 147), .binOp .neq 3 (.tmp 143) (.tmp 146) 3, (some ((some 142), false))⟩,
  ⟨(some 148), .pick (.tmp 142) (.const (.bool true)) (.tmp 147), (some ((some 135), true))⟩,
  ⟨(some 149), .pick (.tmp 135) (.tmp 148) (.const (.bool false)), (some ((some 128), false))⟩,
  ⟨(some 150), .pick (.tmp 128) (.const (.bool true)) (.tmp 149), none⟩,
  ⟨(some 151), .move (.tmp 150), none⟩,
  ⟨(some 152), .move (.tmp 17), (some ((some 151), false))⟩,
  ⟨(some 153), .binOp .gtr 3 (.tmp 152) (.const (.int .i64 0)) 3, (some ((some 151), false))⟩,
  ⟨(some 154), .move (.tmp 153), (some ((some 151), false))⟩,
  ⟨(some 155), .move (.tmp 14), (some ((some 154), true))⟩,
  ⟨(some 156), .move (.tmp 17), (some ((some 154), true))⟩,
  ⟨(some 157), .indexAddr 94 (.tmp 155) (.tmp 156), (some ((some 154), true))⟩,
  ⟨(some 158), .fieldAddr 99 (.tmp 157) 0, (some ((some 154), true))⟩,
  ⟨(some 159), .load 3 (.tmp 158), (some ((some 154), true))⟩,
  ⟨(some 160), .binOp .gtr 3 (.tmp 159) (.const (.int .i64 0)) 3, (some ((some 154), true))⟩,
  ⟨(some 161), .pick (.tmp 154) (.tmp 160) (.const (.bool false)), (some ((some 151), false))⟩,
  ⟨(some 162), .move (.tmp 161), (some ((some 151), false))⟩,
  ⟨(some 163), .move (.tmp 14), (some ((some 162), true))⟩,
  ⟨(some 164), .move (.tmp 17), (some ((some 162), true))⟩,
  ⟨(some 165), .indexAddr 94 (.tmp 163) (.tmp 164), (some ((some 162), true))⟩,
  ⟨(some 166), .fieldAddr 99 (.tmp 165) 0, (some ((some 162), true))⟩,
  ⟨(some 167), .load 3 (.tmp 166), (some ((some 162), true))⟩,
  ⟨(some 168), .move (.tmp 14), (some ((some 162), true))⟩,
  ⟨(some 169), .move (.tmp 17), (some ((some 162), true))⟩,
  ⟨(some 170), .binOp .sub 3 (.tmp 169) (.const (.int .i64 1)) 3, (some ((some 162), true))⟩,
  ⟨(some 171), .indexAddr 94 (.tmp 168) (.tmp 170), (some ((some 162), true))⟩,
  ⟨(some 172), .fieldAddr 99 (.tmp 171) 0, (some ((some 162), true))⟩,
  ⟨(some 173), .load 3 (.tmp 172), (some ((some 162), true))⟩,
  ⟨(some 174), .binOp .leq 3 (.tmp 167) (.tmp 173) 3, (some ((some 162), true))⟩,
  ⟨(some 175), .pick (.tmp 162) (.tmp 174) (.const (.bool false)), (some ((some 151), false))⟩,
  ⟨(some 176), .pick (.tmp 151) (.const (.bool true)) (.tmp 175), none⟩]
def c25_r27 : List SOp := [
  ⟨(some 6), .assign (.const (.bool false)), none⟩]
def c25_r28 : List SOp := [
  ⟨(some 177), .move (.tmp 14), none⟩,
  ⟨(some 178), .move (.tmp 17), none⟩,
  ⟨(some 179), .indexAddr 94 (.tmp 177) (.tmp 178), none⟩,
  ⟨(some 180), .fieldAddr 99 (.tmp 179) 0, none⟩,
  ⟨(some 181), .load 3 (.tmp 180), none⟩,
  ⟨(some 182), .move (.tmp 14), none⟩,
  ⟨(some 183), .move (.tmp 17), none⟩,
  ⟨(some 184), .indexAddr 94 (.tmp 182) (.tmp 183), none⟩,
  ⟨(some 185), .fieldAddr 99 (.tmp 184) 0, none⟩,
  ⟨(some 186), .load 3 (.tmp 185), none⟩,
  ⟨(some 187), .indexAddr 93 (.tmp 11) (.tmp 186), none⟩,
  ⟨(some 188), .load 4 (.tmp 187), none⟩,
  ⟨(some 189), .move (.tmp 188), none⟩,
  ⟨(some 190), .move (.tmp 14), (some ((some 189), false))⟩,
  ⟨(some 191), .move (.tmp 17), (some ((some 189), false))⟩,
  ⟨(some 192), .indexAddr 94 (.tmp 190) (.tmp 191), (some ((some 189), false))⟩,
  ⟨(some 193), .fieldAddr 99 (.tmp 192) 0, (some ((some 189), false))⟩,
  ⟨(some 194), .load 3 (.tmp 193), (some ((some 189), false))⟩,
  ⟨(some 195), .binOp .gtr 3 (.tmp 194) (.const (.int .i64 0)) 3, (some ((some 189), false))⟩,
  ⟨(some 196), .pick (.tmp 189) (.const (.bool true)) (.tmp 195), none⟩,
  ⟨(some 197), .indexAddr 93 (.tmp 11) (.tmp 181), none⟩,
  ⟨none, .store 4 (.tmp 197) (.tmp 196), none⟩]
def c25_r29 : List SOp := [
  ⟨(some 198), .move (.tmp 16), none⟩,
  ⟨(some 199), .move (.tmp 14), none⟩,
  ⟨(some 200), .move (.tmp 17), none⟩,
  ⟨(some 201), .indexAddr 94 (.tmp 199) (.tmp 200), none⟩,
  ⟨(some 202), .fieldAddr 99 (.tmp 201) 3, none⟩,
  ⟨(some 203), .load 3 (.tmp 202), none⟩,
  ⟨(some 204), .call ⟨.builtin .max, #[(.tmp 198), (.tmp 203)], #[3, 3]⟩, none⟩,
  ⟨(some 16), .assign (.tmp 204), none⟩]
def c25_r25 : List SOp := [
  ⟨(some 78), .move (.tmp 17), none⟩,
  ⟨(some 79), .binOp .add 3 (.tmp 78) (.const (.int .i64 1)) 3, none⟩,
  ⟨(some 17), .assign (.tmp 79), none⟩]
def c25_l24 : SC := (.seq (.seq (.reg c25_r24 none (some [10, 11, 12, 13, 14, 15, 16, 17, 77])) (.cond (.tmp 77) .skip (.exit 4) (some [10, 11, 12, 13, 14, 15, 16, 17]))) (.seq (.block 5 (.seq (.seq (.reg c25_r26 none (some [10, 11, 12, 13, 14, 15, 16, 17, 176])) (.cond (.tmp 176) (.seq (.reg c25_r27 none (some [6])) .ret) .skip (some [10, 11, 12, 13, 14, 15, 16, 17]))) (.seq (.reg c25_r28 none (some [10, 11, 12, 13, 14, 15, 16, 17])) (.reg c25_r29 none (some [10, 11, 12, 13, 14, 15, 16, 17]))))) (.reg c25_r25 none (some [10, 11, 12, 13, 14, 15, 16, 17]))))
def c25_r30 : List SOp := [
  ⟨(some 205), .move (.tmp 15), none⟩,
  ⟨(some 206), .move (.tmp 16), none⟩,
  ⟨(some 207), .binOp .neq 3 (.tmp 205) (.tmp 206) 3, none⟩,
  ⟨(some 208), .move (.tmp 207), none⟩,
  ⟨(some 209), .move (.tmp 10), (some ((some 208), false))⟩,
  ⟨(some 210), .call ⟨.value (.func 84), #[(.tmp 209)], #[91]⟩, (some ((some 208), false))⟩,
  ⟨(some 211), .move (.tmp 13), (some ((some 208), false))⟩,
  ⟨(some 212), .binOp .neq 3 (.tmp 210) (.tmp 211) 3, (some ((some 208), false))⟩,
  ⟨(some 213), .pick (.tmp 208) (.const (.bool true)) (.tmp 212), none⟩]
def c25_r31 : List SOp := [
  ⟨(some 6), .assign (.const (.bool false)), none⟩]
def c25_r16 : List SOp := [
  ⟨(some 56), .move (.tmp 13), none⟩,
  ⟨(some 57), .binOp .add 3 (.tmp 56) (.const (.int .i64 1)) 3, none⟩,
  ⟨(some 13), .assign (.tmp 57), none⟩]
def c25_l15 : SC := (.seq (.seq (.reg c25_r15 none (some [10, 11, 12, 13, 55])) (.cond (.tmp 55) .skip (.exit 2) (some [10, 11, 12, 13]))) (.seq (.block 3 (.seq (.reg c25_r17 none (some [10, 11, 12, 13])) (.seq (.reg c25_r18 none (some [10, 11, 12, 13])) (.seq (.seq (.reg c25_r19 none (some [10, 11, 12, 13, 59])) (.cond (.tmp 59) (.reg c25_r20 none (some [10, 11, 12, 13, 14, 15])) (.reg c25_r21 none (some [10, 11, 12, 13, 14, 15])) (some [10, 11, 12, 13, 14, 15]))) (.seq (.reg c25_r22 none (some [10, 11, 12, 13, 14, 15, 16])) (.seq (.seq (.reg c25_r23 none (some [10, 11, 12, 13, 14, 15, 16, 17])) (.block 4 (.loop c25_l24 (some [10, 11, 12, 13, 14, 15, 16, 17])))) (.seq (.reg c25_r30 none (some [10, 11, 12, 13, 213])) (.cond (.tmp 213) (.seq (.reg c25_r31 none (some [6])) .ret) .skip (some [10, 11, 12, 13]))))))))) (.reg c25_r16 none (some [10, 11, 12, 13]))))
def c25_r32 : List SOp := [
  ⟨(some 214), .call ⟨.value (.func 79), #[], #[]⟩, none⟩,
  ⟨(some 6), .assign (.tmp 214), none⟩]
def c25 : SC := (.seq (.reg c25_r0 none (some [0, 1, 2])) (.seq (.seq (.reg c25_r1 none (some [0, 1, 2, 25])) (.cond (.tmp 25) (.seq (.reg c25_r2 none (some [6])) .ret) .skip (some [0, 1, 2]))) (.seq (.reg c25_r3 none (some [1, 2, 7])) (.seq (.reg c25_r4 none (some [1, 2, 7, 8])) (.seq (.seq (.reg c25_r5 none (some [1, 2, 7, 8, 9])) (.block 0 (.loop c25_l6 (some [1, 2, 7, 8, 9])))) (.seq (.reg c25_r9 none (some [1, 10])) (.seq (.seq (.reg c25_r10 none (some [1, 10, 46])) (.cond (.tmp 46) (.seq (.reg c25_r11 none (some [6])) .ret) .skip (some [1, 10]))) (.seq (.reg c25_r12 none (some [1, 10, 11])) (.seq (.reg c25_r13 none (some [10, 11, 12])) (.seq (.seq (.reg c25_r14 none (some [10, 11, 12, 13])) (.block 2 (.loop c25_l15 (some [10, 11, 12, 13])))) (.seq (.reg c25_r32 none (some [6])) .ret)))))))))))
theorem c25_eq : ∃ code, Try.f25.body = some code ∧ compile H25 code = c25 := ⟨_, rfl, by kernel_rfl⟩
theorem c25_fn : Try.prog.funcs[25]? = some Try.f25 := by kernel_rfl
theorem c25_rs : Try.f25.results.toList = [.tmp 6] := by kernel_rfl
theorem c25_ok : fnB Try.prog H25 Try.f25 = true := by kernel_rfl
theorem c25_nt : Try.f25.ntmps = 215 := by kernel_rfl
end Go.AM
