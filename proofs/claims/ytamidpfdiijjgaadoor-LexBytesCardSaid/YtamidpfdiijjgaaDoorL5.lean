/-
  Printed by program (wip/tools/print.sh): compiled code.
-/
import Derived.Test.YtamidpfdiijjgaaDoorAMb
import Derived.Test.YtamidpfdiijjgaaDoorProg
namespace Go.AM
open Go Go.Proofs
set_option maxRecDepth 100000
/-! 5: rampart/rampartlaw08.LexBytes -/
def H5 : Hint := ⟨[(21, [4]), (20, [0, 10, 12, 14, 15]), (19, [0, 5, 10, 12]), (6, [0, 1, 5, 6]), (16, [0, 1, 5, 6]), (18, [0, 1, 5, 6]), (14, [0, 1, 5, 6]), (2000089, [0, 1, 5, 6]), (17, [0, 1, 5, 6, 8, 9, 89]), (2000061, [0, 1, 5, 6]), (15, [0, 1, 5, 6, 7, 8, 9, 61]), (13, [0, 1, 5, 6, 7, 8, 9]), (12, [0, 1, 5, 6, 7, 8]), (2000037, [0, 1, 5, 6, 7, 8]), (11, [0, 1, 5, 6, 7, 8, 37]), (10, [0, 1, 5, 6, 7, 8]), (9, [0, 1, 5, 6, 7]), (2000029, [0, 1, 5, 6, 7]), (8, [0, 1, 5, 6, 7, 29]), (7, [0, 1, 5, 6, 7]), (2000023, [0, 1, 5, 6]), (5, [0, 1, 5, 6, 23]), (1000005, [0, 1, 5, 6]), (4, [0, 1, 5, 6]), (3, [0, 1, 5]), (2, [4]), (2000018, [0, 1]), (1, [0, 1, 18]), (0, [0, 1])], []⟩
def c5_r0 : List SOp := [
  ⟨(some 4), .assign (.const (.bool false)), none⟩]
def c5_r1 : List SOp := [
  ⟨(some 16), .move (.tmp 0), none⟩,
  ⟨(some 17), .call ⟨.builtin .len, #[(.tmp 16)], #[37]⟩, none⟩,
  ⟨(some 18), .binOp .gtr 3 (.tmp 17) (.const (.int .i64 60)) 3, none⟩]
def c5_r2 : List SOp := [
  ⟨(some 19), .call ⟨.value (.func 10), #[], #[]⟩, none⟩,
  ⟨(some 4), .assign (.tmp 19), none⟩]
def c5_r3 : List SOp := [
  ⟨(some 5), .assign (.const (.string ⟨#[34]⟩)), none⟩]
def c5_r4 : List SOp := [
  ⟨(some 6), .assign (.const (.int .i64 0)), none⟩]
def c5_r5 : List SOp := [
  ⟨(some 20), .move (.tmp 6), none⟩,
  ⟨(some 21), .move (.tmp 0), none⟩,
  ⟨(some 22), .call ⟨.builtin .len, #[(.tmp 21)], #[37]⟩, none⟩,
  ⟨(some 23), .binOp .lss 3 (.tmp 20) (.tmp 22) 3, none⟩]
def c5_r7 : List SOp := [
  ⟨(some 7), .assign (.const (.int .i64 0)), none⟩]
def c5_r8 : List SOp := [
  ⟨(some 26), .move (.tmp 6), none⟩,
  ⟨(some 27), .move (.tmp 1), none⟩,
  ⟨(some 28), .call ⟨.builtin .len, #[(.tmp 27)], #[38]⟩, none⟩,
  ⟨(some 29), .binOp .lss 3 (.tmp 26) (.tmp 28) 3, none⟩]
def c5_r9 : List SOp := [
  ⟨(some 30), .move (.tmp 1), none⟩,
  ⟨(some 31), .move (.tmp 6), none⟩,
  ⟨(some 32), .indexAddr 38 (.tmp 30) (.tmp 31), none⟩,
  ⟨(some 33), .load 3 (.tmp 32), none⟩,
  ⟨(some 34), .call ⟨.value (.func 11), #[(.tmp 33), (.const (.int .i64 4))], #[3, 3]⟩, none⟩,
  ⟨(some 7), .assign (.tmp 34), none⟩]
def c5_r10 : List SOp := [
  ⟨(some 8), .assign (.const (.string ⟨#[48, 49, 50, 51, 52, 53, 54, 55, 56, 57, 65, 66, 67, 68, 69, 70]⟩)), none⟩]
def c5_r11 : List SOp := [
  ⟨(some 35), .move (.tmp 7), none⟩,
  ⟨(some 36), .binOp .rem 3 (.tmp 35) (.const (.int .i64 2)) 3, none⟩,
  ⟨(some 37), .binOp .eql 3 (.tmp 36) (.const (.int .i64 1)) 3, none⟩]
def c5_r12 : List SOp := [
  ⟨(some 8), .assign (.const (.string ⟨#[48, 49, 50, 51, 52, 53, 54, 55, 56, 57, 97, 98, 99, 100, 101, 102]⟩)), none⟩]
def c5_r13 : List SOp := [
  ⟨(some 38), .move (.tmp 0), none⟩,
  ⟨(some 39), .move (.tmp 6), none⟩,
  ⟨(some 40), .indexAddr 37 (.tmp 38) (.tmp 39), none⟩,
  ⟨(some 41), .load 5 (.tmp 40), none⟩,
  ⟨(some 9), .assign (.tmp 41), none⟩]
def c5_r15 : List SOp := [
  ⟨(some 62), .move (.tmp 7), none⟩,
  ⟨(some 63), .binOp .geq 3 (.tmp 62) (.const (.int .i64 2)) 3, none⟩,
  ⟨(some 64), .move (.tmp 63), none⟩,
  ⟨(some 65), .move (.tmp 9), (some ((some 64), true))⟩,
  ⟨(some 66), .binOp .geq 5 (.tmp 65) (.const (.int .u8 32)) 5, (some ((some 64), true))⟩,
  ⟨(some 67), .pick (.tmp 64) (.tmp 66) (.const (.bool false)), none⟩,
  ⟨(some 68), .move (.tmp 67), none⟩,
  ⟨(some 69), .move (.tmp 9), (some ((some 68), true))⟩,
  ⟨(some 70), .binOp .leq 5 (.tmp 69) (.const (.int .u8 126)) 5, (some ((some 68), true))⟩,
  ⟨(some 71), .pick (.tmp 68) (.tmp 70) (.const (.bool false)), none⟩,
  ⟨(some 72), .move (.tmp 71), none⟩,
  ⟨(some 73), .move (.tmp 9), (some ((some 72), true))⟩,
  ⟨(some 74), .binOp .neq 5 (.tmp 73) (.const (.int .u8 34)) 5, (some ((some 72), true))⟩,
  ⟨(some 75), .pick (.tmp 72) (.tmp 74) (.const (.bool false)), none⟩,
  ⟨(some 76), .move (.tmp 75), none⟩,
  ⟨(some 77), .move (.tmp 9), (some ((some 76), true))⟩,
  ⟨(some 78), .binOp .neq 5 (.tmp 77) (.const (.int .u8 124)) 5, (some ((some 76), true))⟩,
  ⟨(some 79), .pick (.tmp 76) (.tmp 78) (.const (.bool false)), none⟩,
  ⟨(some 80), .move (.tmp 79), none⟩,
  ⟨(some 81), .move (.tmp 9), (some ((some 80), true))⟩,
  ⟨(some 82), .binOp .neq 5 (.tmp 81) (.const (.int .u8 92)) 5, (some ((some 80), true))⟩,
  ⟨(some 83), .pick (.tmp 80) (.tmp 82) (.const (.bool false)), none⟩,
  ⟨(some 61), .assign (.tmp 83), none⟩]
def c5_r16 : List SOp := [
  ⟨(some 84), .move (.tmp 5), none⟩,
  ⟨(some 85), .move (.tmp 9), none⟩,
  ⟨(some 86), .buildSlice 37 1 #[(0, (.tmp 85))], none⟩,
  ⟨(some 87), .convert 37 9 (.tmp 86), none⟩,
  ⟨(some 88), .binOp .add 9 (.tmp 84) (.tmp 87) 9, none⟩,
  ⟨(some 5), .assign (.tmp 88), none⟩]
def c5_r17 : List SOp := [
  ⟨(some 90), .move (.tmp 7), none⟩,
  ⟨(some 91), .binOp .geq 3 (.tmp 90) (.const (.int .i64 2)) 3, none⟩,
  ⟨(some 92), .move (.tmp 91), none⟩,
  ⟨(some 93), .move (.tmp 9), (some ((some 92), true))⟩,
  ⟨(some 94), .binOp .eql 5 (.tmp 93) (.const (.int .u8 34)) 5, (some ((some 92), true))⟩,
  ⟨(some 95), .move (.tmp 94), (some ((some 92), true))⟩,
  ⟨(some 96), .move (.tmp 9), (some ((some 95), false))⟩,
  ⟨(some 97), .binOp .eql 5 (.tmp 96) (.const (.int .u8 124)) 5, (some ((some 95), false))⟩,
  ⟨(some 98), .pick (.tmp 95) (.const (.bool true)) (.tmp 97), (some ((some 92), true))⟩,
  ⟨(some 99), .move (.tmp 98), (some ((some 92), true))⟩,
  ⟨(some 100), .move (.tmp 9), (some ((some 99), false))⟩,
  ⟨(some 101), .binOp .eql 5 (.tmp 100) (.const (.int .u8 92)) 5, (some ((some 99), false))⟩,
  ⟨(some 102), .pick (.tmp 99) (.const (.bool true)) (.tmp 101), (some ((some 92), true))⟩,
  ⟨(some 103), .pick (.tmp 92) (.tmp 102) (.const (.bool false)), none⟩,
  ⟨(some 89), .assign (.tmp 103), none⟩]
def c5_r18 : List SOp := [
  ⟨(some 104), .move (.tmp 5), none⟩,
  ⟨(some 105), .binOp .add 9 (.tmp 104) (.const (.string ⟨#[92]⟩)) 9, none⟩,
  ⟨(some 106), .move (.tmp 9), none⟩,
  ⟨(some 107), .buildSlice 37 1 #[(0, (.tmp 106))], none⟩,
  ⟨(some 108), .convert 37 9 (.tmp 107), none⟩,
  ⟨(some 109), .binOp .add 9 (.tmp 105) (.tmp 108) 9, none⟩,
  ⟨(some 5), .assign (.tmp 109), none⟩]
def c5_r14 : List SOp := [
  ⟨(some 42), .move (.tmp 5), none⟩,
  ⟨(some 43), .binOp .add 9 (.tmp 42) (.const (.string ⟨#[124, 32]⟩)) 9, none⟩,
  ⟨(some 44), .move (.tmp 8), none⟩,
  ⟨(some 45), .move (.tmp 9), none⟩,
  ⟨(some 46), .binOp .quo 5 (.tmp 45) (.const (.int .u8 16)) 5, none⟩,
  ⟨(some 47), .move (.tmp 9), none⟩,
  ⟨(some 48), .binOp .quo 5 (.tmp 47) (.const (.int .u8 16)) 5, none⟩,
  ⟨(some 49), .binOp .add 5 (.tmp 48) (.const (.int .u8 1)) 5, none⟩,
  ⟨(some 50), .slice 9 (.tmp 44) (some (.tmp 46)) (some (.tmp 49)) none, none⟩,
  ⟨(some 51), .binOp .add 9 (.tmp 43) (.tmp 50) 9, none⟩,
  ⟨(some 52), .move (.tmp 8), none⟩,
  ⟨(some 53), .move (.tmp 9), none⟩,
  ⟨(some 54), .binOp .rem 5 (.tmp 53) (.const (.int .u8 16)) 5, none⟩,
  ⟨(some 55), .move (.tmp 9), none⟩,
  ⟨(some 56), .binOp .rem 5 (.tmp 55) (.const (.int .u8 16)) 5, none⟩,
  ⟨(some 57), .binOp .add 5 (.tmp 56) (.const (.int .u8 1)) 5, none⟩,
  ⟨(some 58), .slice 9 (.tmp 52) (some (.tmp 54)) (some (.tmp 57)) none, none⟩,
  ⟨(some 59), .binOp .add 9 (.tmp 51) (.tmp 58) 9, none⟩,
  ⟨(some 60), .binOp .add 9 (.tmp 59) (.const (.string ⟨#[32, 124]⟩)) 9, none⟩,
  ⟨(some 5), .assign (.tmp 60), none⟩]
def c5_r6 : List SOp := [
  ⟨(some 24), .move (.tmp 6), none⟩,
  ⟨(some 25), .binOp .add 3 (.tmp 24) (.const (.int .i64 1)) 3, none⟩,
  ⟨(some 6), .assign (.tmp 25), none⟩]
def c5_l5 : SC := (.seq (.seq (.reg c5_r5 none (some [0, 1, 5, 6, 23])) (.cond (.tmp 23) .skip (.exit 0) (some [0, 1, 5, 6]))) (.seq (.block 1 (.seq (.reg c5_r7 none (some [0, 1, 5, 6, 7])) (.seq (.seq (.reg c5_r8 none (some [0, 1, 5, 6, 7, 29])) (.cond (.tmp 29) (.reg c5_r9 none (some [0, 1, 5, 6, 7])) .skip (some [0, 1, 5, 6, 7]))) (.seq (.reg c5_r10 none (some [0, 1, 5, 6, 7, 8])) (.seq (.seq (.reg c5_r11 none (some [0, 1, 5, 6, 7, 8, 37])) (.cond (.tmp 37) (.reg c5_r12 none (some [0, 1, 5, 6, 7, 8])) .skip (some [0, 1, 5, 6, 7, 8]))) (.seq (.reg c5_r13 none (some [0, 1, 5, 6, 7, 8, 9])) (.block 2 (.seq (.reg c5_r15 none (some [0, 1, 5, 6, 7, 8, 9, 61])) (.cond (.tmp 61) (.reg c5_r16 none (some [0, 1, 5, 6])) (.seq (.reg c5_r17 none (some [0, 1, 5, 6, 8, 9, 89])) (.cond (.tmp 89) (.reg c5_r18 none (some [0, 1, 5, 6])) (.reg c5_r14 none (some [0, 1, 5, 6])) (some [0, 1, 5, 6]))) (some [0, 1, 5, 6])))))))))) (.reg c5_r6 none (some [0, 1, 5, 6]))))
def c5_r19 : List SOp := [
  ⟨(some 111), .move (.tmp 5), none⟩,
  ⟨(some 112), .binOp .add 9 (.const (.string ⟨#[120]⟩)) (.tmp 111) 9, none⟩,
  ⟨(some 113), .binOp .add 9 (.tmp 112) (.const (.string ⟨#[34, 59]⟩)) 9, none⟩,
  ⟨(some 114), .call ⟨.value (.func 8), #[(.tmp 113)], #[9]⟩, none⟩,
  ⟨(some 110), .move (.tmp 114), none⟩,
  ⟨(some 115), .extract (.tmp 110) 0, none⟩,
  ⟨(some 116), .extract (.tmp 110) 1, none⟩,
  ⟨(some 117), .extract (.tmp 110) 2, none⟩,
  ⟨(some 10), .assign (.tmp 115), none⟩,
  ⟨(some 11), .assign (.tmp 116), none⟩,
  ⟨(some 12), .assign (.tmp 117), none⟩]
def c5_r20 : List SOp := [
  ⟨(some 119), .move (.tmp 5), none⟩,
  ⟨(some 120), .binOp .add 9 (.const (.string ⟨#[10]⟩)) (.tmp 119) 9, none⟩,
  ⟨(some 121), .call ⟨.value (.func 8), #[(.tmp 120)], #[9]⟩, none⟩,
  ⟨(some 118), .move (.tmp 121), none⟩,
  ⟨(some 122), .extract (.tmp 118) 0, none⟩,
  ⟨(some 123), .extract (.tmp 118) 1, none⟩,
  ⟨(some 124), .extract (.tmp 118) 2, none⟩,
  ⟨(some 13), .assign (.tmp 122), none⟩,
  ⟨(some 14), .assign (.tmp 123), none⟩,
  ⟨(some 15), .assign (.tmp 124), none⟩]
def c5_r21 : List SOp := [
  ⟨(some 125), .move (.tmp 12), none⟩,
  ⟨(some 126), .binOp .eql 23 (.tmp 125) (.const (.int .i64 0)) 23, none⟩,
  ⟨(some 127), .move (.tmp 126), none⟩,
  ⟨(some 128), .move (.tmp 10), (some ((some 127), true))⟩,
  ⟨(some 129), .call ⟨.builtin .len, #[(.tmp 128)], #[22]⟩, (some ((some 127), true))⟩,
  ⟨(some 130), .binOp .eql 3 (.tmp 129) (.const (.int .i64 3)) 3, (some ((some 127), true))⟩,
  ⟨(some 131), .pick (.tmp 127) (.tmp 130) (.const (.bool false)), none⟩,
  ⟨(some 132), .move (.tmp 131), none⟩,
  ⟨(some 133), .move (.tmp 10), (some ((some 132), true))⟩,
  ⟨(some 134), .indexAddr 22 (.tmp 133) (.const (.int .i64 1)), (some ((some 132), true))⟩,
  ⟨(some 135), .fieldAddr 30 (.tmp 134) 0, (some ((some 132), true))⟩,
  ⟨(some 136), .load 3 (.tmp 135), (some ((some 132), true))⟩,
  ⟨(some 137), .binOp .eql 3 (.tmp 136) (.const (.int .i64 3)) 3, (some ((some 132), true))⟩,
  ⟨(some 138), .pick (.tmp 132) (.tmp 137) (.const (.bool false)), none⟩,
  ⟨(some 139), .move (.tmp 138), none⟩,
  ⟨(some 140), .move (.tmp 10), (some ((some 139), true))⟩,
  ⟨(some 141), .indexAddr 22 (.tmp 140) (.const (.int .i64 1)), (some ((some 139), true))⟩,
  ⟨(some 142), .fieldAddr 30 (.tmp 141) 1, (some ((some 139), true))⟩,
  ⟨(some 143), .load 9 (.tmp 142), (some ((some 139), true))⟩,
  ⟨(some 144), .move (.tmp 0), (some ((some 139), true))⟩,
  ⟨(some 145), .convert 37 9 (.tmp 144), (some ((some 139), true))⟩,
  ⟨(some 146), .binOp .eql 9 (.tmp 143) (.tmp 145) 9, (some ((some 139), true))⟩,
  ⟨(some 147), .pick (.tmp 139) (.tmp 146) (.const (.bool false)), none⟩,
  ⟨(some 148), .move (.tmp 147), none⟩,
  ⟨(some 149), .move (.tmp 10), (some ((some 148), true))⟩,
  ⟨(some 150), .indexAddr 22 (.tmp 149) (.const (.int .i64 2)), (some ((some 148), true))⟩,
  ⟨(some 151), .fieldAddr 30 (.tmp 150) 1, (some ((some 148), true))⟩,
  ⟨(some 152), .load 9 (.tmp 151), (some ((some 148), true))⟩,
  ⟨(some 153), .binOp .eql 9 (.tmp 152) (.const (.string ⟨#[59]⟩)) 9, (some ((some 148), true))⟩,
  ⟨(some 154), .pick (.tmp 148) (.tmp 153) (.const (.bool false)), none⟩,
  ⟨(some 155), .move (.tmp 154), none⟩,
  ⟨(some 156), .move (.tmp 15), (some ((some 155), true))⟩,
  ⟨(some 157), .binOp .eql 23 (.tmp 156) (.const (.int .i64 6)) 23, (some ((some 155), true))⟩,
  ⟨(some 158), .pick (.tmp 155) (.tmp 157) (.const (.bool false)), none⟩,
  ⟨(some 159), .move (.tmp 158), none⟩,
  ⟨(some 160), .move (.tmp 14), (some ((some 159), true))⟩,
  ⟨(some 161), .binOp .eql 3 (.tmp 160) (.const (.int .i64 2)) 3, (some ((some 159), true))⟩,
  ⟨(some 162), .pick (.tmp 159) (.tmp 161) (.const (.bool false)), none⟩,
  ⟨(some 163), .move (.tmp 162), none⟩,
  ⟨(some 164), .call ⟨.value (.func 10), #[], #[]⟩, (some ((some 163), true))⟩,
  ⟨(some 165), .pick (.tmp 163) (.tmp 164) (.const (.bool false)), none⟩,
  ⟨(some 4), .assign (.tmp 165), none⟩]
def c5 : SC := (.seq (.reg c5_r0 none (some [0, 1])) (.seq (.seq (.reg c5_r1 none (some [0, 1, 18])) (.cond (.tmp 18) (.seq (.reg c5_r2 none (some [4])) .ret) .skip (some [0, 1]))) (.seq (.reg c5_r3 none (some [0, 1, 5])) (.seq (.seq (.reg c5_r4 none (some [0, 1, 5, 6])) (.block 0 (.loop c5_l5 (some [0, 1, 5, 6])))) (.seq (.reg c5_r19 none (some [0, 5, 10, 12])) (.seq (.reg c5_r20 none (some [0, 10, 12, 14, 15])) (.seq (.reg c5_r21 none (some [4])) .ret)))))))
theorem c5_eq : ∃ code, Tryd.f5.body = some code ∧ compile H5 code = c5 := ⟨_, rfl, by kernel_rfl⟩
theorem c5_fn : Tryd.prog.funcs[5]? = some Tryd.f5 := by kernel_rfl
theorem c5_rs : Tryd.f5.results.toList = [.tmp 4] := by kernel_rfl
theorem c5_ok : fnB Tryd.prog H5 Tryd.f5 = true := by kernel_rfl
theorem c5_nt : Tryd.f5.ntmps = 166 := by kernel_rfl
end Go.AM
