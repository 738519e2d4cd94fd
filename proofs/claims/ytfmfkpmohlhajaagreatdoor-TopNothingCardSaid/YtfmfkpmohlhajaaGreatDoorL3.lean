/-
  Printed by program (wip/tools/print.sh): compiled code.
-/
import Derived.Test.YtfmfkpmohlhajaaGreatDoorAMb
import Derived.Test.YtfmfkpmohlhajaaGreatDoorProg
namespace Go.AM
open Go Go.Proofs
set_option maxRecDepth 100000
/-! 3: rampart/ramparttop.TopNothing -/
def H3 : Hint := ⟨[(12, [8]), (11, [9, 10, 13, 14, 15, 16, 17]), (10, [9, 10, 13, 14, 15, 16]), (9, [9, 10, 13, 14, 15]), (7, [9, 10, 11, 12]), (8, [9, 10, 11, 12]), (2000049, [9, 10, 11, 12]), (6, [9, 10, 11, 12, 49]), (1000006, [9, 10, 11, 12]), (5, [9, 10, 11, 12]), (4, [9, 10, 11]), (3, [2, 9, 10]), (2, [8]), (2000030, [0, 1, 2, 3]), (1, [0, 1, 2, 3, 30]), (0, [0, 1, 2, 3])], []⟩
def c3_r0 : List SOp := [
  ⟨(some 8), .assign (.const (.bool false)), none⟩]
def c3_r1 : List SOp := [
  ⟨(some 18), .move (.tmp 0), none⟩,
  ⟨(some 19), .call ⟨.builtin .len, #[(.tmp 18)], #[22]⟩, none⟩,
  ⟨(some 20), .binOp .gtr 3 (.tmp 19) (.const (.int .i64 60)) 3, none⟩,
  ⟨(some 21), .move (.tmp 20), none⟩,
  ⟨(some 22), .move (.tmp 2), (some ((some 21), false))⟩,
  ⟨(some 23), .call ⟨.builtin .len, #[(.tmp 22)], #[22]⟩, (some ((some 21), false))⟩,
  ⟨(some 24), .binOp .gtr 3 (.tmp 23) (.const (.int .i64 60)) 3, (some ((some 21), false))⟩,
  ⟨(some 25), .pick (.tmp 21) (.const (.bool true)) (.tmp 24), none⟩,
  ⟨(some 26), .move (.tmp 25), none⟩,
  ⟨(some 27), .move (.tmp 3), (some ((some 26), false))⟩,
  ⟨(some 28), .call ⟨.builtin .len, #[(.tmp 27)], #[22]⟩, (some ((some 26), false))⟩,
  ⟨(some 29), .binOp .gtr 3 (.tmp 28) (.const (.int .i64 60)) 3, (some ((some 26), false))⟩,
  ⟨(some 30), .pick (.tmp 26) (.const (.bool true)) (.tmp 29), none⟩]
def c3_r2 : List SOp := [
  ⟨(some 31), .call ⟨.value (.func 6), #[], #[]⟩, none⟩,
  ⟨(some 8), .assign (.tmp 31), none⟩]
def c3_r3 : List SOp := [
  ⟨(some 32), .move (.tmp 0), none⟩,
  ⟨(some 33), .move (.tmp 1), none⟩,
  ⟨(some 34), .call ⟨.value (.func 8), #[(.tmp 33), (.const (.int .i64 50))], #[3, 3]⟩, none⟩,
  ⟨(some 35), .call ⟨.value (.func 7), #[(.tmp 32), (.tmp 34)], #[22, 3]⟩, none⟩,
  ⟨(some 36), .move (.tmp 3), none⟩,
  ⟨(some 37), .move (.tmp 3), none⟩,
  ⟨(some 38), .call ⟨.builtin .len, #[(.tmp 37)], #[22]⟩, none⟩,
  ⟨(some 39), .binOp .quo 3 (.tmp 38) (.const (.int .i64 2)) 3, none⟩,
  ⟨(some 40), .call ⟨.value (.func 7), #[(.tmp 36), (.tmp 39)], #[22, 3]⟩, none⟩,
  ⟨(some 9), .assign (.tmp 35), none⟩,
  ⟨(some 10), .assign (.tmp 40), none⟩]
def c3_r4 : List SOp := [
  ⟨(some 41), .call ⟨.value (.func 9), #[(.const (.int .i64 0)), (.const (.int .u32 100))], #[3, 28]⟩, none⟩,
  ⟨(some 42), .move (.tmp 9), none⟩,
  ⟨(some 43), .move (.tmp 2), none⟩,
  ⟨(some 44), .call ⟨.value (.func 10), #[(.tmp 42), (.const (.int .i64 0)), (.const (.int .u32 101)), (.tmp 43)], #[9, 3, 28, 22]⟩, none⟩,
  ⟨(some 45), .call ⟨.builtin .append, #[(.tmp 41), (.tmp 44)], #[26, 26]⟩, none⟩,
  ⟨(some 11), .assign (.tmp 45), none⟩]
def c3_r5 : List SOp := [
  ⟨(some 12), .assign (.const (.int .i64 0)), none⟩]
def c3_r6 : List SOp := [
  ⟨(some 46), .move (.tmp 12), none⟩,
  ⟨(some 47), .move (.tmp 10), none⟩,
  ⟨(some 48), .call ⟨.builtin .len, #[(.tmp 47)], #[9]⟩, none⟩,
  ⟨(some 49), .binOp .lss 3 (.tmp 46) (.tmp 48) 3, none⟩]
def c3_r8 : List SOp := [
  ⟨(some 52), .move (.tmp 11), none⟩,
  ⟨(some 53), .move (.tmp 12), none⟩,
  ⟨(some 54), .convert 3 28 (.tmp 53), none⟩,
  ⟨(some 55), .binOp .add 28 (.const (.int .u32 5001)) (.tmp 54) 28, none⟩,
  ⟨(some 56), .move (.tmp 10), none⟩,
  ⟨(some 57), .move (.tmp 12), none⟩,
  ⟨(some 58), .move (.tmp 12), none⟩,
  ⟨(some 59), .binOp .add 3 (.tmp 58) (.const (.int .i64 1)) 3, none⟩,
  ⟨(some 60), .slice 9 (.tmp 56) (some (.tmp 57)) (some (.tmp 59)) none, none⟩,
  ⟨(some 61), .call ⟨.value (.func 11), #[(.const (.int .i64 1)), (.const (.int .i64 0)), (.const (.int .i64 16)), (.tmp 55), (.const (.int .u32 101)), (.tmp 60)], #[3, 3, 3, 28, 28, 9]⟩, none⟩,
  ⟨(some 62), .build 32 #[(0, (.const (.int .i64 1))), (1, (.const (.int .i64 1))), (2, (.tmp 61))], none⟩,
  ⟨(some 63), .buildSlice 26 1 #[(0, (.tmp 62))], none⟩,
  ⟨(some 64), .call ⟨.builtin .append, #[(.tmp 52), (.tmp 63)], #[26, 26]⟩, none⟩,
  ⟨(some 11), .assign (.tmp 64), none⟩]
def c3_r7 : List SOp := [
  ⟨(some 50), .move (.tmp 12), none⟩,
  ⟨(some 51), .binOp .add 3 (.tmp 50) (.const (.int .i64 1)) 3, none⟩,
  ⟨(some 12), .assign (.tmp 51), none⟩]
def c3_l6 : SC := (.seq (.seq (.reg c3_r6 none (some [9, 10, 11, 12, 49])) (.cond (.tmp 49) .skip (.exit 0) (some [9, 10, 11, 12]))) (.seq (.block 1 (.reg c3_r8 none (some [9, 10, 11, 12]))) (.reg c3_r7 none (some [9, 10, 11, 12]))))
def c3_r9 : List SOp := [
  ⟨(some 66), .call ⟨.value (.func 13), #[], #[]⟩, none⟩,
  ⟨(some 67), .move (.tmp 11), none⟩,
  ⟨(some 68), .call ⟨.value (.func 12), #[(.tmp 66), (.tmp 67)], #[40, 26]⟩, none⟩,
  ⟨(some 65), .move (.tmp 68), none⟩,
  ⟨(some 69), .extract (.tmp 65) 0, none⟩,
  ⟨(some 70), .extract (.tmp 65) 1, none⟩,
  ⟨(some 71), .extract (.tmp 65) 2, none⟩,
  ⟨(some 14), .alloc 35, none⟩,
  ⟨(some 13), .assign (.tmp 69), none⟩,
  ⟨none, .store 35 (.tmp 14) (.tmp 70), none⟩,
  ⟨(some 15), .assign (.tmp 71), none⟩]
def c3_r10 : List SOp := [
  ⟨(some 72), .call ⟨.value (.func 14), #[(.const (.int .i64 0))], #[3]⟩, none⟩,
  ⟨(some 16), .alloc 43, none⟩,
  ⟨none, .store 43 (.tmp 16) (.tmp 72), none⟩]
def c3_r11 : List SOp := [
  ⟨(some 73), .fieldAddr 43 (.tmp 16) 0, none⟩,
  ⟨(some 74), .load 3 (.tmp 73), none⟩,
  ⟨(some 75), .fieldAddr 43 (.tmp 16) 2, none⟩,
  ⟨(some 76), .load 28 (.tmp 75), none⟩,
  ⟨(some 77), .fieldAddr 43 (.tmp 16) 1, none⟩,
  ⟨(some 78), .load 28 (.tmp 77), none⟩,
  ⟨(some 79), .fieldAddr 43 (.tmp 16) 4, none⟩,
  ⟨(some 80), .load 3 (.tmp 79), none⟩,
  ⟨(some 81), .fieldAddr 43 (.tmp 16) 3, none⟩,
  ⟨(some 82), .load 3 (.tmp 81), none⟩,
  ⟨(some 83), .build 43 #[(0, (.tmp 74)), (1, (.tmp 76)), (2, (.tmp 78)), (3, (.tmp 80)), (4, (.tmp 82))], none⟩,
  ⟨(some 17), .alloc 43, none⟩,
  ⟨none, .store 43 (.tmp 17) (.tmp 83), none⟩]
def c3_r12 : List SOp := [
  ⟨(some 84), .move (.tmp 15), none⟩,
  ⟨(some 85), .binOp .eql 36 (.tmp 84) (.const (.int .i64 0)) 36, none⟩,
  ⟨(some 86), .move (.tmp 85), none⟩,
  ⟨(some 87), .move (.tmp 13), (some ((some 86), true))⟩,
  ⟨(some 88), .load 43 (.tmp 16), (some ((some 86), true))⟩,
  ⟨(some 89), .call ⟨.value (.func 15), #[(.tmp 87), (.tmp 88), (.const (.int .u32 101))], #[33, 43, 28]⟩, (some ((some 86), true))⟩,
  ⟨(some 90), .move (.tmp 9), (some ((some 86), true))⟩,
  ⟨(some 91), .binOp .eql 9 (.tmp 89) (.tmp 90) 9, (some ((some 86), true))⟩,
  ⟨(some 92), .pick (.tmp 86) (.tmp 91) (.const (.bool false)), none⟩,
  ⟨(some 93), .move (.tmp 92), none⟩,
  ⟨(some 94), .move (.tmp 13), (some ((some 93), true))⟩,
  ⟨(some 95), .load 43 (.tmp 17), (some ((some 93), true))⟩,
  ⟨(some 96), .call ⟨.value (.func 15), #[(.tmp 94), (.tmp 95), (.const (.int .u32 5001))], #[33, 43, 28]⟩, (some ((some 93), true))⟩,
  ⟨(some 97), .move (.tmp 10), (some ((some 93), true))⟩,
  ⟨(some 98), .binOp .eql 9 (.tmp 96) (.tmp 97) 9, (some ((some 93), true))⟩,
  ⟨(some 99), .pick (.tmp 93) (.tmp 98) (.const (.bool false)), none⟩,
  ⟨(some 100), .move (.tmp 99), none⟩,
  ⟨(some 101), .fieldAddr 35 (.tmp 14) 4, (some ((some 100), true))⟩,
  ⟨(some 102), .load 3 (.tmp 101), (some ((some 100), true))⟩,
  ⟨(some 103), .binOp .eql 3 (.tmp 102) (.const (.int .i64 0)) 3, (some ((some 100), true))⟩,
  ⟨(some 104), .pick (.tmp 100) (.tmp 103) (.const (.bool false)), none⟩,
  ⟨(some 105), .move (.tmp 104), none⟩,
  ⟨(some 106), .fieldAddr 35 (.tmp 14) 5, (some ((some 105), true))⟩,
  ⟨(some 107), .load 3 (.tmp 106), (some ((some 105), true))⟩,
  ⟨(some 108), .binOp .eql 3 (.tmp 107) (.const (.int .i64 0)) 3, (some ((some 105), true))⟩,
  ⟨(some 109), .pick (.tmp 105) (.tmp 108) (.const (.bool false)), none⟩,
  ⟨(some 110), .move (.tmp 109), none⟩,
  ⟨(some 111), .fieldAddr 35 (.tmp 14) 2, (some ((some 110), true))⟩,
  ⟨(some 112), .load 3 (.tmp 111), (some ((some 110), true))⟩,
  ⟨(some 113), .binOp .eql 3 (.tmp 112) (.const (.int .i64 0)) 3, (some ((some 110), true))⟩,
  ⟨(some 114), .pick (.tmp 110) (.tmp 113) (.const (.bool false)), none⟩,
  ⟨(some 115), .move (.tmp 114), none⟩,
  ⟨(some 116), .fieldAddr 35 (.tmp 14) 8, (some ((some 115), true))⟩,
  ⟨(some 117), .load 3 (.tmp 116), (some ((some 115), true))⟩,
  ⟨(some 118), .binOp .eql 3 (.tmp 117) (.const (.int .i64 0)) 3, (some ((some 115), true))⟩,
  ⟨(some 119), .pick (.tmp 115) (.tmp 118) (.const (.bool false)), none⟩,
  ⟨(some 120), .move (.tmp 119), none⟩,
  ⟨(some 121), .move (.tmp 13), (some ((some 120), true))⟩,
  ⟨(some 122), .call ⟨.value (.func 16), #[(.tmp 121)], #[33]⟩, (some ((some 120), true))⟩,
  ⟨(some 123), .call ⟨.builtin .len, #[(.tmp 122)], #[46]⟩, (some ((some 120), true))⟩,
  ⟨(some 124), .binOp .eql 3 (.tmp 123) (.const (.int .i64 0)) 3, (some ((some 120), true))⟩,
  ⟨(some 125), .pick (.tmp 120) (.tmp 124) (.const (.bool false)), none⟩,
  ⟨(some 126), .move (.tmp 125), none⟩,
  ⟨(some 127), .call ⟨.value (.func 6), #[], #[]⟩, (some ((some 126), true))⟩,
  ⟨(some 128), .pick (.tmp 126) (.tmp 127) (.const (.bool false)), none⟩,
  ⟨(some 8), .assign (.tmp 128), none⟩]
def c3 : SC := (.seq (.reg c3_r0 none (some [0, 1, 2, 3])) (.seq (.seq (.reg c3_r1 none (some [0, 1, 2, 3, 30])) (.cond (.tmp 30) (.seq (.reg c3_r2 none (some [8])) .ret) .skip (some [0, 1, 2, 3]))) (.seq (.reg c3_r3 none (some [2, 9, 10])) (.seq (.reg c3_r4 none (some [9, 10, 11])) (.seq (.seq (.reg c3_r5 none (some [9, 10, 11, 12])) (.block 0 (.loop c3_l6 (some [9, 10, 11, 12])))) (.seq (.reg c3_r9 none (some [9, 10, 13, 14, 15])) (.seq (.reg c3_r10 none (some [9, 10, 13, 14, 15, 16])) (.seq (.reg c3_r11 none (some [9, 10, 13, 14, 15, 16, 17])) (.seq (.reg c3_r12 none (some [8])) .ret)))))))))
theorem c3_eq : ∃ code, Tryz.f3.body = some code ∧ compile H3 code = c3 := ⟨_, rfl, by kernel_rfl⟩
theorem c3_fn : Tryz.prog.funcs[3]? = some Tryz.f3 := by kernel_rfl
theorem c3_rs : Tryz.f3.results.toList = [.tmp 8] := by kernel_rfl
theorem c3_ok : fnB Tryz.prog H3 Tryz.f3 = true := by kernel_rfl
theorem c3_nt : Tryz.f3.ntmps = 129 := by kernel_rfl
end Go.AM
