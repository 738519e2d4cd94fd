/-
  Printed by program (wip/tools/print.sh): compiled code.
-/
import Derived.Test.YtamidpfdiijjgaaDoorAMb
import Derived.Test.YtamidpfdiijjgaaDoorProg
namespace Go.AM
open Go Go.Proofs
set_option maxRecDepth 100000
/-! 6: rampart/rampartlaw08.LexSigns -/
def H6 : Hint := ⟨[(20, [4]), (17, [7, 10, 13]), (19, [4]), (2000084, [7, 10, 13]), (18, [7, 10, 13, 84]), (2000064, [7, 10, 13]), (16, [7, 10, 13, 64]), (1000016, [7, 10, 13]), (15, [7, 10, 13]), (14, [4]), (2000060, [7, 10]), (13, [7, 10, 60]), (12, [7, 10, 12]), (6, [0, 1, 5, 6, 7, 8]), (11, [0, 1, 5, 6, 7, 8]), (2000043, [0, 1, 5, 6, 7, 8]), (10, [0, 1, 5, 6, 7, 8, 43]), (9, [0, 1, 5, 6, 7, 8, 9]), (8, [0, 1, 5, 6, 7, 8, 9]), (7, [0, 1, 5, 6, 7, 8, 9]), (2000022, [0, 1, 5, 6, 7, 8]), (5, [0, 1, 5, 6, 7, 8, 22]), (1000005, [0, 1, 5, 6, 7, 8]), (4, [0, 1, 5, 6, 7, 8]), (3, [0, 1, 5, 6, 7]), (2, [0, 1, 5, 6]), (1, [0, 1, 5]), (0, [0, 1])], []⟩
def c6_r0 : List SOp := [
  ⟨(some 4), .assign (.const (.bool false)), none⟩]
def c6_r1 : List SOp := [
  ⟨(some 14), .build 40 #[(0, (.const (.string ⟨#[40]⟩))), (1, (.const (.string ⟨#[41]⟩))), (2, (.const (.string ⟨#[59]⟩))), (3, (.const (.string ⟨#[58]⟩))), (4, (.const (.string ⟨#[44]⟩))), (5, (.const (.string ⟨#[47]⟩))), (6, (.const (.string ⟨#[91]⟩))), (7, (.const (.string ⟨#[93]⟩))), (8, (.const (.string ⟨#[33]⟩))), (9, (.const (.string ⟨#[45]⟩))), (10, (.const (.string ⟨#[46]⟩))), (11, (.const (.string ⟨#[61]⟩))), (12, (.const (.string ⟨#[45, 62]⟩))), (13, (.const (.string ⟨#[60, 62]⟩)))], none⟩,
  ⟨(some 5), .alloc 40, none⟩,
  ⟨none, .store 40 (.tmp 5) (.tmp 14), none⟩]
def c6_r2 : List SOp := [
  ⟨(some 6), .assign (.const (.string ⟨#[]⟩)), none⟩]
def c6_r3 : List SOp := [
  ⟨(some 7), .assign (.const (.slice none 0 0)), none⟩]
def c6_r4 : List SOp := [
  ⟨(some 8), .assign (.const (.int .i64 0)), none⟩]
def c6_r5 : List SOp := [
  ⟨(some 15), .move (.tmp 8), none⟩,
  ⟨(some 16), .move (.tmp 0), none⟩,
  ⟨(some 17), .call ⟨.builtin .len, #[(.tmp 16)], #[38]⟩, none⟩,
  ⟨(some 18), .binOp .lss 3 (.tmp 15) (.tmp 17) 3, none⟩,
  ⟨(some 19), .move (.tmp 18), none⟩,
  ⟨(some 20), .move (.tmp 8), (some ((some 19), true))⟩,
  ⟨(some 21), .binOp .lss 3 (.tmp 20) (.const (.int .i64 40)) 3, (some ((some 19), true))⟩,
  ⟨(some 22), .pick (.tmp 19) (.tmp 21) (.const (.bool false)), none⟩]
def c6_r7 : List SOp := [
  ⟨(some 25), .move (.tmp 0), none⟩,
  ⟨(some 26), .move (.tmp 8), none⟩,
  ⟨(some 27), .indexAddr 38 (.tmp 25) (.tmp 26), none⟩,
  ⟨(some 28), .load 3 (.tmp 27), none⟩,
  ⟨(some 29), .call ⟨.value (.func 11), #[(.tmp 28), (.const (.int .i64 14))], #[3, 3]⟩, none⟩,
  ⟨(some 30), .indexAddr 40 (.tmp 5) (.tmp 29), none⟩,
  ⟨(some 31), .load 9 (.tmp 30), none⟩,
  ⟨(some 9), .assign (.tmp 31), none⟩]
def c6_r8 : List SOp := [
  ⟨(some 32), .move (.tmp 6), none⟩,
  ⟨(some 33), .move (.tmp 9), none⟩,
  ⟨(some 34), .binOp .add 9 (.tmp 32) (.tmp 33) 9, none⟩,
  ⟨(some 6), .assign (.tmp 34), none⟩]
def c6_r9 : List SOp := [
  ⟨(some 35), .move (.tmp 7), none⟩,
  ⟨(some 36), .move (.tmp 9), none⟩,
  ⟨(some 37), .buildSlice 41 1 #[(0, (.tmp 36))], none⟩,
  ⟨(some 38), .call ⟨.builtin .append, #[(.tmp 35), (.tmp 37)], #[41, 41]⟩, none⟩,
  ⟨(some 7), .assign (.tmp 38), none⟩]
def c6_r10 : List SOp := [
  ⟨(some 39), .move (.tmp 1), none⟩,
  ⟨(some 40), .move (.tmp 39), none⟩,
  ⟨(some 41), .move (.tmp 9), (some ((some 40), false))⟩,
  ⟨(some 42), .binOp .eql 9 (.tmp 41) (.const (.string ⟨#[45]⟩)) 9, (some ((some 40), false))⟩,
  ⟨(some 43), .pick (.tmp 40) (.const (.bool true)) (.tmp 42), none⟩]
def c6_r11 : List SOp := [
  ⟨(some 44), .move (.tmp 6), none⟩,
  ⟨(some 45), .binOp .add 9 (.tmp 44) (.const (.string ⟨#[32]⟩)) 9, none⟩,
  ⟨(some 6), .assign (.tmp 45), none⟩]
def c6_r6 : List SOp := [
  ⟨(some 23), .move (.tmp 8), none⟩,
  ⟨(some 24), .binOp .add 3 (.tmp 23) (.const (.int .i64 1)) 3, none⟩,
  ⟨(some 8), .assign (.tmp 24), none⟩]
def c6_l5 : SC := (.seq (.seq (.reg c6_r5 none (some [0, 1, 5, 6, 7, 8, 22])) (.cond (.tmp 22) .skip (.exit 0) (some [0, 1, 5, 6, 7, 8]))) (.seq (.block 1 (.seq (.reg c6_r7 none (some [0, 1, 5, 6, 7, 8, 9])) (.seq (.reg c6_r8 none (some [0, 1, 5, 6, 7, 8, 9])) (.seq (.reg c6_r9 none (some [0, 1, 5, 6, 7, 8, 9])) (.seq (.reg c6_r10 none (some [0, 1, 5, 6, 7, 8, 43])) (.cond (.tmp 43) (.reg c6_r11 none (some [0, 1, 5, 6, 7, 8])) .skip (some [0, 1, 5, 6, 7, 8]))))))) (.reg c6_r6 none (some [0, 1, 5, 6, 7, 8]))))
def c6_r12 : List SOp := [
  ⟨(some 47), .move (.tmp 6), none⟩,
  ⟨(some 48), .call ⟨.value (.func 8), #[(.tmp 47)], #[9]⟩, none⟩,
  ⟨(some 46), .move (.tmp 48), none⟩,
  ⟨(some 49), .extract (.tmp 46) 0, none⟩,
  ⟨(some 50), .extract (.tmp 46) 1, none⟩,
  ⟨(some 51), .extract (.tmp 46) 2, none⟩,
  ⟨(some 10), .assign (.tmp 49), none⟩,
  ⟨(some 11), .assign (.tmp 50), none⟩,
  ⟨(some 12), .assign (.tmp 51), none⟩]
def c6_r13 : List SOp := [
  ⟨(some 52), .move (.tmp 12), none⟩,
  ⟨(some 53), .binOp .neq 23 (.tmp 52) (.const (.int .i64 0)) 23, none⟩,
  ⟨(some 54), .move (.tmp 53), none⟩,
  ⟨(some 55), .move (.tmp 10), (some ((some 54), false))⟩,
  ⟨(some 56), .call ⟨.builtin .len, #[(.tmp 55)], #[22]⟩, (some ((some 54), false))⟩,
  ⟨(some 57), .move (.tmp 7), (some ((some 54), false))⟩,
  ⟨(some 58), .call ⟨.builtin .len, #[(.tmp 57)], #[41]⟩, (some ((some 54), false))⟩,
  ⟨(some 59), .binOp .neq 3 (.tmp 56) (.tmp 58) 3, (some ((some 54), false))⟩,
  ⟨(some 60), .pick (.tmp 54) (.const (.bool true)) (.tmp 59), none⟩]
def c6_r14 : List SOp := [
  ⟨(some 4), .assign (.const (.bool false)), none⟩]
def c6_r15 : List SOp := [
  ⟨(some 13), .assign (.const (.int .i64 0)), none⟩]
def c6_r16 : List SOp := [
  ⟨(some 61), .move (.tmp 13), none⟩,
  ⟨(some 62), .move (.tmp 10), none⟩,
  ⟨(some 63), .call ⟨.builtin .len, #[(.tmp 62)], #[22]⟩, none⟩,
  ⟨(some 64), .binOp .lss 3 (.tmp 61) (.tmp 63) 3, none⟩]
def c6_r18 : List SOp := [
  ⟨(some 67), .move (.tmp 10), none⟩,
  ⟨(some 68), .move (.tmp 13), none⟩,
  ⟨(some 69), .indexAddr 22 (.tmp 67) (.tmp 68), none⟩,
  ⟨(some 70), .fieldAddr 30 (.tmp 69) 0, none⟩,
  ⟨(some 71), .load 3 (.tmp 70), none⟩,
  ⟨(some 72), .binOp .neq 3 (.tmp 71) (.const (.int .i64 4)) 3, none⟩,
  ⟨(some 73), .move (.tmp 72), none⟩,
  ⟨(some 74), .move (.tmp 10), (some ((some 73), false))⟩,
  ⟨(some 75), .move (.tmp 13), (some ((some 73), false))⟩,
  ⟨(some 76), .indexAddr 22 (.tmp 74) (.tmp 75), (some ((some 73), false))⟩,
  ⟨(some 77), .fieldAddr 30 (.tmp 76) 1, (some ((some 73), false))⟩,
  ⟨(some 78), .load 9 (.tmp 77), (some ((some 73), false))⟩,
  ⟨(some 79), .move (.tmp 7), (some ((some 73), false))⟩,
  ⟨(some 80), .move (.tmp 13), (some ((some 73), false))⟩,
  ⟨(some 81), .indexAddr 41 (.tmp 79) (.tmp 80), (some ((some 73), false))⟩,
  ⟨(some 82), .load 9 (.tmp 81), (some ((some 73), false))⟩,
  ⟨(some 83), .binOp .neq 9 (.tmp 78) (.tmp 82) 9, (some ((some 73), false))⟩,
  ⟨(some 84), .pick (.tmp 73) (.const (.bool true)) (.tmp 83), none⟩]
def c6_r19 : List SOp := [
  ⟨(some 4), .assign (.const (.bool false)), none⟩]
def c6_r17 : List SOp := [
  ⟨(some 65), .move (.tmp 13), none⟩,
  ⟨(some 66), .binOp .add 3 (.tmp 65) (.const (.int .i64 1)) 3, none⟩,
  ⟨(some 13), .assign (.tmp 66), none⟩]
def c6_l16 : SC := (.seq (.seq (.reg c6_r16 none (some [7, 10, 13, 64])) (.cond (.tmp 64) .skip (.exit 2) (some [7, 10, 13]))) (.seq (.block 3 (.seq (.reg c6_r18 none (some [7, 10, 13, 84])) (.cond (.tmp 84) (.seq (.reg c6_r19 none (some [4])) .ret) .skip (some [7, 10, 13])))) (.reg c6_r17 none (some [7, 10, 13]))))
def c6_r20 : List SOp := [
  ⟨(some 85), .call ⟨.value (.func 10), #[], #[]⟩, none⟩,
  ⟨(some 4), .assign (.tmp 85), none⟩]
def c6 : SC := (.seq (.reg c6_r0 none (some [0, 1])) (.seq (.reg c6_r1 none (some [0, 1, 5])) (.seq (.reg c6_r2 none (some [0, 1, 5, 6])) (.seq (.reg c6_r3 none (some [0, 1, 5, 6, 7])) (.seq (.seq (.reg c6_r4 none (some [0, 1, 5, 6, 7, 8])) (.block 0 (.loop c6_l5 (some [0, 1, 5, 6, 7, 8])))) (.seq (.reg c6_r12 none (some [7, 10, 12])) (.seq (.seq (.reg c6_r13 none (some [7, 10, 60])) (.cond (.tmp 60) (.seq (.reg c6_r14 none (some [4])) .ret) .skip (some [7, 10]))) (.seq (.seq (.reg c6_r15 none (some [7, 10, 13])) (.block 2 (.loop c6_l16 (some [7, 10, 13])))) (.seq (.reg c6_r20 none (some [4])) .ret)))))))))
theorem c6_eq : ∃ code, Tryd.f6.body = some code ∧ compile H6 code = c6 := ⟨_, rfl, by kernel_rfl⟩
theorem c6_fn : Tryd.prog.funcs[6]? = some Tryd.f6 := by kernel_rfl
theorem c6_rs : Tryd.f6.results.toList = [.tmp 4] := by kernel_rfl
theorem c6_ok : fnB Tryd.prog H6 Tryd.f6 = true := by kernel_rfl
theorem c6_nt : Tryd.f6.ntmps = 86 := by kernel_rfl
end Go.AM
