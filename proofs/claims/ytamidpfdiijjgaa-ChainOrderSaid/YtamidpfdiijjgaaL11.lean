/-
  Printed by program (wip/tools/print.sh): compiled code.
-/
import Derived.Test.YtamidpfdiijjgaaAM16
import Derived.Test.YtamidpfdiijjgaaProg
namespace Go.AM
open Go Go.Proofs
set_option maxRecDepth 100000
/-! 11: rampart/rampartlaw16.ChainOrder -/
def H11 : Hint := ⟨[(17, [8]), (16, [9, 10, 14, 15, 16, 17, 18]), (15, [9, 10, 14, 15, 16]), (14, [9, 10, 14]), (12, [1, 2, 3, 9, 10, 13]), (13, [1, 2, 3, 9, 10, 13]), (2000046, [1, 2, 3, 9, 10, 13]), (11, [1, 2, 3, 9, 10, 13, 46]), (1000011, [1, 2, 3, 9, 10, 13]), (10, [1, 2, 3, 9, 10, 13]), (9, [1, 2, 3, 9, 10, 29, 30, 31]), (8, [1, 2, 3, 9, 10, 29, 30, 31]), (2000037, [1, 2, 3, 9, 10, 29, 30, 31]), (7, [1, 2, 3, 9, 10, 12, 29, 30, 31, 37]), (6, [1, 2, 3, 9, 10, 12, 29, 30, 31]), (2000032, [1, 2, 3, 9, 10, 29, 30, 31]), (5, [1, 2, 3, 9, 10, 29, 30, 31, 32]), (1000005, [1, 2, 3, 9, 10, 29, 30, 31]), (4, [1, 2, 3, 9, 10, 29, 30, 31]), (3, [0, 1, 2, 3, 9, 10]), (2, [8]), (2000026, [0, 1, 2, 3]), (1, [0, 1, 2, 3, 26]), (0, [0, 1, 2, 3])], []⟩
def c11_r0 : List SOp := [
  ⟨(some 8), .assign (.const (.bool false)), none⟩]
def c11_r1 : List SOp := [
  ⟨(some 19), .move (.tmp 0), none⟩,
  ⟨(some 20), .call ⟨.builtin .len, #[(.tmp 19)], #[30]⟩, none⟩,
  ⟨(some 21), .binOp .gtr 3 (.tmp 20) (.const (.int .i64 8)) 3, none⟩,
  ⟨(some 22), .move (.tmp 21), none⟩,
  ⟨(some 23), .move (.tmp 1), (some ((some 22), false))⟩,
  ⟨(some 24), .call ⟨.builtin .len, #[(.tmp 23)], #[30]⟩, (some ((some 22), false))⟩,
  ⟨(some 25), .binOp .gtr 3 (.tmp 24) (.const (.int .i64 60)) 3, (some ((some 22), false))⟩,
  ⟨(some 26), .pick (.tmp 22) (.const (.bool true)) (.tmp 25), none⟩]
def c11_r2 : List SOp := [
  ⟨(some 27), .call ⟨.value (.func 42), #[], #[]⟩, none⟩,
  ⟨(some 8), .assign (.tmp 27), none⟩]
def c11_r3 : List SOp := [
  ⟨(some 9), .assign (.const (.slice none 0 0)), none⟩,
  ⟨(some 10), .assign (.const (.slice none 0 0)), none⟩]
def c11_r4 : List SOp := [
  ⟨(some 28), .move (.tmp 0), none⟩,
  ⟨(some 29), .call ⟨.value (.func 49), #[(.tmp 28)], #[30]⟩, none⟩,
  ⟨(some 30), .call ⟨.builtin .len, #[(.tmp 29)], #[42]⟩, none⟩,
  ⟨(some 31), .move (.const (.int .i64 0)), none⟩]
def c11_r5 : List SOp := [
  ⟨(some 32), .binOp .lss 3 (.tmp 31) (.tmp 30) 3, none⟩]
def c11_r6 : List SOp := [
  ⟨(some 33), .indexAddr 42 (.tmp 29) (.tmp 31), none⟩,
  ⟨(some 34), .load 52 (.tmp 33), none⟩,
  ⟨(some 12), .alloc 52, none⟩,
  ⟨none, .store 52 (.tmp 12) (.tmp 34), none⟩]
def c11_r7 : List SOp := [
  ⟨(some 35), .fieldAddr 52 (.tmp 12) 5, none⟩,
  ⟨(some 36), .load 4 (.tmp 35), none⟩,
  ⟨(some 37), .unOp .not 4 (.tmp 36), none⟩]
def c11_r8 : List SOp := [
  ⟨(some 38), .move (.tmp 9), none⟩,
  ⟨(some 39), .load 52 (.tmp 12), none⟩,
  ⟨(some 40), .buildSlice 42 1 #[(0, (.tmp 39))], none⟩,
  ⟨(some 41), .call ⟨.builtin .append, #[(.tmp 38), (.tmp 40)], #[42, 42]⟩, none⟩,
  ⟨(some 9), .assign (.tmp 41), none⟩]
def c11_r9 : List SOp := [
  ⟨(some 42), .binOp .add 3 (.tmp 31) (.const (.int .i64 1)) 3, none⟩,
  ⟨(some 31), .move (.tmp 42), none⟩]
def c11_l5 : SC := (.seq (.reg c11_r5 none (some [1, 2, 3, 9, 10, 29, 30, 31, 32])) (.seq (.cond (.tmp 32) .skip (.exit 0) (some [1, 2, 3, 9, 10, 29, 30, 31])) (.seq (.block 1 (.seq (.reg c11_r6 none (some [1, 2, 3, 9, 10, 12, 29, 30, 31])) (.seq (.reg c11_r7 none (some [1, 2, 3, 9, 10, 12, 29, 30, 31, 37])) (.cond (.tmp 37) (.reg c11_r8 none (some [1, 2, 3, 9, 10, 29, 30, 31])) .skip (some [1, 2, 3, 9, 10, 29, 30, 31]))))) (.reg c11_r9 none (some [1, 2, 3, 9, 10, 29, 30, 31])))))
def c11_r10 : List SOp := [
  ⟨(some 13), .assign (.const (.int .i64 0)), none⟩]
def c11_r11 : List SOp := [
  ⟨(some 43), .move (.tmp 13), none⟩,
  ⟨(some 44), .move (.tmp 9), none⟩,
  ⟨(some 45), .call ⟨.builtin .len, #[(.tmp 44)], #[42]⟩, none⟩,
  ⟨(some 46), .binOp .lss 3 (.tmp 43) (.tmp 45) 3, none⟩]
def c11_r13 : List SOp := [
  ⟨(some 49), .move (.tmp 10), none⟩,
  ⟨(some 50), .move (.tmp 9), none⟩,
  ⟨(some 51), .move (.tmp 13), none⟩,
  ⟨(some 52), .move (.tmp 3), none⟩,
  ⟨(some 53), .move (.tmp 9), none⟩,
  ⟨(some 54), .call ⟨.builtin .len, #[(.tmp 53)], #[42]⟩, none⟩,
  ⟨(some 55), .call ⟨.value (.func 29), #[(.tmp 52), (.tmp 54)], #[3, 3]⟩, none⟩,
  ⟨(some 56), .binOp .add 3 (.tmp 51) (.tmp 55) 3, none⟩,
  ⟨(some 57), .move (.tmp 9), none⟩,
  ⟨(some 58), .call ⟨.builtin .len, #[(.tmp 57)], #[42]⟩, none⟩,
  ⟨(some 59), .binOp .rem 3 (.tmp 56) (.tmp 58) 3, none⟩,
  ⟨(some 60), .indexAddr 42 (.tmp 50) (.tmp 59), none⟩,
  ⟨(some 61), .load 52 (.tmp 60), none⟩,
  ⟨(some 62), .buildSlice 42 1 #[(0, (.tmp 61))], none⟩,
  ⟨(some 63), .call ⟨.builtin .append, #[(.tmp 49), (.tmp 62)], #[42, 42]⟩, none⟩,
  ⟨(some 10), .assign (.tmp 63), none⟩]
def c11_r12 : List SOp := [
  ⟨(some 47), .move (.tmp 13), none⟩,
  ⟨(some 48), .binOp .add 3 (.tmp 47) (.const (.int .i64 1)) 3, none⟩,
  ⟨(some 13), .assign (.tmp 48), none⟩]
def c11_l11 : SC := (.seq (.seq (.reg c11_r11 none (some [1, 2, 3, 9, 10, 13, 46])) (.cond (.tmp 46) .skip (.exit 2) (some [1, 2, 3, 9, 10, 13]))) (.seq (.block 3 (.reg c11_r13 none (some [1, 2, 3, 9, 10, 13]))) (.reg c11_r12 none (some [1, 2, 3, 9, 10, 13]))))
def c11_r14 : List SOp := [
  ⟨(some 64), .move (.tmp 1), none⟩,
  ⟨(some 65), .move (.tmp 2), none⟩,
  ⟨(some 66), .call ⟨.value (.func 29), #[(.tmp 65), (.const (.int .i64 40))], #[3, 3]⟩, none⟩,
  ⟨(some 67), .call ⟨.value (.func 50), #[(.tmp 64), (.tmp 66)], #[30, 3]⟩, none⟩,
  ⟨(some 14), .assign (.tmp 67), none⟩]
def c11_r15 : List SOp := [
  ⟨(some 69), .move (.tmp 9), none⟩,
  ⟨(some 70), .move (.tmp 14), none⟩,
  ⟨(some 71), .call ⟨.value (.func 45), #[(.tmp 69), (.tmp 70)], #[42, 9]⟩, none⟩,
  ⟨(some 68), .move (.tmp 71), none⟩,
  ⟨(some 72), .extract (.tmp 68) 0, none⟩,
  ⟨(some 73), .extract (.tmp 68) 1, none⟩,
  ⟨(some 15), .assign (.tmp 72), none⟩,
  ⟨(some 16), .assign (.tmp 73), none⟩]
def c11_r16 : List SOp := [
  ⟨(some 75), .move (.tmp 10), none⟩,
  ⟨(some 76), .move (.tmp 14), none⟩,
  ⟨(some 77), .call ⟨.value (.func 45), #[(.tmp 75), (.tmp 76)], #[42, 9]⟩, none⟩,
  ⟨(some 74), .move (.tmp 77), none⟩,
  ⟨(some 78), .extract (.tmp 74) 0, none⟩,
  ⟨(some 79), .extract (.tmp 74) 1, none⟩,
  ⟨(some 17), .assign (.tmp 78), none⟩,
  ⟨(some 18), .assign (.tmp 79), none⟩]
def c11_r17 : List SOp := [
  ⟨(some 80), .move (.tmp 15), none⟩,
  ⟨(some 81), .move (.tmp 17), none⟩,
  ⟨(some 82), .binOp .eql 3 (.tmp 80) (.tmp 81) 3, none⟩,
  ⟨(some 83), .move (.tmp 82), none⟩,
  ⟨(some 84), .move (.tmp 16), (some ((some 83), true))⟩,
  ⟨(some 85), .move (.tmp 18), (some ((some 83), true))⟩,
  ⟨(some 86), .binOp .eql 4 (.tmp 84) (.tmp 85) 4, (some ((some 83), true))⟩,
  ⟨(some 87), .pick (.tmp 83) (.tmp 86) (.const (.bool false)), none⟩,
  ⟨(some 88), .move (.tmp 87), none⟩,
  ⟨(some 89), .move (.tmp 9), (some ((some 88), true))⟩,
  ⟨(some 90), .move (.tmp 14), (some ((some 88), true))⟩,
  ⟨(some 91), .call ⟨.value (.func 47), #[(.tmp 89), (.tmp 90)], #[42, 9]⟩, (some ((some 88), true))⟩,
  ⟨(some 92), .move (.tmp 10), (some ((some 88), true))⟩,
  ⟨(some 93), .move (.tmp 14), (some ((some 88), true))⟩,
  ⟨(some 94), .call ⟨.value (.func 47), #[(.tmp 92), (.tmp 93)], #[42, 9]⟩, (some ((some 88), true))⟩,
  ⟨(some 95), .binOp .eql 4 (.tmp 91) (.tmp 94) 4, (some ((some 88), true))⟩,
  ⟨(some 96), .pick (.tmp 88) (.tmp 95) (.const (.bool false)), none⟩,
  ⟨(some 97), .move (.tmp 96), none⟩,
  ⟨(some 98), .call ⟨.value (.func 42), #[], #[]⟩, (some ((some 97), true))⟩,
  ⟨(some 99), .pick (.tmp 97) (.tmp 98) (.const (.bool false)), none⟩,
  ⟨(some 8), .assign (.tmp 99), none⟩]
def c11 : SC := (.seq (.reg c11_r0 none (some [0, 1, 2, 3])) (.seq (.seq (.reg c11_r1 none (some [0, 1, 2, 3, 26])) (.cond (.tmp 26) (.seq (.reg c11_r2 none (some [8])) .ret) .skip (some [0, 1, 2, 3]))) (.seq (.reg c11_r3 none (some [0, 1, 2, 3, 9, 10])) (.seq (.seq (.reg c11_r4 none (some [1, 2, 3, 9, 10, 29, 30, 31])) (.block 0 (.loop c11_l5 (some [1, 2, 3, 9, 10, 29, 30, 31])))) (.seq (.seq (.reg c11_r10 none (some [1, 2, 3, 9, 10, 13])) (.block 2 (.loop c11_l11 (some [1, 2, 3, 9, 10, 13])))) (.seq (.reg c11_r14 none (some [9, 10, 14])) (.seq (.reg c11_r15 none (some [9, 10, 14, 15, 16])) (.seq (.reg c11_r16 none (some [9, 10, 14, 15, 16, 17, 18])) (.seq (.reg c11_r17 none (some [8])) .ret)))))))))
theorem c11_eq : ∃ code, Try.f11.body = some code ∧ compile H11 code = c11 := ⟨_, rfl, by kernel_rfl⟩
theorem c11_fn : Try.prog.funcs[11]? = some Try.f11 := by kernel_rfl
theorem c11_rs : Try.f11.results.toList = [.tmp 8] := by kernel_rfl
theorem c11_ok : fnB Try.prog H11 Try.f11 = true := by kernel_rfl
theorem c11_nt : Try.f11.ntmps = 100 := by kernel_rfl
end Go.AM
