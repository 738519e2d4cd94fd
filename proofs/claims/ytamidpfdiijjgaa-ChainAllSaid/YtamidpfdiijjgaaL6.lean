/-
  Printed by program (wip/tools/print.sh): compiled code.
-/
import Derived.Test.YtamidpfdiijjgaaAM16
import Derived.Test.YtamidpfdiijjgaaProg
namespace Go.AM
open Go Go.Proofs
set_option maxRecDepth 100000
/-! 6: rampart/rampartlaw16.ChainAll -/
def H6 : Hint := ⟨[(13, [4]), (12, [0, 1, 8, 9, 10, 11]), (11, [0, 1, 8, 9]), (8, [0, 1, 5, 6, 7]), (10, [4]), (2000048, [0, 1, 5, 6, 7]), (9, [0, 1, 5, 6, 7, 48]), (2000036, [0, 1, 5, 6, 7]), (7, [0, 1, 5, 6, 7, 36]), (1000007, [0, 1, 5, 6, 7]), (6, [0, 1, 5, 6, 7]), (5, [4]), (2000032, [0, 1, 5, 6]), (4, [0, 1, 5, 6, 32]), (3, [0, 1, 5, 6]), (2, [4]), (2000019, [0, 1]), (1, [0, 1, 19]), (0, [0, 1])], []⟩
def c6_r0 : List SOp := [
  ⟨(some 4), .assign (.const (.bool false)), none⟩]
def c6_r1 : List SOp := [
  ⟨(some 12), .move (.tmp 0), none⟩,
  ⟨(some 13), .call ⟨.value (.func 41), #[(.tmp 12)], #[42]⟩, none⟩,
  ⟨(some 14), .unOp .not 4 (.tmp 13), none⟩,
  ⟨(some 15), .move (.tmp 14), none⟩,
  ⟨(some 16), .move (.tmp 1), (some ((some 15), false))⟩,
  ⟨(some 17), .call ⟨.builtin .len, #[(.tmp 16)], #[9]⟩, (some ((some 15), false))⟩,
  ⟨(some 18), .binOp .gtr 3 (.tmp 17) (.const (.int .i64 60)) 3, (some ((some 15), false))⟩,
  ⟨(some 19), .pick (.tmp 15) (.const (.bool true)) (.tmp 18), none⟩]
def c6_r2 : List SOp := [
  ⟨(some 20), .call ⟨.value (.func 42), #[], #[]⟩, none⟩,
  ⟨(some 4), .assign (.tmp 20), none⟩]
def c6_r3 : List SOp := [
  ⟨(some 21), .move (.tmp 0), none⟩,
  ⟨(some 22), .call ⟨.builtin .append, #[(.const (.slice none 0 0)), (.tmp 21)], #[42, 42]⟩, none⟩,
  ⟨(some 23), .move (.tmp 1), none⟩,
  ⟨(some 24), .call ⟨.value (.func 43), #[(.tmp 22), (.tmp 23)], #[42, 9]⟩, none⟩,
  ⟨(some 25), .move (.tmp 0), none⟩,
  ⟨(some 26), .move (.tmp 1), none⟩,
  ⟨(some 27), .call ⟨.value (.func 44), #[(.tmp 25), (.tmp 26)], #[42, 9]⟩, none⟩,
  ⟨(some 5), .assign (.tmp 24), none⟩,
  ⟨(some 6), .assign (.tmp 27), none⟩]
def c6_r4 : List SOp := [
  ⟨(some 28), .move (.tmp 5), none⟩,
  ⟨(some 29), .call ⟨.builtin .len, #[(.tmp 28)], #[44]⟩, none⟩,
  ⟨(some 30), .move (.tmp 6), none⟩,
  ⟨(some 31), .call ⟨.builtin .len, #[(.tmp 30)], #[44]⟩, none⟩,
  ⟨(some 32), .binOp .neq 3 (.tmp 29) (.tmp 31) 3, none⟩]
def c6_r5 : List SOp := [
  ⟨(some 4), .assign (.const (.bool false)), none⟩]
def c6_r6 : List SOp := [
  ⟨(some 7), .assign (.const (.int .i64 0)), none⟩]
def c6_r7 : List SOp := [
  ⟨(some 33), .move (.tmp 7), none⟩,
  ⟨(some 34), .move (.tmp 6), none⟩,
  ⟨(some 35), .call ⟨.builtin .len, #[(.tmp 34)], #[44]⟩, none⟩,
  ⟨(some 36), .binOp .lss 3 (.tmp 33) (.tmp 35) 3, none⟩]
def c6_r9 : List SOp := [
  ⟨(some 39), .move (.tmp 5), none⟩,
  ⟨(some 40), .move (.tmp 7), none⟩,
  ⟨(some 41), .indexAddr 44 (.tmp 39) (.tmp 40), none⟩,
  ⟨(some 42), .load 30 (.tmp 41), none⟩,
  ⟨(some 43), .move (.tmp 6), none⟩,
  ⟨(some 44), .move (.tmp 7), none⟩,
  ⟨(some 45), .indexAddr 44 (.tmp 43) (.tmp 44), none⟩,
  ⟨(some 46), .load 30 (.tmp 45), none⟩,
  ⟨(some 47), .call ⟨.value (.func 40), #[(.tmp 42), (.tmp 46)], #[30, 30]⟩, none⟩,
  ⟨(some 48), .unOp .not 4 (.tmp 47), none⟩]
def c6_r10 : List SOp := [
  ⟨(some 4), .assign (.const (.bool false)), none⟩]
def c6_r8 : List SOp := [
  ⟨(some 37), .move (.tmp 7), none⟩,
  ⟨(some 38), .binOp .add 3 (.tmp 37) (.const (.int .i64 1)) 3, none⟩,
  ⟨(some 7), .assign (.tmp 38), none⟩]
def c6_l7 : SC := (.seq (.seq (.reg c6_r7 none (some [0, 1, 5, 6, 7, 36])) (.cond (.tmp 36) .skip (.exit 0) (some [0, 1, 5, 6, 7]))) (.seq (.block 1 (.seq (.reg c6_r9 none (some [0, 1, 5, 6, 7, 48])) (.cond (.tmp 48) (.seq (.reg c6_r10 none (some [4])) .ret) .skip (some [0, 1, 5, 6, 7])))) (.reg c6_r8 none (some [0, 1, 5, 6, 7]))))
def c6_r11 : List SOp := [
  ⟨(some 50), .move (.tmp 0), none⟩,
  ⟨(some 51), .move (.tmp 1), none⟩,
  ⟨(some 52), .call ⟨.value (.func 45), #[(.tmp 50), (.tmp 51)], #[42, 9]⟩, none⟩,
  ⟨(some 49), .move (.tmp 52), none⟩,
  ⟨(some 53), .extract (.tmp 49) 0, none⟩,
  ⟨(some 54), .extract (.tmp 49) 1, none⟩,
  ⟨(some 8), .assign (.tmp 53), none⟩,
  ⟨(some 9), .assign (.tmp 54), none⟩]
def c6_r12 : List SOp := [
  ⟨(some 56), .move (.tmp 0), none⟩,
  ⟨(some 57), .move (.tmp 1), none⟩,
  ⟨(some 58), .call ⟨.value (.func 46), #[(.tmp 56), (.tmp 57)], #[42, 9]⟩, none⟩,
  ⟨(some 55), .move (.tmp 58), none⟩,
  ⟨(some 59), .extract (.tmp 55) 0, none⟩,
  ⟨(some 60), .extract (.tmp 55) 1, none⟩,
  ⟨(some 10), .assign (.tmp 59), none⟩,
  ⟨(some 11), .assign (.tmp 60), none⟩]
def c6_r13 : List SOp := [
  ⟨(some 61), .move (.tmp 0), none⟩,
  ⟨(some 62), .move (.tmp 1), none⟩,
  ⟨(some 63), .call ⟨.value (.func 47), #[(.tmp 61), (.tmp 62)], #[42, 9]⟩, none⟩,
  ⟨(some 64), .move (.tmp 0), none⟩,
  ⟨(some 65), .move (.tmp 1), none⟩,
  ⟨(some 66), .call ⟨.value (.func 48), #[(.tmp 64), (.tmp 65)], #[42, 9]⟩, none⟩,
  ⟨(some 67), .binOp .eql 4 (.tmp 63) (.tmp 66) 4, none⟩,
  ⟨(some 68), .move (.tmp 67), none⟩,
  ⟨(some 69), .move (.tmp 8), (some ((some 68), true))⟩,
  ⟨(some 70), .move (.tmp 10), (some ((some 68), true))⟩,
  ⟨(some 71), .binOp .eql 3 (.tmp 69) (.tmp 70) 3, (some ((some 68), true))⟩,
  ⟨(some 72), .pick (.tmp 68) (.tmp 71) (.const (.bool false)), none⟩,
  ⟨(some 73), .move (.tmp 72), none⟩,
  ⟨(some 74), .move (.tmp 9), (some ((some 73), true))⟩,
  ⟨(some 75), .move (.tmp 11), (some ((some 73), true))⟩,
  ⟨(some 76), .binOp .eql 4 (.tmp 74) (.tmp 75) 4, (some ((some 73), true))⟩,
  ⟨(some 77), .pick (.tmp 73) (.tmp 76) (.const (.bool false)), none⟩,
  ⟨(some 78), .move (.tmp 77), none⟩,
  ⟨(some 79), .call ⟨.value (.func 42), #[], #[]⟩, (some ((some 78), true))⟩,
  ⟨(some 80), .pick (.tmp 78) (.tmp 79) (.const (.bool false)), none⟩,
  ⟨(some 4), .assign (.tmp 80), none⟩]
def c6 : SC := (.seq (.reg c6_r0 none (some [0, 1])) (.seq (.seq (.reg c6_r1 none (some [0, 1, 19])) (.cond (.tmp 19) (.seq (.reg c6_r2 none (some [4])) .ret) .skip (some [0, 1]))) (.seq (.reg c6_r3 none (some [0, 1, 5, 6])) (.seq (.seq (.reg c6_r4 none (some [0, 1, 5, 6, 32])) (.cond (.tmp 32) (.seq (.reg c6_r5 none (some [4])) .ret) .skip (some [0, 1, 5, 6]))) (.seq (.seq (.reg c6_r6 none (some [0, 1, 5, 6, 7])) (.block 0 (.loop c6_l7 (some [0, 1, 5, 6, 7])))) (.seq (.reg c6_r11 none (some [0, 1, 8, 9])) (.seq (.reg c6_r12 none (some [0, 1, 8, 9, 10, 11])) (.seq (.reg c6_r13 none (some [4])) .ret))))))))
theorem c6_eq : ∃ code, Try.f6.body = some code ∧ compile H6 code = c6 := ⟨_, rfl, by kernel_rfl⟩
theorem c6_fn : Try.prog.funcs[6]? = some Try.f6 := by kernel_rfl
theorem c6_rs : Try.f6.results.toList = [.tmp 4] := by kernel_rfl
theorem c6_ok : fnB Try.prog H6 Try.f6 = true := by kernel_rfl
theorem c6_nt : Try.f6.ntmps = 81 := by kernel_rfl
end Go.AM
