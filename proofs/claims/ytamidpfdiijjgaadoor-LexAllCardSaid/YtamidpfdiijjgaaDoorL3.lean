/-
  Printed by program (wip/tools/print.sh): compiled code.
-/
import Derived.Test.YtamidpfdiijjgaaDoorAMb
import Derived.Test.YtamidpfdiijjgaaDoorProg
namespace Go.AM
open Go Go.Proofs
set_option maxRecDepth 100000
/-! 3: rampart/rampartlaw08.LexAll -/
def H3 : Hint := ⟨[(10, [2]), (7, [3, 6, 9]), (9, [2]), (2000092, [3, 6, 9]), (8, [3, 6, 9, 92]), (2000040, [3, 6, 9]), (6, [3, 6, 9, 40]), (1000006, [3, 6, 9]), (5, [3, 6, 9]), (4, [2]), (2000036, [3, 6]), (3, [3, 6, 36]), (2, [3, 4, 5, 6, 7, 8]), (1, [0, 3, 4, 5]), (0, [0])], []⟩
def c3_r0 : List SOp := [
  ⟨(some 2), .assign (.const (.bool false)), none⟩]
def c3_r1 : List SOp := [
  ⟨(some 11), .move (.tmp 0), none⟩,
  ⟨(some 12), .call ⟨.value (.func 8), #[(.tmp 11)], #[9]⟩, none⟩,
  ⟨(some 10), .move (.tmp 12), none⟩,
  ⟨(some 13), .extract (.tmp 10) 0, none⟩,
  ⟨(some 14), .extract (.tmp 10) 1, none⟩,
  ⟨(some 15), .extract (.tmp 10) 2, none⟩,
  ⟨(some 3), .assign (.tmp 13), none⟩,
  ⟨(some 4), .assign (.tmp 14), none⟩,
  ⟨(some 5), .assign (.tmp 15), none⟩]
def c3_r2 : List SOp := [
  ⟨(some 17), .move (.tmp 0), none⟩,
  ⟨(some 18), .call ⟨.value (.func 9), #[(.tmp 17)], #[9]⟩, none⟩,
  ⟨(some 16), .move (.tmp 18), none⟩,
  ⟨(some 19), .extract (.tmp 16) 0, none⟩,
  ⟨(some 20), .extract (.tmp 16) 1, none⟩,
  ⟨(some 21), .extract (.tmp 16) 2, none⟩,
  ⟨(some 6), .assign (.tmp 19), none⟩,
  ⟨(some 7), .assign (.tmp 20), none⟩,
  ⟨(some 8), .assign (.tmp 21), none⟩]
def c3_r3 : List SOp := [
  ⟨(some 22), .move (.tmp 3), none⟩,
  ⟨(some 23), .call ⟨.builtin .len, #[(.tmp 22)], #[22]⟩, none⟩,
  ⟨(some 24), .move (.tmp 6), none⟩,
  ⟨(some 25), .call ⟨.builtin .len, #[(.tmp 24)], #[26]⟩, none⟩,
  ⟨(some 26), .binOp .neq 3 (.tmp 23) (.tmp 25) 3, none⟩,
  ⟨(some 27), .move (.tmp 26), none⟩,
  ⟨(some 28), .move (.tmp 4), (some ((some 27), false))⟩,
  ⟨(some 29), .move (.tmp 7), (some ((some 27), false))⟩,
  ⟨(some 30), .binOp .neq 3 (.tmp 28) (.tmp 29) 3, (some ((some 27), false))⟩,
  ⟨(some 31), .pick (.tmp 27) (.const (.bool true)) (.tmp 30), none⟩,
  ⟨(some 32), .move (.tmp 31), none⟩,
  ⟨(some 33), .move (.tmp 5), (some ((some 32), false))⟩,
  ⟨(some 34), .move (.tmp 8), (some ((some 32), false))⟩,
  ⟨(some 35), .binOp .neq 23 (.tmp 33) (.tmp 34) 23, (some ((some 32), false))⟩,
  ⟨(some 36), .pick (.tmp 32) (.const (.bool true)) (.tmp 35), none⟩]
def c3_r4 : List SOp := [
  ⟨(some 2), .assign (.const (.bool false)), none⟩]
def c3_r5 : List SOp := [
  ⟨(some 9), .assign (.const (.int .i64 0)), none⟩]
def c3_r6 : List SOp := [
  ⟨(some 37), .move (.tmp 9), none⟩,
  ⟨(some 38), .move (.tmp 6), none⟩,
  ⟨(some 39), .call ⟨.builtin .len, #[(.tmp 38)], #[26]⟩, none⟩,
  ⟨(some 40), .binOp .lss 3 (.tmp 37) (.tmp 39) 3, none⟩]
def c3_r8 : List SOp := [
  ⟨(some 43), .move (.tmp 3), none⟩,
  ⟨(some 44), .move (.tmp 9), none⟩,
  ⟨(some 45), .indexAddr 22 (.tmp 43) (.tmp 44), none⟩,
  ⟨(some 46), .fieldAddr 30 (.tmp 45) 0, none⟩,
  ⟨(some 47), .load 3 (.tmp 46), none⟩,
  ⟨(some 48), .move (.tmp 6), none⟩,
  ⟨(some 49), .move (.tmp 9), none⟩,
  ⟨(some 50), .indexAddr 26 (.tmp 48) (.tmp 49), none⟩,
  ⟨(some 51), .fieldAddr 31 (.tmp 50) 0, none⟩,
  ⟨(some 52), .load 3 (.tmp 51), none⟩,
  ⟨(some 53), .binOp .neq 3 (.tmp 47) (.tmp 52) 3, none⟩,
  ⟨(some 54), .move (.tmp 53), none⟩,
  ⟨(some 55), .move (.tmp 3), (some ((some 54), false))⟩,
  ⟨(some 56), .move (.tmp 9), (some ((some 54), false))⟩,
  ⟨(some 57), .indexAddr 22 (.tmp 55) (.tmp 56), (some ((some 54), false))⟩,
  ⟨(some 58), .fieldAddr 30 (.tmp 57) 1, (some ((some 54), false))⟩,
  ⟨(some 59), .load 9 (.tmp 58), (some ((some 54), false))⟩,
  ⟨(some 60), .move (.tmp 6), (some ((some 54), false))⟩,
  ⟨(some 61), .move (.tmp 9), (some ((some 54), false))⟩,
  ⟨(some 62), .indexAddr 26 (.tmp 60) (.tmp 61), (some ((some 54), false))⟩,
  ⟨(some 63), .fieldAddr 31 (.tmp 62) 1, (some ((some 54), false))⟩,
  ⟨(some 64), .load 9 (.tmp 63), (some ((some 54), false))⟩,
  ⟨(some 65), .binOp .neq 9 (.tmp 59) (.tmp 64) 9, (some ((some 54), false))⟩,
  ⟨(some 66), .pick (.tmp 54) (.const (.bool true)) (.tmp 65), none⟩,
  ⟨(some 67), .move (.tmp 66), none⟩,
  ⟨(some 68), .move (.tmp 3), (some ((some 67), false))⟩,
  ⟨(some 69), .move (.tmp 9), (some ((some 67), false))⟩,
  ⟨(some 70), .indexAddr 22 (.tmp 68) (.tmp 69), (some ((some 67), false))⟩,
  ⟨(some 71), .fieldAddr 30 (.tmp 70) 2, (some ((some 67), false))⟩,
  ⟨(some 72), .load 3 (.tmp 71), (some ((some 67), false))⟩,
  ⟨(some 73), .move (.tmp 6), (some ((some 67), false))⟩,
  ⟨(some 74), .move (.tmp 9), (some ((some 67), false))⟩,
  ⟨(some 75), .indexAddr 26 (.tmp 73) (.tmp 74), (some ((some 67), false))⟩,
  ⟨(some 76), .fieldAddr 31 (.tmp 75) 2, (some ((some 67), false))⟩,
  ⟨(some 77), .load 3 (.tmp 76), (some ((some 67), false))⟩,
  ⟨(some 78), .binOp .neq 3 (.tmp 72) (.tmp 77) 3, (some ((some 67), false))⟩,
  ⟨(some 79), .pick (.tmp 67) (.const (.bool true)) (.tmp 78), none⟩,
  ⟨(some 80), .move (.tmp 79), none⟩,
  ⟨(some 81), .move (.tmp 3), (some ((some 80), false))⟩,
  ⟨(some 82), .move (.tmp 9), (some ((some 80), false))⟩,
  ⟨(some 83), .indexAddr 22 (.tmp 81) (.tmp 82), (some ((some 80), false))⟩,
  ⟨(some 84), .fieldAddr 30 (.tmp 83) 3, (some ((some 80), false))⟩,
  ⟨(some 85), .load 3 (.tmp 84), (some ((some 80), false))⟩,
  ⟨(some 86), .move (.tmp 6), (some ((some 80), false))⟩,
  ⟨(some 87), .move (.tmp 9), (some ((some 80), false))⟩,
  ⟨(some 88), .indexAddr 26 (.tmp 86) (.tmp 87), (some ((some 80), false))⟩,
  ⟨(some 89), .fieldAddr 31 (.tmp 88) 3, (some ((some 80), false))⟩,
  ⟨(some 90), .load 3 (.tmp 89), (some ((some 80), false))⟩,
  ⟨(some 91), .binOp .neq 3 (.tmp 85) (.tmp 90) 3, (some ((some 80), false))⟩,
  ⟨(some 92), .pick (.tmp 80) (.const (.bool true)) (.tmp 91), none⟩]
def c3_r9 : List SOp := [
  ⟨(some 2), .assign (.const (.bool false)), none⟩]
def c3_r7 : List SOp := [
  ⟨(some 41), .move (.tmp 9), none⟩,
  ⟨(some 42), .binOp .add 3 (.tmp 41) (.const (.int .i64 1)) 3, none⟩,
  ⟨(some 9), .assign (.tmp 42), none⟩]
def c3_l6 : SC := (.seq (.seq (.reg c3_r6 none (some [3, 6, 9, 40])) (.cond (.tmp 40) .skip (.exit 0) (some [3, 6, 9]))) (.seq (.block 1 (.seq (.reg c3_r8 none (some [3, 6, 9, 92])) (.cond (.tmp 92) (.seq (.reg c3_r9 none (some [2])) .ret) .skip (some [3, 6, 9])))) (.reg c3_r7 none (some [3, 6, 9]))))
def c3_r10 : List SOp := [
  ⟨(some 93), .call ⟨.value (.func 10), #[], #[]⟩, none⟩,
  ⟨(some 2), .assign (.tmp 93), none⟩]
def c3 : SC := (.seq (.reg c3_r0 none (some [0])) (.seq (.reg c3_r1 none (some [0, 3, 4, 5])) (.seq (.reg c3_r2 none (some [3, 4, 5, 6, 7, 8])) (.seq (.seq (.reg c3_r3 none (some [3, 6, 36])) (.cond (.tmp 36) (.seq (.reg c3_r4 none (some [2])) .ret) .skip (some [3, 6]))) (.seq (.seq (.reg c3_r5 none (some [3, 6, 9])) (.block 0 (.loop c3_l6 (some [3, 6, 9])))) (.seq (.reg c3_r10 none (some [2])) .ret))))))
theorem c3_eq : ∃ code, Tryd.f3.body = some code ∧ compile H3 code = c3 := ⟨_, rfl, by kernel_rfl⟩
theorem c3_fn : Tryd.prog.funcs[3]? = some Tryd.f3 := by kernel_rfl
theorem c3_rs : Tryd.f3.results.toList = [.tmp 2] := by kernel_rfl
theorem c3_ok : fnB Tryd.prog H3 Tryd.f3 = true := by kernel_rfl
theorem c3_nt : Tryd.f3.ntmps = 94 := by kernel_rfl
end Go.AM
