/-
  Printed by program (wip/tools/print.sh): compiled code.
-/
import Derived.Test.YtamidpfdiijjgaaAM16
import Derived.Test.YtamidpfdiijjgaaProg
namespace Go.AM
open Go Go.Proofs
set_option maxRecDepth 100000
/-! 10: rampart/rampartlaw16.ChainWithin -/
def H10 : Hint := ⟨[(6, [6]), (5, [7, 10, 11, 12, 13, 14]), (4, [7, 10, 11, 12]), (3, [7, 8, 9, 10, 11]), (2, [7, 8, 9, 10]), (1, [7, 8, 9]), (0, [0, 1, 2])], []⟩
def c10_r0 : List SOp := [
  ⟨(some 6), .assign (.const (.bool false)), none⟩]
def c10_r1 : List SOp := [
  ⟨(some 15), .move (.tmp 0), none⟩,
  ⟨(some 16), .call ⟨.value (.func 29), #[(.tmp 15), (.const (.int .i64 12))], #[3, 3]⟩, none⟩,
  ⟨(some 17), .move (.tmp 1), none⟩,
  ⟨(some 18), .call ⟨.value (.func 29), #[(.tmp 17), (.const (.int .i64 16))], #[3, 3]⟩, none⟩,
  ⟨(some 19), .binOp .sub 3 (.tmp 18) (.const (.int .i64 4)) 3, none⟩,
  ⟨(some 20), .move (.tmp 2), none⟩,
  ⟨(some 21), .call ⟨.value (.func 29), #[(.tmp 20), (.const (.int .i64 14))], #[3, 3]⟩, none⟩,
  ⟨(some 7), .assign (.tmp 16), none⟩,
  ⟨(some 8), .assign (.tmp 19), none⟩,
  ⟨(some 9), .assign (.tmp 21), none⟩]
def c10_r2 : List SOp := [
  ⟨(some 22), .move (.tmp 7), none⟩,
  ⟨(some 23), .slice 9 (.const (.string ⟨#[46, 46, 46, 46, 46, 46, 46, 46, 46, 46, 46, 46]⟩)) none (some (.tmp 22)) none, none⟩,
  ⟨(some 24), .binOp .add 9 (.const (.string ⟨#[97]⟩)) (.tmp 23) 9, none⟩,
  ⟨(some 25), .binOp .add 9 (.tmp 24) (.const (.string ⟨#[98]⟩)) 9, none⟩,
  ⟨(some 10), .assign (.tmp 25), none⟩]
def c10_r3 : List SOp := [
  ⟨(some 26), .build 52 #[(0, (.const (.string ⟨#[97]⟩)))], none⟩,
  ⟨(some 27), .move (.tmp 8), none⟩,
  ⟨(some 28), .move (.tmp 9), none⟩,
  ⟨(some 29), .build 52 #[(0, (.const (.string ⟨#[98]⟩))), (5, (.const (.bool true))), (6, (.tmp 27)), (7, (.tmp 28))], none⟩,
  ⟨(some 30), .buildSlice 42 2 #[(0, (.tmp 26)), (1, (.tmp 29))], none⟩,
  ⟨(some 11), .assign (.tmp 30), none⟩]
def c10_r4 : List SOp := [
  ⟨(some 31), .move (.tmp 7), none⟩,
  ⟨(some 32), .move (.tmp 8), none⟩,
  ⟨(some 33), .binOp .geq 3 (.tmp 31) (.tmp 32) 3, none⟩,
  ⟨(some 34), .move (.tmp 33), none⟩,
  ⟨(some 35), .move (.tmp 9), (some ((some 34), true))⟩,
  ⟨(some 36), .binOp .eql 3 (.tmp 35) (.const (.int .i64 0)) 3, (some ((some 34), true))⟩,
  ⟨(some 37), .move (.tmp 36), (some ((some 34), true))⟩,
  ⟨(some 38), .move (.tmp 7), (some ((some 37), false))⟩,
  ⟨(some 39), .binOp .add 3 (.tmp 38) (.const (.int .i64 1)) 3, (some ((some 37), false))⟩,
  ⟨(some 40), .move (.tmp 8), (some ((some 37), false))⟩,
  ⟨(some 41), .move (.tmp 9), (some ((some 37), false))⟩,
  ⟨(some 42), .binOp .add 3 (.tmp 40) (.tmp 41) 3, (some ((some 37), false))⟩,
  ⟨(some 43), .binOp .leq 3 (.tmp 39) (.tmp 42) 3, (some ((some 37), false))⟩,
  ⟨(some 44), .pick (.tmp 37) (.const (.bool true)) (.tmp 43), (some ((some 34), true))⟩,
  ⟨(some 45), .pick (.tmp 34) (.tmp 44) (.const (.bool false)), none⟩,
  ⟨(some 12), .assign (.tmp 45), none⟩]
def c10_r5 : List SOp := [
  ⟨(some 47), .move (.tmp 11), none⟩,
  ⟨(some 48), .move (.tmp 10), none⟩,
  ⟨(some 49), .call ⟨.value (.func 45), #[(.tmp 47), (.tmp 48)], #[42, 9]⟩, none⟩,
  ⟨(some 46), .move (.tmp 49), none⟩,
  ⟨(some 50), .extract (.tmp 46) 0, none⟩,
  ⟨(some 51), .extract (.tmp 46) 1, none⟩,
  ⟨(some 13), .assign (.tmp 50), none⟩,
  ⟨(some 14), .assign (.tmp 51), none⟩]
def c10_r6 : List SOp := [
  ⟨(some 52), .move (.tmp 11), none⟩,
  ⟨(some 53), .move (.tmp 10), none⟩,
  ⟨(some 54), .call ⟨.value (.func 47), #[(.tmp 52), (.tmp 53)], #[42, 9]⟩, none⟩,
  ⟨(some 55), .move (.tmp 12), none⟩,
  ⟨(some 56), .binOp .eql 4 (.tmp 54) (.tmp 55) 4, none⟩,
  ⟨(some 57), .move (.tmp 56), none⟩,
  ⟨(some 58), .move (.tmp 14), (some ((some 57), true))⟩,
  ⟨(some 59), .move (.tmp 12), (some ((some 57), true))⟩,
  ⟨(some 60), .binOp .eql 4 (.tmp 58) (.tmp 59) 4, (some ((some 57), true))⟩,
  ⟨(some 61), .pick (.tmp 57) (.tmp 60) (.const (.bool false)), none⟩,
  ⟨(some 62), .move (.tmp 61), none⟩,
  ⟨(some 63), .move (.tmp 14), (some ((some 62), true))⟩,
  ⟨(some 64), .unOp .not 4 (.tmp 63), (some ((some 62), true))⟩,
  ⟨(some 65), .move (.tmp 64), (some ((some 62), true))⟩,
  ⟨(some 66), .move (.tmp 13), (some ((some 65), false))⟩,
  ⟨(some 67), .move (.tmp 7), (some ((some 65), false))⟩,
  ⟨(some 68), .binOp .add 3 (.tmp 67) (.const (.int .i64 2)) 3, (some ((some 65), false))⟩,
  ⟨(some 69), .binOp .eql 3 (.tmp 66) (.tmp 68) 3, (some ((some 65), false))⟩,
  ⟨(some 70), .pick (.tmp 65) (.const (.bool true)) (.tmp 69), (some ((some 62), true))⟩,
  ⟨(some 71), .pick (.tmp 62) (.tmp 70) (.const (.bool false)), none⟩,
  ⟨(some 72), .move (.tmp 71), none⟩,
  ⟨(some 73), .call ⟨.value (.func 42), #[], #[]⟩, (some ((some 72), true))⟩,
  ⟨(some 74), .pick (.tmp 72) (.tmp 73) (.const (.bool false)), none⟩,
  ⟨(some 6), .assign (.tmp 74), none⟩]
def c10 : SC := (.seq (.reg c10_r0 none (some [0, 1, 2])) (.seq (.reg c10_r1 none (some [7, 8, 9])) (.seq (.reg c10_r2 none (some [7, 8, 9, 10])) (.seq (.reg c10_r3 none (some [7, 8, 9, 10, 11])) (.seq (.reg c10_r4 none (some [7, 10, 11, 12])) (.seq (.reg c10_r5 none (some [7, 10, 11, 12, 13, 14])) (.seq (.reg c10_r6 none (some [6])) .ret)))))))
theorem c10_eq : ∃ code, Try.f10.body = some code ∧ compile H10 code = c10 := ⟨_, rfl, by kernel_rfl⟩
theorem c10_fn : Try.prog.funcs[10]? = some Try.f10 := by kernel_rfl
theorem c10_rs : Try.f10.results.toList = [.tmp 6] := by kernel_rfl
theorem c10_ok : fnB Try.prog H10 Try.f10 = true := by kernel_rfl
theorem c10_nt : Try.f10.ntmps = 75 := by kernel_rfl
end Go.AM
