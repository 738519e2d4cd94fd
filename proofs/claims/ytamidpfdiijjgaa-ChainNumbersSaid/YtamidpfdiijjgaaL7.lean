/-
  Printed by program (wip/tools/print.sh): compiled code.
-/
import Derived.Test.YtamidpfdiijjgaaAM16
import Derived.Test.YtamidpfdiijjgaaProg
namespace Go.AM
open Go Go.Proofs
set_option maxRecDepth 100000
/-! 7: rampart/rampartlaw16.ChainNumbers -/
def H7 : Hint := ⟨[(7, [6]), (6, [7, 8, 9, 10, 11, 12]), (5, [7, 8, 9, 10]), (4, [7, 8]), (3, [1, 2, 7]), (2, [6]), (2000020, [0, 1, 2]), (1, [0, 1, 2, 20]), (0, [0, 1, 2])], []⟩
def c7_r0 : List SOp := [
  ⟨(some 6), .assign (.const (.bool false)), none⟩]
def c7_r1 : List SOp := [
  ⟨(some 13), .move (.tmp 0), none⟩,
  ⟨(some 14), .call ⟨.builtin .len, #[(.tmp 13)], #[30]⟩, none⟩,
  ⟨(some 15), .binOp .gtr 3 (.tmp 14) (.const (.int .i64 10)) 3, none⟩,
  ⟨(some 16), .move (.tmp 15), none⟩,
  ⟨(some 17), .move (.tmp 1), (some ((some 16), false))⟩,
  ⟨(some 18), .call ⟨.builtin .len, #[(.tmp 17)], #[30]⟩, (some ((some 16), false))⟩,
  ⟨(some 19), .binOp .gtr 3 (.tmp 18) (.const (.int .i64 100)) 3, (some ((some 16), false))⟩,
  ⟨(some 20), .pick (.tmp 16) (.const (.bool true)) (.tmp 19), none⟩]
def c7_r2 : List SOp := [
  ⟨(some 21), .call ⟨.value (.func 42), #[], #[]⟩, none⟩,
  ⟨(some 6), .assign (.tmp 21), none⟩]
def c7_r3 : List SOp := [
  ⟨(some 22), .move (.tmp 0), none⟩,
  ⟨(some 23), .call ⟨.value (.func 49), #[(.tmp 22)], #[30]⟩, none⟩,
  ⟨(some 7), .assign (.tmp 23), none⟩]
def c7_r4 : List SOp := [
  ⟨(some 24), .move (.tmp 1), none⟩,
  ⟨(some 25), .move (.tmp 2), none⟩,
  ⟨(some 26), .call ⟨.value (.func 29), #[(.tmp 25), (.const (.int .i64 40))], #[3, 3]⟩, none⟩,
  ⟨(some 27), .call ⟨.value (.func 50), #[(.tmp 24), (.tmp 26)], #[30, 3]⟩, none⟩,
  ⟨(some 8), .assign (.tmp 27), none⟩]
def c7_r5 : List SOp := [
  ⟨(some 29), .move (.tmp 7), none⟩,
  ⟨(some 30), .move (.tmp 8), none⟩,
  ⟨(some 31), .call ⟨.value (.func 45), #[(.tmp 29), (.tmp 30)], #[42, 9]⟩, none⟩,
  ⟨(some 28), .move (.tmp 31), none⟩,
  ⟨(some 32), .extract (.tmp 28) 0, none⟩,
  ⟨(some 33), .extract (.tmp 28) 1, none⟩,
  ⟨(some 9), .assign (.tmp 32), none⟩,
  ⟨(some 10), .assign (.tmp 33), none⟩]
def c7_r6 : List SOp := [
  ⟨(some 35), .move (.tmp 7), none⟩,
  ⟨(some 36), .move (.tmp 8), none⟩,
  ⟨(some 37), .call ⟨.value (.func 46), #[(.tmp 35), (.tmp 36)], #[42, 9]⟩, none⟩,
  ⟨(some 34), .move (.tmp 37), none⟩,
  ⟨(some 38), .extract (.tmp 34) 0, none⟩,
  ⟨(some 39), .extract (.tmp 34) 1, none⟩,
  ⟨(some 11), .assign (.tmp 38), none⟩,
  ⟨(some 12), .assign (.tmp 39), none⟩]
def c7_r7 : List SOp := [
  ⟨(some 40), .move (.tmp 7), none⟩,
  ⟨(some 41), .move (.tmp 8), none⟩,
  ⟨(some 42), .call ⟨.value (.func 47), #[(.tmp 40), (.tmp 41)], #[42, 9]⟩, none⟩,
  ⟨(some 43), .move (.tmp 7), none⟩,
  ⟨(some 44), .move (.tmp 8), none⟩,
  ⟨(some 45), .call ⟨.value (.func 48), #[(.tmp 43), (.tmp 44)], #[42, 9]⟩, none⟩,
  ⟨(some 46), .binOp .eql 4 (.tmp 42) (.tmp 45) 4, none⟩,
  ⟨(some 47), .move (.tmp 46), none⟩,
  ⟨(some 48), .move (.tmp 9), (some ((some 47), true))⟩,
  ⟨(some 49), .move (.tmp 11), (some ((some 47), true))⟩,
  ⟨(some 50), .binOp .eql 3 (.tmp 48) (.tmp 49) 3, (some ((some 47), true))⟩,
  ⟨(some 51), .pick (.tmp 47) (.tmp 50) (.const (.bool false)), none⟩,
  ⟨(some 52), .move (.tmp 51), none⟩,
  ⟨(some 53), .move (.tmp 10), (some ((some 52), true))⟩,
  ⟨(some 54), .move (.tmp 12), (some ((some 52), true))⟩,
  ⟨(some 55), .binOp .eql 4 (.tmp 53) (.tmp 54) 4, (some ((some 52), true))⟩,
  ⟨(some 56), .pick (.tmp 52) (.tmp 55) (.const (.bool false)), none⟩,
  ⟨(some 57), .move (.tmp 56), none⟩,
  ⟨(some 58), .call ⟨.value (.func 42), #[], #[]⟩, (some ((some 57), true))⟩,
  ⟨(some 59), .pick (.tmp 57) (.tmp 58) (.const (.bool false)), none⟩,
  ⟨(some 6), .assign (.tmp 59), none⟩]
def c7 : SC := (.seq (.reg c7_r0 none (some [0, 1, 2])) (.seq (.seq (.reg c7_r1 none (some [0, 1, 2, 20])) (.cond (.tmp 20) (.seq (.reg c7_r2 none (some [6])) .ret) .skip (some [0, 1, 2]))) (.seq (.reg c7_r3 none (some [1, 2, 7])) (.seq (.reg c7_r4 none (some [7, 8])) (.seq (.reg c7_r5 none (some [7, 8, 9, 10])) (.seq (.reg c7_r6 none (some [7, 8, 9, 10, 11, 12])) (.seq (.reg c7_r7 none (some [6])) .ret)))))))
theorem c7_eq : ∃ code, Try.f7.body = some code ∧ compile H7 code = c7 := ⟨_, rfl, by kernel_rfl⟩
theorem c7_fn : Try.prog.funcs[7]? = some Try.f7 := by kernel_rfl
theorem c7_rs : Try.f7.results.toList = [.tmp 6] := by kernel_rfl
theorem c7_ok : fnB Try.prog H7 Try.f7 = true := by kernel_rfl
theorem c7_nt : Try.f7.ntmps = 60 := by kernel_rfl
end Go.AM
