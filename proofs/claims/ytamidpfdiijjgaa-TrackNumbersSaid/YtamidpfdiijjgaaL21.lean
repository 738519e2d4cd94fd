/-
  Printed by program (wip/tools/print.sh): compiled code.
-/
import Derived.Test.YtamidpfdiijjgaaAMb
import Derived.Test.YtamidpfdiijjgaaProg
namespace Go.AM
open Go Go.Proofs
set_option maxRecDepth 100000
/-! 21: rampart/rampartlaw17.TrackNumbers -/
def H21 : Hint := ⟨[(8, [8]), (7, [9, 10, 11, 12, 13, 14, 15, 16, 17]), (6, [9, 10, 11, 12, 13, 14]), (5, [9, 10, 11]), (4, [2, 3, 9, 10]), (3, [1, 2, 3, 9]), (2, [8]), (2000025, [0, 1, 2, 3]), (1, [0, 1, 2, 3, 25]), (0, [0, 1, 2, 3])], []⟩
def c21_r0 : List SOp := [
  ⟨(some 8), .assign (.const (.bool false)), none⟩]
def c21_r1 : List SOp := [
  ⟨(some 18), .move (.tmp 0), none⟩,
  ⟨(some 19), .call ⟨.builtin .len, #[(.tmp 18)], #[30]⟩, none⟩,
  ⟨(some 20), .binOp .gtr 3 (.tmp 19) (.const (.int .i64 10)) 3, none⟩,
  ⟨(some 21), .move (.tmp 20), none⟩,
  ⟨(some 22), .move (.tmp 2), (some ((some 21), false))⟩,
  ⟨(some 23), .call ⟨.builtin .len, #[(.tmp 22)], #[30]⟩, (some ((some 21), false))⟩,
  ⟨(some 24), .binOp .gtr 3 (.tmp 23) (.const (.int .i64 100)) 3, (some ((some 21), false))⟩,
  ⟨(some 25), .pick (.tmp 21) (.const (.bool true)) (.tmp 24), none⟩]
def c21_r2 : List SOp := [
  ⟨(some 26), .call ⟨.value (.func 68), #[], #[]⟩, none⟩,
  ⟨(some 8), .assign (.tmp 26), none⟩]
def c21_r3 : List SOp := [
  ⟨(some 27), .move (.tmp 0), none⟩,
  ⟨(some 28), .call ⟨.value (.func 49), #[(.tmp 27)], #[30]⟩, none⟩,
  ⟨(some 9), .assign (.tmp 28), none⟩]
def c21_r4 : List SOp := [
  ⟨(some 29), .move (.tmp 1), none⟩,
  ⟨(some 30), .call ⟨.value (.func 29), #[(.tmp 29), (.const (.int .i64 5))], #[3, 3]⟩, none⟩,
  ⟨(some 31), .binOp .add 3 (.const (.int .i64 1)) (.tmp 30) 3, none⟩,
  ⟨(some 10), .assign (.tmp 31), none⟩]
def c21_r5 : List SOp := [
  ⟨(some 32), .move (.tmp 2), none⟩,
  ⟨(some 33), .move (.tmp 3), none⟩,
  ⟨(some 34), .call ⟨.value (.func 29), #[(.tmp 33), (.const (.int .i64 40))], #[3, 3]⟩, none⟩,
  ⟨(some 35), .call ⟨.value (.func 50), #[(.tmp 32), (.tmp 34)], #[30, 3]⟩, none⟩,
  ⟨(some 11), .assign (.tmp 35), none⟩]
def c21_r6 : List SOp := [
  ⟨(some 37), .move (.tmp 9), none⟩,
  ⟨(some 38), .move (.tmp 10), none⟩,
  ⟨(some 39), .move (.tmp 11), none⟩,
  ⟨(some 40), .call ⟨.value (.func 70), #[(.tmp 37), (.tmp 38), (.tmp 39)], #[42, 3, 9]⟩, none⟩,
  ⟨(some 36), .move (.tmp 40), none⟩,
  ⟨(some 41), .extract (.tmp 36) 0, none⟩,
  ⟨(some 42), .extract (.tmp 36) 1, none⟩,
  ⟨(some 43), .extract (.tmp 36) 2, none⟩,
  ⟨(some 12), .assign (.tmp 41), none⟩,
  ⟨(some 13), .assign (.tmp 42), none⟩,
  ⟨(some 14), .assign (.tmp 43), none⟩]
def c21_r7 : List SOp := [
  ⟨(some 45), .move (.tmp 9), none⟩,
  ⟨(some 46), .move (.tmp 10), none⟩,
  ⟨(some 47), .move (.tmp 11), none⟩,
  ⟨(some 48), .call ⟨.value (.func 71), #[(.tmp 45), (.tmp 46), (.tmp 47)], #[42, 3, 9]⟩, none⟩,
  ⟨(some 44), .move (.tmp 48), none⟩,
  ⟨(some 49), .extract (.tmp 44) 0, none⟩,
  ⟨(some 50), .extract (.tmp 44) 1, none⟩,
  ⟨(some 51), .extract (.tmp 44) 2, none⟩,
  ⟨(some 15), .assign (.tmp 49), none⟩,
  ⟨(some 16), .assign (.tmp 50), none⟩,
  ⟨(some 17), .assign (.tmp 51), none⟩]
def c21_r8 : List SOp := [
  ⟨(some 52), .move (.tmp 9), none⟩,
  ⟨(some 53), .move (.tmp 10), none⟩,
  ⟨(some 54), .move (.tmp 11), none⟩,
  ⟨(some 55), .call ⟨.value (.func 69), #[(.tmp 52), (.tmp 53), (.tmp 54)], #[42, 3, 9]⟩, none⟩,
  ⟨(some 56), .move (.tmp 55), none⟩,
  ⟨(some 57), .move (.tmp 12), (some ((some 56), true))⟩,
  ⟨(some 58), .move (.tmp 15), (some ((some 56), true))⟩,
  ⟨(some 59), .binOp .eql 3 (.tmp 57) (.tmp 58) 3, (some ((some 56), true))⟩,
  ⟨(some 60), .pick (.tmp 56) (.tmp 59) (.const (.bool false)), none⟩,
  ⟨(some 61), .move (.tmp 60), none⟩,
  ⟨(some 62), .move (.tmp 13), (some ((some 61), true))⟩,
  ⟨(some 63), .move (.tmp 16), (some ((some 61), true))⟩,
  ⟨(some 64), .binOp .eql 4 (.tmp 62) (.tmp 63) 4, (some ((some 61), true))⟩,
  ⟨(some 65), .pick (.tmp 61) (.tmp 64) (.const (.bool false)), none⟩,
  ⟨(some 66), .move (.tmp 65), none⟩,
  ⟨(some 67), .move (.tmp 14), (some ((some 66), true))⟩,
  ⟨(some 68), .move (.tmp 17), (some ((some 66), true))⟩,
  ⟨(some 69), .binOp .eql 3 (.tmp 67) (.tmp 68) 3, (some ((some 66), true))⟩,
  ⟨(some 70), .pick (.tmp 66) (.tmp 69) (.const (.bool false)), none⟩,
  ⟨(some 71), .move (.tmp 70), none⟩,
  ⟨(some 72), .call ⟨.value (.func 68), #[], #[]⟩, (some ((some 71), true))⟩,
  ⟨(some 73), .pick (.tmp 71) (.tmp 72) (.const (.bool false)), none⟩,
  ⟨(some 8), .assign (.tmp 73), none⟩]
def c21 : SC := (.seq (.reg c21_r0 none (some [0, 1, 2, 3])) (.seq (.seq (.reg c21_r1 none (some [0, 1, 2, 3, 25])) (.cond (.tmp 25) (.seq (.reg c21_r2 none (some [8])) .ret) .skip (some [0, 1, 2, 3]))) (.seq (.reg c21_r3 none (some [1, 2, 3, 9])) (.seq (.reg c21_r4 none (some [2, 3, 9, 10])) (.seq (.reg c21_r5 none (some [9, 10, 11])) (.seq (.reg c21_r6 none (some [9, 10, 11, 12, 13, 14])) (.seq (.reg c21_r7 none (some [9, 10, 11, 12, 13, 14, 15, 16, 17])) (.seq (.reg c21_r8 none (some [8])) .ret))))))))
theorem c21_eq : ∃ code, Try.f21.body = some code ∧ compile H21 code = c21 := ⟨_, rfl, by kernel_rfl⟩
theorem c21_fn : Try.prog.funcs[21]? = some Try.f21 := by kernel_rfl
theorem c21_rs : Try.f21.results.toList = [.tmp 8] := by kernel_rfl
theorem c21_ok : fnB Try.prog H21 Try.f21 = true := by kernel_rfl
theorem c21_nt : Try.f21.ntmps = 74 := by kernel_rfl
end Go.AM
