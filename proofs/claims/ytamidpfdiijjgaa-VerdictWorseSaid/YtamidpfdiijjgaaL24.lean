/-
  Printed by program (wip/tools/print.sh): compiled code.
-/
import Derived.Test.YtamidpfdiijjgaaAMb
import Derived.Test.YtamidpfdiijjgaaProg
namespace Go.AM
open Go Go.Proofs
set_option maxRecDepth 100000
/-! 24: rampart/rampartlaw24.VerdictWorse -/
def H24 : Hint := ⟨[(2, [6]), (1, [7, 8, 9]), (0, [0, 1, 2])], []⟩
def c24_r0 : List SOp := [
  ⟨(some 6), .assign (.const (.bool false)), none⟩]
def c24_r1 : List SOp := [
  ⟨(some 10), .move (.tmp 0), none⟩,
  ⟨(some 11), .call ⟨.value (.func 29), #[(.tmp 10), (.const (.int .i64 5))], #[3, 3]⟩, none⟩,
  ⟨(some 12), .move (.tmp 1), none⟩,
  ⟨(some 13), .call ⟨.value (.func 29), #[(.tmp 12), (.const (.int .i64 5))], #[3, 3]⟩, none⟩,
  ⟨(some 14), .move (.tmp 2), none⟩,
  ⟨(some 15), .call ⟨.value (.func 29), #[(.tmp 14), (.const (.int .i64 5))], #[3, 3]⟩, none⟩,
  ⟨(some 7), .assign (.tmp 11), none⟩,
  ⟨(some 8), .assign (.tmp 13), none⟩,
  ⟨(some 9), .assign (.tmp 15), none⟩]
def c24_r2 : List SOp := [
  ⟨(some 16), .move (.tmp 7), none⟩,
  ⟨(some 17), .move (.tmp 8), none⟩,
  ⟨(some 18), .call ⟨.value (.func 78), #[(.tmp 16), (.tmp 17)], #[3, 3]⟩, none⟩,
  ⟨(some 19), .move (.tmp 7), none⟩,
  ⟨(some 20), .move (.tmp 8), none⟩,
  ⟨(some 21), .binOp .gtr 3 (.tmp 19) (.tmp 20) 3, none⟩,
  ⟨(some 22), .binOp .eql 4 (.tmp 18) (.tmp 21) 4, none⟩,
  ⟨(some 23), .move (.tmp 22), none⟩,
  ⟨(some 24), .move (.tmp 7), (some ((some 23), true))⟩,
  ⟨(some 25), .move (.tmp 7), (some ((some 23), true))⟩,
  ⟨(some 26), .call ⟨.value (.func 78), #[(.tmp 24), (.tmp 25)], #[3, 3]⟩, (some ((some 23), true))⟩,
  ⟨(some 27), .unOp .not 4 (.tmp 26), (some ((some 23), true))⟩,
  ⟨(some 28), .pick (.tmp 23) (.tmp 27) (.const (.bool false)), none⟩,
  ⟨(some 29), .move (.tmp 28), none⟩,
  ⟨(some 30), .move (.tmp 7), (some ((some 29), true))⟩,
  ⟨(some 31), .move (.tmp 8), (some ((some 29), true))⟩,
  ⟨(some 32), .call ⟨.value (.func 78), #[(.tmp 30), (.tmp 31)], #[3, 3]⟩, (some ((some 29), true))⟩,
  ⟨(some 33), .unOp .not 4 (.tmp 32), (some ((some 29), true))⟩,
  ⟨(some 34), .move (.tmp 33), (some ((some 29), true))⟩,
  ⟨(some 35), .move (.tmp 8), (some ((some 34), false))⟩,
  ⟨(some 36), .move (.tmp 9), (some ((some 34), false))⟩,
  ⟨(some 37), .call ⟨.value (.func 78), #[(.tmp 35), (.tmp 36)], #[3, 3]⟩, (some ((some 34), false))⟩,
  ⟨(some 38), .unOp .not 4 (.tmp 37), (some ((some 34), false))⟩,
  ⟨(some 39), .pick (.tmp 34) (.const (.bool true)) (.tmp 38), (some ((some 29), true))⟩,
  ⟨(some 40), .move (.tmp 39), (some ((some 29), true))⟩,
  ⟨(some 41), .move (.tmp 7), (some ((some 40), false))⟩,
  ⟨(some 42), .move (.tmp 9), (some ((some 40), false))⟩,
  ⟨(some 43), .call ⟨.value (.func 78), #[(.tmp 41), (.tmp 42)], #[3, 3]⟩, (some ((some 40), false))⟩,
  ⟨(some 44), .pick (.tmp 40) (.const (.bool true)) (.tmp 43), (some ((some 29), true))⟩,
  ⟨(some 45), .pick (.tmp 29) (.tmp 44) (.const (.bool false)), none⟩,
  ⟨(some 46), .move (.tmp 45), none⟩,
  ⟨(some 47), .call ⟨.value (.func 79), #[], #[]⟩, (some ((some 46), true))⟩,
  ⟨(some 48), .pick (.tmp 46) (.tmp 47) (.const (.bool false)), none⟩,
  ⟨(some 6), .assign (.tmp 48), none⟩]
def c24 : SC := (.seq (.reg c24_r0 none (some [0, 1, 2])) (.seq (.reg c24_r1 none (some [7, 8, 9])) (.seq (.reg c24_r2 none (some [6])) .ret)))
theorem c24_eq : ∃ code, Try.f24.body = some code ∧ compile H24 code = c24 := ⟨_, rfl, by kernel_rfl⟩
theorem c24_fn : Try.prog.funcs[24]? = some Try.f24 := by kernel_rfl
theorem c24_rs : Try.f24.results.toList = [.tmp 6] := by kernel_rfl
theorem c24_ok : fnB Try.prog H24 Try.f24 = true := by kernel_rfl
theorem c24_nt : Try.f24.ntmps = 49 := by kernel_rfl
end Go.AM
