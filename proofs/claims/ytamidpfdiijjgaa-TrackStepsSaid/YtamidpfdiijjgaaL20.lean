/-
  Printed by program (wip/tools/print.sh): compiled code.
-/
import Derived.Test.YtamidpfdiijjgaaAMb
import Derived.Test.YtamidpfdiijjgaaProg
namespace Go.AM
open Go Go.Proofs
set_option maxRecDepth 100000
/-! 20: rampart/rampartlaw17.TrackSteps -/
def H20 : Hint := ⟨[(3, [6]), (2, [6]), (2000014, [0, 1, 2]), (1, [0, 1, 2, 14]), (0, [0, 1, 2])], []⟩
def c20_r0 : List SOp := [
  ⟨(some 6), .assign (.const (.bool false)), none⟩]
def c20_r1 : List SOp := [
  ⟨(some 7), .move (.tmp 0), none⟩,
  ⟨(some 8), .call ⟨.value (.func 41), #[(.tmp 7)], #[42]⟩, none⟩,
  ⟨(some 9), .unOp .not 4 (.tmp 8), none⟩,
  ⟨(some 10), .move (.tmp 9), none⟩,
  ⟨(some 11), .move (.tmp 2), (some ((some 10), false))⟩,
  ⟨(some 12), .call ⟨.builtin .len, #[(.tmp 11)], #[9]⟩, (some ((some 10), false))⟩,
  ⟨(some 13), .binOp .gtr 3 (.tmp 12) (.const (.int .i64 50)) 3, (some ((some 10), false))⟩,
  ⟨(some 14), .pick (.tmp 10) (.const (.bool true)) (.tmp 13), none⟩]
def c20_r2 : List SOp := [
  ⟨(some 15), .call ⟨.value (.func 68), #[], #[]⟩, none⟩,
  ⟨(some 6), .assign (.tmp 15), none⟩]
def c20_r3 : List SOp := [
  ⟨(some 16), .move (.tmp 0), none⟩,
  ⟨(some 17), .move (.tmp 1), none⟩,
  ⟨(some 18), .move (.tmp 2), none⟩,
  ⟨(some 19), .call ⟨.value (.func 69), #[(.tmp 16), (.tmp 17), (.tmp 18)], #[42, 3, 9]⟩, none⟩,
  ⟨(some 20), .move (.tmp 19), none⟩,
  ⟨(some 21), .call ⟨.value (.func 68), #[], #[]⟩, (some ((some 20), true))⟩,
  ⟨(some 22), .pick (.tmp 20) (.tmp 21) (.const (.bool false)), none⟩,
  ⟨(some 6), .assign (.tmp 22), none⟩]
def c20 : SC := (.seq (.reg c20_r0 none (some [0, 1, 2])) (.seq (.seq (.reg c20_r1 none (some [0, 1, 2, 14])) (.cond (.tmp 14) (.seq (.reg c20_r2 none (some [6])) .ret) .skip (some [0, 1, 2]))) (.seq (.reg c20_r3 none (some [6])) .ret)))
theorem c20_eq : ∃ code, Try.f20.body = some code ∧ compile H20 code = c20 := ⟨_, rfl, by kernel_rfl⟩
theorem c20_fn : Try.prog.funcs[20]? = some Try.f20 := by kernel_rfl
theorem c20_rs : Try.f20.results.toList = [.tmp 6] := by kernel_rfl
theorem c20_ok : fnB Try.prog H20 Try.f20 = true := by kernel_rfl
theorem c20_nt : Try.f20.ntmps = 23 := by kernel_rfl
end Go.AM
