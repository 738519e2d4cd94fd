/-
  Printed by program (wip/tools/print.sh): compiled code.
-/
import Derived.Test.YtamidpfdiijjgaaAMb
import Derived.Test.YtamidpfdiijjgaaProg
namespace Go.AM
open Go Go.Proofs
set_option maxRecDepth 100000
/-! 18: rampart/rampartlaw15.ScanNone -/
def H18 : Hint := ⟨[(8, [4]), (7, [7, 8, 9]), (6, [0, 5, 6, 7, 8]), (5, [0, 5, 6, 7]), (4, [0, 5, 6]), (3, [0, 5]), (2, [4]), (2000012, [0, 1]), (1, [0, 1, 12]), (0, [0, 1])], []⟩
def c18_r0 : List SOp := [
  ⟨(some 4), .assign (.const (.bool false)), none⟩]
def c18_r1 : List SOp := [
  ⟨(some 10), .move (.tmp 0), none⟩,
  ⟨(some 11), .call ⟨.builtin .len, #[(.tmp 10)], #[9]⟩, none⟩,
  ⟨(some 12), .binOp .gtr 3 (.tmp 11) (.const (.int .i64 100)) 3, none⟩]
def c18_r2 : List SOp := [
  ⟨(some 13), .call ⟨.value (.func 62), #[], #[]⟩, none⟩,
  ⟨(some 4), .assign (.tmp 13), none⟩]
def c18_r3 : List SOp := [
  ⟨(some 14), .move (.tmp 1), none⟩,
  ⟨(some 15), .call ⟨.value (.func 29), #[(.tmp 14), (.const (.int .i64 17))], #[3, 3]⟩, none⟩,
  ⟨(some 5), .assign (.tmp 15), none⟩]
def c18_r4 : List SOp := [
  ⟨(some 16), .move (.tmp 0), none⟩,
  ⟨(some 17), .binOp .add 9 (.tmp 16) (.const (.string ⟨#[120]⟩)) 9, none⟩,
  ⟨(some 6), .assign (.tmp 17), none⟩]
def c18_r5 : List SOp := [
  ⟨(some 18), .move (.tmp 0), none⟩,
  ⟨(some 19), .call ⟨.value (.func 64), #[(.const (.slice none 0 0)), (.const (.slice none 0 0)), (.tmp 18)], #[38, 68, 9]⟩, none⟩,
  ⟨(some 7), .assign (.tmp 19), none⟩]
def c18_r6 : List SOp := [
  ⟨(some 20), .buildSlice 38 1 #[(0, (.const (.string ⟨#[]⟩)))], none⟩,
  ⟨(some 21), .move (.tmp 0), none⟩,
  ⟨(some 22), .call ⟨.value (.func 64), #[(.tmp 20), (.const (.slice none 0 0)), (.tmp 21)], #[38, 68, 9]⟩, none⟩,
  ⟨(some 8), .assign (.tmp 22), none⟩]
def c18_r7 : List SOp := [
  ⟨(some 23), .move (.tmp 6), none⟩,
  ⟨(some 24), .move (.tmp 6), none⟩,
  ⟨(some 25), .call ⟨.builtin .len, #[(.tmp 24)], #[9]⟩, none⟩,
  ⟨(some 26), .call ⟨.builtin .min, #[(.tmp 25), (.const (.int .i64 16))], #[3, 3]⟩, none⟩,
  ⟨(some 27), .slice 9 (.tmp 23) none (some (.tmp 26)) none, none⟩,
  ⟨(some 28), .move (.tmp 5), none⟩,
  ⟨(some 29), .slice 9 (.const (.string ⟨#[48, 49, 50, 51, 52, 53, 54, 55, 56, 57, 97, 98, 99, 100, 101, 102, 103]⟩)) none (some (.tmp 28)) none, none⟩,
  ⟨(some 30), .binOp .add 9 (.tmp 27) (.tmp 29) 9, none⟩,
  ⟨(some 31), .binOp .add 9 (.tmp 30) (.const (.string ⟨#[122]⟩)) 9, none⟩,
  ⟨(some 32), .buildSlice 38 1 #[(0, (.tmp 31))], none⟩,
  ⟨(some 33), .move (.tmp 0), none⟩,
  ⟨(some 34), .call ⟨.value (.func 64), #[(.tmp 32), (.const (.slice none 0 0)), (.tmp 33)], #[38, 68, 9]⟩, none⟩,
  ⟨(some 9), .assign (.tmp 34), none⟩]
def c18_r8 : List SOp := [
  ⟨(some 35), .move (.tmp 7), none⟩,
  ⟨(some 36), .call ⟨.builtin .len, #[(.tmp 35)], #[71]⟩, none⟩,
  ⟨(some 37), .binOp .eql 3 (.tmp 36) (.const (.int .i64 0)) 3, none⟩,
  ⟨(some 38), .move (.tmp 37), none⟩,
  ⟨(some 39), .move (.tmp 8), (some ((some 38), true))⟩,
  ⟨(some 40), .call ⟨.builtin .len, #[(.tmp 39)], #[71]⟩, (some ((some 38), true))⟩,
  ⟨(some 41), .binOp .eql 3 (.tmp 40) (.const (.int .i64 0)) 3, (some ((some 38), true))⟩,
  ⟨(some 42), .pick (.tmp 38) (.tmp 41) (.const (.bool false)), none⟩,
  ⟨(some 43), .move (.tmp 42), none⟩,
  ⟨(some 44), .move (.tmp 9), (some ((some 43), true))⟩,
  ⟨(some 45), .call ⟨.builtin .len, #[(.tmp 44)], #[71]⟩, (some ((some 43), true))⟩,
  ⟨(some 46), .binOp .eql 3 (.tmp 45) (.const (.int .i64 0)) 3, (some ((some 43), true))⟩,
  ⟨(some 47), .pick (.tmp 43) (.tmp 46) (.const (.bool false)), none⟩,
  ⟨(some 48), .move (.tmp 47), none⟩,
  ⟨(some 49), .call ⟨.value (.func 62), #[], #[]⟩, (some ((some 48), true))⟩,
  ⟨(some 50), .pick (.tmp 48) (.tmp 49) (.const (.bool false)), none⟩,
  ⟨(some 4), .assign (.tmp 50), none⟩]
def c18 : SC := (.seq (.reg c18_r0 none (some [0, 1])) (.seq (.seq (.reg c18_r1 none (some [0, 1, 12])) (.cond (.tmp 12) (.seq (.reg c18_r2 none (some [4])) .ret) .skip (some [0, 1]))) (.seq (.reg c18_r3 none (some [0, 5])) (.seq (.reg c18_r4 none (some [0, 5, 6])) (.seq (.reg c18_r5 none (some [0, 5, 6, 7])) (.seq (.reg c18_r6 none (some [0, 5, 6, 7, 8])) (.seq (.reg c18_r7 none (some [7, 8, 9])) (.seq (.reg c18_r8 none (some [4])) .ret))))))))
theorem c18_eq : ∃ code, Try.f18.body = some code ∧ compile H18 code = c18 := ⟨_, rfl, by kernel_rfl⟩
theorem c18_fn : Try.prog.funcs[18]? = some Try.f18 := by kernel_rfl
theorem c18_rs : Try.f18.results.toList = [.tmp 4] := by kernel_rfl
theorem c18_ok : fnB Try.prog H18 Try.f18 = true := by kernel_rfl
theorem c18_nt : Try.f18.ntmps = 51 := by kernel_rfl
end Go.AM
