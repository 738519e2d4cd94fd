/-
  Printed by program (wip/tools/print.sh): compiled code.
-/
import Derived.Test.YtamidpfdiijjgaaAM16
import Derived.Test.YtamidpfdiijjgaaProg
namespace Go.AM
open Go Go.Proofs
set_option maxRecDepth 100000
/-! 4: rampart/rampartlaw13.TrieDepths -/
def H4 : Hint := ⟨[(14, [4]), (13, [6, 8, 9, 10, 11, 12, 13]), (12, [6, 7, 8, 9, 10]), (11, [4]), (2000057, [6, 7, 8, 9]), (10, [6, 7, 8, 9, 57]), (9, [6, 7, 8, 9]), (8, [4]), (2000040, [1, 6, 7, 8]), (7, [1, 6, 7, 8, 40]), (6, [1, 6, 7, 8]), (5, [4]), (2000026, [1, 5, 6, 7]), (4, [1, 5, 6, 7, 26]), (3, [1, 5, 6, 7]), (2, [1, 5, 6]), (1, [1, 5]), (0, [0, 1])], []⟩
def c4_r0 : List SOp := [
  ⟨(some 4), .assign (.const (.bool false)), none⟩]
def c4_r1 : List SOp := [
  ⟨(some 14), .move (.tmp 0), none⟩,
  ⟨(some 15), .call ⟨.value (.func 29), #[(.tmp 14), (.const (.int .i64 40))], #[3, 3]⟩, none⟩,
  ⟨(some 5), .assign (.tmp 15), none⟩]
def c4_r2 : List SOp := [
  ⟨(some 16), .move (.tmp 5), none⟩,
  ⟨(some 17), .slice 9 (.const (.string ⟨#[97, 98, 99, 100, 101, 102, 103, 104, 105, 106, 107, 108, 109, 110, 111, 112, 113, 114, 115, 116, 117, 118, 119, 120, 121, 122, 48, 49, 50, 51, 52, 53, 54, 55, 56, 57, 65, 66, 67, 68, 69, 70]⟩)) none (some (.tmp 16)) none, none⟩,
  ⟨(some 6), .assign (.tmp 17), none⟩]
def c4_r3 : List SOp := [
  ⟨(some 18), .call ⟨.value (.func 30), #[], #[]⟩, none⟩,
  ⟨(some 7), .assign (.tmp 18), none⟩]
def c4_r4 : List SOp := [
  ⟨(some 19), .move (.tmp 7), none⟩,
  ⟨(some 20), .binOp .eql 23 (.tmp 19) (.const (.pointer none)) 23, none⟩,
  ⟨(some 21), .move (.tmp 20), none⟩,
  ⟨(some 22), .move (.tmp 7), (some ((some 21), false))⟩,
  ⟨(some 23), .move (.tmp 6), (some ((some 21), false))⟩,
  ⟨(some 24), .call ⟨.value (.func 31), #[(.tmp 22), (.tmp 23)], #[23, 9]⟩, (some ((some 21), false))⟩,
  ⟨(some 25), .binOp .neq 3 (.tmp 24) (.const (.int .i64 0)) 3, (some ((some 21), false))⟩,
  ⟨(some 26), .pick (.tmp 21) (.const (.bool true)) (.tmp 25), none⟩]
def c4_r5 : List SOp := [
  ⟨(some 4), .assign (.const (.bool false)), none⟩]
def c4_r6 : List SOp := [
  ⟨(some 27), .move (.tmp 5), none⟩,
  ⟨(some 28), .call ⟨.builtin .min, #[(.tmp 27), (.const (.int .i64 16))], #[3, 3]⟩, none⟩,
  ⟨(some 8), .assign (.tmp 28), none⟩]
def c4_r7 : List SOp := [
  ⟨(some 29), .move (.tmp 7), none⟩,
  ⟨(some 30), .call ⟨.value (.func 32), #[(.tmp 29)], #[23]⟩, none⟩,
  ⟨(some 31), .move (.tmp 8), none⟩,
  ⟨(some 32), .binOp .add 3 (.const (.int .i64 1)) (.tmp 31) 3, none⟩,
  ⟨(some 33), .binOp .neq 3 (.tmp 30) (.tmp 32) 3, none⟩,
  ⟨(some 34), .move (.tmp 33), none⟩,
  ⟨(some 35), .move (.tmp 7), (some ((some 34), false))⟩,
  ⟨(some 36), .move (.tmp 8), (some ((some 34), false))⟩,
  ⟨(some 37), .call ⟨.value (.func 35), #[(.tmp 35), (.tmp 36)], #[23, 3]⟩, (some ((some 34), false))⟩,
  ⟨(some 38), .move (.tmp 8), (some ((some 34), false))⟩,
  ⟨(some 39), .binOp .neq 3 (.tmp 37) (.tmp 38) 3, (some ((some 34), false))⟩,
  ⟨(some 40), .pick (.tmp 34) (.const (.bool true)) (.tmp 39), none⟩]
def c4_r8 : List SOp := [
  ⟨(some 4), .assign (.const (.bool false)), none⟩]
def c4_r9 : List SOp := [
  ⟨(some 41), .move (.tmp 1), none⟩,
  ⟨(some 42), .move (.tmp 8), none⟩,
  ⟨(some 43), .binOp .add 3 (.tmp 42) (.const (.int .i64 1)) 3, none⟩,
  ⟨(some 44), .call ⟨.value (.func 29), #[(.tmp 41), (.tmp 43)], #[3, 3]⟩, none⟩,
  ⟨(some 9), .assign (.tmp 44), none⟩]
def c4_r10 : List SOp := [
  ⟨(some 45), .move (.tmp 7), none⟩,
  ⟨(some 46), .move (.tmp 6), none⟩,
  ⟨(some 47), .move (.tmp 9), none⟩,
  ⟨(some 48), .slice 9 (.tmp 46) none (some (.tmp 47)) none, none⟩,
  ⟨(some 49), .call ⟨.value (.func 31), #[(.tmp 45), (.tmp 48)], #[23, 9]⟩, none⟩,
  ⟨(some 50), .binOp .neq 3 (.tmp 49) (.const (.int .i64 1)) 3, none⟩,
  ⟨(some 51), .move (.tmp 50), none⟩,
  ⟨(some 52), .move (.tmp 7), (some ((some 51), false))⟩,
  ⟨(some 53), .call ⟨.value (.func 32), #[(.tmp 52)], #[23]⟩, (some ((some 51), false))⟩,
  ⟨(some 54), .move (.tmp 8), (some ((some 51), false))⟩,
  ⟨(some 55), .binOp .add 3 (.const (.int .i64 1)) (.tmp 54) 3, (some ((some 51), false))⟩,
  ⟨(some 56), .binOp .neq 3 (.tmp 53) (.tmp 55) 3, (some ((some 51), false))⟩,
  ⟨(some 57), .pick (.tmp 51) (.const (.bool true)) (.tmp 56), none⟩]
def c4_r11 : List SOp := [
  ⟨(some 4), .assign (.const (.bool false)), none⟩]
def c4_r12 : List SOp := [
  ⟨(some 58), .move (.tmp 7), none⟩,
  ⟨(some 59), .move (.tmp 9), none⟩,
  ⟨(some 60), .call ⟨.value (.func 34), #[(.tmp 58), (.tmp 59)], #[23, 3]⟩, none⟩,
  ⟨(some 10), .assign (.tmp 60), none⟩]
def c4_r13 : List SOp := [
  ⟨(some 62), .move (.tmp 7), none⟩,
  ⟨(some 63), .move (.tmp 8), none⟩,
  ⟨(some 64), .call ⟨.value (.func 37), #[(.tmp 62), (.tmp 63)], #[23, 3]⟩, none⟩,
  ⟨(some 61), .move (.tmp 64), none⟩,
  ⟨(some 65), .extract (.tmp 61) 0, none⟩,
  ⟨(some 66), .extract (.tmp 61) 1, none⟩,
  ⟨(some 67), .extract (.tmp 61) 2, none⟩,
  ⟨(some 11), .assign (.tmp 65), none⟩,
  ⟨(some 12), .assign (.tmp 66), none⟩,
  ⟨(some 13), .assign (.tmp 67), none⟩]
def c4_r14 : List SOp := [
  ⟨(some 68), .move (.tmp 10), none⟩,
  ⟨(some 69), .call ⟨.builtin .len, #[(.tmp 68)], #[30]⟩, none⟩,
  ⟨(some 70), .move (.tmp 9), none⟩,
  ⟨(some 71), .move (.tmp 8), none⟩,
  ⟨(some 72), .binOp .eql 3 (.tmp 70) (.tmp 71) 3, none⟩,
  ⟨(some 73), .call ⟨.value (.func 38), #[(.tmp 72)], #[4]⟩, none⟩,
  ⟨(some 74), .binOp .add 3 (.const (.int .i64 1)) (.tmp 73) 3, none⟩,
  ⟨(some 75), .binOp .eql 3 (.tmp 69) (.tmp 74) 3, none⟩,
  ⟨(some 76), .move (.tmp 75), none⟩,
  ⟨(some 77), .move (.tmp 10), (some ((some 76), true))⟩,
  ⟨(some 78), .move (.tmp 10), (some ((some 76), true))⟩,
  ⟨(some 79), .call ⟨.builtin .len, #[(.tmp 78)], #[30]⟩, (some ((some 76), true))⟩,
  ⟨(some 80), .binOp .sub 3 (.tmp 79) (.const (.int .i64 1)) 3, (some ((some 76), true))⟩,
  ⟨(some 81), .indexAddr 30 (.tmp 77) (.tmp 80), (some ((some 76), true))⟩,
  ⟨(some 82), .load 3 (.tmp 81), (some ((some 76), true))⟩,
  ⟨(some 83), .binOp .eql 3 (.tmp 82) (.const (.int .i64 1)) 3, (some ((some 76), true))⟩,
  ⟨(some 84), .pick (.tmp 76) (.tmp 83) (.const (.bool false)), none⟩,
  ⟨(some 85), .move (.tmp 84), none⟩,
  ⟨(some 86), .move (.tmp 13), (some ((some 85), true))⟩,
  ⟨(some 87), .move (.tmp 8), (some ((some 85), true))⟩,
  ⟨(some 88), .binOp .gtr 3 (.tmp 87) (.const (.int .i64 0)) 3, (some ((some 85), true))⟩,
  ⟨(some 89), .binOp .eql 4 (.tmp 86) (.tmp 88) 4, (some ((some 85), true))⟩,
  ⟨(some 90), .pick (.tmp 85) (.tmp 89) (.const (.bool false)), none⟩,
  ⟨(some 91), .move (.tmp 90), none⟩,
  ⟨(some 92), .move (.tmp 8), (some ((some 91), true))⟩,
  ⟨(some 93), .binOp .eql 3 (.tmp 92) (.const (.int .i64 0)) 3, (some ((some 91), true))⟩,
  ⟨(some 94), .move (.tmp 93), (some ((some 91), true))⟩,
  ⟨(some 95), .move (.tmp 11), (some ((some 94), false))⟩,
  ⟨(some 96), .move (.tmp 8), (some ((some 94), false))⟩,
  ⟨(some 97), .binOp .sub 3 (.tmp 96) (.const (.int .i64 1)) 3, (some ((some 94), false))⟩,
  ⟨(some 98), .binOp .eql 3 (.tmp 95) (.tmp 97) 3, (some ((some 94), false))⟩,
  ⟨(some 99), .move (.tmp 98), (some ((some 94), false))⟩,
  ⟨(some 100), .move (.tmp 12), (some ((some 99), true))⟩,
  ⟨(some 101), .move (.tmp 6), (some ((some 99), true))⟩,
  ⟨(some 102), .move (.tmp 8), (some ((some 99), true))⟩,
  ⟨(some 103), .binOp .sub 3 (.tmp 102) (.const (.int .i64 1)) 3, (some ((some 99), true))⟩,
  ⟨(some 104), .index 9 (.tmp 101) (.tmp 103), (some ((some 99), true))⟩,
  ⟨(some 105), .binOp .eql 5 (.tmp 100) (.tmp 104) 5, (some ((some 99), true))⟩,
  ⟨(some 106), .pick (.tmp 99) (.tmp 105) (.const (.bool false)), (some ((some 94), false))⟩,
  ⟨(some 107), .pick (.tmp 94) (.const (.bool true)) (.tmp 106), (some ((some 91), true))⟩,
  ⟨(some 108), .pick (.tmp 91) (.tmp 107) (.const (.bool false)), none⟩,
  ⟨(some 109), .move (.tmp 108), none⟩,
  ⟨(some 110), .call ⟨.value (.func 36), #[], #[]⟩, (some ((some 109), true))⟩,
  ⟨(some 111), .pick (.tmp 109) (.tmp 110) (.const (.bool false)), none⟩,
  ⟨(some 4), .assign (.tmp 111), none⟩]
def c4 : SC := (.seq (.reg c4_r0 none (some [0, 1])) (.seq (.reg c4_r1 none (some [1, 5])) (.seq (.reg c4_r2 none (some [1, 5, 6])) (.seq (.reg c4_r3 none (some [1, 5, 6, 7])) (.seq (.seq (.reg c4_r4 none (some [1, 5, 6, 7, 26])) (.cond (.tmp 26) (.seq (.reg c4_r5 none (some [4])) .ret) .skip (some [1, 5, 6, 7]))) (.seq (.reg c4_r6 none (some [1, 6, 7, 8])) (.seq (.seq (.reg c4_r7 none (some [1, 6, 7, 8, 40])) (.cond (.tmp 40) (.seq (.reg c4_r8 none (some [4])) .ret) .skip (some [1, 6, 7, 8]))) (.seq (.reg c4_r9 none (some [6, 7, 8, 9])) (.seq (.seq (.reg c4_r10 none (some [6, 7, 8, 9, 57])) (.cond (.tmp 57) (.seq (.reg c4_r11 none (some [4])) .ret) .skip (some [6, 7, 8, 9]))) (.seq (.reg c4_r12 none (some [6, 7, 8, 9, 10])) (.seq (.reg c4_r13 none (some [6, 8, 9, 10, 11, 12, 13])) (.seq (.reg c4_r14 none (some [4])) .ret))))))))))))
theorem c4_eq : ∃ code, Try.f4.body = some code ∧ compile H4 code = c4 := ⟨_, rfl, by kernel_rfl⟩
theorem c4_fn : Try.prog.funcs[4]? = some Try.f4 := by kernel_rfl
theorem c4_rs : Try.f4.results.toList = [.tmp 4] := by kernel_rfl
theorem c4_ok : fnB Try.prog H4 Try.f4 = true := by kernel_rfl
theorem c4_nt : Try.f4.ntmps = 112 := by kernel_rfl
end Go.AM
