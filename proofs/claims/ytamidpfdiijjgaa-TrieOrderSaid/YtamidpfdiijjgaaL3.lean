/-
  Printed by program (wip/tools/print.sh): compiled code.
-/
import Derived.Test.YtamidpfdiijjgaaAM16
import Derived.Test.YtamidpfdiijjgaaProg
namespace Go.AM
open Go Go.Proofs
set_option maxRecDepth 100000
/-! 3: rampart/rampartlaw13.TrieOrder -/
def H3 : Hint := ⟨[(16, [4]), (15, [7, 13]), (7, [5, 6, 7, 8]), (14, [4]), (2000087, [5, 6, 7, 8]), (13, [5, 6, 7, 8, 87]), (12, [5, 6, 7, 8, 10, 11]), (11, [4]), (2000049, [5, 6, 7, 8]), (10, [5, 6, 7, 8, 49]), (9, [5, 6, 7, 8, 9]), (8, [5, 6, 7, 8, 9]), (2000024, [5, 6, 7, 8]), (6, [5, 6, 7, 8, 24]), (1000006, [5, 6, 7, 8]), (5, [5, 6, 7, 8]), (4, [4]), (2000021, [5, 6, 7]), (3, [5, 6, 7, 21]), (2, [5, 6, 7]), (1, [5, 6]), (0, [0, 1])], []⟩
def c3_r0 : List SOp := [
  ⟨(some 4), .assign (.const (.bool false)), none⟩]
def c3_r1 : List SOp := [
  ⟨(some 14), .move (.tmp 0), none⟩,
  ⟨(some 15), .call ⟨.value (.func 29), #[(.tmp 14), (.const (.int .i64 20))], #[3, 3]⟩, none⟩,
  ⟨(some 16), .move (.tmp 1), none⟩,
  ⟨(some 17), .call ⟨.value (.func 29), #[(.tmp 16), (.const (.int .i64 16))], #[3, 3]⟩, none⟩,
  ⟨(some 18), .binOp .add 3 (.const (.int .i64 1)) (.tmp 17) 3, none⟩,
  ⟨(some 5), .assign (.tmp 15), none⟩,
  ⟨(some 6), .assign (.tmp 18), none⟩]
def c3_r2 : List SOp := [
  ⟨(some 19), .call ⟨.value (.func 30), #[], #[]⟩, none⟩,
  ⟨(some 7), .assign (.tmp 19), none⟩]
def c3_r3 : List SOp := [
  ⟨(some 20), .move (.tmp 7), none⟩,
  ⟨(some 21), .binOp .eql 23 (.tmp 20) (.const (.pointer none)) 23, none⟩]
def c3_r4 : List SOp := [
  ⟨(some 4), .assign (.const (.bool false)), none⟩]
def c3_r5 : List SOp := [
  ⟨(some 8), .assign (.const (.int .i64 0)), none⟩]
def c3_r6 : List SOp := [
  ⟨(some 22), .move (.tmp 8), none⟩,
  ⟨(some 23), .move (.tmp 5), none⟩,
  ⟨(some 24), .binOp .lss 3 (.tmp 22) (.tmp 23) 3, none⟩]
def c3_r8 : List SOp := [
  ⟨(some 27), .move (.tmp 6), none⟩,
  ⟨(some 28), .makeSlice 25 (.tmp 27) (.tmp 27), none⟩,
  ⟨(some 9), .assign (.tmp 28), none⟩]
def c3_r9 : List SOp := [
  ⟨(some 29), .move (.tmp 9), none⟩,
  ⟨(some 30), .move (.tmp 8), none⟩,
  ⟨(some 31), .binOp .add 3 (.const (.int .i64 65)) (.tmp 30) 3, none⟩,
  ⟨(some 32), .convert 3 5 (.tmp 31), none⟩,
  ⟨(some 33), .indexAddr 25 (.tmp 29) (.const (.int .i64 0)), none⟩,
  ⟨none, .store 5 (.tmp 33) (.tmp 32), none⟩]
def c3_r10 : List SOp := [
  ⟨(some 34), .move (.tmp 7), none⟩,
  ⟨(some 35), .move (.tmp 9), none⟩,
  ⟨(some 36), .convert 25 9 (.tmp 35), none⟩,
  ⟨(some 37), .call ⟨.value (.func 31), #[(.tmp 34), (.tmp 36)], #[23, 9]⟩, none⟩,
  ⟨(some 38), .move (.tmp 8), none⟩,
  ⟨(some 39), .binOp .neq 3 (.tmp 37) (.tmp 38) 3, none⟩,
  ⟨(some 40), .move (.tmp 39), none⟩,
  ⟨(some 41), .move (.tmp 7), (some ((some 40), false))⟩,
  ⟨(some 42), .call ⟨.value (.func 32), #[(.tmp 41)], #[23]⟩, (some ((some 40), false))⟩,
  ⟨(some 43), .move (.tmp 6), (some ((some 40), false))⟩,
  ⟨(some 44), .move (.tmp 8), (some ((some 40), false))⟩,
  ⟨(some 45), .binOp .add 3 (.tmp 44) (.const (.int .i64 1)) 3, (some ((some 40), false))⟩,
  ⟨(some 46), .binOp .mul 3 (.tmp 43) (.tmp 45) 3, (some ((some 40), false))⟩,
  ⟨(some 47), .binOp .add 3 (.const (.int .i64 1)) (.tmp 46) 3, (some ((some 40), false))⟩,
  ⟨(some 48), .binOp .neq 3 (.tmp 42) (.tmp 47) 3, (some ((some 40), false))⟩,
  ⟨(some 49), .pick (.tmp 40) (.const (.bool true)) (.tmp 48), none⟩]
def c3_r11 : List SOp := [
  ⟨(some 4), .assign (.const (.bool false)), none⟩]
def c3_r12 : List SOp := [
  ⟨(some 51), .move (.tmp 7), none⟩,
  ⟨(some 52), .move (.tmp 8), none⟩,
  ⟨(some 53), .binOp .add 3 (.const (.int .i64 65)) (.tmp 52) 3, none⟩,
  ⟨(some 54), .convert 3 5 (.tmp 53), none⟩,
  ⟨(some 55), .call ⟨.value (.func 33), #[(.tmp 51), (.const (.int .i64 0)), (.tmp 54)], #[23, 3, 5]⟩, none⟩,
  ⟨(some 50), .move (.tmp 55), none⟩,
  ⟨(some 56), .extract (.tmp 50) 0, none⟩,
  ⟨(some 57), .extract (.tmp 50) 1, none⟩,
  ⟨(some 10), .assign (.tmp 56), none⟩,
  ⟨(some 11), .assign (.tmp 57), none⟩]
def c3_r13 : List SOp := [
  ⟨(some 58), .move (.tmp 11), none⟩,
  ⟨(some 59), .unOp .not 4 (.tmp 58), none⟩,
  ⟨(some 60), .move (.tmp 59), none⟩,
  ⟨(some 61), .move (.tmp 10), (some ((some 60), false))⟩,
  ⟨(some 62), .move (.tmp 6), (some ((some 60), false))⟩,
  ⟨(some 63), .move (.tmp 8), (some ((some 60), false))⟩,
  ⟨(some 64), .binOp .mul 3 (.tmp 62) (.tmp 63) 3, (some ((some 60), false))⟩,
  ⟨(some 65), .binOp .add 3 (.const (.int .i64 1)) (.tmp 64) 3, (some ((some 60), false))⟩,
  ⟨(some 66), .binOp .neq 3 (.tmp 61) (.tmp 65) 3, (some ((some 60), false))⟩,
  ⟨(some 67), .pick (.tmp 60) (.const (.bool true)) (.tmp 66), none⟩,
  ⟨(some 68), .move (.tmp 67), none⟩,
  ⟨(some 69), .move (.tmp 7), (some ((some 68), false))⟩,
  ⟨(some 70), .move (.tmp 6), (some ((some 68), false))⟩,
  ⟨(some 71), .move (.tmp 8), (some ((some 68), false))⟩,
  ⟨(some 72), .binOp .add 3 (.tmp 71) (.const (.int .i64 1)) 3, (some ((some 68), false))⟩,
  ⟨(some 73), .binOp .mul 3 (.tmp 70) (.tmp 72) 3, (some ((some 68), false))⟩,
  ⟨(some 74), .call ⟨.value (.func 34), #[(.tmp 69), (.tmp 73)], #[23, 3]⟩, (some ((some 68), false))⟩,
  ⟨(some 75), .call ⟨.builtin .len, #[(.tmp 74)], #[30]⟩, (some ((some 68), false))⟩,
  ⟨(some 76), .binOp .neq 3 (.tmp 75) (.const (.int .i64 1)) 3, (some ((some 68), false))⟩,
  ⟨(some 77), .pick (.tmp 68) (.const (.bool true)) (.tmp 76), none⟩,
  ⟨(some 78), .move (.tmp 77), none⟩,
  ⟨(some 79), .move (.tmp 7), (some ((some 78), false))⟩,
  ⟨(some 80), .move (.tmp 6), (some ((some 78), false))⟩,
  ⟨(some 81), .move (.tmp 8), (some ((some 78), false))⟩,
  ⟨(some 82), .binOp .add 3 (.tmp 81) (.const (.int .i64 1)) 3, (some ((some 78), false))⟩,
  ⟨(some 83), .binOp .mul 3 (.tmp 80) (.tmp 82) 3, (some ((some 78), false))⟩,
  ⟨(some 84), .call ⟨.value (.func 35), #[(.tmp 79), (.tmp 83)], #[23, 3]⟩, (some ((some 78), false))⟩,
  ⟨(some 85), .move (.tmp 6), (some ((some 78), false))⟩,
  ⟨(some 86), .binOp .neq 3 (.tmp 84) (.tmp 85) 3, (some ((some 78), false))⟩,
  ⟨(some 87), .pick (.tmp 78) (.const (.bool true)) (.tmp 86), none⟩]
def c3_r14 : List SOp := [
  ⟨(some 4), .assign (.const (.bool false)), none⟩]
def c3_r7 : List SOp := [
  ⟨(some 25), .move (.tmp 8), none⟩,
  ⟨(some 26), .binOp .add 3 (.tmp 25) (.const (.int .i64 1)) 3, none⟩,
  ⟨(some 8), .assign (.tmp 26), none⟩]
def c3_l6 : SC := (.seq (.seq (.reg c3_r6 none (some [5, 6, 7, 8, 24])) (.cond (.tmp 24) .skip (.exit 0) (some [5, 6, 7, 8]))) (.seq (.block 1 (.seq (.reg c3_r8 none (some [5, 6, 7, 8, 9])) (.seq (.reg c3_r9 none (some [5, 6, 7, 8, 9])) (.seq (.seq (.reg c3_r10 none (some [5, 6, 7, 8, 49])) (.cond (.tmp 49) (.seq (.reg c3_r11 none (some [4])) .ret) .skip (some [5, 6, 7, 8]))) (.seq (.reg c3_r12 none (some [5, 6, 7, 8, 10, 11])) (.seq (.reg c3_r13 none (some [5, 6, 7, 8, 87])) (.cond (.tmp 87) (.seq (.reg c3_r14 none (some [4])) .ret) .skip (some [5, 6, 7, 8])))))))) (.reg c3_r7 none (some [5, 6, 7, 8]))))
def c3_r15 : List SOp := [
  ⟨(some 89), .move (.tmp 7), none⟩,
  ⟨(some 90), .call ⟨.value (.func 33), #[(.tmp 89), (.const (.int .i64 0)), (.const (.int .u8 7))], #[23, 3, 5]⟩, none⟩,
  ⟨(some 88), .move (.tmp 90), none⟩,
  ⟨(some 91), .extract (.tmp 88) 0, none⟩,
  ⟨(some 92), .extract (.tmp 88) 1, none⟩,
  ⟨(some 12), .assign (.tmp 91), none⟩,
  ⟨(some 13), .assign (.tmp 92), none⟩]
def c3_r16 : List SOp := [
  ⟨(some 93), .move (.tmp 13), none⟩,
  ⟨(some 94), .unOp .not 4 (.tmp 93), none⟩,
  ⟨(some 95), .move (.tmp 94), none⟩,
  ⟨(some 96), .move (.tmp 7), (some ((some 95), true))⟩,
  ⟨(some 97), .call ⟨.value (.func 34), #[(.tmp 96), (.const (.int .i64 0))], #[23, 3]⟩, (some ((some 95), true))⟩,
  ⟨(some 98), .call ⟨.builtin .len, #[(.tmp 97)], #[30]⟩, (some ((some 95), true))⟩,
  ⟨(some 99), .binOp .eql 3 (.tmp 98) (.const (.int .i64 0)) 3, (some ((some 95), true))⟩,
  ⟨(some 100), .pick (.tmp 95) (.tmp 99) (.const (.bool false)), none⟩,
  ⟨(some 101), .move (.tmp 100), none⟩,
  ⟨(some 102), .call ⟨.value (.func 36), #[], #[]⟩, (some ((some 101), true))⟩,
  ⟨(some 103), .pick (.tmp 101) (.tmp 102) (.const (.bool false)), none⟩,
  ⟨(some 4), .assign (.tmp 103), none⟩]
def c3 : SC := (.seq (.reg c3_r0 none (some [0, 1])) (.seq (.reg c3_r1 none (some [5, 6])) (.seq (.reg c3_r2 none (some [5, 6, 7])) (.seq (.seq (.reg c3_r3 none (some [5, 6, 7, 21])) (.cond (.tmp 21) (.seq (.reg c3_r4 none (some [4])) .ret) .skip (some [5, 6, 7]))) (.seq (.seq (.reg c3_r5 none (some [5, 6, 7, 8])) (.block 0 (.loop c3_l6 (some [5, 6, 7, 8])))) (.seq (.reg c3_r15 none (some [7, 13])) (.seq (.reg c3_r16 none (some [4])) .ret)))))))
theorem c3_eq : ∃ code, Try.f3.body = some code ∧ compile H3 code = c3 := ⟨_, rfl, by kernel_rfl⟩
theorem c3_fn : Try.prog.funcs[3]? = some Try.f3 := by kernel_rfl
theorem c3_rs : Try.f3.results.toList = [.tmp 4] := by kernel_rfl
theorem c3_ok : fnB Try.prog H3 Try.f3 = true := by kernel_rfl
theorem c3_nt : Try.f3.ntmps = 104 := by kernel_rfl
end Go.AM
