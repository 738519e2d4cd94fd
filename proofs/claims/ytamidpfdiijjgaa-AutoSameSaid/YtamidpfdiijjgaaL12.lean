/-
  Printed by program (wip/tools/print.sh): compiled code.
-/
import Derived.Test.YtamidpfdiijjgaaAMb
import Derived.Test.YtamidpfdiijjgaaProg
namespace Go.AM
open Go Go.Proofs
set_option maxRecDepth 100000
/-! 12: rampart/rampartlaw14.AutoSame -/
def H12 : Hint := ⟨[(24, [4]), (21, [6, 12, 13]), (23, [4]), (2000075, [6, 12, 13]), (22, [6, 12, 13, 75]), (2000067, [6, 12, 13]), (20, [6, 12, 13, 67]), (1000020, [6, 12, 13]), (19, [6, 12, 13]), (18, [6, 12]), (16, [5, 6, 8, 10, 11]), (17, [5, 6, 8, 10, 11]), (2000052, [5, 6, 8, 10, 11]), (15, [5, 6, 8, 10, 11, 52]), (1000015, [5, 6, 8, 10, 11]), (14, [5, 6, 8, 10, 11]), (13, [5, 6, 8, 10]), (12, [4]), (2000048, [5, 6, 8]), (11, [5, 6, 8, 48]), (10, [5, 6, 8, 9]), (9, [5, 6]), (7, [5, 6, 7]), (8, [5, 6, 7]), (2000025, [5, 6, 7]), (6, [5, 6, 7, 25]), (1000006, [5, 6, 7]), (5, [5, 6, 7]), (4, [5, 6]), (3, [4]), (2000020, [5]), (2, [5, 20]), (1, [5]), (0, [0, 1])], []⟩
def c12_r0 : List SOp := [
  ⟨(some 4), .assign (.const (.bool false)), none⟩]
def c12_r1 : List SOp := [
  ⟨(some 14), .move (.tmp 0), none⟩,
  ⟨(some 15), .move (.tmp 1), none⟩,
  ⟨(some 16), .call ⟨.value (.func 29), #[(.tmp 15), (.const (.int .i64 16))], #[3, 3]⟩, none⟩,
  ⟨(some 17), .binOp .add 3 (.const (.int .i64 1)) (.tmp 16) 3, none⟩,
  ⟨(some 18), .call ⟨.value (.func 50), #[(.tmp 14), (.tmp 17)], #[30, 3]⟩, none⟩,
  ⟨(some 5), .assign (.tmp 18), none⟩]
def c12_r2 : List SOp := [
  ⟨(some 19), .move (.tmp 5), none⟩,
  ⟨(some 20), .binOp .eql 9 (.tmp 19) (.const (.string ⟨#[]⟩)) 9, none⟩]
def c12_r3 : List SOp := [
  ⟨(some 21), .call ⟨.value (.func 51), #[], #[]⟩, none⟩,
  ⟨(some 4), .assign (.tmp 21), none⟩]
def c12_r4 : List SOp := [
  ⟨(some 6), .assign (.const (.slice none 0 0)), none⟩]
def c12_r5 : List SOp := [
  ⟨(some 7), .assign (.const (.int .i64 0)), none⟩]
def c12_r6 : List SOp := [
  ⟨(some 22), .move (.tmp 7), none⟩,
  ⟨(some 23), .move (.tmp 5), none⟩,
  ⟨(some 24), .call ⟨.builtin .len, #[(.tmp 23)], #[9]⟩, none⟩,
  ⟨(some 25), .binOp .lss 3 (.tmp 22) (.tmp 24) 3, none⟩]
def c12_r8 : List SOp := [
  ⟨(some 28), .move (.tmp 6), none⟩,
  ⟨(some 29), .move (.tmp 5), none⟩,
  ⟨(some 30), .move (.tmp 7), none⟩,
  ⟨(some 31), .slice 9 (.tmp 29) (some (.tmp 30)) none none, none⟩,
  ⟨(some 32), .buildSlice 38 1 #[(0, (.tmp 31))], none⟩,
  ⟨(some 33), .call ⟨.builtin .append, #[(.tmp 28), (.tmp 32)], #[38, 38]⟩, none⟩,
  ⟨(some 6), .assign (.tmp 33), none⟩]
def c12_r7 : List SOp := [
  ⟨(some 26), .move (.tmp 7), none⟩,
  ⟨(some 27), .binOp .add 3 (.tmp 26) (.const (.int .i64 1)) 3, none⟩,
  ⟨(some 7), .assign (.tmp 27), none⟩]
def c12_l6 : SC := (.seq (.seq (.reg c12_r6 none (some [5, 6, 7, 25])) (.cond (.tmp 25) .skip (.exit 0) (some [5, 6, 7]))) (.seq (.block 1 (.reg c12_r8 none (some [5, 6, 7]))) (.reg c12_r7 none (some [5, 6, 7]))))
def c12_r9 : List SOp := [
  ⟨(some 34), .move (.tmp 6), none⟩,
  ⟨(some 35), .move (.tmp 5), none⟩,
  ⟨(some 36), .buildSlice 38 1 #[(0, (.tmp 35))], none⟩,
  ⟨(some 37), .call ⟨.builtin .append, #[(.tmp 34), (.tmp 36)], #[38, 38]⟩, none⟩,
  ⟨(some 6), .assign (.tmp 37), none⟩]
def c12_r10 : List SOp := [
  ⟨(some 39), .move (.tmp 6), none⟩,
  ⟨(some 40), .call ⟨.value (.func 52), #[(.tmp 39), (.const (.int .i64 4096))], #[38, 3]⟩, none⟩,
  ⟨(some 38), .move (.tmp 40), none⟩,
  ⟨(some 41), .extract (.tmp 38) 0, none⟩,
  ⟨(some 42), .extract (.tmp 38) 1, none⟩,
  ⟨(some 8), .assign (.tmp 41), none⟩,
  ⟨(some 9), .assign (.tmp 42), none⟩]
def c12_r11 : List SOp := [
  ⟨(some 43), .move (.tmp 9), none⟩,
  ⟨(some 44), .binOp .neq 58 (.tmp 43) (.const (.int .i64 0)) 58, none⟩,
  ⟨(some 45), .move (.tmp 44), none⟩,
  ⟨(some 46), .move (.tmp 8), (some ((some 45), false))⟩,
  ⟨(some 47), .binOp .eql 57 (.tmp 46) (.const (.pointer none)) 57, (some ((some 45), false))⟩,
  ⟨(some 48), .pick (.tmp 45) (.const (.bool true)) (.tmp 47), none⟩]
def c12_r12 : List SOp := [
  ⟨(some 4), .assign (.const (.bool false)), none⟩]
def c12_r13 : List SOp := [
  ⟨(some 10), .assign (.const (.int .i64 0)), none⟩]
def c12_r14 : List SOp := [
  ⟨(some 11), .assign (.const (.int .i64 0)), none⟩]
def c12_r15 : List SOp := [
  ⟨(some 49), .move (.tmp 11), none⟩,
  ⟨(some 50), .move (.tmp 5), none⟩,
  ⟨(some 51), .call ⟨.builtin .len, #[(.tmp 50)], #[9]⟩, none⟩,
  ⟨(some 52), .binOp .lss 3 (.tmp 49) (.tmp 51) 3, none⟩]
def c12_r17 : List SOp := [
  ⟨(some 55), .move (.tmp 8), none⟩,
  ⟨(some 56), .move (.tmp 10), none⟩,
  ⟨(some 57), .move (.tmp 5), none⟩,
  ⟨(some 58), .move (.tmp 11), none⟩,
  ⟨(some 59), .index 9 (.tmp 57) (.tmp 58), none⟩,
  ⟨(some 60), .call ⟨.value (.func 53), #[(.tmp 55), (.tmp 56), (.tmp 59)], #[57, 3, 5]⟩, none⟩,
  ⟨(some 10), .assign (.tmp 60), none⟩]
def c12_r16 : List SOp := [
  ⟨(some 53), .move (.tmp 11), none⟩,
  ⟨(some 54), .binOp .add 3 (.tmp 53) (.const (.int .i64 1)) 3, none⟩,
  ⟨(some 11), .assign (.tmp 54), none⟩]
def c12_l15 : SC := (.seq (.seq (.reg c12_r15 none (some [5, 6, 8, 10, 11, 52])) (.cond (.tmp 52) .skip (.exit 2) (some [5, 6, 8, 10, 11]))) (.seq (.block 3 (.reg c12_r17 none (some [5, 6, 8, 10, 11]))) (.reg c12_r16 none (some [5, 6, 8, 10, 11]))))
def c12_r18 : List SOp := [
  ⟨(some 61), .move (.tmp 8), none⟩,
  ⟨(some 62), .move (.tmp 10), none⟩,
  ⟨(some 63), .call ⟨.value (.func 54), #[(.tmp 61), (.tmp 62)], #[57, 3]⟩, none⟩,
  ⟨(some 12), .assign (.tmp 63), none⟩]
def c12_r19 : List SOp := [
  ⟨(some 13), .assign (.const (.int .i64 0)), none⟩]
def c12_r20 : List SOp := [
  ⟨(some 64), .move (.tmp 13), none⟩,
  ⟨(some 65), .move (.tmp 12), none⟩,
  ⟨(some 66), .call ⟨.builtin .len, #[(.tmp 65)], #[30]⟩, none⟩,
  ⟨(some 67), .binOp .lss 3 (.tmp 64) (.tmp 66) 3, none⟩]
def c12_r22 : List SOp := [
  ⟨(some 70), .move (.tmp 12), none⟩,
  ⟨(some 71), .move (.tmp 13), none⟩,
  ⟨(some 72), .indexAddr 30 (.tmp 70) (.tmp 71), none⟩,
  ⟨(some 73), .load 3 (.tmp 72), none⟩,
  ⟨(some 74), .move (.tmp 13), none⟩,
  ⟨(some 75), .binOp .neq 3 (.tmp 73) (.tmp 74) 3, none⟩]
def c12_r23 : List SOp := [
  ⟨(some 4), .assign (.const (.bool false)), none⟩]
def c12_r21 : List SOp := [
  ⟨(some 68), .move (.tmp 13), none⟩,
  ⟨(some 69), .binOp .add 3 (.tmp 68) (.const (.int .i64 1)) 3, none⟩,
  ⟨(some 13), .assign (.tmp 69), none⟩]
def c12_l20 : SC := (.seq (.seq (.reg c12_r20 none (some [6, 12, 13, 67])) (.cond (.tmp 67) .skip (.exit 4) (some [6, 12, 13]))) (.seq (.block 5 (.seq (.reg c12_r22 none (some [6, 12, 13, 75])) (.cond (.tmp 75) (.seq (.reg c12_r23 none (some [4])) .ret) .skip (some [6, 12, 13])))) (.reg c12_r21 none (some [6, 12, 13]))))
def c12_r24 : List SOp := [
  ⟨(some 76), .move (.tmp 12), none⟩,
  ⟨(some 77), .call ⟨.builtin .len, #[(.tmp 76)], #[30]⟩, none⟩,
  ⟨(some 78), .move (.tmp 6), none⟩,
  ⟨(some 79), .call ⟨.builtin .len, #[(.tmp 78)], #[38]⟩, none⟩,
  ⟨(some 80), .binOp .eql 3 (.tmp 77) (.tmp 79) 3, none⟩,
  ⟨(some 81), .move (.tmp 80), none⟩,
  ⟨(some 82), .call ⟨.value (.func 51), #[], #[]⟩, (some ((some 81), true))⟩,
  ⟨(some 83), .pick (.tmp 81) (.tmp 82) (.const (.bool false)), none⟩,
  ⟨(some 4), .assign (.tmp 83), none⟩]
def c12 : SC := (.seq (.reg c12_r0 none (some [0, 1])) (.seq (.reg c12_r1 none (some [5])) (.seq (.seq (.reg c12_r2 none (some [5, 20])) (.cond (.tmp 20) (.seq (.reg c12_r3 none (some [4])) .ret) .skip (some [5]))) (.seq (.reg c12_r4 none (some [5, 6])) (.seq (.seq (.reg c12_r5 none (some [5, 6, 7])) (.block 0 (.loop c12_l6 (some [5, 6, 7])))) (.seq (.reg c12_r9 none (some [5, 6])) (.seq (.reg c12_r10 none (some [5, 6, 8, 9])) (.seq (.seq (.reg c12_r11 none (some [5, 6, 8, 48])) (.cond (.tmp 48) (.seq (.reg c12_r12 none (some [4])) .ret) .skip (some [5, 6, 8]))) (.seq (.reg c12_r13 none (some [5, 6, 8, 10])) (.seq (.seq (.reg c12_r14 none (some [5, 6, 8, 10, 11])) (.block 2 (.loop c12_l15 (some [5, 6, 8, 10, 11])))) (.seq (.reg c12_r18 none (some [6, 12])) (.seq (.seq (.reg c12_r19 none (some [6, 12, 13])) (.block 4 (.loop c12_l20 (some [6, 12, 13])))) (.seq (.reg c12_r24 none (some [4])) .ret)))))))))))))
theorem c12_eq : ∃ code, Try.f12.body = some code ∧ compile H12 code = c12 := ⟨_, rfl, by kernel_rfl⟩
theorem c12_fn : Try.prog.funcs[12]? = some Try.f12 := by kernel_rfl
theorem c12_rs : Try.f12.results.toList = [.tmp 4] := by kernel_rfl
theorem c12_ok : fnB Try.prog H12 Try.f12 = true := by kernel_rfl
theorem c12_nt : Try.f12.ntmps = 84 := by kernel_rfl
end Go.AM
