/-
  Printed by program (wip/tools/print.sh): compiled code.
-/
import Derived.Test.YtamidpfdiijjgaaAMb
import Derived.Test.YtamidpfdiijjgaaProg
namespace Go.AM
open Go Go.Proofs
set_option maxRecDepth 100000
/-! 19: rampart/rampartlaw15.ScanCopies -/
def H19 : Hint := ⟨[(26, [8]), (16, [2, 9, 12, 13]), (25, [8]), (2000099, [2, 9, 12, 13]), (24, [2, 9, 12, 13, 99]), (23, [2, 9, 12, 13]), (22, [8]), (2000095, [2, 9, 13]), (21, [2, 9, 13, 95]), (20, [2, 9, 12, 13, 14, 15]), (19, [2, 9, 12, 13, 14]), (18, [2, 9, 13, 14]), (17, [2, 9, 12, 13, 14]), (2000058, [2, 9, 12, 13]), (15, [2, 9, 12, 13, 58]), (1000015, [2, 9, 12, 13]), (14, [2, 9, 12, 13]), (13, [8]), (2000053, [2, 9, 10, 12]), (12, [2, 9, 10, 12, 53]), (11, [2, 9, 10, 12]), (9, [2, 9, 10, 11]), (10, [2, 9, 10, 11]), (2000042, [2, 9, 10, 11]), (8, [2, 9, 10, 11, 42]), (1000008, [2, 9, 10, 11]), (7, [2, 9, 10, 11]), (6, [2, 9, 10]), (5, [8]), (2000034, [2, 3, 9]), (4, [2, 3, 9, 34]), (3, [2, 3, 9]), (2, [8]), (2000028, [0, 1, 2, 3]), (1, [0, 1, 2, 3, 28]), (0, [0, 1, 2, 3])], []⟩
def c19_r0 : List SOp := [
  ⟨(some 8), .assign (.const (.bool false)), none⟩]
def c19_r1 : List SOp := [
  ⟨(some 16), .move (.tmp 0), none⟩,
  ⟨(some 17), .call ⟨.value (.func 61), #[(.tmp 16)], #[38]⟩, none⟩,
  ⟨(some 18), .unOp .not 4 (.tmp 17), none⟩,
  ⟨(some 19), .move (.tmp 18), none⟩,
  ⟨(some 20), .move (.tmp 1), (some ((some 19), false))⟩,
  ⟨(some 21), .call ⟨.builtin .len, #[(.tmp 20)], #[68]⟩, (some ((some 19), false))⟩,
  ⟨(some 22), .binOp .gtr 3 (.tmp 21) (.const (.int .i64 30)) 3, (some ((some 19), false))⟩,
  ⟨(some 23), .pick (.tmp 19) (.const (.bool true)) (.tmp 22), none⟩,
  ⟨(some 24), .move (.tmp 23), none⟩,
  ⟨(some 25), .move (.tmp 2), (some ((some 24), false))⟩,
  ⟨(some 26), .call ⟨.builtin .len, #[(.tmp 25)], #[9]⟩, (some ((some 24), false))⟩,
  ⟨(some 27), .binOp .gtr 3 (.tmp 26) (.const (.int .i64 300)) 3, (some ((some 24), false))⟩,
  ⟨(some 28), .pick (.tmp 24) (.const (.bool true)) (.tmp 27), none⟩]
def c19_r2 : List SOp := [
  ⟨(some 29), .call ⟨.value (.func 62), #[], #[]⟩, none⟩,
  ⟨(some 8), .assign (.tmp 29), none⟩]
def c19_r3 : List SOp := [
  ⟨(some 30), .move (.tmp 0), none⟩,
  ⟨(some 31), .move (.tmp 1), none⟩,
  ⟨(some 32), .call ⟨.value (.func 63), #[(.tmp 30), (.tmp 31)], #[38, 68]⟩, none⟩,
  ⟨(some 9), .assign (.tmp 32), none⟩]
def c19_r4 : List SOp := [
  ⟨(some 33), .move (.tmp 9), none⟩,
  ⟨(some 34), .binOp .eql 69 (.tmp 33) (.const (.pointer none)) 69, none⟩]
def c19_r5 : List SOp := [
  ⟨(some 8), .assign (.const (.bool false)), none⟩]
def c19_r6 : List SOp := [
  ⟨(some 35), .move (.tmp 3), none⟩,
  ⟨(some 36), .move (.tmp 2), none⟩,
  ⟨(some 37), .call ⟨.builtin .len, #[(.tmp 36)], #[9]⟩, none⟩,
  ⟨(some 38), .binOp .add 3 (.tmp 37) (.const (.int .i64 1)) 3, none⟩,
  ⟨(some 39), .call ⟨.value (.func 29), #[(.tmp 35), (.tmp 38)], #[3, 3]⟩, none⟩,
  ⟨(some 10), .assign (.tmp 39), none⟩]
def c19_r7 : List SOp := [
  ⟨(some 11), .assign (.const (.int .i64 0)), none⟩]
def c19_r8 : List SOp := [
  ⟨(some 40), .move (.tmp 11), none⟩,
  ⟨(some 41), .move (.tmp 10), none⟩,
  ⟨(some 42), .binOp .lss 3 (.tmp 40) (.tmp 41) 3, none⟩]
def c19_r10 : List SOp := [
  ⟨(some 45), .move (.tmp 9), none⟩,
  ⟨(some 46), .move (.tmp 2), none⟩,
  ⟨(some 47), .move (.tmp 11), none⟩,
  ⟨(some 48), .index 9 (.tmp 46) (.tmp 47), none⟩,
  ⟨(some 49), .call ⟨.value (.func 65), #[(.tmp 45), (.tmp 48)], #[69, 5]⟩, none⟩]
def c19_r9 : List SOp := [
  ⟨(some 43), .move (.tmp 11), none⟩,
  ⟨(some 44), .binOp .add 3 (.tmp 43) (.const (.int .i64 1)) 3, none⟩,
  ⟨(some 11), .assign (.tmp 44), none⟩]
def c19_l8 : SC := (.seq (.seq (.reg c19_r8 none (some [2, 9, 10, 11, 42])) (.cond (.tmp 42) .skip (.exit 0) (some [2, 9, 10, 11]))) (.seq (.block 1 (.reg c19_r10 none (some [2, 9, 10, 11]))) (.reg c19_r9 none (some [2, 9, 10, 11]))))
def c19_r11 : List SOp := [
  ⟨(some 50), .move (.tmp 9), none⟩,
  ⟨(some 51), .call ⟨.value (.func 67), #[(.tmp 50)], #[69]⟩, none⟩,
  ⟨(some 12), .assign (.tmp 51), none⟩]
def c19_r12 : List SOp := [
  ⟨(some 52), .move (.tmp 12), none⟩,
  ⟨(some 53), .binOp .eql 69 (.tmp 52) (.const (.pointer none)) 69, none⟩]
def c19_r13 : List SOp := [
  ⟨(some 8), .assign (.const (.bool false)), none⟩]
def c19_r14 : List SOp := [
  ⟨(some 54), .move (.tmp 10), none⟩,
  ⟨(some 13), .assign (.tmp 54), none⟩]
def c19_r15 : List SOp := [
  ⟨(some 55), .move (.tmp 13), none⟩,
  ⟨(some 56), .move (.tmp 2), none⟩,
  ⟨(some 57), .call ⟨.builtin .len, #[(.tmp 56)], #[9]⟩, none⟩,
  ⟨(some 58), .binOp .lss 3 (.tmp 55) (.tmp 57) 3, none⟩]
def c19_r17 : List SOp := [
  ⟨(some 61), .move (.tmp 12), none⟩,
  ⟨(some 62), .move (.tmp 2), none⟩,
  ⟨(some 63), .move (.tmp 13), none⟩,
  ⟨(some 64), .index 9 (.tmp 62) (.tmp 63), none⟩,
  ⟨(some 65), .call ⟨.value (.func 65), #[(.tmp 61), (.tmp 64)], #[69, 5]⟩, none⟩,
  ⟨(some 14), .assign (.tmp 65), none⟩]
def c19_r18 : List SOp := [
  ⟨(some 66), .move (.tmp 12), none⟩,
  ⟨(some 67), .call ⟨.value (.func 65), #[(.tmp 66), (.const (.int .u8 63))], #[69, 5]⟩, none⟩]
def c19_r19 : List SOp := [
  ⟨(some 68), .move (.tmp 9), none⟩,
  ⟨(some 69), .call ⟨.value (.func 67), #[(.tmp 68)], #[69]⟩, none⟩,
  ⟨(some 12), .assign (.tmp 69), none⟩]
def c19_r20 : List SOp := [
  ⟨(some 70), .move (.tmp 9), none⟩,
  ⟨(some 71), .move (.tmp 2), none⟩,
  ⟨(some 72), .move (.tmp 13), none⟩,
  ⟨(some 73), .index 9 (.tmp 71) (.tmp 72), none⟩,
  ⟨(some 74), .call ⟨.value (.func 65), #[(.tmp 70), (.tmp 73)], #[69, 5]⟩, none⟩,
  ⟨(some 15), .assign (.tmp 74), none⟩]
def c19_r21 : List SOp := [
  ⟨(some 75), .move (.tmp 12), none⟩,
  ⟨(some 76), .binOp .eql 69 (.tmp 75) (.const (.pointer none)) 69, none⟩,
  ⟨(some 77), .move (.tmp 76), none⟩,
  ⟨(some 78), .move (.tmp 14), (some ((some 77), false))⟩,
  ⟨(some 79), .move (.tmp 15), (some ((some 77), false))⟩,
  ⟨(some 80), .call ⟨.value (.func 40), #[(.tmp 78), (.tmp 79)], #[30, 30]⟩, (some ((some 77), false))⟩,
  ⟨(some 81), .unOp .not 4 (.tmp 80), (some ((some 77), false))⟩,
  ⟨(some 82), .pick (.tmp 77) (.const (.bool true)) (.tmp 81), none⟩,
  ⟨(some 83), .move (.tmp 82), none⟩,
  ⟨(some 84), .move (.tmp 9), (some ((some 83), false))⟩,
  ⟨(some 85), .call ⟨.value (.func 66), #[(.tmp 84)], #[69]⟩, (some ((some 83), false))⟩,
  ⟨(some 86), .move (.tmp 13), (some ((some 83), false))⟩,
  ⟨(some 87), .binOp .add 3 (.tmp 86) (.const (.int .i64 1)) 3, (some ((some 83), false))⟩,
  ⟨(some 88), .binOp .neq 3 (.tmp 85) (.tmp 87) 3, (some ((some 83), false))⟩,
  ⟨(some 89), .pick (.tmp 83) (.const (.bool true)) (.tmp 88), none⟩,
  ⟨(some 90), .move (.tmp 89), none⟩,
  ⟨(some 91), .move (.tmp 12), (some ((some 90), false))⟩,
  ⟨(some 92), .call ⟨.value (.func 66), #[(.tmp 91)], #[69]⟩, (some ((some 90), false))⟩,
  ⟨(some 93), .move (.tmp 13), (some ((some 90), false))⟩,
  ⟨(some 94), .binOp .neq 3 (.tmp 92) (.tmp 93) 3, (some ((some 90), false))⟩,
  ⟨(some 95), .pick (.tmp 90) (.const (.bool true)) (.tmp 94), none⟩]
def c19_r22 : List SOp := [
  ⟨(some 8), .assign (.const (.bool false)), none⟩]
def c19_r23 : List SOp := [
  ⟨(some 96), .move (.tmp 9), none⟩,
  ⟨(some 97), .call ⟨.value (.func 67), #[(.tmp 96)], #[69]⟩, none⟩,
  ⟨(some 12), .assign (.tmp 97), none⟩]
def c19_r24 : List SOp := [
  ⟨(some 98), .move (.tmp 12), none⟩,
  ⟨(some 99), .binOp .eql 69 (.tmp 98) (.const (.pointer none)) 69, none⟩]
def c19_r25 : List SOp := [
  ⟨(some 8), .assign (.const (.bool false)), none⟩]
def c19_r16 : List SOp := [
  ⟨(some 59), .move (.tmp 13), none⟩,
  ⟨(some 60), .binOp .add 3 (.tmp 59) (.const (.int .i64 1)) 3, none⟩,
  ⟨(some 13), .assign (.tmp 60), none⟩]
def c19_l15 : SC := (.seq (.seq (.reg c19_r15 none (some [2, 9, 12, 13, 58])) (.cond (.tmp 58) .skip (.exit 2) (some [2, 9, 12, 13]))) (.seq (.block 3 (.seq (.reg c19_r17 none (some [2, 9, 12, 13, 14])) (.seq (.reg c19_r18 none (some [2, 9, 13, 14])) (.seq (.reg c19_r19 none (some [2, 9, 12, 13, 14])) (.seq (.reg c19_r20 none (some [2, 9, 12, 13, 14, 15])) (.seq (.seq (.reg c19_r21 none (some [2, 9, 13, 95])) (.cond (.tmp 95) (.seq (.reg c19_r22 none (some [8])) .ret) .skip (some [2, 9, 13]))) (.seq (.reg c19_r23 none (some [2, 9, 12, 13])) (.seq (.reg c19_r24 none (some [2, 9, 12, 13, 99])) (.cond (.tmp 99) (.seq (.reg c19_r25 none (some [8])) .ret) .skip (some [2, 9, 12, 13])))))))))) (.reg c19_r16 none (some [2, 9, 12, 13]))))
def c19_r26 : List SOp := [
  ⟨(some 100), .call ⟨.value (.func 62), #[], #[]⟩, none⟩,
  ⟨(some 8), .assign (.tmp 100), none⟩]
def c19 : SC := (.seq (.reg c19_r0 none (some [0, 1, 2, 3])) (.seq (.seq (.reg c19_r1 none (some [0, 1, 2, 3, 28])) (.cond (.tmp 28) (.seq (.reg c19_r2 none (some [8])) .ret) .skip (some [0, 1, 2, 3]))) (.seq (.reg c19_r3 none (some [2, 3, 9])) (.seq (.seq (.reg c19_r4 none (some [2, 3, 9, 34])) (.cond (.tmp 34) (.seq (.reg c19_r5 none (some [8])) .ret) .skip (some [2, 3, 9]))) (.seq (.reg c19_r6 none (some [2, 9, 10])) (.seq (.seq (.reg c19_r7 none (some [2, 9, 10, 11])) (.block 0 (.loop c19_l8 (some [2, 9, 10, 11])))) (.seq (.reg c19_r11 none (some [2, 9, 10, 12])) (.seq (.seq (.reg c19_r12 none (some [2, 9, 10, 12, 53])) (.cond (.tmp 53) (.seq (.reg c19_r13 none (some [8])) .ret) .skip (some [2, 9, 10, 12]))) (.seq (.seq (.reg c19_r14 none (some [2, 9, 12, 13])) (.block 2 (.loop c19_l15 (some [2, 9, 12, 13])))) (.seq (.reg c19_r26 none (some [8])) .ret))))))))))
theorem c19_eq : ∃ code, Try.f19.body = some code ∧ compile H19 code = c19 := ⟨_, rfl, by kernel_rfl⟩
theorem c19_fn : Try.prog.funcs[19]? = some Try.f19 := by kernel_rfl
theorem c19_rs : Try.f19.results.toList = [.tmp 8] := by kernel_rfl
theorem c19_ok : fnB Try.prog H19 Try.f19 = true := by kernel_rfl
theorem c19_nt : Try.f19.ntmps = 101 := by kernel_rfl
end Go.AM
