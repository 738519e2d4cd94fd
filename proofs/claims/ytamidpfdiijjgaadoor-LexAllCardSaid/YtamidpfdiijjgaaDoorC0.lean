/-
  Printed by program (wip/tools/print.sh): compiled code.
-/
import Derived.Test.YtamidpfdiijjgaaDoorAMb
import Derived.Test.YtamidpfdiijjgaaDoorProg
namespace Go.AM
open Go Go.Proofs
set_option maxRecDepth 100000
/-! 8: rampart/lex.All -/
def H8 : Hint := ⟨[(7, [2, 3, 4]), (6, [2, 3, 4]), (2000019, [5]), (5, [5, 19]), (2000016, [5]), (4, [5, 16]), (1000004, [5]), (3, [5]), (2, [2, 3, 4]), (2000008, [0]), (1, [0, 8]), (0, [0])], []⟩
def c8_r0 : List SOp := [
  ⟨(some 2), .assign (.const (.slice none 0 0)), none⟩,
  ⟨(some 3), .assign (.const (.int .i64 0)), none⟩,
  ⟨(some 4), .assign (.const (.int .i64 0)), none⟩]
def c8_r1 : List SOp := [
  ⟨(some 6), .move (.tmp 0), none⟩,
  ⟨(some 7), .call ⟨.builtin .len, #[(.tmp 6)], #[9]⟩, none⟩,
  ⟨(some 8), .binOp .gtr 3 (.tmp 7) (.const (.int .i64 8192)) 3, none⟩]
def c8_r2 : List SOp := [
  ⟨(some 2), .assign (.const (.slice none 0 0)), none⟩,
  ⟨(some 3), .assign (.const (.int .i64 0)), none⟩,
  ⟨(some 4), .assign (.const (.int .i64 5)), none⟩]
def c8_r3 : List SOp := [
  ⟨(some 9), .move (.tmp 0), none⟩,
  ⟨(some 10), .build 47 #[(0, (.tmp 9)), (1, (.const (.int .i64 1)))], none⟩,
  ⟨(some 11), .box 47 (.tmp 10), none⟩,
  ⟨(some 5), .assign (.tmp 11), none⟩]
def c8_r4 : List SOp := [
  ⟨(some 12), .move (.tmp 5), none⟩,
  ⟨(some 13), .nilCheck (.tmp 12), none⟩,
  ⟨(some 14), .fieldAddr 47 (.tmp 13) 0, none⟩,
  ⟨(some 15), .load 9 (.tmp 14), none⟩,
  ⟨(some 16), .binOp .neq 9 (.tmp 15) (.const (.string ⟨#[]⟩)) 9, none⟩]
def c8_r5 : List SOp := [
  ⟨(some 17), .move (.tmp 5), none⟩,
  ⟨(some 18), .call ⟨.value (.func 13), #[(.tmp 17)], #[45]⟩, none⟩,
  ⟨(some 19), .unOp .not 4 (.tmp 18), none⟩]
def c8_r6 : List SOp := [
  ⟨(some 20), .move (.tmp 5), none⟩,
  ⟨(some 21), .nilCheck (.tmp 20), none⟩,
  ⟨(some 22), .fieldAddr 47 (.tmp 21) 1, none⟩,
  ⟨(some 23), .load 3 (.tmp 22), none⟩,
  ⟨(some 2), .assign (.const (.slice none 0 0)), none⟩,
  ⟨(some 3), .assign (.tmp 23), none⟩,
  ⟨(some 4), .assign (.const (.int .i64 6)), none⟩]
def c8_l4 : SC := (.seq (.seq (.reg c8_r4 none (some [5, 16])) (.cond (.tmp 16) .skip (.exit 0) (some [5]))) (.block 1 (.seq (.reg c8_r5 none (some [5, 19])) (.cond (.tmp 19) (.seq (.reg c8_r6 none (some [2, 3, 4])) .ret) .skip (some [5])))))
def c8_r7 : List SOp := [
  ⟨(some 24), .move (.tmp 5), none⟩,
  ⟨(some 25), .nilCheck (.tmp 24), none⟩,
  ⟨(some 26), .fieldAddr 47 (.tmp 25) 2, none⟩,
  ⟨(some 27), .load 22 (.tmp 26), none⟩,
  ⟨(some 2), .assign (.tmp 27), none⟩,
  ⟨(some 3), .assign (.const (.int .i64 0)), none⟩,
  ⟨(some 4), .assign (.const (.int .i64 0)), none⟩]
def c8 : SC := (.seq (.reg c8_r0 none (some [0])) (.seq (.seq (.reg c8_r1 none (some [0, 8])) (.cond (.tmp 8) (.seq (.reg c8_r2 none (some [2, 3, 4])) .ret) .skip (some [0]))) (.seq (.reg c8_r3 none (some [5])) (.seq (.block 0 (.loop c8_l4 (some [5]))) (.seq (.reg c8_r7 none (some [2, 3, 4])) .ret)))))
theorem c8_eq : ∃ code, Tryd.f8.body = some code ∧ compile H8 code = c8 := ⟨_, rfl, by kernel_rfl⟩
theorem c8_fn : Tryd.prog.funcs[8]? = some Tryd.f8 := by kernel_rfl
theorem c8_rs : Tryd.f8.results.toList = [.tmp 2, .tmp 3, .tmp 4] := by kernel_rfl
theorem c8_ok : fnB Tryd.prog H8 Tryd.f8 = true := by kernel_rfl
theorem c8_nt : Tryd.f8.ntmps = 28 := by kernel_rfl

/-! 9: rampart/rampartref08.All -/
def H9 : Hint := ⟨[(24, [2, 3, 4]), (16, [0, 5, 6, 7]), (15, [0, 5, 6, 7]), (20, [0, 5, 6, 7]), (23, [0, 5, 6, 7]), (2000061, [0, 5, 6, 7]), (22, [0, 5, 6, 7, 61]), (1000022, [0, 5, 6, 7]), (13, [0, 5, 6, 7]), (12, [0, 5, 6, 9]), (11, [0, 5, 6, 8, 9]), (10, [2, 3, 4]), (2000029, [0, 5, 6, 8, 9]), (9, [0, 5, 6, 8, 9, 29]), (8, [0, 5, 6, 8, 9, 10]), (2000050, [0, 5, 6, 7]), (21, [0, 5, 6, 7, 50]), (2000044, [0, 5, 6, 7, 20, 44]), (19, [0, 5, 6, 7, 20, 44]), (18, [0, 5, 6, 7, 20, 44]), (17, [0, 5, 6, 7, 20, 44]), (2000038, [0, 5, 6, 7]), (14, [0, 5, 6, 7, 20, 38]), (7, [0, 5, 6, 7, 20]), (2000017, [0, 5, 6, 7]), (6, [0, 5, 6, 7, 17]), (1000006, [0, 5, 6, 7]), (5, [0, 5, 6, 7]), (4, [0, 5, 6]), (3, [0, 5]), (2, [2, 3, 4]), (2000013, [0]), (1, [0, 13]), (0, [0])], []⟩
def c9_r0 : List SOp := [
  ⟨(some 2), .assign (.const (.slice none 0 0)), none⟩,
  ⟨(some 3), .assign (.const (.int .i64 0)), none⟩,
  ⟨(some 4), .assign (.const (.int .i64 0)), none⟩]
def c9_r1 : List SOp := [
  ⟨(some 11), .move (.tmp 0), none⟩,
  ⟨(some 12), .call ⟨.builtin .len, #[(.tmp 11)], #[9]⟩, none⟩,
  ⟨(some 13), .binOp .gtr 3 (.tmp 12) (.const (.int .i64 8192)) 3, none⟩]
def c9_r2 : List SOp := [
  ⟨(some 2), .assign (.const (.slice none 0 0)), none⟩,
  ⟨(some 3), .assign (.const (.int .i64 0)), none⟩,
  ⟨(some 4), .assign (.const (.int .i64 5)), none⟩]
def c9_r3 : List SOp := [
  ⟨(some 5), .assign (.const (.slice none 0 0)), none⟩]
def c9_r4 : List SOp := [
  ⟨(some 6), .assign (.const (.int .i64 1)), none⟩]
def c9_r5 : List SOp := [
  ⟨(some 7), .assign (.const (.int .i64 0)), none⟩]
def c9_r6 : List SOp := [
  ⟨(some 14), .move (.tmp 7), none⟩,
  ⟨(some 15), .move (.tmp 0), none⟩,
  ⟨(some 16), .call ⟨.builtin .len, #[(.tmp 15)], #[9]⟩, none⟩,
  ⟨(some 17), .binOp .lss 3 (.tmp 14) (.tmp 16) 3, none⟩]
def c9_r7 : List SOp := [
  ⟨(some 18), .move (.tmp 0), none⟩,
  ⟨(some 19), .move (.tmp 7), none⟩,
  ⟨(some 20), .index 9 (.tmp 18) (.tmp 19), none⟩]
def c9_r14 : List SOp := [
  ⟨(some 39), .binOp .eql 5 (.tmp 20) (.const (.int .u8 10)) 5, none⟩,
  ⟨(some 38), .assign (.tmp 39), none⟩]
def c9_r15 : List SOp := [
  ⟨(some 40), .move (.tmp 6), none⟩,
  ⟨(some 41), .binOp .add 3 (.tmp 40) (.const (.int .i64 1)) 3, none⟩,
  ⟨(some 6), .assign (.tmp 41), none⟩]
def c9_r16 : List SOp := [
  ⟨(some 42), .move (.tmp 7), none⟩,
  ⟨(some 43), .binOp .add 3 (.tmp 42) (.const (.int .i64 1)) 3, none⟩,
  ⟨(some 7), .assign (.tmp 43), none⟩]
def c9_r17 : List SOp := [
  ⟨(some 45), .binOp .eql 5 (.tmp 20) (.const (.int .u8 32)) 5, none⟩,
  ⟨(some 44), .assign (.tmp 45), none⟩]
def c9_r18 : List SOp := [
  ⟨(some 46), .binOp .eql 5 (.tmp 20) (.const (.int .u8 9)) 5, none⟩,
  ⟨(some 44), .assign (.tmp 46), none⟩]
def c9_r19 : List SOp := [
  ⟨(some 47), .binOp .eql 5 (.tmp 20) (.const (.int .u8 13)) 5, none⟩,
  ⟨(some 44), .assign (.tmp 47), none⟩]
def c9_r20 : List SOp := [
  ⟨(some 48), .move (.tmp 7), none⟩,
  ⟨(some 49), .binOp .add 3 (.tmp 48) (.const (.int .i64 1)) 3, none⟩,
  ⟨(some 7), .assign (.tmp 49), none⟩]
def c9_r21 : List SOp := [
  ⟨(some 51), .binOp .eql 5 (.tmp 20) (.const (.int .u8 35)) 5, none⟩,
  ⟨(some 50), .assign (.tmp 51), none⟩]
def c9_r22 : List SOp := [
  ⟨(some 52), .move (.tmp 7), none⟩,
  ⟨(some 53), .move (.tmp 0), none⟩,
  ⟨(some 54), .call ⟨.builtin .len, #[(.tmp 53)], #[9]⟩, none⟩,
  ⟨(some 55), .binOp .lss 3 (.tmp 52) (.tmp 54) 3, none⟩,
  ⟨(some 56), .move (.tmp 55), none⟩,
  ⟨(some 57), .move (.tmp 0), (some ((some 56), true))⟩,
  ⟨(some 58), .move (.tmp 7), (some ((some 56), true))⟩,
  ⟨(some 59), .index 9 (.tmp 57) (.tmp 58), (some ((some 56), true))⟩,
  ⟨(some 60), .binOp .neq 5 (.tmp 59) (.const (.int .u8 10)) 5, (some ((some 56), true))⟩,
  ⟨(some 61), .pick (.tmp 56) (.tmp 60) (.const (.bool false)), none⟩]
def c9_r23 : List SOp := [
  ⟨(some 62), .move (.tmp 7), none⟩,
  ⟨(some 63), .binOp .add 3 (.tmp 62) (.const (.int .i64 1)) 3, none⟩,
  ⟨(some 7), .assign (.tmp 63), none⟩]
def c9_l22 : SC := (.seq (.seq (.reg c9_r22 none (some [0, 5, 6, 7, 61])) (.cond (.tmp 61) .skip (.exit 3) (some [0, 5, 6, 7]))) (.block 4 (.reg c9_r23 none (some [0, 5, 6, 7]))))
def c9_r8 : List SOp := [
  ⟨(some 22), .move (.tmp 0), none⟩,
  ⟨(some 23), .move (.tmp 7), none⟩,
  ⟨(some 24), .call ⟨.value (.func 14), #[(.tmp 22), (.tmp 23)], #[9, 3]⟩, none⟩,
  ⟨(some 21), .move (.tmp 24), none⟩,
  ⟨(some 25), .extract (.tmp 21) 0, none⟩,
  ⟨(some 26), .extract (.tmp 21) 1, none⟩,
  ⟨(some 27), .extract (.tmp 21) 2, none⟩,
  ⟨(some 8), .alloc 31, none⟩,
  ⟨none, .store 31 (.tmp 8) (.tmp 25), none⟩,
  ⟨(some 9), .assign (.tmp 26), none⟩,
  ⟨(some 10), .assign (.tmp 27), none⟩]
def c9_r9 : List SOp := [
  ⟨(some 28), .move (.tmp 10), none⟩,
  ⟨(some 29), .unOp .not 4 (.tmp 28), none⟩]
def c9_r10 : List SOp := [
  ⟨(some 30), .move (.tmp 6), none⟩,
  ⟨(some 2), .assign (.const (.slice none 0 0)), none⟩,
  ⟨(some 3), .assign (.tmp 30), none⟩,
  ⟨(some 4), .assign (.const (.int .i64 6)), none⟩]
def c9_r11 : List SOp := [
  ⟨(some 31), .move (.tmp 6), none⟩,
  ⟨(some 32), .fieldAddr 31 (.tmp 8) 3, none⟩,
  ⟨none, .store 3 (.tmp 32) (.tmp 31), none⟩]
def c9_r12 : List SOp := [
  ⟨(some 33), .move (.tmp 5), none⟩,
  ⟨(some 34), .load 31 (.tmp 8), none⟩,
  ⟨(some 35), .buildSlice 26 1 #[(0, (.tmp 34))], none⟩,
  ⟨(some 36), .call ⟨.builtin .append, #[(.tmp 33), (.tmp 35)], #[26, 26]⟩, none⟩,
  ⟨(some 5), .assign (.tmp 36), none⟩]
def c9_r13 : List SOp := [
  ⟨(some 37), .move (.tmp 9), none⟩,
  ⟨(some 7), .assign (.tmp 37), none⟩]
def c9_l6 : SC := (.seq (.seq (.reg c9_r6 none (some [0, 5, 6, 7, 17])) (.cond (.tmp 17) .skip (.exit 0) (some [0, 5, 6, 7]))) (.block 1 (.seq (.reg c9_r7 none (some [0, 5, 6, 7, 20])) (.block 2 (.seq (.reg c9_r14 none (some [0, 5, 6, 7, 20, 38])) (.cond (.tmp 38) (.seq (.reg c9_r15 none (some [0, 5, 6, 7])) (.reg c9_r16 none (some [0, 5, 6, 7]))) (.seq (.seq (.reg c9_r17 none (some [0, 5, 6, 7, 20, 44])) (.cond (.tmp 44) .skip (.seq (.reg c9_r18 none (some [0, 5, 6, 7, 20, 44])) (.cond (.tmp 44) .skip (.reg c9_r19 none (some [0, 5, 6, 7, 20, 44])) (some [0, 5, 6, 7, 20, 44]))) (some [0, 5, 6, 7, 20, 44]))) (.cond (.tmp 44) (.reg c9_r20 none (some [0, 5, 6, 7])) (.seq (.reg c9_r21 none (some [0, 5, 6, 7, 50])) (.cond (.tmp 50) (.block 3 (.loop c9_l22 (some [0, 5, 6, 7]))) (.seq (.reg c9_r8 none (some [0, 5, 6, 8, 9, 10])) (.seq (.seq (.reg c9_r9 none (some [0, 5, 6, 8, 9, 29])) (.cond (.tmp 29) (.seq (.reg c9_r10 none (some [2, 3, 4])) .ret) .skip (some [0, 5, 6, 8, 9]))) (.seq (.reg c9_r11 none (some [0, 5, 6, 8, 9])) (.seq (.reg c9_r12 none (some [0, 5, 6, 9])) (.reg c9_r13 none (some [0, 5, 6, 7])))))) (some [0, 5, 6, 7]))) (some [0, 5, 6, 7, 20, 44]))) (some [0, 5, 6, 7])))))))
def c9_r24 : List SOp := [
  ⟨(some 64), .move (.tmp 5), none⟩,
  ⟨(some 2), .assign (.tmp 64), none⟩,
  ⟨(some 3), .assign (.const (.int .i64 0)), none⟩,
  ⟨(some 4), .assign (.const (.int .i64 0)), none⟩]
def c9 : SC := (.seq (.reg c9_r0 none (some [0])) (.seq (.seq (.reg c9_r1 none (some [0, 13])) (.cond (.tmp 13) (.seq (.reg c9_r2 none (some [2, 3, 4])) .ret) .skip (some [0]))) (.seq (.reg c9_r3 none (some [0, 5])) (.seq (.reg c9_r4 none (some [0, 5, 6])) (.seq (.seq (.reg c9_r5 none (some [0, 5, 6, 7])) (.block 0 (.loop c9_l6 (some [0, 5, 6, 7])))) (.seq (.reg c9_r24 none (some [2, 3, 4])) .ret))))))
theorem c9_eq : ∃ code, Tryd.f9.body = some code ∧ compile H9 code = c9 := ⟨_, rfl, by kernel_rfl⟩
theorem c9_fn : Tryd.prog.funcs[9]? = some Tryd.f9 := by kernel_rfl
theorem c9_rs : Tryd.f9.results.toList = [.tmp 2, .tmp 3, .tmp 4] := by kernel_rfl
theorem c9_ok : fnB Tryd.prog H9 Tryd.f9 = true := by kernel_rfl
theorem c9_nt : Tryd.f9.ntmps = 65 := by kernel_rfl

/-! 10: rampart/rampartlaw08.awake -/
def H10 : Hint := ⟨[(2, [0]), (1, [1, 3]), (0, [])], []⟩
def c10_r0 : List SOp := [
  ⟨(some 0), .assign (.const (.bool false)), none⟩]
def c10_r1 : List SOp := [
  ⟨(some 5), .call ⟨.value (.func 8), #[(.const (.string ⟨#[34, 97, 124, 48, 100, 32, 48, 65, 124, 98, 34]⟩))], #[9]⟩, none⟩,
  ⟨(some 4), .move (.tmp 5), none⟩,
  ⟨(some 6), .extract (.tmp 4) 0, none⟩,
  ⟨(some 7), .extract (.tmp 4) 1, none⟩,
  ⟨(some 8), .extract (.tmp 4) 2, none⟩,
  ⟨(some 1), .assign (.tmp 6), none⟩,
  ⟨(some 2), .assign (.tmp 7), none⟩,
  ⟨(some 3), .assign (.tmp 8), none⟩]
def c10_r2 : List SOp := [
  ⟨(some 9), .move (.tmp 3), none⟩,
  ⟨(some 10), .binOp .eql 23 (.tmp 9) (.const (.int .i64 0)) 23, none⟩,
  ⟨(some 11), .move (.tmp 10), none⟩,
  ⟨(some 12), .move (.tmp 1), (some ((some 11), true))⟩,
  ⟨(some 13), .call ⟨.builtin .len, #[(.tmp 12)], #[22]⟩, (some ((some 11), true))⟩,
  ⟨(some 14), .binOp .eql 3 (.tmp 13) (.const (.int .i64 1)) 3, (some ((some 11), true))⟩,
  ⟨(some 15), .pick (.tmp 11) (.tmp 14) (.const (.bool false)), none⟩,
  ⟨(some 16), .move (.tmp 15), none⟩,
  ⟨(some 17), .move (.tmp 1), (some ((some 16), true))⟩,
  ⟨(some 18), .indexAddr 22 (.tmp 17) (.const (.int .i64 0)), (some ((some 16), true))⟩,
  ⟨(some 19), .fieldAddr 30 (.tmp 18) 0, (some ((some 16), true))⟩,
  ⟨(some 20), .load 3 (.tmp 19), (some ((some 16), true))⟩,
  ⟨(some 21), .binOp .eql 3 (.tmp 20) (.const (.int .i64 3)) 3, (some ((some 16), true))⟩,
  ⟨(some 22), .pick (.tmp 16) (.tmp 21) (.const (.bool false)), none⟩,
  ⟨(some 23), .move (.tmp 22), none⟩,
  ⟨(some 24), .move (.tmp 1), (some ((some 23), true))⟩,
  ⟨(some 25), .indexAddr 22 (.tmp 24) (.const (.int .i64 0)), (some ((some 23), true))⟩,
  ⟨(some 26), .fieldAddr 30 (.tmp 25) 1, (some ((some 23), true))⟩,
  ⟨(some 27), .load 9 (.tmp 26), (some ((some 23), true))⟩,
  ⟨(some 28), .binOp .eql 9 (.tmp 27) (.const (.string ⟨#[97, 13, 10, 98]⟩)) 9, (some ((some 23), true))⟩,
  ⟨(some 29), .pick (.tmp 23) (.tmp 28) (.const (.bool false)), none⟩,
  ⟨(some 0), .assign (.tmp 29), none⟩]
def c10 : SC := (.seq (.reg c10_r0 none (some [])) (.seq (.reg c10_r1 none (some [1, 3])) (.seq (.reg c10_r2 none (some [0])) .ret)))
theorem c10_eq : ∃ code, Tryd.f10.body = some code ∧ compile H10 code = c10 := ⟨_, rfl, by kernel_rfl⟩
theorem c10_fn : Tryd.prog.funcs[10]? = some Tryd.f10 := by kernel_rfl
theorem c10_rs : Tryd.f10.results.toList = [.tmp 0] := by kernel_rfl
theorem c10_ok : fnB Tryd.prog H10 Tryd.f10 = true := by kernel_rfl
theorem c10_nt : Tryd.f10.ntmps = 30 := by kernel_rfl

/-! 11: rampart/rampartlaw00.Place -/
def H11 : Hint := ⟨[(4, [4]), (3, [5]), (2000010, [5]), (2, [1, 5, 10]), (1, [1, 5]), (0, [0, 1])], []⟩
def c11_r0 : List SOp := [
  ⟨(some 4), .assign (.const (.int .i64 0)), none⟩]
def c11_r1 : List SOp := [
  ⟨(some 6), .move (.tmp 0), none⟩,
  ⟨(some 7), .move (.tmp 1), none⟩,
  ⟨(some 8), .binOp .rem 3 (.tmp 6) (.tmp 7) 3, none⟩,
  ⟨(some 5), .assign (.tmp 8), none⟩]
def c11_r2 : List SOp := [
  ⟨(some 9), .move (.tmp 5), none⟩,
  ⟨(some 10), .binOp .lss 3 (.tmp 9) (.const (.int .i64 0)) 3, none⟩]
def c11_r3 : List SOp := [
  ⟨(some 11), .move (.tmp 5), none⟩,
  ⟨(some 12), .move (.tmp 1), none⟩,
  ⟨(some 13), .binOp .add 3 (.tmp 11) (.tmp 12) 3, none⟩,
  ⟨(some 5), .assign (.tmp 13), none⟩]
def c11_r4 : List SOp := [
  ⟨(some 14), .move (.tmp 5), none⟩,
  ⟨(some 4), .assign (.tmp 14), none⟩]
def c11 : SC := (.seq (.reg c11_r0 none (some [0, 1])) (.seq (.reg c11_r1 none (some [1, 5])) (.seq (.seq (.reg c11_r2 none (some [1, 5, 10])) (.cond (.tmp 10) (.reg c11_r3 none (some [5])) .skip (some [5]))) (.seq (.reg c11_r4 none (some [4])) .ret))))
theorem c11_eq : ∃ code, Tryd.f11.body = some code ∧ compile H11 code = c11 := ⟨_, rfl, by kernel_rfl⟩
theorem c11_fn : Tryd.prog.funcs[11]? = some Tryd.f11 := by kernel_rfl
theorem c11_rs : Tryd.f11.results.toList = [.tmp 4] := by kernel_rfl
theorem c11_ok : fnB Tryd.prog H11 Tryd.f11 = true := by kernel_rfl
theorem c11_nt : Tryd.f11.ntmps = 15 := by kernel_rfl

/-! 12: rampart/rampartlaw00.Digits -/
def H12 : Hint := ⟨[(1, [2]), (0, [0])], []⟩
def c12_r0 : List SOp := [
  ⟨(some 2), .assign (.const (.string ⟨#[]⟩)), none⟩]
def c12_r1 : List SOp := [
  ⟨(some 3), .move (.tmp 0), none⟩,
  ⟨(some 4), .call ⟨.value (.func 15), #[(.tmp 3)], #[3]⟩, none⟩,
  ⟨(some 2), .assign (.tmp 4), none⟩]
def c12 : SC := (.seq (.reg c12_r0 none (some [0])) (.seq (.reg c12_r1 none (some [2])) .ret))
theorem c12_eq : ∃ code, Tryd.f12.body = some code ∧ compile H12 code = c12 := ⟨_, rfl, by kernel_rfl⟩
theorem c12_fn : Tryd.prog.funcs[12]? = some Tryd.f12 := by kernel_rfl
theorem c12_rs : Tryd.f12.results.toList = [.tmp 2] := by kernel_rfl
theorem c12_ok : fnB Tryd.prog H12 Tryd.f12 = true := by kernel_rfl
theorem c12_nt : Tryd.f12.ntmps = 5 := by kernel_rfl

/-! 13: (*rampart/lex.text).next -/
def H13 : Hint := ⟨[(20, [2]), (4, []), (7, []), (6, [0]), (9, []), (11, [2]), (13, [2]), (16, [2]), (15, [0]), (19, [2]), (18, [0]), (2, [2]), (2000055, []), (17, [0, 55]), (2000048, []), (14, [0, 3, 48]), (2000043, []), (12, [0, 3, 43]), (2000038, []), (10, [0, 3, 38]), (2000028, []), (8, [0, 3, 28]), (2000016, []), (5, [0, 3, 16]), (2000011, []), (3, [0, 3, 11]), (1, [0, 3]), (0, [0])], []⟩
def c13_r0 : List SOp := [
  ⟨(some 2), .assign (.const (.bool false)), none⟩]
def c13_r1 : List SOp := [
  ⟨(some 4), .move (.tmp 0), none⟩,
  ⟨(some 5), .nilCheck (.tmp 4), none⟩,
  ⟨(some 6), .fieldAddr 47 (.tmp 5) 0, none⟩,
  ⟨(some 7), .load 9 (.tmp 6), none⟩,
  ⟨(some 8), .call ⟨.value (.func 16), #[(.tmp 7)], #[9]⟩, none⟩,
  ⟨(some 3), .assign (.tmp 8), none⟩]
def c13_r3 : List SOp := [
  ⟨(some 12), .move (.tmp 3), none⟩,
  ⟨(some 13), .call ⟨.value (.func 17), #[(.tmp 12)], #[21]⟩, none⟩,
  ⟨(some 11), .assign (.tmp 13), none⟩]
def c13_r4 : List SOp := [
  ⟨(some 14), .move (.tmp 0), none⟩,
  ⟨(some 15), .call ⟨.value (.func 18), #[(.tmp 14), (.const (.int .i64 1))], #[45, 3]⟩, none⟩]
def c13_r5 : List SOp := [
  ⟨(some 17), .move (.tmp 3), none⟩,
  ⟨(some 18), .binOp .eql 21 (.tmp 17) (.const (.int .i32 10)) 21, none⟩,
  ⟨(some 16), .assign (.tmp 18), none⟩]
def c13_r6 : List SOp := [
  ⟨(some 19), .move (.tmp 0), none⟩,
  ⟨(some 20), .call ⟨.value (.func 18), #[(.tmp 19), (.const (.int .i64 1))], #[45, 3]⟩, none⟩]
def c13_r7 : List SOp := [
  ⟨(some 21), .move (.tmp 0), none⟩,
  ⟨(some 22), .nilCheck (.tmp 21), none⟩,
  ⟨(some 23), .fieldAddr 47 (.tmp 22) 1, none⟩,
  ⟨(some 24), .load 3 (.tmp 23), none⟩,
  ⟨(some 25), .binOp .add 3 (.tmp 24) (.const (.int .i64 1)) 3, none⟩,
  ⟨(some 26), .nilCheck (.tmp 21), none⟩,
  ⟨(some 27), .fieldAddr 47 (.tmp 26) 1, none⟩,
  ⟨none, .store 3 (.tmp 27) (.tmp 25), none⟩]
def c13_r8 : List SOp := [
  ⟨(some 29), .move (.tmp 3), none⟩,
  ⟨(some 30), .binOp .eql 21 (.tmp 29) (.const (.int .i32 35)) 21, none⟩,
  ⟨(some 28), .assign (.tmp 30), none⟩]
def c13_r9 : List SOp := [
  ⟨(some 31), .move (.tmp 0), none⟩,
  ⟨(some 32), .move (.tmp 0), none⟩,
  ⟨(some 33), .nilCheck (.tmp 32), none⟩,
  ⟨(some 34), .fieldAddr 47 (.tmp 33) 0, none⟩,
  ⟨(some 35), .load 9 (.tmp 34), none⟩,
  ⟨(some 36), .call ⟨.value (.func 19), #[(.tmp 35), (.func 20)], #[9, 51]⟩, none⟩,
  ⟨(some 37), .call ⟨.value (.func 18), #[(.tmp 31), (.tmp 36)], #[45, 3]⟩, none⟩]
def c13_r10 : List SOp := [
  ⟨(some 39), .move (.tmp 3), none⟩,
  ⟨(some 40), .call ⟨.value (.func 21), #[(.tmp 39)], #[21]⟩, none⟩,
  ⟨(some 38), .assign (.tmp 40), none⟩]
def c13_r11 : List SOp := [
  ⟨(some 41), .move (.tmp 0), none⟩,
  ⟨(some 42), .call ⟨.value (.func 22), #[(.tmp 41), (.const (.int .i64 1))], #[45, 3]⟩, none⟩,
  ⟨(some 2), .assign (.tmp 42), none⟩]
def c13_r12 : List SOp := [
  ⟨(some 44), .move (.tmp 3), none⟩,
  ⟨(some 45), .call ⟨.value (.func 23), #[(.tmp 44)], #[21]⟩, none⟩,
  ⟨(some 43), .assign (.tmp 45), none⟩]
def c13_r13 : List SOp := [
  ⟨(some 46), .move (.tmp 0), none⟩,
  ⟨(some 47), .call ⟨.value (.func 24), #[(.tmp 46)], #[45]⟩, none⟩,
  ⟨(some 2), .assign (.tmp 47), none⟩]
def c13_r14 : List SOp := [
  ⟨(some 49), .move (.tmp 3), none⟩,
  ⟨(some 50), .binOp .eql 21 (.tmp 49) (.const (.int .i32 36)) 21, none⟩,
  ⟨(some 48), .assign (.tmp 50), none⟩]
def c13_r15 : List SOp := [
  ⟨(some 51), .move (.tmp 0), none⟩,
  ⟨(some 52), .call ⟨.value (.func 18), #[(.tmp 51), (.const (.int .i64 1))], #[45, 3]⟩, none⟩]
def c13_r16 : List SOp := [
  ⟨(some 53), .move (.tmp 0), none⟩,
  ⟨(some 54), .call ⟨.value (.func 22), #[(.tmp 53), (.const (.int .i64 5))], #[45, 3]⟩, none⟩,
  ⟨(some 2), .assign (.tmp 54), none⟩]
def c13_r17 : List SOp := [
  ⟨(some 56), .move (.tmp 3), none⟩,
  ⟨(some 57), .binOp .eql 21 (.tmp 56) (.const (.int .i32 34)) 21, none⟩,
  ⟨(some 55), .assign (.tmp 57), none⟩]
def c13_r18 : List SOp := [
  ⟨(some 58), .move (.tmp 0), none⟩,
  ⟨(some 59), .call ⟨.value (.func 18), #[(.tmp 58), (.const (.int .i64 1))], #[45, 3]⟩, none⟩]
def c13_r19 : List SOp := [
  ⟨(some 60), .move (.tmp 0), none⟩,
  ⟨(some 61), .call ⟨.value (.func 25), #[(.tmp 60)], #[45]⟩, none⟩,
  ⟨(some 2), .assign (.tmp 61), none⟩]
def c13_r2 : List SOp := [
  ⟨(some 9), .move (.tmp 0), none⟩,
  ⟨(some 10), .call ⟨.value (.func 26), #[(.tmp 9)], #[45]⟩, none⟩,
  ⟨(some 2), .assign (.tmp 10), none⟩]
def c13_r20 : List SOp := [
  ⟨(some 2), .assign (.const (.bool true)), none⟩]
def c13 : SC := (.seq (.reg c13_r0 none (some [0])) (.seq (.reg c13_r1 none (some [0, 3])) (.seq (.block 0 (.seq (.reg c13_r3 none (some [0, 3, 11])) (.cond (.tmp 11) (.reg c13_r4 none (some [])) (.seq (.reg c13_r5 none (some [0, 3, 16])) (.cond (.tmp 16) (.seq (.reg c13_r6 none (some [0])) (.reg c13_r7 none (some []))) (.seq (.reg c13_r8 none (some [0, 3, 28])) (.cond (.tmp 28) (.reg c13_r9 none (some [])) (.seq (.reg c13_r10 none (some [0, 3, 38])) (.cond (.tmp 38) (.seq (.reg c13_r11 none (some [2])) .ret) (.seq (.reg c13_r12 none (some [0, 3, 43])) (.cond (.tmp 43) (.seq (.reg c13_r13 none (some [2])) .ret) (.seq (.reg c13_r14 none (some [0, 3, 48])) (.cond (.tmp 48) (.seq (.reg c13_r15 none (some [0])) (.seq (.reg c13_r16 none (some [2])) .ret)) (.seq (.reg c13_r17 none (some [0, 55])) (.cond (.tmp 55) (.seq (.reg c13_r18 none (some [0])) (.seq (.reg c13_r19 none (some [2])) .ret)) (.seq (.reg c13_r2 none (some [2])) .ret) (some []))) (some []))) (some []))) (some []))) (some []))) (some []))) (some [])))) (.seq (.reg c13_r20 none (some [2])) .ret))))
theorem c13_eq : ∃ code, Tryd.f13.body = some code ∧ compile H13 code = c13 := ⟨_, rfl, by kernel_rfl⟩
theorem c13_fn : Tryd.prog.funcs[13]? = some Tryd.f13 := by kernel_rfl
theorem c13_rs : Tryd.f13.results.toList = [.tmp 2] := by kernel_rfl
theorem c13_ok : fnB Tryd.prog H13 Tryd.f13 = true := by kernel_rfl
theorem c13_nt : Tryd.f13.ntmps = 62 := by kernel_rfl

/-! 14: rampart/rampartref08.one -/
def H14 : Hint := ⟨[(14, [4, 5, 6]), (13, [1, 4, 17]), (3, [4, 5, 6]), (2, [4, 7, 8]), (6, [4, 5, 6]), (5, [4, 9, 10, 11]), (9, [4, 5, 6]), (8, [4, 12, 13]), (12, [4, 5, 6]), (11, [4, 14, 15, 16]), (2000065, [0, 1, 4]), (10, [0, 1, 4, 65]), (2000048, [0, 1, 4]), (7, [0, 1, 4, 48]), (2000033, [0, 1, 4]), (4, [0, 1, 4, 33]), (2000018, [0, 1, 4]), (1, [0, 1, 4, 18]), (0, [0, 1, 4])], []⟩
def c14_r0 : List SOp := [
  ⟨(some 4), .alloc 31, none⟩,
  ⟨(some 5), .assign (.const (.int .i64 0)), none⟩,
  ⟨(some 6), .assign (.const (.bool false)), none⟩]
def c14_r1 : List SOp := [
  ⟨(some 19), .move (.tmp 0), none⟩,
  ⟨(some 20), .move (.tmp 1), none⟩,
  ⟨(some 21), .call ⟨.value (.func 27), #[(.tmp 19), (.tmp 20)], #[9, 3]⟩, none⟩,
  ⟨(some 18), .assign (.tmp 21), none⟩]
def c14_r2 : List SOp := [
  ⟨(some 23), .move (.tmp 0), none⟩,
  ⟨(some 24), .move (.tmp 1), none⟩,
  ⟨(some 25), .call ⟨.value (.func 28), #[(.tmp 23), (.tmp 24)], #[9, 3]⟩, none⟩,
  ⟨(some 22), .move (.tmp 25), none⟩,
  ⟨(some 26), .extract (.tmp 22) 0, none⟩,
  ⟨(some 27), .extract (.tmp 22) 1, none⟩,
  ⟨(some 7), .assign (.tmp 26), none⟩,
  ⟨(some 8), .assign (.tmp 27), none⟩]
def c14_r3 : List SOp := [
  ⟨(some 28), .move (.tmp 7), none⟩,
  ⟨(some 29), .build 31 #[(0, (.const (.int .i64 1))), (1, (.tmp 28))], none⟩,
  ⟨(some 30), .move (.tmp 8), none⟩,
  ⟨(some 31), .move (.tmp 7), none⟩,
  ⟨(some 32), .binOp .neq 9 (.tmp 31) (.const (.string ⟨#[]⟩)) 9, none⟩,
  ⟨none, .store 31 (.tmp 4) (.tmp 29), none⟩,
  ⟨(some 5), .assign (.tmp 30), none⟩,
  ⟨(some 6), .assign (.tmp 32), none⟩]
def c14_r4 : List SOp := [
  ⟨(some 34), .move (.tmp 0), none⟩,
  ⟨(some 35), .move (.tmp 1), none⟩,
  ⟨(some 36), .call ⟨.value (.func 29), #[(.tmp 34), (.tmp 35)], #[9, 3]⟩, none⟩,
  ⟨(some 33), .assign (.tmp 36), none⟩]
def c14_r5 : List SOp := [
  ⟨(some 38), .move (.tmp 0), none⟩,
  ⟨(some 39), .move (.tmp 1), none⟩,
  ⟨(some 40), .call ⟨.value (.func 30), #[(.tmp 38), (.tmp 39)], #[9, 3]⟩, none⟩,
  ⟨(some 37), .move (.tmp 40), none⟩,
  ⟨(some 41), .extract (.tmp 37) 0, none⟩,
  ⟨(some 42), .extract (.tmp 37) 1, none⟩,
  ⟨(some 43), .extract (.tmp 37) 2, none⟩,
  ⟨(some 9), .assign (.tmp 41), none⟩,
  ⟨(some 10), .assign (.tmp 42), none⟩,
  ⟨(some 11), .assign (.tmp 43), none⟩]
def c14_r6 : List SOp := [
  ⟨(some 44), .move (.tmp 9), none⟩,
  ⟨(some 45), .build 31 #[(0, (.const (.int .i64 2))), (2, (.tmp 44))], none⟩,
  ⟨(some 46), .move (.tmp 10), none⟩,
  ⟨(some 47), .move (.tmp 11), none⟩,
  ⟨none, .store 31 (.tmp 4) (.tmp 45), none⟩,
  ⟨(some 5), .assign (.tmp 46), none⟩,
  ⟨(some 6), .assign (.tmp 47), none⟩]
def c14_r7 : List SOp := [
  ⟨(some 49), .move (.tmp 0), none⟩,
  ⟨(some 50), .move (.tmp 1), none⟩,
  ⟨(some 51), .index 9 (.tmp 49) (.tmp 50), none⟩,
  ⟨(some 52), .binOp .eql 5 (.tmp 51) (.const (.int .u8 36)) 5, none⟩,
  ⟨(some 48), .assign (.tmp 52), none⟩]
def c14_r8 : List SOp := [
  ⟨(some 54), .move (.tmp 0), none⟩,
  ⟨(some 55), .move (.tmp 1), none⟩,
  ⟨(some 56), .binOp .add 3 (.tmp 55) (.const (.int .i64 1)) 3, none⟩,
  ⟨(some 57), .call ⟨.value (.func 28), #[(.tmp 54), (.tmp 56)], #[9, 3]⟩, none⟩,
  ⟨(some 53), .move (.tmp 57), none⟩,
  ⟨(some 58), .extract (.tmp 53) 0, none⟩,
  ⟨(some 59), .extract (.tmp 53) 1, none⟩,
  ⟨(some 12), .assign (.tmp 58), none⟩,
  ⟨(some 13), .assign (.tmp 59), none⟩]
def c14_r9 : List SOp := [
  ⟨(some 60), .move (.tmp 12), none⟩,
  ⟨(some 61), .build 31 #[(0, (.const (.int .i64 5))), (1, (.tmp 60))], none⟩,
  ⟨(some 62), .move (.tmp 13), none⟩,
  ⟨(some 63), .move (.tmp 12), none⟩,
  ⟨(some 64), .binOp .neq 9 (.tmp 63) (.const (.string ⟨#[]⟩)) 9, none⟩,
  ⟨none, .store 31 (.tmp 4) (.tmp 61), none⟩,
  ⟨(some 5), .assign (.tmp 62), none⟩,
  ⟨(some 6), .assign (.tmp 64), none⟩]
def c14_r10 : List SOp := [
  ⟨(some 66), .move (.tmp 0), none⟩,
  ⟨(some 67), .move (.tmp 1), none⟩,
  ⟨(some 68), .index 9 (.tmp 66) (.tmp 67), none⟩,
  ⟨(some 69), .binOp .eql 5 (.tmp 68) (.const (.int .u8 34)) 5, none⟩,
  ⟨(some 65), .assign (.tmp 69), none⟩]
def c14_r11 : List SOp := [
  ⟨(some 71), .move (.tmp 0), none⟩,
  ⟨(some 72), .move (.tmp 1), none⟩,
  ⟨(some 73), .binOp .add 3 (.tmp 72) (.const (.int .i64 1)) 3, none⟩,
  ⟨(some 74), .call ⟨.value (.func 31), #[(.tmp 71), (.tmp 73)], #[9, 3]⟩, none⟩,
  ⟨(some 70), .move (.tmp 74), none⟩,
  ⟨(some 75), .extract (.tmp 70) 0, none⟩,
  ⟨(some 76), .extract (.tmp 70) 1, none⟩,
  ⟨(some 77), .extract (.tmp 70) 2, none⟩,
  ⟨(some 14), .assign (.tmp 75), none⟩,
  ⟨(some 15), .assign (.tmp 76), none⟩,
  ⟨(some 16), .assign (.tmp 77), none⟩]
def c14_r12 : List SOp := [
  ⟨(some 78), .move (.tmp 14), none⟩,
  ⟨(some 79), .build 31 #[(0, (.const (.int .i64 3))), (1, (.tmp 78))], none⟩,
  ⟨(some 80), .move (.tmp 15), none⟩,
  ⟨(some 81), .move (.tmp 16), none⟩,
  ⟨none, .store 31 (.tmp 4) (.tmp 79), none⟩,
  ⟨(some 5), .assign (.tmp 80), none⟩,
  ⟨(some 6), .assign (.tmp 81), none⟩]
def c14_r13 : List SOp := [
  ⟨(some 82), .move (.tmp 0), none⟩,
  ⟨(some 83), .move (.tmp 1), none⟩,
  ⟨(some 84), .call ⟨.value (.func 32), #[(.tmp 82), (.tmp 83)], #[9, 3]⟩, none⟩,
  ⟨(some 17), .assign (.tmp 84), none⟩]
def c14_r14 : List SOp := [
  ⟨(some 85), .move (.tmp 17), none⟩,
  ⟨(some 86), .build 31 #[(0, (.const (.int .i64 4))), (1, (.tmp 85))], none⟩,
  ⟨(some 87), .move (.tmp 1), none⟩,
  ⟨(some 88), .move (.tmp 17), none⟩,
  ⟨(some 89), .call ⟨.builtin .len, #[(.tmp 88)], #[9]⟩, none⟩,
  ⟨(some 90), .binOp .add 3 (.tmp 87) (.tmp 89) 3, none⟩,
  ⟨(some 91), .move (.tmp 17), none⟩,
  ⟨(some 92), .binOp .neq 9 (.tmp 91) (.const (.string ⟨#[]⟩)) 9, none⟩,
  ⟨none, .store 31 (.tmp 4) (.tmp 86), none⟩,
  ⟨(some 5), .assign (.tmp 90), none⟩,
  ⟨(some 6), .assign (.tmp 92), none⟩]
def c14 : SC := (.seq (.reg c14_r0 none (some [0, 1, 4])) (.seq (.block 0 (.seq (.reg c14_r1 none (some [0, 1, 4, 18])) (.cond (.tmp 18) (.seq (.reg c14_r2 none (some [4, 7, 8])) (.seq (.reg c14_r3 none (some [4, 5, 6])) .ret)) (.seq (.reg c14_r4 none (some [0, 1, 4, 33])) (.cond (.tmp 33) (.seq (.reg c14_r5 none (some [4, 9, 10, 11])) (.seq (.reg c14_r6 none (some [4, 5, 6])) .ret)) (.seq (.reg c14_r7 none (some [0, 1, 4, 48])) (.cond (.tmp 48) (.seq (.reg c14_r8 none (some [4, 12, 13])) (.seq (.reg c14_r9 none (some [4, 5, 6])) .ret)) (.seq (.reg c14_r10 none (some [0, 1, 4, 65])) (.cond (.tmp 65) (.seq (.reg c14_r11 none (some [4, 14, 15, 16])) (.seq (.reg c14_r12 none (some [4, 5, 6])) .ret)) .skip (some [0, 1, 4]))) (some [0, 1, 4]))) (some [0, 1, 4]))) (some [0, 1, 4])))) (.seq (.reg c14_r13 none (some [1, 4, 17])) (.seq (.reg c14_r14 none (some [4, 5, 6])) .ret))))
theorem c14_eq : ∃ code, Tryd.f14.body = some code ∧ compile H14 code = c14 := ⟨_, rfl, by kernel_rfl⟩
theorem c14_fn : Tryd.prog.funcs[14]? = some Tryd.f14 := by kernel_rfl
theorem c14_rs : Tryd.f14.results.toList = [.cell 4 31, .tmp 5, .tmp 6] := by kernel_rfl
theorem c14_ok : fnB Tryd.prog H14 Tryd.f14 = true := by kernel_rfl
theorem c14_nt : Tryd.f14.ntmps = 93 := by kernel_rfl

/-! 15: rampart/rampartref09.Dec -/
def H15 : Hint := ⟨[(3, [2]), (2, [2]), (2000004, [0]), (1, [0, 4]), (0, [0])], []⟩
def c15_r0 : List SOp := [
  ⟨(some 2), .assign (.const (.string ⟨#[]⟩)), none⟩]
def c15_r1 : List SOp := [
  ⟨(some 3), .move (.tmp 0), none⟩,
  ⟨(some 4), .binOp .lss 3 (.tmp 3) (.const (.int .i64 10)) 3, none⟩]
def c15_r2 : List SOp := [
  ⟨(some 5), .move (.tmp 0), none⟩,
  ⟨(some 6), .move (.tmp 0), none⟩,
  ⟨(some 7), .binOp .add 3 (.tmp 6) (.const (.int .i64 1)) 3, none⟩,
  ⟨(some 8), .slice 9 (.const (.string ⟨#[48, 49, 50, 51, 52, 53, 54, 55, 56, 57]⟩)) (some (.tmp 5)) (some (.tmp 7)) none, none⟩,
  ⟨(some 2), .assign (.tmp 8), none⟩]
def c15_r3 : List SOp := [
  ⟨(some 9), .move (.tmp 0), none⟩,
  ⟨(some 10), .binOp .quo 3 (.tmp 9) (.const (.int .i64 10)) 3, none⟩,
  ⟨(some 11), .call ⟨.value (.func 15), #[(.tmp 10)], #[3]⟩, none⟩,
  ⟨(some 12), .move (.tmp 0), none⟩,
  ⟨(some 13), .binOp .rem 3 (.tmp 12) (.const (.int .i64 10)) 3, none⟩,
  ⟨(some 14), .move (.tmp 0), none⟩,
  ⟨(some 15), .binOp .rem 3 (.tmp 14) (.const (.int .i64 10)) 3, none⟩,
  ⟨(some 16), .binOp .add 3 (.tmp 15) (.const (.int .i64 1)) 3, none⟩,
  ⟨(some 17), .slice 9 (.const (.string ⟨#[48, 49, 50, 51, 52, 53, 54, 55, 56, 57]⟩)) (some (.tmp 13)) (some (.tmp 16)) none, none⟩,
  ⟨(some 18), .binOp .add 9 (.tmp 11) (.tmp 17) 9, none⟩,
  ⟨(some 2), .assign (.tmp 18), none⟩]
def c15 : SC := (.seq (.reg c15_r0 none (some [0])) (.seq (.seq (.reg c15_r1 none (some [0, 4])) (.cond (.tmp 4) (.seq (.reg c15_r2 none (some [2])) .ret) .skip (some [0]))) (.seq (.reg c15_r3 none (some [2])) .ret)))
theorem c15_eq : ∃ code, Tryd.f15.body = some code ∧ compile H15 code = c15 := ⟨_, rfl, by kernel_rfl⟩
theorem c15_fn : Tryd.prog.funcs[15]? = some Tryd.f15 := by kernel_rfl
theorem c15_rs : Tryd.f15.results.toList = [.tmp 2] := by kernel_rfl
theorem c15_ok : fnB Tryd.prog H15 Tryd.f15 = true := by kernel_rfl
theorem c15_nt : Tryd.f15.ntmps = 19 := by kernel_rfl

/-! 16: rampart/lex.first -/
def H16 : Hint := ⟨[(5, [2]), (4, [2]), (3, [4]), (2000008, [7]), (2, [7, 8]), (1000002, [6]), (1, [6]), (0, [0])], []⟩
def c16_r0 : List SOp := [
  ⟨(some 2), .assign (.const (.int .i32 0)), none⟩]
def c16_r1 : List SOp := [
  ⟨(some 5), .move (.tmp 0), none⟩,
  ⟨(some 6), .range 9 (.tmp 5), none⟩]
def c16_r2 : List SOp := [
  ⟨(some 7), .next (.tmp 6) true, none⟩,
  ⟨(some 8), .extract (.tmp 7) 0, none⟩]
def c16_r3 : List SOp := [
  ⟨(some 9), .extract (.tmp 7) 2, none⟩,
  ⟨(some 4), .assign (.tmp 9), none⟩]
def c16_r4 : List SOp := [
  ⟨(some 10), .move (.tmp 4), none⟩,
  ⟨(some 2), .assign (.tmp 10), none⟩]
def c16_l2 : SC := (.seq (.reg c16_r2 none (some [7, 8])) (.seq (.cond (.tmp 8) .skip (.exit 0) (some [7])) (.block 1 (.seq (.reg c16_r3 none (some [4])) (.seq (.reg c16_r4 none (some [2])) .ret)))))
def c16_r5 : List SOp := [
  ⟨(some 2), .assign (.const (.int .i32 0)), none⟩]
def c16 : SC := (.seq (.reg c16_r0 none (some [0])) (.seq (.seq (.reg c16_r1 none (some [6])) (.block 0 (.loop c16_l2 (some [6])))) (.seq (.reg c16_r5 none (some [2])) .ret)))
theorem c16_eq : ∃ code, Tryd.f16.body = some code ∧ compile H16 code = c16 := ⟨_, rfl, by kernel_rfl⟩
theorem c16_fn : Tryd.prog.funcs[16]? = some Tryd.f16 := by kernel_rfl
theorem c16_rs : Tryd.f16.results.toList = [.tmp 2] := by kernel_rfl
theorem c16_ok : fnB Tryd.prog H16 Tryd.f16 = true := by kernel_rfl
theorem c16_nt : Tryd.f16.ntmps = 11 := by kernel_rfl

/-! 17: rampart/lex.blank -/
def H17 : Hint := ⟨[(1, [2]), (0, [0])], []⟩
def c17_r0 : List SOp := [
  ⟨(some 2), .assign (.const (.bool false)), none⟩]
def c17_r1 : List SOp := [
  ⟨(some 3), .move (.tmp 0), none⟩,
  ⟨(some 4), .binOp .eql 21 (.tmp 3) (.const (.int .i32 32)) 21, none⟩,
  ⟨(some 5), .move (.tmp 4), none⟩,
  ⟨(some 6), .move (.tmp 0), (some ((some 5), false))⟩,
  ⟨(some 7), .binOp .eql 21 (.tmp 6) (.const (.int .i32 9)) 21, (some ((some 5), false))⟩,
  ⟨(some 8), .pick (.tmp 5) (.const (.bool true)) (.tmp 7), none⟩,
  ⟨(some 9), .move (.tmp 8), none⟩,
  ⟨(some 10), .move (.tmp 0), (some ((some 9), false))⟩,
  ⟨(some 11), .binOp .eql 21 (.tmp 10) (.const (.int .i32 13)) 21, (some ((some 9), false))⟩,
  ⟨(some 12), .pick (.tmp 9) (.const (.bool true)) (.tmp 11), none⟩,
  ⟨(some 2), .assign (.tmp 12), none⟩]
def c17 : SC := (.seq (.reg c17_r0 none (some [0])) (.seq (.reg c17_r1 none (some [2])) .ret))
theorem c17_eq : ∃ code, Tryd.f17.body = some code ∧ compile H17 code = c17 := ⟨_, rfl, by kernel_rfl⟩
theorem c17_fn : Tryd.prog.funcs[17]? = some Tryd.f17 := by kernel_rfl
theorem c17_rs : Tryd.f17.results.toList = [.tmp 2] := by kernel_rfl
theorem c17_ok : fnB Tryd.prog H17 Tryd.f17 = true := by kernel_rfl
theorem c17_nt : Tryd.f17.ntmps = 13 := by kernel_rfl

/-! 18: (*rampart/lex.text).take -/
def H18 : Hint := ⟨[(3, [4]), (2, [5]), (1, [0, 1, 5]), (0, [0, 1])], []⟩
def c18_r0 : List SOp := [
  ⟨(some 4), .assign (.const (.string ⟨#[]⟩)), none⟩]
def c18_r1 : List SOp := [
  ⟨(some 6), .move (.tmp 0), none⟩,
  ⟨(some 7), .nilCheck (.tmp 6), none⟩,
  ⟨(some 8), .fieldAddr 47 (.tmp 7) 0, none⟩,
  ⟨(some 9), .load 9 (.tmp 8), none⟩,
  ⟨(some 10), .move (.tmp 1), none⟩,
  ⟨(some 11), .slice 9 (.tmp 9) none (some (.tmp 10)) none, none⟩,
  ⟨(some 5), .assign (.tmp 11), none⟩]
def c18_r2 : List SOp := [
  ⟨(some 12), .move (.tmp 0), none⟩,
  ⟨(some 13), .move (.tmp 0), none⟩,
  ⟨(some 14), .nilCheck (.tmp 13), none⟩,
  ⟨(some 15), .fieldAddr 47 (.tmp 14) 0, none⟩,
  ⟨(some 16), .load 9 (.tmp 15), none⟩,
  ⟨(some 17), .move (.tmp 1), none⟩,
  ⟨(some 18), .slice 9 (.tmp 16) (some (.tmp 17)) none none, none⟩,
  ⟨(some 19), .nilCheck (.tmp 12), none⟩,
  ⟨(some 20), .fieldAddr 47 (.tmp 19) 0, none⟩,
  ⟨none, .store 9 (.tmp 20) (.tmp 18), none⟩]
def c18_r3 : List SOp := [
  ⟨(some 21), .move (.tmp 5), none⟩,
  ⟨(some 4), .assign (.tmp 21), none⟩]
def c18 : SC := (.seq (.reg c18_r0 none (some [0, 1])) (.seq (.reg c18_r1 none (some [0, 1, 5])) (.seq (.reg c18_r2 none (some [5])) (.seq (.reg c18_r3 none (some [4])) .ret))))
theorem c18_eq : ∃ code, Tryd.f18.body = some code ∧ compile H18 code = c18 := ⟨_, rfl, by kernel_rfl⟩
theorem c18_fn : Tryd.prog.funcs[18]? = some Tryd.f18 := by kernel_rfl
theorem c18_rs : Tryd.f18.results.toList = [.tmp 4] := by kernel_rfl
theorem c18_ok : fnB Tryd.prog H18 Tryd.f18 = true := by kernel_rfl
theorem c18_nt : Tryd.f18.ntmps = 22 := by kernel_rfl

/-! 19: rampart/lex.span -/
def H19 : Hint := ⟨[(6, [4]), (5, [4]), (2000016, [0, 1, 8]), (4, [0, 1, 5, 8, 16]), (3, [0, 1, 5, 6, 8]), (2000010, [0, 1, 8, 9]), (2, [0, 1, 8, 9, 10]), (1000002, [0, 1, 8]), (1, [0, 1, 8]), (0, [0, 1])], []⟩
def c19_r0 : List SOp := [
  ⟨(some 4), .assign (.const (.int .i64 0)), none⟩]
def c19_r1 : List SOp := [
  ⟨(some 7), .move (.tmp 0), none⟩,
  ⟨(some 8), .range 9 (.tmp 7), none⟩]
def c19_r2 : List SOp := [
  ⟨(some 9), .next (.tmp 8) true, none⟩,
  ⟨(some 10), .extract (.tmp 9) 0, none⟩]
def c19_r3 : List SOp := [
  ⟨(some 11), .extract (.tmp 9) 1, none⟩,
  ⟨(some 12), .extract (.tmp 9) 2, none⟩,
  ⟨(some 5), .assign (.tmp 11), none⟩,
  ⟨(some 6), .assign (.tmp 12), none⟩]
def c19_r4 : List SOp := [
  ⟨(some 13), .move (.tmp 1), none⟩,
  ⟨(some 14), .move (.tmp 6), none⟩,
  ⟨(some 15), .call ⟨.value (.tmp 13), #[(.tmp 14)], #[21]⟩, none⟩,
  ⟨(some 16), .unOp .not 4 (.tmp 15), none⟩]
def c19_r5 : List SOp := [
  ⟨(some 17), .move (.tmp 5), none⟩,
  ⟨(some 4), .assign (.tmp 17), none⟩]
def c19_l2 : SC := (.seq (.reg c19_r2 none (some [0, 1, 8, 9, 10])) (.seq (.cond (.tmp 10) .skip (.exit 0) (some [0, 1, 8, 9])) (.block 1 (.seq (.reg c19_r3 none (some [0, 1, 5, 6, 8])) (.seq (.reg c19_r4 none (some [0, 1, 5, 8, 16])) (.cond (.tmp 16) (.seq (.reg c19_r5 none (some [4])) .ret) .skip (some [0, 1, 8])))))))
def c19_r6 : List SOp := [
  ⟨(some 18), .move (.tmp 0), none⟩,
  ⟨(some 19), .call ⟨.builtin .len, #[(.tmp 18)], #[9]⟩, none⟩,
  ⟨(some 4), .assign (.tmp 19), none⟩]
def c19 : SC := (.seq (.reg c19_r0 none (some [0, 1])) (.seq (.seq (.reg c19_r1 none (some [0, 1, 8])) (.block 0 (.loop c19_l2 (some [0, 1, 8])))) (.seq (.reg c19_r6 none (some [4])) .ret)))
theorem c19_eq : ∃ code, Tryd.f19.body = some code ∧ compile H19 code = c19 := ⟨_, rfl, by kernel_rfl⟩
theorem c19_fn : Tryd.prog.funcs[19]? = some Tryd.f19 := by kernel_rfl
theorem c19_rs : Tryd.f19.results.toList = [.tmp 4] := by kernel_rfl
theorem c19_ok : fnB Tryd.prog H19 Tryd.f19 = true := by kernel_rfl
theorem c19_nt : Tryd.f19.ntmps = 20 := by kernel_rfl

/-! 20: (*rampart/lex.text).next$1 -/
def H20 : Hint := ⟨[(1, [2]), (0, [0])], []⟩
def c20_r0 : List SOp := [
  ⟨(some 2), .assign (.const (.bool false)), none⟩]
def c20_r1 : List SOp := [
  ⟨(some 3), .move (.tmp 0), none⟩,
  ⟨(some 4), .binOp .neq 21 (.tmp 3) (.const (.int .i32 10)) 21, none⟩,
  ⟨(some 2), .assign (.tmp 4), none⟩]
def c20 : SC := (.seq (.reg c20_r0 none (some [0])) (.seq (.reg c20_r1 none (some [2])) .ret))
theorem c20_eq : ∃ code, Tryd.f20.body = some code ∧ compile H20 code = c20 := ⟨_, rfl, by kernel_rfl⟩
theorem c20_fn : Tryd.prog.funcs[20]? = some Tryd.f20 := by kernel_rfl
theorem c20_rs : Tryd.f20.results.toList = [.tmp 2] := by kernel_rfl
theorem c20_ok : fnB Tryd.prog H20 Tryd.f20 = true := by kernel_rfl
theorem c20_nt : Tryd.f20.ntmps = 5 := by kernel_rfl

/-! 21: rampart/lex.letter -/
def H21 : Hint := ⟨[(1, [2]), (0, [0])], []⟩
def c21_r0 : List SOp := [
  ⟨(some 2), .assign (.const (.bool false)), none⟩]
def c21_r1 : List SOp := [
  ⟨(some 3), .move (.tmp 0), none⟩,
  ⟨(some 4), .binOp .geq 21 (.tmp 3) (.const (.int .i32 97)) 21, none⟩,
  ⟨(some 5), .move (.tmp 4), none⟩,
  ⟨(some 6), .move (.tmp 0), (some ((some 5), true))⟩,
  ⟨(some 7), .binOp .leq 21 (.tmp 6) (.const (.int .i32 122)) 21, (some ((some 5), true))⟩,
  ⟨(some 8), .pick (.tmp 5) (.tmp 7) (.const (.bool false)), none⟩,
  ⟨(some 9), .move (.tmp 8), none⟩,
  ⟨(some 10), .move (.tmp 0), (some ((some 9), false))⟩,
  ⟨(some 11), .binOp .geq 21 (.tmp 10) (.const (.int .i32 65)) 21, (some ((some 9), false))⟩,
  ⟨(some 12), .move (.tmp 11), (some ((some 9), false))⟩,
  ⟨(some 13), .move (.tmp 0), (some ((some 12), true))⟩,
  ⟨(some 14), .binOp .leq 21 (.tmp 13) (.const (.int .i32 90)) 21, (some ((some 12), true))⟩,
  ⟨(some 15), .pick (.tmp 12) (.tmp 14) (.const (.bool false)), (some ((some 9), false))⟩,
  ⟨(some 16), .pick (.tmp 9) (.const (.bool true)) (.tmp 15), none⟩,
  ⟨(some 2), .assign (.tmp 16), none⟩]
def c21 : SC := (.seq (.reg c21_r0 none (some [0])) (.seq (.reg c21_r1 none (some [2])) .ret))
theorem c21_eq : ∃ code, Tryd.f21.body = some code ∧ compile H21 code = c21 := ⟨_, rfl, by kernel_rfl⟩
theorem c21_fn : Tryd.prog.funcs[21]? = some Tryd.f21 := by kernel_rfl
theorem c21_rs : Tryd.f21.results.toList = [.tmp 2] := by kernel_rfl
theorem c21_ok : fnB Tryd.prog H21 Tryd.f21 = true := by kernel_rfl
theorem c21_nt : Tryd.f21.ntmps = 17 := by kernel_rfl

/-! 22: (*rampart/lex.text).word -/
def H22 : Hint := ⟨[(5, [4]), (4, [5]), (3, [0, 1, 5]), (2, [4]), (2000012, [0, 1]), (1, [0, 1, 12]), (0, [0, 1])], []⟩
def c22_r0 : List SOp := [
  ⟨(some 4), .assign (.const (.bool false)), none⟩]
def c22_r1 : List SOp := [
  ⟨(some 6), .move (.tmp 0), none⟩,
  ⟨(some 7), .nilCheck (.tmp 6), none⟩,
  ⟨(some 8), .fieldAddr 47 (.tmp 7) 0, none⟩,
  ⟨(some 9), .load 9 (.tmp 8), none⟩,
  ⟨(some 10), .call ⟨.value (.func 16), #[(.tmp 9)], #[9]⟩, none⟩,
  ⟨(some 11), .call ⟨.value (.func 21), #[(.tmp 10)], #[21]⟩, none⟩,
  ⟨(some 12), .unOp .not 4 (.tmp 11), none⟩]
def c22_r2 : List SOp := [
  ⟨(some 4), .assign (.const (.bool false)), none⟩]
def c22_r3 : List SOp := [
  ⟨(some 13), .move (.tmp 0), none⟩,
  ⟨(some 14), .move (.tmp 0), none⟩,
  ⟨(some 15), .nilCheck (.tmp 14), none⟩,
  ⟨(some 16), .fieldAddr 47 (.tmp 15) 0, none⟩,
  ⟨(some 17), .load 9 (.tmp 16), none⟩,
  ⟨(some 18), .call ⟨.value (.func 19), #[(.tmp 17), (.func 33)], #[9, 51]⟩, none⟩,
  ⟨(some 19), .call ⟨.value (.func 18), #[(.tmp 13), (.tmp 18)], #[45, 3]⟩, none⟩,
  ⟨(some 5), .assign (.tmp 19), none⟩]
def c22_r4 : List SOp := [
  ⟨(some 20), .move (.tmp 0), none⟩,
  ⟨(some 21), .move (.tmp 1), none⟩,
  ⟨(some 22), .move (.tmp 5), none⟩,
  ⟨(some 23), .call ⟨.value (.func 35), #[(.tmp 22)], #[9]⟩, none⟩,
  ⟨(some 24), .call ⟨.value (.func 34), #[(.tmp 20), (.tmp 21), (.tmp 23), (.const (.int .i64 0))], #[45, 3, 9, 3]⟩, none⟩]
def c22_r5 : List SOp := [
  ⟨(some 25), .move (.tmp 5), none⟩,
  ⟨(some 26), .call ⟨.builtin .len, #[(.tmp 25)], #[9]⟩, none⟩,
  ⟨(some 27), .binOp .leq 3 (.tmp 26) (.const (.int .i64 20)) 3, none⟩,
  ⟨(some 4), .assign (.tmp 27), none⟩]
def c22 : SC := (.seq (.reg c22_r0 none (some [0, 1])) (.seq (.seq (.reg c22_r1 none (some [0, 1, 12])) (.cond (.tmp 12) (.seq (.reg c22_r2 none (some [4])) .ret) .skip (some [0, 1]))) (.seq (.reg c22_r3 none (some [0, 1, 5])) (.seq (.reg c22_r4 none (some [5])) (.seq (.reg c22_r5 none (some [4])) .ret)))))
theorem c22_eq : ∃ code, Tryd.f22.body = some code ∧ compile H22 code = c22 := ⟨_, rfl, by kernel_rfl⟩
theorem c22_fn : Tryd.prog.funcs[22]? = some Tryd.f22 := by kernel_rfl
theorem c22_rs : Tryd.f22.results.toList = [.tmp 4] := by kernel_rfl
theorem c22_ok : fnB Tryd.prog H22 Tryd.f22 = true := by kernel_rfl
theorem c22_nt : Tryd.f22.ntmps = 28 := by kernel_rfl

/-! 23: rampart/lex.digit -/
def H23 : Hint := ⟨[(1, [2]), (0, [0])], []⟩
def c23_r0 : List SOp := [
  ⟨(some 2), .assign (.const (.bool false)), none⟩]
def c23_r1 : List SOp := [
  ⟨(some 3), .move (.tmp 0), none⟩,
  ⟨(some 4), .binOp .geq 21 (.tmp 3) (.const (.int .i32 48)) 21, none⟩,
  ⟨(some 5), .move (.tmp 4), none⟩,
  ⟨(some 6), .move (.tmp 0), (some ((some 5), true))⟩,
  ⟨(some 7), .binOp .leq 21 (.tmp 6) (.const (.int .i32 57)) 21, (some ((some 5), true))⟩,
  ⟨(some 8), .pick (.tmp 5) (.tmp 7) (.const (.bool false)), none⟩,
  ⟨(some 2), .assign (.tmp 8), none⟩]
def c23 : SC := (.seq (.reg c23_r0 none (some [0])) (.seq (.reg c23_r1 none (some [2])) .ret))
theorem c23_eq : ∃ code, Tryd.f23.body = some code ∧ compile H23 code = c23 := ⟨_, rfl, by kernel_rfl⟩
theorem c23_fn : Tryd.prog.funcs[23]? = some Tryd.f23 := by kernel_rfl
theorem c23_rs : Tryd.f23.results.toList = [.tmp 2] := by kernel_rfl
theorem c23_ok : fnB Tryd.prog H23 Tryd.f23 = true := by kernel_rfl
theorem c23_nt : Tryd.f23.ntmps = 9 := by kernel_rfl

/-! 24: (*rampart/lex.text).number -/
def H24 : Hint := ⟨[(7, [2]), (6, [0, 3]), (5, [0, 3, 13]), (4, [0, 3, 5, 13]), (2000015, [0, 3, 13, 14]), (3, [0, 3, 13, 14, 15]), (1000003, [0, 3, 13]), (2, [0, 3, 13]), (1, [0, 3]), (0, [0])], []⟩
def c24_r0 : List SOp := [
  ⟨(some 2), .assign (.const (.bool false)), none⟩]
def c24_r1 : List SOp := [
  ⟨(some 3), .assign (.const (.int .i64 0)), none⟩]
def c24_r2 : List SOp := [
  ⟨(some 6), .move (.tmp 0), none⟩,
  ⟨(some 7), .move (.tmp 0), none⟩,
  ⟨(some 8), .nilCheck (.tmp 7), none⟩,
  ⟨(some 9), .fieldAddr 47 (.tmp 8) 0, none⟩,
  ⟨(some 10), .load 9 (.tmp 9), none⟩,
  ⟨(some 11), .call ⟨.value (.func 19), #[(.tmp 10), (.func 23)], #[9, 51]⟩, none⟩,
  ⟨(some 12), .call ⟨.value (.func 18), #[(.tmp 6), (.tmp 11)], #[45, 3]⟩, none⟩,
  ⟨(some 13), .range 9 (.tmp 12), none⟩]
def c24_r3 : List SOp := [
  ⟨(some 14), .next (.tmp 13) true, none⟩,
  ⟨(some 15), .extract (.tmp 14) 0, none⟩]
def c24_r4 : List SOp := [
  ⟨(some 16), .extract (.tmp 14) 2, none⟩,
  ⟨(some 5), .assign (.tmp 16), none⟩]
def c24_r5 : List SOp := [
  ⟨(some 17), .move (.tmp 3), none⟩,
  ⟨(some 18), .binOp .mul 3 (.tmp 17) (.const (.int .i64 10)) 3, none⟩,
  ⟨(some 19), .move (.tmp 5), none⟩,
  ⟨(some 20), .binOp .sub 21 (.tmp 19) (.const (.int .i32 48)) 21, none⟩,
  ⟨(some 21), .convert 21 3 (.tmp 20), none⟩,
  ⟨(some 22), .binOp .add 3 (.tmp 18) (.tmp 21) 3, none⟩,
  ⟨(some 23), .call ⟨.builtin .min, #[(.tmp 22), (.const (.int .i64 1000000000000))], #[3, 3]⟩, none⟩,
  ⟨(some 3), .assign (.tmp 23), none⟩]
def c24_l3 : SC := (.seq (.reg c24_r3 none (some [0, 3, 13, 14, 15])) (.seq (.cond (.tmp 15) .skip (.exit 0) (some [0, 3, 13, 14])) (.block 1 (.seq (.reg c24_r4 none (some [0, 3, 5, 13])) (.reg c24_r5 none (some [0, 3, 13]))))))
def c24_r6 : List SOp := [
  ⟨(some 24), .move (.tmp 0), none⟩,
  ⟨(some 25), .move (.tmp 3), none⟩,
  ⟨(some 26), .call ⟨.value (.func 34), #[(.tmp 24), (.const (.int .i64 2)), (.const (.string ⟨#[]⟩)), (.tmp 25)], #[45, 3, 9, 3]⟩, none⟩]
def c24_r7 : List SOp := [
  ⟨(some 27), .move (.tmp 3), none⟩,
  ⟨(some 28), .binOp .leq 3 (.tmp 27) (.const (.int .i64 999999999999)) 3, none⟩,
  ⟨(some 29), .move (.tmp 28), none⟩,
  ⟨(some 30), .move (.tmp 0), (some ((some 29), true))⟩,
  ⟨(some 31), .nilCheck (.tmp 30), (some ((some 29), true))⟩,
  ⟨(some 32), .fieldAddr 47 (.tmp 31) 0, (some ((some 29), true))⟩,
  ⟨(some 33), .load 9 (.tmp 32), (some ((some 29), true))⟩,
  ⟨(some 34), .call ⟨.value (.func 16), #[(.tmp 33)], #[9]⟩, (some ((some 29), true))⟩,
  ⟨(some 35), .call ⟨.value (.func 21), #[(.tmp 34)], #[21]⟩, (some ((some 29), true))⟩,
  ⟨(some 36), .unOp .not 4 (.tmp 35), (some ((some 29), true))⟩,
  ⟨(some 37), .pick (.tmp 29) (.tmp 36) (.const (.bool false)), none⟩,
  ⟨(some 2), .assign (.tmp 37), none⟩]
def c24 : SC := (.seq (.reg c24_r0 none (some [0])) (.seq (.reg c24_r1 none (some [0, 3])) (.seq (.seq (.reg c24_r2 none (some [0, 3, 13])) (.block 0 (.loop c24_l3 (some [0, 3, 13])))) (.seq (.reg c24_r6 none (some [0, 3])) (.seq (.reg c24_r7 none (some [2])) .ret)))))
theorem c24_eq : ∃ code, Tryd.f24.body = some code ∧ compile H24 code = c24 := ⟨_, rfl, by kernel_rfl⟩
theorem c24_fn : Tryd.prog.funcs[24]? = some Tryd.f24 := by kernel_rfl
theorem c24_rs : Tryd.f24.results.toList = [.tmp 2] := by kernel_rfl
theorem c24_ok : fnB Tryd.prog H24 Tryd.f24 = true := by kernel_rfl
theorem c24_nt : Tryd.f24.ntmps = 38 := by kernel_rfl

/-! 25: (*rampart/lex.text).bytes -/
def H25 : Hint := ⟨[(20, [2]), (19, [2]), (2000059, [0, 3]), (18, [0, 3, 59]), (10, [2]), (9, []), (12, [0, 3, 5]), (17, [0, 3, 5]), (2000053, [0, 3, 5]), (16, [0, 3, 5, 53]), (15, [0, 3, 5]), (14, [0, 3, 4]), (7, [0, 3, 5]), (2000044, [0, 3, 5]), (13, [0, 3, 4, 5, 44]), (2000036, [0, 3, 5]), (11, [0, 3, 4, 5, 24, 36]), (2000030, [0, 3, 5]), (8, [0, 3, 4, 5, 24, 30]), (6, [0, 3, 4, 5, 24]), (5, [0, 3, 4, 5]), (4, [0, 3, 4]), (3, [0, 3, 4]), (2000010, [0, 3]), (2, [0, 3, 10]), (1000002, [0, 3]), (1, [0, 3]), (0, [0])], []⟩
def c25_r0 : List SOp := [
  ⟨(some 2), .assign (.const (.bool false)), none⟩]
def c25_r1 : List SOp := [
  ⟨(some 3), .assign (.const (.slice none 0 0)), none⟩]
def c25_r2 : List SOp := [
  ⟨(some 6), .move (.tmp 0), none⟩,
  ⟨(some 7), .nilCheck (.tmp 6), none⟩,
  ⟨(some 8), .fieldAddr 47 (.tmp 7) 0, none⟩,
  ⟨(some 9), .load 9 (.tmp 8), none⟩,
  ⟨(some 10), .binOp .neq 9 (.tmp 9) (.const (.string ⟨#[]⟩)) 9, none⟩]
def c25_r3 : List SOp := [
  ⟨(some 11), .move (.tmp 0), none⟩,
  ⟨(some 12), .nilCheck (.tmp 11), none⟩,
  ⟨(some 13), .fieldAddr 47 (.tmp 12) 0, none⟩,
  ⟨(some 14), .load 9 (.tmp 13), none⟩,
  ⟨(some 15), .call ⟨.value (.func 16), #[(.tmp 14)], #[9]⟩, none⟩,
  ⟨(some 4), .assign (.tmp 15), none⟩]
def c25_r4 : List SOp := [
  ⟨(some 16), .move (.tmp 0), none⟩,
  ⟨(some 17), .call ⟨.value (.func 18), #[(.tmp 16), (.const (.int .i64 1))], #[45, 3]⟩, none⟩]
def c25_r5 : List SOp := [
  ⟨(some 18), .move (.tmp 4), none⟩,
  ⟨(some 19), .binOp .geq 21 (.tmp 18) (.const (.int .i32 32)) 21, none⟩,
  ⟨(some 20), .move (.tmp 19), none⟩,
  ⟨(some 21), .move (.tmp 4), (some ((some 20), true))⟩,
  ⟨(some 22), .binOp .leq 21 (.tmp 21) (.const (.int .i32 126)) 21, (some ((some 20), true))⟩,
  ⟨(some 23), .pick (.tmp 20) (.tmp 22) (.const (.bool false)), none⟩,
  ⟨(some 5), .assign (.tmp 23), none⟩]
def c25_r6 : List SOp := [
  ⟨(some 24), .move (.tmp 4), none⟩]
def c25_r8 : List SOp := [
  ⟨(some 31), .binOp .eql 21 (.tmp 24) (.const (.int .i32 34)) 21, none⟩,
  ⟨(some 30), .assign (.tmp 31), none⟩]
def c25_r9 : List SOp := [
  ⟨(some 32), .move (.tmp 0), none⟩,
  ⟨(some 33), .move (.tmp 3), none⟩,
  ⟨(some 34), .convert 37 9 (.tmp 33), none⟩,
  ⟨(some 35), .call ⟨.value (.func 34), #[(.tmp 32), (.const (.int .i64 3)), (.tmp 34), (.const (.int .i64 0))], #[45, 3, 9, 3]⟩, none⟩]
def c25_r10 : List SOp := [
  ⟨(some 2), .assign (.const (.bool true)), none⟩]
def c25_r11 : List SOp := [
  ⟨(some 37), .binOp .eql 21 (.tmp 24) (.const (.int .i32 124)) 21, none⟩,
  ⟨(some 36), .assign (.tmp 37), none⟩]
def c25_r12 : List SOp := [
  ⟨(some 39), .move (.tmp 0), none⟩,
  ⟨(some 40), .move (.tmp 3), none⟩,
  ⟨(some 41), .call ⟨.value (.func 36), #[(.tmp 39), (.tmp 40)], #[45, 37]⟩, none⟩,
  ⟨(some 38), .move (.tmp 41), none⟩,
  ⟨(some 42), .extract (.tmp 38) 0, none⟩,
  ⟨(some 43), .extract (.tmp 38) 1, none⟩,
  ⟨(some 3), .assign (.tmp 42), none⟩,
  ⟨(some 5), .assign (.tmp 43), none⟩]
def c25_r13 : List SOp := [
  ⟨(some 45), .binOp .eql 21 (.tmp 24) (.const (.int .i32 92)) 21, none⟩,
  ⟨(some 44), .assign (.tmp 45), none⟩]
def c25_r14 : List SOp := [
  ⟨(some 46), .move (.tmp 0), none⟩,
  ⟨(some 47), .nilCheck (.tmp 46), none⟩,
  ⟨(some 48), .fieldAddr 47 (.tmp 47) 0, none⟩,
  ⟨(some 49), .load 9 (.tmp 48), none⟩,
  ⟨(some 50), .call ⟨.value (.func 16), #[(.tmp 49)], #[9]⟩, none⟩,
  ⟨(some 4), .assign (.tmp 50), none⟩]
def c25_r15 : List SOp := [
  ⟨(some 51), .move (.tmp 4), none⟩,
  ⟨(some 52), .call ⟨.value (.func 37), #[(.const (.string ⟨#[34, 124, 92]⟩)), (.tmp 51)], #[9, 21]⟩, none⟩,
  ⟨(some 5), .assign (.tmp 52), none⟩]
def c25_r16 : List SOp := [
  ⟨(some 53), .move (.tmp 5), none⟩]
def c25_r17 : List SOp := [
  ⟨(some 54), .move (.tmp 3), none⟩,
  ⟨(some 55), .move (.tmp 0), none⟩,
  ⟨(some 56), .call ⟨.value (.func 18), #[(.tmp 55), (.const (.int .i64 1))], #[45, 3]⟩, none⟩,
  ⟨(some 57), .call ⟨.builtin .append, #[(.tmp 54), (.tmp 56)], #[37, 9]⟩, none⟩,
  ⟨(some 3), .assign (.tmp 57), none⟩]
def c25_r7 : List SOp := [
  ⟨(some 25), .move (.tmp 3), none⟩,
  ⟨(some 26), .move (.tmp 4), none⟩,
  ⟨(some 27), .convert 21 5 (.tmp 26), none⟩,
  ⟨(some 28), .buildSlice 37 1 #[(0, (.tmp 27))], none⟩,
  ⟨(some 29), .call ⟨.builtin .append, #[(.tmp 25), (.tmp 28)], #[37, 37]⟩, none⟩,
  ⟨(some 3), .assign (.tmp 29), none⟩]
def c25_r18 : List SOp := [
  ⟨(some 58), .move (.tmp 5), none⟩,
  ⟨(some 59), .unOp .not 4 (.tmp 58), none⟩]
def c25_r19 : List SOp := [
  ⟨(some 2), .assign (.const (.bool false)), none⟩]
def c25_l2 : SC := (.seq (.seq (.reg c25_r2 none (some [0, 3, 10])) (.cond (.tmp 10) .skip (.exit 0) (some [0, 3]))) (.block 1 (.seq (.reg c25_r3 none (some [0, 3, 4])) (.seq (.reg c25_r4 none (some [0, 3, 4])) (.seq (.reg c25_r5 none (some [0, 3, 4, 5])) (.seq (.seq (.reg c25_r6 none (some [0, 3, 4, 5, 24])) (.block 2 (.seq (.reg c25_r8 none (some [0, 3, 4, 5, 24, 30])) (.cond (.tmp 30) (.seq (.reg c25_r9 none (some [])) (.seq (.reg c25_r10 none (some [2])) .ret)) (.seq (.reg c25_r11 none (some [0, 3, 4, 5, 24, 36])) (.cond (.tmp 36) (.reg c25_r12 none (some [0, 3, 5])) (.seq (.reg c25_r13 none (some [0, 3, 4, 5, 44])) (.cond (.tmp 44) (.seq (.reg c25_r14 none (some [0, 3, 4])) (.seq (.reg c25_r15 none (some [0, 3, 5])) (.seq (.reg c25_r16 none (some [0, 3, 5, 53])) (.cond (.tmp 53) (.reg c25_r17 none (some [0, 3, 5])) .skip (some [0, 3, 5]))))) (.reg c25_r7 none (some [0, 3, 5])) (some [0, 3, 5]))) (some [0, 3, 5]))) (some [0, 3, 5]))))) (.seq (.reg c25_r18 none (some [0, 3, 59])) (.cond (.tmp 59) (.seq (.reg c25_r19 none (some [2])) .ret) .skip (some [0, 3])))))))))
def c25_r20 : List SOp := [
  ⟨(some 2), .assign (.const (.bool false)), none⟩]
def c25 : SC := (.seq (.reg c25_r0 none (some [0])) (.seq (.reg c25_r1 none (some [0, 3])) (.seq (.block 0 (.loop c25_l2 (some [0, 3]))) (.seq (.reg c25_r20 none (some [2])) .ret))))
theorem c25_eq : ∃ code, Tryd.f25.body = some code ∧ compile H25 code = c25 := ⟨_, rfl, by kernel_rfl⟩
theorem c25_fn : Tryd.prog.funcs[25]? = some Tryd.f25 := by kernel_rfl
theorem c25_rs : Tryd.f25.results.toList = [.tmp 2] := by kernel_rfl
theorem c25_ok : fnB Tryd.prog H25 Tryd.f25 = true := by kernel_rfl
theorem c25_nt : Tryd.f25.ntmps = 60 := by kernel_rfl

/-! 26: (*rampart/lex.text).sign -/
def H26 : Hint := ⟨[(11, [2]), (10, []), (9, [2]), (2000030, [0]), (8, [0, 30]), (7, [0, 5, 6, 7]), (6, [2]), (5, []), (2000016, [0, 5, 6, 7]), (4, [0, 4, 5, 6, 7, 16]), (3, [0, 4, 5, 6, 7]), (2000008, [0, 5, 6, 7]), (2, [0, 5, 6, 7, 8]), (1000002, [0, 5, 6, 7]), (1, [0, 5, 6, 7]), (0, [0])], []⟩
def c26_r0 : List SOp := [
  ⟨(some 2), .assign (.const (.bool false)), none⟩]
def c26_r1 : List SOp := [
  ⟨(some 5), .buildSlice 41 2 #[(0, (.const (.string ⟨#[45, 62]⟩))), (1, (.const (.string ⟨#[60, 62]⟩)))], none⟩,
  ⟨(some 6), .call ⟨.builtin .len, #[(.tmp 5)], #[41]⟩, none⟩,
  ⟨(some 7), .move (.const (.int .i64 0)), none⟩]
def c26_r2 : List SOp := [
  ⟨(some 8), .binOp .lss 3 (.tmp 7) (.tmp 6) 3, none⟩]
def c26_r3 : List SOp := [
  ⟨(some 9), .indexAddr 41 (.tmp 5) (.tmp 7), none⟩,
  ⟨(some 10), .load 9 (.tmp 9), none⟩,
  ⟨(some 4), .assign (.tmp 10), none⟩]
def c26_r4 : List SOp := [
  ⟨(some 11), .move (.tmp 0), none⟩,
  ⟨(some 12), .nilCheck (.tmp 11), none⟩,
  ⟨(some 13), .fieldAddr 47 (.tmp 12) 0, none⟩,
  ⟨(some 14), .load 9 (.tmp 13), none⟩,
  ⟨(some 15), .move (.tmp 4), none⟩,
  ⟨(some 16), .call ⟨.value (.func 38), #[(.tmp 14), (.tmp 15)], #[9, 9]⟩, none⟩]
def c26_r5 : List SOp := [
  ⟨(some 17), .move (.tmp 0), none⟩,
  ⟨(some 18), .move (.tmp 0), none⟩,
  ⟨(some 19), .move (.tmp 4), none⟩,
  ⟨(some 20), .call ⟨.builtin .len, #[(.tmp 19)], #[9]⟩, none⟩,
  ⟨(some 21), .call ⟨.value (.func 18), #[(.tmp 18), (.tmp 20)], #[45, 3]⟩, none⟩,
  ⟨(some 22), .call ⟨.value (.func 34), #[(.tmp 17), (.const (.int .i64 4)), (.tmp 21), (.const (.int .i64 0))], #[45, 3, 9, 3]⟩, none⟩]
def c26_r6 : List SOp := [
  ⟨(some 2), .assign (.const (.bool true)), none⟩]
def c26_r7 : List SOp := [
  ⟨(some 23), .binOp .add 3 (.tmp 7) (.const (.int .i64 1)) 3, none⟩,
  ⟨(some 7), .move (.tmp 23), none⟩]
def c26_l2 : SC := (.seq (.reg c26_r2 none (some [0, 5, 6, 7, 8])) (.seq (.cond (.tmp 8) .skip (.exit 0) (some [0, 5, 6, 7])) (.seq (.block 1 (.seq (.reg c26_r3 none (some [0, 4, 5, 6, 7])) (.seq (.reg c26_r4 none (some [0, 4, 5, 6, 7, 16])) (.cond (.tmp 16) (.seq (.reg c26_r5 none (some [])) (.seq (.reg c26_r6 none (some [2])) .ret)) .skip (some [0, 5, 6, 7]))))) (.reg c26_r7 none (some [0, 5, 6, 7])))))
def c26_r8 : List SOp := [
  ⟨(some 24), .move (.tmp 0), none⟩,
  ⟨(some 25), .nilCheck (.tmp 24), none⟩,
  ⟨(some 26), .fieldAddr 47 (.tmp 25) 0, none⟩,
  ⟨(some 27), .load 9 (.tmp 26), none⟩,
  ⟨(some 28), .call ⟨.value (.func 16), #[(.tmp 27)], #[9]⟩, none⟩,
  ⟨(some 29), .call ⟨.value (.func 37), #[(.const (.string ⟨#[40, 41, 59, 58, 44, 47, 91, 93, 33, 45, 46, 61]⟩)), (.tmp 28)], #[9, 21]⟩, none⟩,
  ⟨(some 30), .unOp .not 4 (.tmp 29), none⟩]
def c26_r9 : List SOp := [
  ⟨(some 2), .assign (.const (.bool false)), none⟩]
def c26_r10 : List SOp := [
  ⟨(some 31), .move (.tmp 0), none⟩,
  ⟨(some 32), .move (.tmp 0), none⟩,
  ⟨(some 33), .call ⟨.value (.func 18), #[(.tmp 32), (.const (.int .i64 1))], #[45, 3]⟩, none⟩,
  ⟨(some 34), .call ⟨.value (.func 34), #[(.tmp 31), (.const (.int .i64 4)), (.tmp 33), (.const (.int .i64 0))], #[45, 3, 9, 3]⟩, none⟩]
def c26_r11 : List SOp := [
  ⟨(some 2), .assign (.const (.bool true)), none⟩]
def c26 : SC := (.seq (.reg c26_r0 none (some [0])) (.seq (.seq (.reg c26_r1 none (some [0, 5, 6, 7])) (.block 0 (.loop c26_l2 (some [0, 5, 6, 7])))) (.seq (.seq (.reg c26_r8 none (some [0, 30])) (.cond (.tmp 30) (.seq (.reg c26_r9 none (some [2])) .ret) .skip (some [0]))) (.seq (.reg c26_r10 none (some [])) (.seq (.reg c26_r11 none (some [2])) .ret)))))
theorem c26_eq : ∃ code, Tryd.f26.body = some code ∧ compile H26 code = c26 := ⟨_, rfl, by kernel_rfl⟩
theorem c26_fn : Tryd.prog.funcs[26]? = some Tryd.f26 := by kernel_rfl
theorem c26_rs : Tryd.f26.results.toList = [.tmp 2] := by kernel_rfl
theorem c26_ok : fnB Tryd.prog H26 Tryd.f26 = true := by kernel_rfl
theorem c26_nt : Tryd.f26.ntmps = 35 := by kernel_rfl

/-! 27: rampart/rampartref08.letter -/
def H27 : Hint := ⟨[(1, [4]), (0, [0, 1])], []⟩
def c27_r0 : List SOp := [
  ⟨(some 4), .assign (.const (.bool false)), none⟩]
def c27_r1 : List SOp := [
  ⟨(some 5), .move (.tmp 1), none⟩,
  ⟨(some 6), .move (.tmp 0), none⟩,
  ⟨(some 7), .call ⟨.builtin .len, #[(.tmp 6)], #[9]⟩, none⟩,
  ⟨(some 8), .binOp .lss 3 (.tmp 5) (.tmp 7) 3, none⟩,
  ⟨(some 9), .move (.tmp 8), none⟩,
  ⟨(some 10), .move (.tmp 0), (some ((some 9), true))⟩,
  ⟨(some 11), .move (.tmp 1), (some ((some 9), true))⟩,
  ⟨(some 12), .index 9 (.tmp 10) (.tmp 11), (some ((some 9), true))⟩,
  ⟨(some 13), .binOp .geq 5 (.tmp 12) (.const (.int .u8 97)) 5, (some ((some 9), true))⟩,
  ⟨(some 14), .move (.tmp 13), (some ((some 9), true))⟩,
  ⟨(some 15), .move (.tmp 0), (some ((some 14), true))⟩,
  ⟨(some 16), .move (.tmp 1), (some ((some 14), true))⟩,
  ⟨(some 17), .index 9 (.tmp 15) (.tmp 16), (some ((some 14), true))⟩,
  ⟨(some 18), .binOp .leq 5 (.tmp 17) (.const (.int .u8 122)) 5, (some ((some 14), true))⟩,
  ⟨(some 19), .pick (.tmp 14) (.tmp 18) (.const (.bool false)), (some ((some 9), true))⟩,
  ⟨(some 20), .move (.tmp 19), (some ((some 9), true))⟩,
  ⟨(some 21), .move (.tmp 0), (some ((some 20), false))⟩,
  ⟨(some 22), .move (.tmp 1), (some ((some 20), false))⟩,
  ⟨(some 23), .index 9 (.tmp 21) (.tmp 22), (some ((some 20), false))⟩,
  ⟨(some 24), .binOp .geq 5 (.tmp 23) (.const (.int .u8 65)) 5, (some ((some 20), false))⟩,
  ⟨(some 25), .move (.tmp 24), (some ((some 20), false))⟩,
  ⟨(some 26), .move (.tmp 0), (some ((some 25), true))⟩,
  ⟨(some 27), .move (.tmp 1), (some ((some 25), true))⟩,
  ⟨(some 28), .index 9 (.tmp 26) (.tmp 27), (some ((some 25), true))⟩,
  ⟨(some 29), .binOp .leq 5 (.tmp 28) (.const (.int .u8 90)) 5, (some ((some 25), true))⟩,
  ⟨(some 30), .pick (.tmp 25) (.tmp 29) (.const (.bool false)), (some ((some 20), false))⟩,
  ⟨(some 31), .pick (.tmp 20) (.const (.bool true)) (.tmp 30), (some ((some 9), true))⟩,
  ⟨(some 32), .pick (.tmp 9) (.tmp 31) (.const (.bool false)), none⟩,
  ⟨(some 4), .assign (.tmp 32), none⟩]
def c27 : SC := (.seq (.reg c27_r0 none (some [0, 1])) (.seq (.reg c27_r1 none (some [4])) .ret))
theorem c27_eq : ∃ code, Tryd.f27.body = some code ∧ compile H27 code = c27 := ⟨_, rfl, by kernel_rfl⟩
theorem c27_fn : Tryd.prog.funcs[27]? = some Tryd.f27 := by kernel_rfl
theorem c27_rs : Tryd.f27.results.toList = [.tmp 4] := by kernel_rfl
theorem c27_ok : fnB Tryd.prog H27 Tryd.f27 = true := by kernel_rfl
theorem c27_nt : Tryd.f27.ntmps = 33 := by kernel_rfl

/-! 28: rampart/rampartref08.word -/
def H28 : Hint := ⟨[(10, [4, 5]), (9, [4, 5]), (2000040, [1, 6]), (8, [1, 6, 40]), (7, [0, 1, 6]), (6, [0, 1, 6]), (5, [0, 1, 6, 7]), (2000029, [0, 1, 6, 7]), (4, [0, 1, 6, 7, 29]), (3, [0, 1, 6, 7]), (2000020, [0, 1, 6]), (2, [0, 1, 6, 20]), (1000002, [0, 1, 6]), (1, [0, 1, 6]), (0, [0, 1])], []⟩
def c28_r0 : List SOp := [
  ⟨(some 4), .assign (.const (.string ⟨#[]⟩)), none⟩,
  ⟨(some 5), .assign (.const (.int .i64 0)), none⟩]
def c28_r1 : List SOp := [
  ⟨(some 6), .assign (.const (.slice none 0 0)), none⟩]
def c28_r2 : List SOp := [
  ⟨(some 8), .move (.tmp 0), none⟩,
  ⟨(some 9), .move (.tmp 1), none⟩,
  ⟨(some 10), .call ⟨.value (.func 27), #[(.tmp 8), (.tmp 9)], #[9, 3]⟩, none⟩,
  ⟨(some 11), .move (.tmp 10), none⟩,
  ⟨(some 12), .move (.tmp 6), (some ((some 11), false))⟩,
  ⟨(some 13), .call ⟨.builtin .len, #[(.tmp 12)], #[37]⟩, (some ((some 11), false))⟩,
  ⟨(some 14), .binOp .gtr 3 (.tmp 13) (.const (.int .i64 0)) 3, (some ((some 11), false))⟩,
  ⟨(some 15), .move (.tmp 14), (some ((some 11), false))⟩,
  ⟨(some 16), .move (.tmp 0), (some ((some 15), true))⟩,
  ⟨(some 17), .move (.tmp 1), (some ((some 15), true))⟩,
  ⟨(some 18), .call ⟨.value (.func 29), #[(.tmp 16), (.tmp 17)], #[9, 3]⟩, (some ((some 15), true))⟩,
  ⟨(some 19), .pick (.tmp 15) (.tmp 18) (.const (.bool false)), (some ((some 11), false))⟩,
  ⟨(some 20), .pick (.tmp 11) (.const (.bool true)) (.tmp 19), none⟩]
def c28_r3 : List SOp := [
  ⟨(some 21), .move (.tmp 0), none⟩,
  ⟨(some 22), .move (.tmp 1), none⟩,
  ⟨(some 23), .index 9 (.tmp 21) (.tmp 22), none⟩,
  ⟨(some 7), .assign (.tmp 23), none⟩]
def c28_r4 : List SOp := [
  ⟨(some 24), .move (.tmp 7), none⟩,
  ⟨(some 25), .binOp .leq 5 (.tmp 24) (.const (.int .u8 90)) 5, none⟩,
  ⟨(some 26), .move (.tmp 25), none⟩,
  ⟨(some 27), .move (.tmp 7), (some ((some 26), true))⟩,
  ⟨(some 28), .binOp .geq 5 (.tmp 27) (.const (.int .u8 65)) 5, (some ((some 26), true))⟩,
  ⟨(some 29), .pick (.tmp 26) (.tmp 28) (.const (.bool false)), none⟩]
def c28_r5 : List SOp := [
  ⟨(some 30), .move (.tmp 7), none⟩,
  ⟨(some 31), .binOp .add 5 (.tmp 30) (.const (.int .u8 32)) 5, none⟩,
  ⟨(some 7), .assign (.tmp 31), none⟩]
def c28_r6 : List SOp := [
  ⟨(some 32), .move (.tmp 6), none⟩,
  ⟨(some 33), .move (.tmp 7), none⟩,
  ⟨(some 34), .buildSlice 37 1 #[(0, (.tmp 33))], none⟩,
  ⟨(some 35), .call ⟨.builtin .append, #[(.tmp 32), (.tmp 34)], #[37, 37]⟩, none⟩,
  ⟨(some 6), .assign (.tmp 35), none⟩]
def c28_r7 : List SOp := [
  ⟨(some 36), .move (.tmp 1), none⟩,
  ⟨(some 37), .binOp .add 3 (.tmp 36) (.const (.int .i64 1)) 3, none⟩,
  ⟨(some 1), .assign (.tmp 37), none⟩]
def c28_l2 : SC := (.seq (.seq (.reg c28_r2 none (some [0, 1, 6, 20])) (.cond (.tmp 20) .skip (.exit 0) (some [0, 1, 6]))) (.block 1 (.seq (.reg c28_r3 none (some [0, 1, 6, 7])) (.seq (.seq (.reg c28_r4 none (some [0, 1, 6, 7, 29])) (.cond (.tmp 29) (.reg c28_r5 none (some [0, 1, 6, 7])) .skip (some [0, 1, 6, 7]))) (.seq (.reg c28_r6 none (some [0, 1, 6])) (.reg c28_r7 none (some [0, 1, 6])))))))
def c28_r8 : List SOp := [
  ⟨(some 38), .move (.tmp 6), none⟩,
  ⟨(some 39), .call ⟨.builtin .len, #[(.tmp 38)], #[37]⟩, none⟩,
  ⟨(some 40), .binOp .gtr 3 (.tmp 39) (.const (.int .i64 20)) 3, none⟩]
def c28_r9 : List SOp := [
  ⟨(some 41), .move (.tmp 1), none⟩,
  ⟨(some 4), .assign (.const (.string ⟨#[]⟩)), none⟩,
  ⟨(some 5), .assign (.tmp 41), none⟩]
def c28_r10 : List SOp := [
  ⟨(some 42), .move (.tmp 6), none⟩,
  ⟨(some 43), .convert 37 9 (.tmp 42), none⟩,
  ⟨(some 44), .move (.tmp 1), none⟩,
  ⟨(some 4), .assign (.tmp 43), none⟩,
  ⟨(some 5), .assign (.tmp 44), none⟩]
def c28 : SC := (.seq (.reg c28_r0 none (some [0, 1])) (.seq (.reg c28_r1 none (some [0, 1, 6])) (.seq (.block 0 (.loop c28_l2 (some [0, 1, 6]))) (.seq (.seq (.reg c28_r8 none (some [1, 6, 40])) (.cond (.tmp 40) (.seq (.reg c28_r9 none (some [4, 5])) .ret) .skip (some [1, 6]))) (.seq (.reg c28_r10 none (some [4, 5])) .ret)))))
theorem c28_eq : ∃ code, Tryd.f28.body = some code ∧ compile H28 code = c28 := ⟨_, rfl, by kernel_rfl⟩
theorem c28_fn : Tryd.prog.funcs[28]? = some Tryd.f28 := by kernel_rfl
theorem c28_rs : Tryd.f28.results.toList = [.tmp 4, .tmp 5] := by kernel_rfl
theorem c28_ok : fnB Tryd.prog H28 Tryd.f28 = true := by kernel_rfl
theorem c28_nt : Tryd.f28.ntmps = 45 := by kernel_rfl

/-! 29: rampart/rampartref08.digit -/
def H29 : Hint := ⟨[(1, [4]), (0, [0, 1])], []⟩
def c29_r0 : List SOp := [
  ⟨(some 4), .assign (.const (.bool false)), none⟩]
def c29_r1 : List SOp := [
  ⟨(some 5), .move (.tmp 1), none⟩,
  ⟨(some 6), .move (.tmp 0), none⟩,
  ⟨(some 7), .call ⟨.builtin .len, #[(.tmp 6)], #[9]⟩, none⟩,
  ⟨(some 8), .binOp .lss 3 (.tmp 5) (.tmp 7) 3, none⟩,
  ⟨(some 9), .move (.tmp 8), none⟩,
  ⟨(some 10), .move (.tmp 0), (some ((some 9), true))⟩,
  ⟨(some 11), .move (.tmp 1), (some ((some 9), true))⟩,
  ⟨(some 12), .index 9 (.tmp 10) (.tmp 11), (some ((some 9), true))⟩,
  ⟨(some 13), .binOp .geq 5 (.tmp 12) (.const (.int .u8 48)) 5, (some ((some 9), true))⟩,
  ⟨(some 14), .pick (.tmp 9) (.tmp 13) (.const (.bool false)), none⟩,
  ⟨(some 15), .move (.tmp 14), none⟩,
  ⟨(some 16), .move (.tmp 0), (some ((some 15), true))⟩,
  ⟨(some 17), .move (.tmp 1), (some ((some 15), true))⟩,
  ⟨(some 18), .index 9 (.tmp 16) (.tmp 17), (some ((some 15), true))⟩,
  ⟨(some 19), .binOp .leq 5 (.tmp 18) (.const (.int .u8 57)) 5, (some ((some 15), true))⟩,
  ⟨(some 20), .pick (.tmp 15) (.tmp 19) (.const (.bool false)), none⟩,
  ⟨(some 4), .assign (.tmp 20), none⟩]
def c29 : SC := (.seq (.reg c29_r0 none (some [0, 1])) (.seq (.reg c29_r1 none (some [4])) .ret))
theorem c29_eq : ∃ code, Tryd.f29.body = some code ∧ compile H29 code = c29 := ⟨_, rfl, by kernel_rfl⟩
theorem c29_fn : Tryd.prog.funcs[29]? = some Tryd.f29 := by kernel_rfl
theorem c29_rs : Tryd.f29.results.toList = [.tmp 4] := by kernel_rfl
theorem c29_ok : fnB Tryd.prog H29 Tryd.f29 = true := by kernel_rfl
theorem c29_nt : Tryd.f29.ntmps = 21 := by kernel_rfl

/-! 30: rampart/rampartref08.number -/
def H30 : Hint := ⟨[(5, [4, 5, 6]), (4, [0, 1, 7]), (3, [0, 1, 7]), (2000010, [0, 1, 7]), (2, [0, 1, 7, 10]), (1000002, [0, 1, 7]), (1, [0, 1, 7]), (0, [0, 1])], []⟩
def c30_r0 : List SOp := [
  ⟨(some 4), .assign (.const (.int .i64 0)), none⟩,
  ⟨(some 5), .assign (.const (.int .i64 0)), none⟩,
  ⟨(some 6), .assign (.const (.bool false)), none⟩]
def c30_r1 : List SOp := [
  ⟨(some 7), .assign (.const (.int .i64 0)), none⟩]
def c30_r2 : List SOp := [
  ⟨(some 8), .move (.tmp 0), none⟩,
  ⟨(some 9), .move (.tmp 1), none⟩,
  ⟨(some 10), .call ⟨.value (.func 29), #[(.tmp 8), (.tmp 9)], #[9, 3]⟩, none⟩]
def c30_r3 : List SOp := [
  ⟨(some 11), .move (.tmp 7), none⟩,
  ⟨(some 12), .binOp .mul 3 (.const (.int .i64 10)) (.tmp 11) 3, none⟩,
  ⟨(some 13), .move (.tmp 0), none⟩,
  ⟨(some 14), .move (.tmp 1), none⟩,
  ⟨(some 15), .index 9 (.tmp 13) (.tmp 14), none⟩,
  ⟨(some 16), .binOp .sub 5 (.tmp 15) (.const (.int .u8 48)) 5, none⟩,
  ⟨(some 17), .convert 5 3 (.tmp 16), none⟩,
  ⟨(some 18), .binOp .add 3 (.tmp 12) (.tmp 17) 3, none⟩,
  ⟨(some 19), .call ⟨.builtin .min, #[(.tmp 18), (.const (.int .i64 1125899906842624))], #[3, 3]⟩, none⟩,
  ⟨(some 7), .assign (.tmp 19), none⟩]
def c30_r4 : List SOp := [
  ⟨(some 20), .move (.tmp 1), none⟩,
  ⟨(some 21), .binOp .add 3 (.tmp 20) (.const (.int .i64 1)) 3, none⟩,
  ⟨(some 1), .assign (.tmp 21), none⟩]
def c30_l2 : SC := (.seq (.seq (.reg c30_r2 none (some [0, 1, 7, 10])) (.cond (.tmp 10) .skip (.exit 0) (some [0, 1, 7]))) (.block 1 (.seq (.reg c30_r3 none (some [0, 1, 7])) (.reg c30_r4 none (some [0, 1, 7])))))
def c30_r5 : List SOp := [
  ⟨(some 22), .move (.tmp 7), none⟩,
  ⟨(some 23), .move (.tmp 1), none⟩,
  ⟨(some 24), .move (.tmp 7), none⟩,
  ⟨(some 25), .binOp .leq 3 (.tmp 24) (.const (.int .i64 999999999999)) 3, none⟩,
  ⟨(some 26), .move (.tmp 25), none⟩,
  ⟨(some 27), .move (.tmp 0), (some ((some 26), true))⟩,
  ⟨(some 28), .move (.tmp 1), (some ((some 26), true))⟩,
  ⟨(some 29), .call ⟨.value (.func 27), #[(.tmp 27), (.tmp 28)], #[9, 3]⟩, (some ((some 26), true))⟩,
  ⟨(some 30), .unOp .not 4 (.tmp 29), (some ((some 26), true))⟩,
  ⟨(some 31), .pick (.tmp 26) (.tmp 30) (.const (.bool false)), none⟩,
  ⟨(some 4), .assign (.tmp 22), none⟩,
  ⟨(some 5), .assign (.tmp 23), none⟩,
  ⟨(some 6), .assign (.tmp 31), none⟩]
def c30 : SC := (.seq (.reg c30_r0 none (some [0, 1])) (.seq (.reg c30_r1 none (some [0, 1, 7])) (.seq (.block 0 (.loop c30_l2 (some [0, 1, 7]))) (.seq (.reg c30_r5 none (some [4, 5, 6])) .ret))))
theorem c30_eq : ∃ code, Tryd.f30.body = some code ∧ compile H30 code = c30 := ⟨_, rfl, by kernel_rfl⟩
theorem c30_fn : Tryd.prog.funcs[30]? = some Tryd.f30 := by kernel_rfl
theorem c30_rs : Tryd.f30.results.toList = [.tmp 4, .tmp 5, .tmp 6] := by kernel_rfl
theorem c30_ok : fnB Tryd.prog H30 Tryd.f30 = true := by kernel_rfl
theorem c30_nt : Tryd.f30.ntmps = 32 := by kernel_rfl

/-! 31: rampart/rampartref08.bytes -/
def H31 : Hint := ⟨[(15, [4, 5, 6]), (8, [0, 1, 7]), (7, [4, 5, 6]), (2000036, [0, 7, 8, 9]), (6, [0, 1, 7, 8, 9, 36]), (5, [0, 1, 7, 8, 9, 10]), (12, [0, 1, 7]), (11, [4, 5, 6]), (2000072, [0, 1, 7]), (10, [0, 1, 7, 72]), (14, [0, 1, 7]), (3, [4, 5, 6]), (2000084, [0, 1, 7]), (13, [0, 1, 7, 84]), (2000042, [0, 1, 7]), (9, [0, 1, 7, 42]), (2000022, [0, 1, 7]), (4, [0, 1, 7, 22]), (2000020, [0, 1, 7]), (2, [0, 1, 7, 20]), (1000002, [0, 1, 7]), (1, [0, 1, 7]), (0, [0, 1])], []⟩
def c31_r0 : List SOp := [
  ⟨(some 4), .assign (.const (.string ⟨#[]⟩)), none⟩,
  ⟨(some 5), .assign (.const (.int .i64 0)), none⟩,
  ⟨(some 6), .assign (.const (.bool false)), none⟩]
def c31_r1 : List SOp := [
  ⟨(some 7), .assign (.const (.string ⟨#[]⟩)), none⟩]
def c31_r2 : List SOp := [
  ⟨(some 11), .move (.tmp 1), none⟩,
  ⟨(some 12), .move (.tmp 0), none⟩,
  ⟨(some 13), .call ⟨.builtin .len, #[(.tmp 12)], #[9]⟩, none⟩,
  ⟨(some 14), .binOp .lss 3 (.tmp 11) (.tmp 13) 3, none⟩,
  ⟨(some 15), .move (.tmp 14), none⟩,
  ⟨(some 16), .move (.tmp 0), (some ((some 15), true))⟩,
  ⟨(some 17), .move (.tmp 1), (some ((some 15), true))⟩,
  ⟨(some 18), .index 9 (.tmp 16) (.tmp 17), (some ((some 15), true))⟩,
  ⟨(some 19), .binOp .neq 5 (.tmp 18) (.const (.int .u8 34)) 5, (some ((some 15), true))⟩,
  ⟨(some 20), .pick (.tmp 15) (.tmp 19) (.const (.bool false)), none⟩]
def c31_r4 : List SOp := [
  ⟨(some 23), .move (.tmp 0), none⟩,
  ⟨(some 24), .move (.tmp 1), none⟩,
  ⟨(some 25), .index 9 (.tmp 23) (.tmp 24), none⟩,
  ⟨(some 26), .binOp .eql 5 (.tmp 25) (.const (.int .u8 124)) 5, none⟩,
  ⟨(some 22), .assign (.tmp 26), none⟩]
def c31_r5 : List SOp := [
  ⟨(some 28), .move (.tmp 0), none⟩,
  ⟨(some 29), .move (.tmp 1), none⟩,
  ⟨(some 30), .binOp .add 3 (.tmp 29) (.const (.int .i64 1)) 3, none⟩,
  ⟨(some 31), .call ⟨.value (.func 39), #[(.tmp 28), (.tmp 30)], #[9, 3]⟩, none⟩,
  ⟨(some 27), .move (.tmp 31), none⟩,
  ⟨(some 32), .extract (.tmp 27) 0, none⟩,
  ⟨(some 33), .extract (.tmp 27) 1, none⟩,
  ⟨(some 34), .extract (.tmp 27) 2, none⟩,
  ⟨(some 8), .assign (.tmp 32), none⟩,
  ⟨(some 9), .assign (.tmp 33), none⟩,
  ⟨(some 10), .assign (.tmp 34), none⟩]
def c31_r6 : List SOp := [
  ⟨(some 35), .move (.tmp 10), none⟩,
  ⟨(some 36), .unOp .not 4 (.tmp 35), none⟩]
def c31_r7 : List SOp := [
  ⟨(some 37), .move (.tmp 1), none⟩,
  ⟨(some 4), .assign (.const (.string ⟨#[]⟩)), none⟩,
  ⟨(some 5), .assign (.tmp 37), none⟩,
  ⟨(some 6), .assign (.const (.bool false)), none⟩]
def c31_r8 : List SOp := [
  ⟨(some 38), .move (.tmp 7), none⟩,
  ⟨(some 39), .move (.tmp 8), none⟩,
  ⟨(some 40), .binOp .add 9 (.tmp 38) (.tmp 39) 9, none⟩,
  ⟨(some 41), .move (.tmp 9), none⟩,
  ⟨(some 7), .assign (.tmp 40), none⟩,
  ⟨(some 1), .assign (.tmp 41), none⟩]
def c31_r9 : List SOp := [
  ⟨(some 43), .move (.tmp 0), none⟩,
  ⟨(some 44), .move (.tmp 1), none⟩,
  ⟨(some 45), .index 9 (.tmp 43) (.tmp 44), none⟩,
  ⟨(some 46), .binOp .eql 5 (.tmp 45) (.const (.int .u8 92)) 5, none⟩,
  ⟨(some 42), .assign (.tmp 46), none⟩]
def c31_r10 : List SOp := [
  ⟨(some 47), .move (.tmp 1), none⟩,
  ⟨(some 48), .binOp .add 3 (.tmp 47) (.const (.int .i64 1)) 3, none⟩,
  ⟨(some 49), .move (.tmp 0), none⟩,
  ⟨(some 50), .call ⟨.builtin .len, #[(.tmp 49)], #[9]⟩, none⟩,
  ⟨(some 51), .binOp .geq 3 (.tmp 48) (.tmp 50) 3, none⟩,
  ⟨(some 52), .move (.tmp 51), none⟩,
  ⟨(some 53), .move (.tmp 0), (some ((some 52), false))⟩,
  ⟨(some 54), .move (.tmp 1), (some ((some 52), false))⟩,
  ⟨(some 55), .binOp .add 3 (.tmp 54) (.const (.int .i64 1)) 3, (some ((some 52), false))⟩,
  ⟨(some 56), .index 9 (.tmp 53) (.tmp 55), (some ((some 52), false))⟩,
  ⟨(some 57), .binOp .neq 5 (.tmp 56) (.const (.int .u8 34)) 5, (some ((some 52), false))⟩,
  ⟨(some 58), .move (.tmp 57), (some ((some 52), false))⟩,
  ⟨(some 59), .move (.tmp 0), (some ((some 58), true))⟩,
  ⟨(some 60), .move (.tmp 1), (some ((some 58), true))⟩,
  ⟨(some 61), .binOp .add 3 (.tmp 60) (.const (.int .i64 1)) 3, (some ((some 58), true))⟩,
  ⟨(some 62), .index 9 (.tmp 59) (.tmp 61), (some ((some 58), true))⟩,
  ⟨(some 63), .binOp .neq 5 (.tmp 62) (.const (.int .u8 124)) 5, (some ((some 58), true))⟩,
  ⟨(some 64), .pick (.tmp 58) (.tmp 63) (.const (.bool false)), (some ((some 52), false))⟩,
  ⟨(some 65), .move (.tmp 64), (some ((some 52), false))⟩,
  ⟨(some 66), .move (.tmp 0), (some ((some 65), true))⟩,
  ⟨(some 67), .move (.tmp 1), (some ((some 65), true))⟩,
  ⟨(some 68), .binOp .add 3 (.tmp 67) (.const (.int .i64 1)) 3, (some ((some 65), true))⟩,
  ⟨(some 69), .index 9 (.tmp 66) (.tmp 68), (some ((some 65), true))⟩,
  ⟨(some 70), .binOp .neq 5 (.tmp 69) (.const (.int .u8 92)) 5, (some ((some 65), true))⟩,
  ⟨(some 71), .pick (.tmp 65) (.tmp 70) (.const (.bool false)), (some ((some 52), false))⟩,
  ⟨(some 72), .pick (.tmp 52) (.const (.bool true)) (.tmp 71), none⟩]
def c31_r11 : List SOp := [
  ⟨(some 73), .move (.tmp 1), none⟩,
  ⟨(some 4), .assign (.const (.string ⟨#[]⟩)), none⟩,
  ⟨(some 5), .assign (.tmp 73), none⟩,
  ⟨(some 6), .assign (.const (.bool false)), none⟩]
def c31_r12 : List SOp := [
  ⟨(some 74), .move (.tmp 7), none⟩,
  ⟨(some 75), .move (.tmp 0), none⟩,
  ⟨(some 76), .move (.tmp 1), none⟩,
  ⟨(some 77), .binOp .add 3 (.tmp 76) (.const (.int .i64 1)) 3, none⟩,
  ⟨(some 78), .move (.tmp 1), none⟩,
  ⟨(some 79), .binOp .add 3 (.tmp 78) (.const (.int .i64 2)) 3, none⟩,
  ⟨(some 80), .slice 9 (.tmp 75) (some (.tmp 77)) (some (.tmp 79)) none, none⟩,
  ⟨(some 81), .binOp .add 9 (.tmp 74) (.tmp 80) 9, none⟩,
  ⟨(some 82), .move (.tmp 1), none⟩,
  ⟨(some 83), .binOp .add 3 (.tmp 82) (.const (.int .i64 2)) 3, none⟩,
  ⟨(some 7), .assign (.tmp 81), none⟩,
  ⟨(some 1), .assign (.tmp 83), none⟩]
def c31_r13 : List SOp := [
  ⟨(some 85), .move (.tmp 0), none⟩,
  ⟨(some 86), .move (.tmp 1), none⟩,
  ⟨(some 87), .index 9 (.tmp 85) (.tmp 86), none⟩,
  ⟨(some 88), .binOp .geq 5 (.tmp 87) (.const (.int .u8 32)) 5, none⟩,
  ⟨(some 89), .move (.tmp 88), none⟩,
  ⟨(some 90), .move (.tmp 0), (some ((some 89), true))⟩,
  ⟨(some 91), .move (.tmp 1), (some ((some 89), true))⟩,
  ⟨(some 92), .index 9 (.tmp 90) (.tmp 91), (some ((some 89), true))⟩,
  ⟨(some 93), .binOp .leq 5 (.tmp 92) (.const (.int .u8 126)) 5, (some ((some 89), true))⟩,
  ⟨(some 94), .pick (.tmp 89) (.tmp 93) (.const (.bool false)), none⟩,
  ⟨(some 84), .assign (.tmp 94), none⟩]
def c31_r14 : List SOp := [
  ⟨(some 95), .move (.tmp 7), none⟩,
  ⟨(some 96), .move (.tmp 0), none⟩,
  ⟨(some 97), .move (.tmp 1), none⟩,
  ⟨(some 98), .move (.tmp 1), none⟩,
  ⟨(some 99), .binOp .add 3 (.tmp 98) (.const (.int .i64 1)) 3, none⟩,
  ⟨(some 100), .slice 9 (.tmp 96) (some (.tmp 97)) (some (.tmp 99)) none, none⟩,
  ⟨(some 101), .binOp .add 9 (.tmp 95) (.tmp 100) 9, none⟩,
  ⟨(some 102), .move (.tmp 1), none⟩,
  ⟨(some 103), .binOp .add 3 (.tmp 102) (.const (.int .i64 1)) 3, none⟩,
  ⟨(some 7), .assign (.tmp 101), none⟩,
  ⟨(some 1), .assign (.tmp 103), none⟩]
def c31_r3 : List SOp := [
  ⟨(some 21), .move (.tmp 1), none⟩,
  ⟨(some 4), .assign (.const (.string ⟨#[]⟩)), none⟩,
  ⟨(some 5), .assign (.tmp 21), none⟩,
  ⟨(some 6), .assign (.const (.bool false)), none⟩]
def c31_l2 : SC := (.seq (.seq (.reg c31_r2 none (some [0, 1, 7, 20])) (.cond (.tmp 20) .skip (.exit 0) (some [0, 1, 7]))) (.block 1 (.block 2 (.seq (.reg c31_r4 none (some [0, 1, 7, 22])) (.cond (.tmp 22) (.seq (.reg c31_r5 none (some [0, 1, 7, 8, 9, 10])) (.seq (.seq (.reg c31_r6 none (some [0, 1, 7, 8, 9, 36])) (.cond (.tmp 36) (.seq (.reg c31_r7 none (some [4, 5, 6])) .ret) .skip (some [0, 7, 8, 9]))) (.reg c31_r8 none (some [0, 1, 7])))) (.seq (.reg c31_r9 none (some [0, 1, 7, 42])) (.cond (.tmp 42) (.seq (.seq (.reg c31_r10 none (some [0, 1, 7, 72])) (.cond (.tmp 72) (.seq (.reg c31_r11 none (some [4, 5, 6])) .ret) .skip (some [0, 1, 7]))) (.reg c31_r12 none (some [0, 1, 7]))) (.seq (.reg c31_r13 none (some [0, 1, 7, 84])) (.cond (.tmp 84) (.reg c31_r14 none (some [0, 1, 7])) (.seq (.reg c31_r3 none (some [4, 5, 6])) .ret) (some [0, 1, 7]))) (some [0, 1, 7]))) (some [0, 1, 7]))))))
def c31_r15 : List SOp := [
  ⟨(some 104), .move (.tmp 7), none⟩,
  ⟨(some 105), .move (.tmp 1), none⟩,
  ⟨(some 106), .binOp .add 3 (.tmp 105) (.const (.int .i64 1)) 3, none⟩,
  ⟨(some 107), .move (.tmp 1), none⟩,
  ⟨(some 108), .move (.tmp 0), none⟩,
  ⟨(some 109), .call ⟨.builtin .len, #[(.tmp 108)], #[9]⟩, none⟩,
  ⟨(some 110), .binOp .lss 3 (.tmp 107) (.tmp 109) 3, none⟩,
  ⟨(some 4), .assign (.tmp 104), none⟩,
  ⟨(some 5), .assign (.tmp 106), none⟩,
  ⟨(some 6), .assign (.tmp 110), none⟩]
def c31 : SC := (.seq (.reg c31_r0 none (some [0, 1])) (.seq (.reg c31_r1 none (some [0, 1, 7])) (.seq (.block 0 (.loop c31_l2 (some [0, 1, 7]))) (.seq (.reg c31_r15 none (some [4, 5, 6])) .ret))))
theorem c31_eq : ∃ code, Tryd.f31.body = some code ∧ compile H31 code = c31 := ⟨_, rfl, by kernel_rfl⟩
theorem c31_fn : Tryd.prog.funcs[31]? = some Tryd.f31 := by kernel_rfl
theorem c31_rs : Tryd.f31.results.toList = [.tmp 4, .tmp 5, .tmp 6] := by kernel_rfl
theorem c31_ok : fnB Tryd.prog H31 Tryd.f31 = true := by kernel_rfl
theorem c31_nt : Tryd.f31.ntmps = 111 := by kernel_rfl

end Go.AM
