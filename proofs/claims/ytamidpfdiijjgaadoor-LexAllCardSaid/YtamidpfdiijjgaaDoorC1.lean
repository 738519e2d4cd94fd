/-
  Printed by program (wip/tools/print.sh): compiled code.
-/
import Derived.Test.YtamidpfdiijjgaaDoorAMb
import Derived.Test.YtamidpfdiijjgaaDoorProg
namespace Go.AM
open Go Go.Proofs
set_option maxRecDepth 100000
/-! 32: rampart/rampartref08.sign -/
def H32 : Hint := ⟨[(9, [4]), (6, [0, 1, 6]), (8, [4]), (2000031, [0, 1, 6]), (7, [0, 1, 6, 31]), (2000023, [0, 1, 6]), (5, [0, 1, 6, 23]), (1000005, [0, 1, 6]), (4, [0, 1, 6]), (3, [4]), (2000020, [0, 1]), (2, [0, 1, 5, 20]), (1, [0, 1, 5]), (0, [0, 1])], []⟩
def c32_r0 : List SOp := [
  ⟨(some 4), .assign (.const (.string ⟨#[]⟩)), none⟩]
def c32_r1 : List SOp := [
  ⟨(some 7), .move (.tmp 0), none⟩,
  ⟨(some 8), .move (.tmp 1), none⟩,
  ⟨(some 9), .move (.tmp 1), none⟩,
  ⟨(some 10), .binOp .add 3 (.tmp 9) (.const (.int .i64 2)) 3, none⟩,
  ⟨(some 11), .move (.tmp 0), none⟩,
  ⟨(some 12), .call ⟨.builtin .len, #[(.tmp 11)], #[9]⟩, none⟩,
  ⟨(some 13), .call ⟨.builtin .min, #[(.tmp 10), (.tmp 12)], #[3, 3]⟩, none⟩,
  ⟨(some 14), .slice 9 (.tmp 7) (some (.tmp 8)) (some (.tmp 13)) none, none⟩,
  ⟨(some 5), .assign (.tmp 14), none⟩]
def c32_r2 : List SOp := [
  ⟨(some 15), .move (.tmp 5), none⟩,
  ⟨(some 16), .binOp .eql 9 (.tmp 15) (.const (.string ⟨#[45, 62]⟩)) 9, none⟩,
  ⟨(some 17), .move (.tmp 16), none⟩,
  ⟨(some 18), .move (.tmp 5), (some ((some 17), false))⟩,
  ⟨(some 19), .binOp .eql 9 (.tmp 18) (.const (.string ⟨#[60, 62]⟩)) 9, (some ((some 17), false))⟩,
  ⟨(some 20), .pick (.tmp 17) (.const (.bool true)) (.tmp 19), none⟩]
def c32_r3 : List SOp := [
  ⟨(some 21), .move (.tmp 5), none⟩,
  ⟨(some 4), .assign (.tmp 21), none⟩]
def c32_r4 : List SOp := [
  ⟨(some 6), .assign (.const (.int .i64 0)), none⟩]
def c32_r5 : List SOp := [
  ⟨(some 22), .move (.tmp 6), none⟩,
  ⟨(some 23), .binOp .lss 3 (.tmp 22) (.const (.int .i64 12)) 3, none⟩]
def c32_r7 : List SOp := [
  ⟨(some 26), .move (.tmp 6), none⟩,
  ⟨(some 27), .index 9 (.const (.string ⟨#[40, 41, 59, 58, 44, 47, 91, 93, 33, 45, 46, 61]⟩)) (.tmp 26), none⟩,
  ⟨(some 28), .move (.tmp 0), none⟩,
  ⟨(some 29), .move (.tmp 1), none⟩,
  ⟨(some 30), .index 9 (.tmp 28) (.tmp 29), none⟩,
  ⟨(some 31), .binOp .eql 5 (.tmp 27) (.tmp 30) 5, none⟩]
def c32_r8 : List SOp := [
  ⟨(some 32), .move (.tmp 0), none⟩,
  ⟨(some 33), .move (.tmp 1), none⟩,
  ⟨(some 34), .move (.tmp 1), none⟩,
  ⟨(some 35), .binOp .add 3 (.tmp 34) (.const (.int .i64 1)) 3, none⟩,
  ⟨(some 36), .slice 9 (.tmp 32) (some (.tmp 33)) (some (.tmp 35)) none, none⟩,
  ⟨(some 4), .assign (.tmp 36), none⟩]
def c32_r6 : List SOp := [
  ⟨(some 24), .move (.tmp 6), none⟩,
  ⟨(some 25), .binOp .add 3 (.tmp 24) (.const (.int .i64 1)) 3, none⟩,
  ⟨(some 6), .assign (.tmp 25), none⟩]
def c32_l5 : SC := (.seq (.seq (.reg c32_r5 none (some [0, 1, 6, 23])) (.cond (.tmp 23) .skip (.exit 0) (some [0, 1, 6]))) (.seq (.block 1 (.seq (.reg c32_r7 none (some [0, 1, 6, 31])) (.cond (.tmp 31) (.seq (.reg c32_r8 none (some [4])) .ret) .skip (some [0, 1, 6])))) (.reg c32_r6 none (some [0, 1, 6]))))
def c32_r9 : List SOp := [
  ⟨(some 4), .assign (.const (.string ⟨#[]⟩)), none⟩]
def c32 : SC := (.seq (.reg c32_r0 none (some [0, 1])) (.seq (.reg c32_r1 none (some [0, 1, 5])) (.seq (.seq (.reg c32_r2 none (some [0, 1, 5, 20])) (.cond (.tmp 20) (.seq (.reg c32_r3 none (some [4])) .ret) .skip (some [0, 1]))) (.seq (.seq (.reg c32_r4 none (some [0, 1, 6])) (.block 0 (.loop c32_l5 (some [0, 1, 6])))) (.seq (.reg c32_r9 none (some [4])) .ret)))))
theorem c32_eq : ∃ code, Tryd.f32.body = some code ∧ compile H32 code = c32 := ⟨_, rfl, by kernel_rfl⟩
theorem c32_fn : Tryd.prog.funcs[32]? = some Tryd.f32 := by kernel_rfl
theorem c32_rs : Tryd.f32.results.toList = [.tmp 4] := by kernel_rfl
theorem c32_ok : fnB Tryd.prog H32 Tryd.f32 = true := by kernel_rfl
theorem c32_nt : Tryd.f32.ntmps = 37 := by kernel_rfl

/-! 33: rampart/lex.either -/
def H33 : Hint := ⟨[(1, [2]), (0, [0])], []⟩
def c33_r0 : List SOp := [
  ⟨(some 2), .assign (.const (.bool false)), none⟩]
def c33_r1 : List SOp := [
  ⟨(some 3), .move (.tmp 0), none⟩,
  ⟨(some 4), .call ⟨.value (.func 21), #[(.tmp 3)], #[21]⟩, none⟩,
  ⟨(some 5), .move (.tmp 4), none⟩,
  ⟨(some 6), .move (.tmp 0), (some ((some 5), false))⟩,
  ⟨(some 7), .call ⟨.value (.func 23), #[(.tmp 6)], #[21]⟩, (some ((some 5), false))⟩,
  ⟨(some 8), .pick (.tmp 5) (.const (.bool true)) (.tmp 7), none⟩,
  ⟨(some 2), .assign (.tmp 8), none⟩]
def c33 : SC := (.seq (.reg c33_r0 none (some [0])) (.seq (.reg c33_r1 none (some [2])) .ret))
theorem c33_eq : ∃ code, Tryd.f33.body = some code ∧ compile H33 code = c33 := ⟨_, rfl, by kernel_rfl⟩
theorem c33_fn : Tryd.prog.funcs[33]? = some Tryd.f33 := by kernel_rfl
theorem c33_rs : Tryd.f33.results.toList = [.tmp 2] := by kernel_rfl
theorem c33_ok : fnB Tryd.prog H33 Tryd.f33 = true := by kernel_rfl
theorem c33_nt : Tryd.f33.ntmps = 9 := by kernel_rfl

/-! 34: (*rampart/lex.text).put -/
def H34 : Hint := ⟨[(0, [])], []⟩
def c34_r0 : List SOp := [
  ⟨(some 8), .move (.tmp 0), none⟩,
  ⟨(some 9), .move (.tmp 0), none⟩,
  ⟨(some 10), .nilCheck (.tmp 9), none⟩,
  ⟨(some 11), .fieldAddr 47 (.tmp 10) 2, none⟩,
  ⟨(some 12), .load 22 (.tmp 11), none⟩,
  ⟨(some 13), .move (.tmp 1), none⟩,
  ⟨(some 14), .move (.tmp 2), none⟩,
  ⟨(some 15), .move (.tmp 3), none⟩,
  ⟨(some 16), .move (.tmp 0), none⟩,
  ⟨(some 17), .nilCheck (.tmp 16), none⟩,
  ⟨(some 18), .fieldAddr 47 (.tmp 17) 1, none⟩,
  ⟨(some 19), .load 3 (.tmp 18), none⟩,
  ⟨(some 20), .build 30 #[(0, (.tmp 13)), (1, (.tmp 14)), (2, (.tmp 15)), (3, (.tmp 19))], none⟩,
  ⟨(some 21), .buildSlice 22 1 #[(0, (.tmp 20))], none⟩,
  ⟨(some 22), .call ⟨.builtin .append, #[(.tmp 12), (.tmp 21)], #[22, 22]⟩, none⟩,
  ⟨(some 23), .nilCheck (.tmp 8), none⟩,
  ⟨(some 24), .fieldAddr 47 (.tmp 23) 2, none⟩,
  ⟨none, .store 22 (.tmp 24) (.tmp 22), none⟩]
def c34 : SC := (.reg c34_r0 none (some []))
theorem c34_eq : ∃ code, Tryd.f34.body = some code ∧ compile H34 code = c34 := ⟨_, rfl, by kernel_rfl⟩
theorem c34_fn : Tryd.prog.funcs[34]? = some Tryd.f34 := by kernel_rfl
theorem c34_rs : Tryd.f34.results.toList = [] := by kernel_rfl
theorem c34_ok : fnB Tryd.prog H34 Tryd.f34 = true := by kernel_rfl
theorem c34_nt : Tryd.f34.ntmps = 25 := by kernel_rfl

/-! 36: (*rampart/lex.text).pairs -/
def H36 : Hint := ⟨[(15, [4, 5]), (9, [4, 5]), (8, [1, 6, 7]), (12, [4, 5]), (14, [0, 1, 6, 7, 15]), (6, [0, 1, 6, 7, 15]), (2000053, [0, 1, 6, 7, 15]), (13, [0, 1, 6, 7, 10, 15, 53]), (2000050, [0, 1, 6, 7, 15]), (11, [0, 1, 6, 7, 10, 15, 50]), (2000043, [0, 1, 6, 7, 15]), (10, [0, 1, 6, 7, 10, 15, 43]), (2000030, [0, 1, 6, 7, 15]), (7, [0, 1, 6, 7, 8, 9, 10, 15, 30]), (5, [0, 1, 6, 7, 8, 9, 10, 15]), (4, [0, 1, 6, 7, 8, 9, 15]), (2000017, [0, 1, 6, 7, 15, 16]), (3, [0, 1, 6, 7, 15, 16, 17]), (1000003, [0, 1, 6, 7, 15]), (2, [0, 1, 6, 7, 15]), (1, [0, 1, 6, 7]), (0, [0, 1])], []⟩
def c36_r0 : List SOp := [
  ⟨(some 4), .assign (.const (.slice none 0 0)), none⟩,
  ⟨(some 5), .assign (.const (.bool false)), none⟩]
def c36_r1 : List SOp := [
  ⟨(some 6), .assign (.const (.int .i64 (-1))), none⟩,
  ⟨(some 7), .assign (.const (.bool false)), none⟩]
def c36_r2 : List SOp := [
  ⟨(some 11), .move (.tmp 0), none⟩,
  ⟨(some 12), .nilCheck (.tmp 11), none⟩,
  ⟨(some 13), .fieldAddr 47 (.tmp 12) 0, none⟩,
  ⟨(some 14), .load 9 (.tmp 13), none⟩,
  ⟨(some 15), .range 9 (.tmp 14), none⟩]
def c36_r3 : List SOp := [
  ⟨(some 16), .next (.tmp 15) true, none⟩,
  ⟨(some 17), .extract (.tmp 16) 0, none⟩]
def c36_r4 : List SOp := [
  ⟨(some 18), .extract (.tmp 16) 1, none⟩,
  ⟨(some 19), .extract (.tmp 16) 2, none⟩,
  ⟨(some 8), .assign (.tmp 18), none⟩,
  ⟨(some 9), .assign (.tmp 19), none⟩]
def c36_r5 : List SOp := [
  ⟨(some 20), .move (.tmp 9), none⟩,
  ⟨(some 21), .call ⟨.value (.func 46), #[(.tmp 20)], #[21]⟩, none⟩,
  ⟨(some 10), .assign (.tmp 21), none⟩]
def c36_r7 : List SOp := [
  ⟨(some 31), .move (.tmp 9), none⟩,
  ⟨(some 32), .binOp .eql 21 (.tmp 31) (.const (.int .i32 124)) 21, none⟩,
  ⟨(some 30), .assign (.tmp 32), none⟩]
def c36_r8 : List SOp := [
  ⟨(some 33), .move (.tmp 0), none⟩,
  ⟨(some 34), .move (.tmp 8), none⟩,
  ⟨(some 35), .binOp .add 3 (.tmp 34) (.const (.int .i64 1)) 3, none⟩,
  ⟨(some 36), .call ⟨.value (.func 18), #[(.tmp 33), (.tmp 35)], #[45, 3]⟩, none⟩]
def c36_r9 : List SOp := [
  ⟨(some 37), .move (.tmp 1), none⟩,
  ⟨(some 38), .move (.tmp 7), none⟩,
  ⟨(some 39), .move (.tmp 38), none⟩,
  ⟨(some 40), .move (.tmp 6), (some ((some 39), true))⟩,
  ⟨(some 41), .binOp .lss 3 (.tmp 40) (.const (.int .i64 0)) 3, (some ((some 39), true))⟩,
  ⟨(some 42), .pick (.tmp 39) (.tmp 41) (.const (.bool false)), none⟩,
  ⟨(some 4), .assign (.tmp 37), none⟩,
  ⟨(some 5), .assign (.tmp 42), none⟩]
def c36_r10 : List SOp := [
  ⟨(some 44), .move (.tmp 9), none⟩,
  ⟨(some 45), .binOp .eql 21 (.tmp 44) (.const (.int .i32 32)) 21, none⟩,
  ⟨(some 46), .move (.tmp 45), none⟩,
  ⟨(some 47), .move (.tmp 6), (some ((some 46), true))⟩,
  ⟨(some 48), .binOp .lss 3 (.tmp 47) (.const (.int .i64 0)) 3, (some ((some 46), true))⟩,
  ⟨(some 49), .pick (.tmp 46) (.tmp 48) (.const (.bool false)), none⟩,
  ⟨(some 43), .assign (.tmp 49), none⟩]
def c36_r11 : List SOp := [
  ⟨(some 51), .move (.tmp 10), none⟩,
  ⟨(some 52), .binOp .lss 3 (.tmp 51) (.const (.int .i64 0)) 3, none⟩,
  ⟨(some 50), .assign (.tmp 52), none⟩]
def c36_r12 : List SOp := [
  ⟨(some 4), .assign (.const (.slice none 0 0)), none⟩,
  ⟨(some 5), .assign (.const (.bool false)), none⟩]
def c36_r13 : List SOp := [
  ⟨(some 54), .move (.tmp 6), none⟩,
  ⟨(some 55), .binOp .lss 3 (.tmp 54) (.const (.int .i64 0)) 3, none⟩,
  ⟨(some 53), .assign (.tmp 55), none⟩]
def c36_r14 : List SOp := [
  ⟨(some 56), .move (.tmp 10), none⟩,
  ⟨(some 6), .assign (.tmp 56), none⟩]
def c36_r6 : List SOp := [
  ⟨(some 22), .move (.tmp 1), none⟩,
  ⟨(some 23), .move (.tmp 6), none⟩,
  ⟨(some 24), .binOp .shl 3 (.tmp 23) (.const (.int .u64 4)) 81, none⟩,
  ⟨(some 25), .move (.tmp 10), none⟩,
  ⟨(some 26), .binOp .or 3 (.tmp 24) (.tmp 25) 3, none⟩,
  ⟨(some 27), .convert 3 5 (.tmp 26), none⟩,
  ⟨(some 28), .buildSlice 37 1 #[(0, (.tmp 27))], none⟩,
  ⟨(some 29), .call ⟨.builtin .append, #[(.tmp 22), (.tmp 28)], #[37, 37]⟩, none⟩,
  ⟨(some 1), .assign (.tmp 29), none⟩,
  ⟨(some 6), .assign (.const (.int .i64 (-1))), none⟩,
  ⟨(some 7), .assign (.const (.bool true)), none⟩]
def c36_l3 : SC := (.seq (.reg c36_r3 none (some [0, 1, 6, 7, 15, 16, 17])) (.seq (.cond (.tmp 17) .skip (.exit 0) (some [0, 1, 6, 7, 15, 16])) (.block 1 (.seq (.reg c36_r4 none (some [0, 1, 6, 7, 8, 9, 15])) (.seq (.reg c36_r5 none (some [0, 1, 6, 7, 8, 9, 10, 15])) (.block 2 (.seq (.reg c36_r7 none (some [0, 1, 6, 7, 8, 9, 10, 15, 30])) (.cond (.tmp 30) (.seq (.reg c36_r8 none (some [1, 6, 7])) (.seq (.reg c36_r9 none (some [4, 5])) .ret)) (.seq (.reg c36_r10 none (some [0, 1, 6, 7, 10, 15, 43])) (.cond (.tmp 43) .skip (.seq (.reg c36_r11 none (some [0, 1, 6, 7, 10, 15, 50])) (.cond (.tmp 50) (.seq (.reg c36_r12 none (some [4, 5])) .ret) (.seq (.reg c36_r13 none (some [0, 1, 6, 7, 10, 15, 53])) (.cond (.tmp 53) (.reg c36_r14 none (some [0, 1, 6, 7, 15])) (.reg c36_r6 none (some [0, 1, 6, 7, 15])) (some [0, 1, 6, 7, 15]))) (some [0, 1, 6, 7, 15]))) (some [0, 1, 6, 7, 15]))) (some [0, 1, 6, 7, 15])))))))))
def c36_r15 : List SOp := [
  ⟨(some 4), .assign (.const (.slice none 0 0)), none⟩,
  ⟨(some 5), .assign (.const (.bool false)), none⟩]
def c36 : SC := (.seq (.reg c36_r0 none (some [0, 1])) (.seq (.reg c36_r1 none (some [0, 1, 6, 7])) (.seq (.seq (.reg c36_r2 none (some [0, 1, 6, 7, 15])) (.block 0 (.loop c36_l3 (some [0, 1, 6, 7, 15])))) (.seq (.reg c36_r15 none (some [4, 5])) .ret))))
theorem c36_eq : ∃ code, Tryd.f36.body = some code ∧ compile H36 code = c36 := ⟨_, rfl, by kernel_rfl⟩
theorem c36_fn : Tryd.prog.funcs[36]? = some Tryd.f36 := by kernel_rfl
theorem c36_rs : Tryd.f36.results.toList = [.tmp 4, .tmp 5] := by kernel_rfl
theorem c36_ok : fnB Tryd.prog H36 Tryd.f36 = true := by kernel_rfl
theorem c36_nt : Tryd.f36.ntmps = 57 := by kernel_rfl

/-! 37: strings.ContainsRune -/
def H37 : Hint := ⟨[(1, [4]), (0, [0, 1])], []⟩
def c37_r0 : List SOp := [
  ⟨(some 4), .assign (.const (.bool false)), none⟩]
def c37_r1 : List SOp := [
  ⟨(some 5), .move (.tmp 0), none⟩,
  ⟨(some 6), .move (.tmp 1), none⟩,
  ⟨(some 7), .call ⟨.value (.func 47), #[(.tmp 5), (.tmp 6)], #[9, 21]⟩, none⟩,
  ⟨(some 8), .binOp .geq 3 (.tmp 7) (.const (.int .i64 0)) 3, none⟩,
  ⟨(some 4), .assign (.tmp 8), none⟩]
def c37 : SC := (.seq (.reg c37_r0 none (some [0, 1])) (.seq (.reg c37_r1 none (some [4])) .ret))
theorem c37_eq : ∃ code, Tryd.f37.body = some code ∧ compile H37 code = c37 := ⟨_, rfl, by kernel_rfl⟩
theorem c37_fn : Tryd.prog.funcs[37]? = some Tryd.f37 := by kernel_rfl
theorem c37_rs : Tryd.f37.results.toList = [.tmp 4] := by kernel_rfl
theorem c37_ok : fnB Tryd.prog H37 Tryd.f37 = true := by kernel_rfl
theorem c37_nt : Tryd.f37.ntmps = 9 := by kernel_rfl

/-! 38: strings.HasPrefix -/
def H38 : Hint := ⟨[(1, [4]), (0, [0, 1])], []⟩
def c38_r0 : List SOp := [
  ⟨(some 4), .assign (.const (.bool false)), none⟩]
def c38_r1 : List SOp := [
  ⟨(some 5), .move (.tmp 0), none⟩,
  ⟨(some 6), .move (.tmp 1), none⟩,
  ⟨(some 7), .call ⟨.value (.func 48), #[(.tmp 5), (.tmp 6)], #[9, 9]⟩, none⟩,
  ⟨(some 4), .assign (.tmp 7), none⟩]
def c38 : SC := (.seq (.reg c38_r0 none (some [0, 1])) (.seq (.reg c38_r1 none (some [4])) .ret))
theorem c38_eq : ∃ code, Tryd.f38.body = some code ∧ compile H38 code = c38 := ⟨_, rfl, by kernel_rfl⟩
theorem c38_fn : Tryd.prog.funcs[38]? = some Tryd.f38 := by kernel_rfl
theorem c38_rs : Tryd.f38.results.toList = [.tmp 4] := by kernel_rfl
theorem c38_ok : fnB Tryd.prog H38 Tryd.f38 = true := by kernel_rfl
theorem c38_nt : Tryd.f38.ntmps = 8 := by kernel_rfl

/-! 39: rampart/rampartref08.pairs -/
def H39 : Hint := ⟨[(10, [4, 5, 6]), (9, [0, 1, 7]), (8, [0, 1, 7]), (7, [4, 5, 6]), (2000038, [0, 1, 7, 8, 9]), (6, [0, 1, 7, 8, 9, 38]), (5, [0, 1, 7, 8, 9]), (4, [0, 1, 7]), (2000023, [0, 1, 7]), (3, [0, 1, 7, 23]), (2000019, [0, 1, 7]), (2, [0, 1, 7, 19]), (1000002, [0, 1, 7]), (1, [0, 1, 7]), (0, [0, 1])], []⟩
def c39_r0 : List SOp := [
  ⟨(some 4), .assign (.const (.string ⟨#[]⟩)), none⟩,
  ⟨(some 5), .assign (.const (.int .i64 0)), none⟩,
  ⟨(some 6), .assign (.const (.bool false)), none⟩]
def c39_r1 : List SOp := [
  ⟨(some 7), .assign (.const (.slice none 0 0)), none⟩]
def c39_r2 : List SOp := [
  ⟨(some 10), .move (.tmp 1), none⟩,
  ⟨(some 11), .move (.tmp 0), none⟩,
  ⟨(some 12), .call ⟨.builtin .len, #[(.tmp 11)], #[9]⟩, none⟩,
  ⟨(some 13), .binOp .lss 3 (.tmp 10) (.tmp 12) 3, none⟩,
  ⟨(some 14), .move (.tmp 13), none⟩,
  ⟨(some 15), .move (.tmp 0), (some ((some 14), true))⟩,
  ⟨(some 16), .move (.tmp 1), (some ((some 14), true))⟩,
  ⟨(some 17), .index 9 (.tmp 15) (.tmp 16), (some ((some 14), true))⟩,
  ⟨(some 18), .binOp .neq 5 (.tmp 17) (.const (.int .u8 124)) 5, (some ((some 14), true))⟩,
  ⟨(some 19), .pick (.tmp 14) (.tmp 18) (.const (.bool false)), none⟩]
def c39_r3 : List SOp := [
  ⟨(some 20), .move (.tmp 0), none⟩,
  ⟨(some 21), .move (.tmp 1), none⟩,
  ⟨(some 22), .index 9 (.tmp 20) (.tmp 21), none⟩,
  ⟨(some 23), .binOp .eql 5 (.tmp 22) (.const (.int .u8 32)) 5, none⟩]
def c39_r4 : List SOp := [
  ⟨(some 24), .move (.tmp 1), none⟩,
  ⟨(some 25), .binOp .add 3 (.tmp 24) (.const (.int .i64 1)) 3, none⟩,
  ⟨(some 1), .assign (.tmp 25), none⟩]
def c39_r5 : List SOp := [
  ⟨(some 26), .move (.tmp 0), none⟩,
  ⟨(some 27), .move (.tmp 1), none⟩,
  ⟨(some 28), .call ⟨.value (.func 49), #[(.tmp 26), (.tmp 27)], #[9, 3]⟩, none⟩,
  ⟨(some 29), .move (.tmp 0), none⟩,
  ⟨(some 30), .move (.tmp 1), none⟩,
  ⟨(some 31), .binOp .add 3 (.tmp 30) (.const (.int .i64 1)) 3, none⟩,
  ⟨(some 32), .call ⟨.value (.func 49), #[(.tmp 29), (.tmp 31)], #[9, 3]⟩, none⟩,
  ⟨(some 8), .assign (.tmp 28), none⟩,
  ⟨(some 9), .assign (.tmp 32), none⟩]
def c39_r6 : List SOp := [
  ⟨(some 33), .move (.tmp 8), none⟩,
  ⟨(some 34), .binOp .lss 3 (.tmp 33) (.const (.int .i64 0)) 3, none⟩,
  ⟨(some 35), .move (.tmp 34), none⟩,
  ⟨(some 36), .move (.tmp 9), (some ((some 35), false))⟩,
  ⟨(some 37), .binOp .lss 3 (.tmp 36) (.const (.int .i64 0)) 3, (some ((some 35), false))⟩,
  ⟨(some 38), .pick (.tmp 35) (.const (.bool true)) (.tmp 37), none⟩]
def c39_r7 : List SOp := [
  ⟨(some 39), .move (.tmp 1), none⟩,
  ⟨(some 4), .assign (.const (.string ⟨#[]⟩)), none⟩,
  ⟨(some 5), .assign (.tmp 39), none⟩,
  ⟨(some 6), .assign (.const (.bool false)), none⟩]
def c39_r8 : List SOp := [
  ⟨(some 40), .move (.tmp 7), none⟩,
  ⟨(some 41), .move (.tmp 8), none⟩,
  ⟨(some 42), .binOp .mul 3 (.const (.int .i64 16)) (.tmp 41) 3, none⟩,
  ⟨(some 43), .move (.tmp 9), none⟩,
  ⟨(some 44), .binOp .add 3 (.tmp 42) (.tmp 43) 3, none⟩,
  ⟨(some 45), .convert 3 5 (.tmp 44), none⟩,
  ⟨(some 46), .buildSlice 37 1 #[(0, (.tmp 45))], none⟩,
  ⟨(some 47), .call ⟨.builtin .append, #[(.tmp 40), (.tmp 46)], #[37, 37]⟩, none⟩,
  ⟨(some 7), .assign (.tmp 47), none⟩]
def c39_r9 : List SOp := [
  ⟨(some 48), .move (.tmp 1), none⟩,
  ⟨(some 49), .binOp .add 3 (.tmp 48) (.const (.int .i64 2)) 3, none⟩,
  ⟨(some 1), .assign (.tmp 49), none⟩]
def c39_l2 : SC := (.seq (.seq (.reg c39_r2 none (some [0, 1, 7, 19])) (.cond (.tmp 19) .skip (.exit 0) (some [0, 1, 7]))) (.block 1 (.seq (.seq (.reg c39_r3 none (some [0, 1, 7, 23])) (.cond (.tmp 23) (.seq (.reg c39_r4 none (some [0, 1, 7])) (.exit 1)) .skip (some [0, 1, 7]))) (.seq (.reg c39_r5 none (some [0, 1, 7, 8, 9])) (.seq (.seq (.reg c39_r6 none (some [0, 1, 7, 8, 9, 38])) (.cond (.tmp 38) (.seq (.reg c39_r7 none (some [4, 5, 6])) .ret) .skip (some [0, 1, 7, 8, 9]))) (.seq (.reg c39_r8 none (some [0, 1, 7])) (.reg c39_r9 none (some [0, 1, 7]))))))))
def c39_r10 : List SOp := [
  ⟨(some 50), .move (.tmp 7), none⟩,
  ⟨(some 51), .convert 37 9 (.tmp 50), none⟩,
  ⟨(some 52), .move (.tmp 1), none⟩,
  ⟨(some 53), .binOp .add 3 (.tmp 52) (.const (.int .i64 1)) 3, none⟩,
  ⟨(some 54), .move (.tmp 1), none⟩,
  ⟨(some 55), .move (.tmp 0), none⟩,
  ⟨(some 56), .call ⟨.builtin .len, #[(.tmp 55)], #[9]⟩, none⟩,
  ⟨(some 57), .binOp .lss 3 (.tmp 54) (.tmp 56) 3, none⟩,
  ⟨(some 58), .move (.tmp 57), none⟩,
  ⟨(some 59), .move (.tmp 7), (some ((some 58), true))⟩,
  ⟨(some 60), .call ⟨.builtin .len, #[(.tmp 59)], #[37]⟩, (some ((some 58), true))⟩,
  ⟨(some 61), .binOp .gtr 3 (.tmp 60) (.const (.int .i64 0)) 3, (some ((some 58), true))⟩,
  ⟨(some 62), .pick (.tmp 58) (.tmp 61) (.const (.bool false)), none⟩,
  ⟨(some 4), .assign (.tmp 51), none⟩,
  ⟨(some 5), .assign (.tmp 53), none⟩,
  ⟨(some 6), .assign (.tmp 62), none⟩]
def c39 : SC := (.seq (.reg c39_r0 none (some [0, 1])) (.seq (.reg c39_r1 none (some [0, 1, 7])) (.seq (.block 0 (.loop c39_l2 (some [0, 1, 7]))) (.seq (.reg c39_r10 none (some [4, 5, 6])) .ret))))
theorem c39_eq : ∃ code, Tryd.f39.body = some code ∧ compile H39 code = c39 := ⟨_, rfl, by kernel_rfl⟩
theorem c39_fn : Tryd.prog.funcs[39]? = some Tryd.f39 := by kernel_rfl
theorem c39_rs : Tryd.f39.results.toList = [.tmp 4, .tmp 5, .tmp 6] := by kernel_rfl
theorem c39_ok : fnB Tryd.prog H39 Tryd.f39 = true := by kernel_rfl
theorem c39_nt : Tryd.f39.ntmps = 63 := by kernel_rfl

/-! 46: rampart/lex.hex -/
def H46 : Hint := ⟨[(7, [2]), (2, [2]), (4, [2]), (6, [2]), (2000020, []), (5, [0, 20]), (2000009, []), (3, [0, 9]), (2000003, []), (1, [0, 3]), (0, [0])], []⟩
def c46_r0 : List SOp := [
  ⟨(some 2), .assign (.const (.int .i64 0)), none⟩]
def c46_r1 : List SOp := [
  ⟨(some 4), .move (.tmp 0), none⟩,
  ⟨(some 5), .call ⟨.value (.func 23), #[(.tmp 4)], #[21]⟩, none⟩,
  ⟨(some 3), .assign (.tmp 5), none⟩]
def c46_r2 : List SOp := [
  ⟨(some 6), .move (.tmp 0), none⟩,
  ⟨(some 7), .binOp .sub 21 (.tmp 6) (.const (.int .i32 48)) 21, none⟩,
  ⟨(some 8), .convert 21 3 (.tmp 7), none⟩,
  ⟨(some 2), .assign (.tmp 8), none⟩]
def c46_r3 : List SOp := [
  ⟨(some 10), .move (.tmp 0), none⟩,
  ⟨(some 11), .binOp .geq 21 (.tmp 10) (.const (.int .i32 97)) 21, none⟩,
  ⟨(some 12), .move (.tmp 11), none⟩,
  ⟨(some 13), .move (.tmp 0), (some ((some 12), true))⟩,
  ⟨(some 14), .binOp .leq 21 (.tmp 13) (.const (.int .i32 102)) 21, (some ((some 12), true))⟩,
  ⟨(some 15), .pick (.tmp 12) (.tmp 14) (.const (.bool false)), none⟩,
  ⟨(some 9), .assign (.tmp 15), none⟩]
def c46_r4 : List SOp := [
  ⟨(some 16), .move (.tmp 0), none⟩,
  ⟨(some 17), .binOp .sub 21 (.tmp 16) (.const (.int .i32 97)) 21, none⟩,
  ⟨(some 18), .convert 21 3 (.tmp 17), none⟩,
  ⟨(some 19), .binOp .add 3 (.tmp 18) (.const (.int .i64 10)) 3, none⟩,
  ⟨(some 2), .assign (.tmp 19), none⟩]
def c46_r5 : List SOp := [
  ⟨(some 21), .move (.tmp 0), none⟩,
  ⟨(some 22), .binOp .geq 21 (.tmp 21) (.const (.int .i32 65)) 21, none⟩,
  ⟨(some 23), .move (.tmp 22), none⟩,
  ⟨(some 24), .move (.tmp 0), (some ((some 23), true))⟩,
  ⟨(some 25), .binOp .leq 21 (.tmp 24) (.const (.int .i32 70)) 21, (some ((some 23), true))⟩,
  ⟨(some 26), .pick (.tmp 23) (.tmp 25) (.const (.bool false)), none⟩,
  ⟨(some 20), .assign (.tmp 26), none⟩]
def c46_r6 : List SOp := [
  ⟨(some 27), .move (.tmp 0), none⟩,
  ⟨(some 28), .binOp .sub 21 (.tmp 27) (.const (.int .i32 65)) 21, none⟩,
  ⟨(some 29), .convert 21 3 (.tmp 28), none⟩,
  ⟨(some 30), .binOp .add 3 (.tmp 29) (.const (.int .i64 10)) 3, none⟩,
  ⟨(some 2), .assign (.tmp 30), none⟩]
def c46_r7 : List SOp := [
  ⟨(some 2), .assign (.const (.int .i64 (-1))), none⟩]
def c46 : SC := (.seq (.reg c46_r0 none (some [0])) (.seq (.block 0 (.seq (.reg c46_r1 none (some [0, 3])) (.cond (.tmp 3) (.seq (.reg c46_r2 none (some [2])) .ret) (.seq (.reg c46_r3 none (some [0, 9])) (.cond (.tmp 9) (.seq (.reg c46_r4 none (some [2])) .ret) (.seq (.reg c46_r5 none (some [0, 20])) (.cond (.tmp 20) (.seq (.reg c46_r6 none (some [2])) .ret) .skip (some []))) (some []))) (some [])))) (.seq (.reg c46_r7 none (some [2])) .ret)))
theorem c46_eq : ∃ code, Tryd.f46.body = some code ∧ compile H46 code = c46 := ⟨_, rfl, by kernel_rfl⟩
theorem c46_fn : Tryd.prog.funcs[46]? = some Tryd.f46 := by kernel_rfl
theorem c46_rs : Tryd.f46.results.toList = [.tmp 2] := by kernel_rfl
theorem c46_ok : fnB Tryd.prog H46 Tryd.f46 = true := by kernel_rfl
theorem c46_nt : Tryd.f46.ntmps = 31 := by kernel_rfl

/-! 47: strings.IndexRune -/
def H47 : Hint := ⟨[(35, [4]), (42, [4]), (41, [4]), (2000181, [175]), (40, [5, 175, 181]), (39, [5, 6, 175]), (2000177, [175, 176]), (38, [175, 176, 177]), (1000038, [175]), (37, [175]), (44, [4]), (33, [4]), (22, [4]), (2000108, []), (21, [8, 9, 13, 108]), (20, [8, 9, 13]), (26, [0, 7, 8, 9, 14, 15]), (32, [4]), (30, [0, 7, 8, 9, 14, 15, 16]), (2000156, [0, 7, 8, 9, 14, 15, 16]), (31, [0, 7, 8, 9, 14, 15, 16, 156]), (2000143, [0, 7, 8, 9, 14, 15, 16]), (29, [0, 7, 8, 9, 14, 15, 16, 143]), (1000029, [0, 7, 8, 9, 14, 15, 16]), (28, [0, 7, 8, 9, 14, 15, 16]), (2000139, [0, 7, 8, 9, 14, 15]), (27, [0, 7, 8, 9, 14, 15, 139]), (2000124, [0, 7, 8, 9, 14, 15]), (25, [0, 7, 8, 9, 14, 15, 124]), (1000025, [0, 7, 8, 9, 14, 15]), (24, [0, 7, 8, 9, 14, 15]), (23, [0, 7, 8, 9, 14]), (2000000, []), (19, [4]), (2000098, [0, 7, 8, 9]), (18, [0, 7, 8, 9, 98]), (17, [0, 7, 8, 9, 10]), (16, [0, 7, 8, 9, 10]), (15, [4]), (13, [0, 7, 8, 9, 12]), (2000064, [0, 7, 8, 9, 12]), (14, [0, 7, 8, 9, 12, 64]), (2000051, [0, 7, 8, 9, 12]), (12, [0, 7, 8, 9, 12, 51]), (1000012, [0, 7, 8, 9, 12]), (11, [0, 7, 8, 9, 12]), (10, [0, 7, 8, 9]), (9, [4]), (2000043, [0, 7, 8, 9, 11]), (8, [0, 7, 8, 9, 11, 43]), (7, [0, 7, 8, 9, 11]), (2000033, [0, 7, 8, 9]), (6, [0, 7, 8, 9, 33]), (2000026, [0, 7, 8, 9]), (5, [0, 7, 8, 9, 26]), (1000005, [0, 7, 8, 9]), (4, [0, 7, 8, 9]), (3, [0, 7, 8, 9]), (2, [0, 7, 8]), (1, [0, 7]), (2000183, [4]), (43, [0, 1, 183]), (2000171, [4]), (36, [0, 1, 171]), (2000160, [4]), (34, [0, 1, 160]), (0, [0, 1])], []⟩
def c47_r0 : List SOp := [
  ⟨(some 4), .assign (.const (.int .i64 0)), none⟩]
def c47_r34 : List SOp := [
  ⟨(some 161), .move (.tmp 1), none⟩,
  ⟨(some 162), .binOp .leq 21 (.const (.int .i32 0)) (.tmp 161) 21, none⟩,
  ⟨(some 163), .move (.tmp 162), none⟩,
  ⟨(some 164), .move (.tmp 1), (some ((some 163), true))⟩,
  ⟨(some 165), .binOp .lss 21 (.tmp 164) (.const (.int .i32 128)) 21, (some ((some 163), true))⟩,
  ⟨(some 166), .pick (.tmp 163) (.tmp 165) (.const (.bool false)), none⟩,
  ⟨(some 160), .assign (.tmp 166), none⟩]
def c47_r35 : List SOp := [
  ⟨(some 167), .move (.tmp 0), none⟩,
  ⟨(some 168), .move (.tmp 1), none⟩,
  ⟨(some 169), .convert 21 5 (.tmp 168), none⟩,
  ⟨(some 170), .call ⟨.value (.func 57), #[(.tmp 167), (.tmp 169)], #[9, 5]⟩, none⟩,
  ⟨(some 4), .assign (.tmp 170), none⟩]
def c47_r36 : List SOp := [
  ⟨(some 172), .move (.tmp 1), none⟩,
  ⟨(some 173), .binOp .eql 21 (.tmp 172) (.const (.int .i32 65533)) 21, none⟩,
  ⟨(some 171), .assign (.tmp 173), none⟩]
def c47_r37 : List SOp := [
  ⟨(some 174), .move (.tmp 0), none⟩,
  ⟨(some 175), .range 9 (.tmp 174), none⟩]
def c47_r38 : List SOp := [
  ⟨(some 176), .next (.tmp 175) true, none⟩,
  ⟨(some 177), .extract (.tmp 176) 0, none⟩]
def c47_r39 : List SOp := [
  ⟨(some 178), .extract (.tmp 176) 1, none⟩,
  ⟨(some 179), .extract (.tmp 176) 2, none⟩,
  ⟨(some 5), .assign (.tmp 178), none⟩,
  ⟨(some 6), .assign (.tmp 179), none⟩]
def c47_r40 : List SOp := [
  ⟨(some 180), .move (.tmp 6), none⟩,
  ⟨(some 181), .binOp .eql 21 (.tmp 180) (.const (.int .i32 65533)) 21, none⟩]
def c47_r41 : List SOp := [
  ⟨(some 182), .move (.tmp 5), none⟩,
  ⟨(some 4), .assign (.tmp 182), none⟩]
def c47_l38 : SC := (.seq (.reg c47_r38 none (some [175, 176, 177])) (.seq (.cond (.tmp 177) .skip (.exit 9) (some [175, 176])) (.block 10 (.seq (.reg c47_r39 none (some [5, 6, 175])) (.seq (.reg c47_r40 none (some [5, 175, 181])) (.cond (.tmp 181) (.seq (.reg c47_r41 none (some [4])) .ret) .skip (some [175])))))))
def c47_r42 : List SOp := [
  ⟨(some 4), .assign (.const (.int .i64 (-1))), none⟩]
def c47_r43 : List SOp := [
  ⟨(some 184), .move (.tmp 1), none⟩,
  ⟨(some 185), .call ⟨.value (.func 58), #[(.tmp 184)], #[21]⟩, none⟩,
  ⟨(some 186), .unOp .not 4 (.tmp 185), none⟩,
  ⟨(some 183), .assign (.tmp 186), none⟩]
def c47_r44 : List SOp := [
  ⟨(some 4), .assign (.const (.int .i64 (-1))), none⟩]
def c47_r1 : List SOp := [
  ⟨(some 17), .move (.tmp 1), none⟩,
  ⟨(some 18), .convert 21 9 (.tmp 17), none⟩,
  ⟨(some 7), .assign (.tmp 18), none⟩]
def c47_r2 : List SOp := [
  ⟨(some 19), .move (.tmp 7), none⟩,
  ⟨(some 20), .call ⟨.builtin .len, #[(.tmp 19)], #[9]⟩, none⟩,
  ⟨(some 21), .binOp .sub 3 (.tmp 20) (.const (.int .i64 1)) 3, none⟩,
  ⟨(some 8), .assign (.tmp 21), none⟩]
def c47_r3 : List SOp := [
  ⟨(some 22), .move (.tmp 8), none⟩,
  ⟨(some 9), .assign (.tmp 22), none⟩]
def c47_r4 : List SOp := [
  ⟨(some 10), .assign (.const (.int .i64 0)), none⟩]
def c47_r5 : List SOp := [
  ⟨(some 23), .move (.tmp 9), none⟩,
  ⟨(some 24), .move (.tmp 0), none⟩,
  ⟨(some 25), .call ⟨.builtin .len, #[(.tmp 24)], #[9]⟩, none⟩,
  ⟨(some 26), .binOp .lss 3 (.tmp 23) (.tmp 25) 3, none⟩]
def c47_r6 : List SOp := [
  ⟨(some 27), .move (.tmp 0), none⟩,
  ⟨(some 28), .move (.tmp 9), none⟩,
  ⟨(some 29), .index 9 (.tmp 27) (.tmp 28), none⟩,
  ⟨(some 30), .move (.tmp 7), none⟩,
  ⟨(some 31), .move (.tmp 8), none⟩,
  ⟨(some 32), .index 9 (.tmp 30) (.tmp 31), none⟩,
  ⟨(some 33), .binOp .neq 5 (.tmp 29) (.tmp 32) 5, none⟩]
def c47_r7 : List SOp := [
  ⟨(some 34), .move (.tmp 0), none⟩,
  ⟨(some 35), .move (.tmp 9), none⟩,
  ⟨(some 36), .binOp .add 3 (.tmp 35) (.const (.int .i64 1)) 3, none⟩,
  ⟨(some 37), .slice 9 (.tmp 34) (some (.tmp 36)) none none, none⟩,
  ⟨(some 38), .move (.tmp 7), none⟩,
  ⟨(some 39), .move (.tmp 8), none⟩,
  ⟨(some 40), .index 9 (.tmp 38) (.tmp 39), none⟩,
  ⟨(some 41), .call ⟨.value (.func 57), #[(.tmp 37), (.tmp 40)], #[9, 5]⟩, none⟩,
  ⟨(some 11), .assign (.tmp 41), none⟩]
def c47_r8 : List SOp := [
  ⟨(some 42), .move (.tmp 11), none⟩,
  ⟨(some 43), .binOp .lss 3 (.tmp 42) (.const (.int .i64 0)) 3, none⟩]
def c47_r9 : List SOp := [
  ⟨(some 4), .assign (.const (.int .i64 (-1))), none⟩]
def c47_r10 : List SOp := [
  ⟨(some 44), .move (.tmp 9), none⟩,
  ⟨(some 45), .move (.tmp 11), none⟩,
  ⟨(some 46), .binOp .add 3 (.tmp 45) (.const (.int .i64 1)) 3, none⟩,
  ⟨(some 47), .binOp .add 3 (.tmp 44) (.tmp 46) 3, none⟩,
  ⟨(some 9), .assign (.tmp 47), none⟩]
def c47_r11 : List SOp := [
  ⟨(some 12), .assign (.const (.int .i64 1)), none⟩]
def c47_r12 : List SOp := [
  ⟨(some 48), .move (.tmp 12), none⟩,
  ⟨(some 49), .move (.tmp 7), none⟩,
  ⟨(some 50), .call ⟨.builtin .len, #[(.tmp 49)], #[9]⟩, none⟩,
  ⟨(some 51), .binOp .lss 3 (.tmp 48) (.tmp 50) 3, none⟩]
def c47_r14 : List SOp := [
  ⟨(some 54), .move (.tmp 0), none⟩,
  ⟨(some 55), .move (.tmp 9), none⟩,
  ⟨(some 56), .move (.tmp 12), none⟩,
  ⟨(some 57), .binOp .sub 3 (.tmp 55) (.tmp 56) 3, none⟩,
  ⟨(some 58), .index 9 (.tmp 54) (.tmp 57), none⟩,
  ⟨(some 59), .move (.tmp 7), none⟩,
  ⟨(some 60), .move (.tmp 8), none⟩,
  ⟨(some 61), .move (.tmp 12), none⟩,
  ⟨(some 62), .binOp .sub 3 (.tmp 60) (.tmp 61) 3, none⟩,
  ⟨(some 63), .index 9 (.tmp 59) (.tmp 62), none⟩,
  ⟨(some 64), .binOp .neq 5 (.tmp 58) (.tmp 63) 5, none⟩]
def c47_r13 : List SOp := [
  ⟨(some 52), .move (.tmp 12), none⟩,
  ⟨(some 53), .binOp .add 3 (.tmp 52) (.const (.int .i64 1)) 3, none⟩,
  ⟨(some 12), .assign (.tmp 53), none⟩]
def c47_l12 : SC := (.seq (.seq (.reg c47_r12 none (some [0, 7, 8, 9, 12, 51])) (.cond (.tmp 51) .skip (.exit 3) (some [0, 7, 8, 9, 12]))) (.seq (.block 4 (.seq (.reg c47_r14 none (some [0, 7, 8, 9, 12, 64])) (.cond (.tmp 64) .bad .skip (some [0, 7, 8, 9, 12])))) (.reg c47_r13 none (some [0, 7, 8, 9, 12]))))
def c47_r15 : List SOp := [
  ⟨(some 65), .move (.tmp 9), none⟩,
  ⟨(some 66), .move (.tmp 8), none⟩,
  ⟨(some 67), .binOp .sub 3 (.tmp 65) (.tmp 66) 3, none⟩,
  ⟨(some 4), .assign (.tmp 67), none⟩]
def c47_r16 : List SOp := [
  ⟨(some 68), .move (.tmp 10), none⟩,
  ⟨(some 69), .binOp .add 3 (.tmp 68) (.const (.int .i64 1)) 3, none⟩,
  ⟨(some 10), .assign (.tmp 69), none⟩]
def c47_r17 : List SOp := [
  ⟨(some 70), .move (.tmp 9), none⟩,
  ⟨(some 71), .binOp .add 3 (.tmp 70) (.const (.int .i64 1)) 3, none⟩,
  ⟨(some 9), .assign (.tmp 71), none⟩]
def c47_r18 : List SOp := [
  ⟨(some 72), .move (.const (.bool true)), none⟩,
  ⟨(some 73), .move (.tmp 10), (some ((some 72), true))⟩,
  ⟨(some 74), .move (.tmp 9), (some ((some 72), true))⟩,
  ⟨(some 75), .call ⟨.value (.func 59), #[(.tmp 74)], #[3]⟩, (some ((some 72), true))⟩,
  ⟨(some 76), .binOp .gtr 3 (.tmp 73) (.tmp 75) 3, (some ((some 72), true))⟩,
  ⟨(some 77), .pick (.tmp 72) (.tmp 76) (.const (.bool false)), none⟩,
  ⟨(some 78), .move (.tmp 77), none⟩,
  ⟨(some 79), .move (.tmp 9), (some ((some 78), true))⟩,
  ⟨(some 80), .move (.tmp 0), (some ((some 78), true))⟩,
  ⟨(some 81), .call ⟨.builtin .len, #[(.tmp 80)], #[9]⟩, (some ((some 78), true))⟩,
  ⟨(some 82), .binOp .lss 3 (.tmp 79) (.tmp 81) 3, (some ((some 78), true))⟩,
  ⟨(some 83), .pick (.tmp 78) (.tmp 82) (.const (.bool false)), none⟩,
  ⟨(some 84), .move (.tmp 83), none⟩,
  ⟨(some 85), .move (.const (.bool false)), (some ((some 84), false))⟩,
  ⟨(some 86), .move (.tmp 10), (some ((some 85), true))⟩,
  ⟨(some 87), .move (.tmp 9), (some ((some 85), true))⟩,
  ⟨(some 88), .binOp .shr 3 (.tmp 87) (.const (.int .u64 4)) 81, (some ((some 85), true))⟩,
  ⟨(some 89), .binOp .add 3 (.const (.int .i64 4)) (.tmp 88) 3, (some ((some 85), true))⟩,
  ⟨(some 90), .binOp .geq 3 (.tmp 86) (.tmp 89) 3, (some ((some 85), true))⟩,
  ⟨(some 91), .pick (.tmp 85) (.tmp 90) (.const (.bool false)), (some ((some 84), false))⟩,
  ⟨(some 92), .move (.tmp 91), (some ((some 84), false))⟩,
  ⟨(some 93), .move (.tmp 9), (some ((some 92), true))⟩,
  ⟨(some 94), .move (.tmp 0), (some ((some 92), true))⟩,
  ⟨(some 95), .call ⟨.builtin .len, #[(.tmp 94)], #[9]⟩, (some ((some 92), true))⟩,
  ⟨(some 96), .binOp .lss 3 (.tmp 93) (.tmp 95) 3, (some ((some 92), true))⟩,
  ⟨(some 97), .pick (.tmp 92) (.tmp 96) (.const (.bool false)), (some ((some 84), false))⟩,
  ⟨(some 98), .pick (.tmp 84) (.const (.bool true)) (.tmp 97), none⟩]
def c47_l5 : SC := (.seq (.seq (.reg c47_r5 none (some [0, 7, 8, 9, 26])) (.cond (.tmp 26) .skip (.exit 1) (some [0, 7, 8, 9]))) (.block 2 (.seq (.seq (.reg c47_r6 none (some [0, 7, 8, 9, 33])) (.cond (.tmp 33) (.seq (.reg c47_r7 none (some [0, 7, 8, 9, 11])) (.seq (.seq (.reg c47_r8 none (some [0, 7, 8, 9, 11, 43])) (.cond (.tmp 43) (.seq (.reg c47_r9 none (some [4])) .ret) .skip (some [0, 7, 8, 9, 11]))) (.reg c47_r10 none (some [0, 7, 8, 9])))) .skip (some [0, 7, 8, 9]))) (.seq (.seq (.reg c47_r11 none (some [0, 7, 8, 9, 12])) (.block 3 (.loop c47_l12 (some [0, 7, 8, 9, 12])))) (.seq (.seq (.reg c47_r15 none (some [4])) .ret) (.seq .skip (.seq (.reg c47_r16 none (some [0, 7, 8, 9, 10])) (.seq (.reg c47_r17 none (some [0, 7, 8, 9, 10])) (.seq (.reg c47_r18 none (some [0, 7, 8, 9, 98])) (.cond (.tmp 98) .bad .skip (some [0, 7, 8, 9])))))))))))
def c47_r19 : List SOp := [
  ⟨(some 4), .assign (.const (.int .i64 (-1))), none⟩]
def c47_r20 : List SOp := [
  ⟨(some 99), .move (.tmp 0), none⟩,
  ⟨(some 100), .move (.tmp 9), none⟩,
  ⟨(some 101), .move (.tmp 8), none⟩,
  ⟨(some 102), .binOp .sub 3 (.tmp 100) (.tmp 101) 3, none⟩,
  ⟨(some 103), .slice 9 (.tmp 99) (some (.tmp 102)) none none, none⟩,
  ⟨(some 104), .move (.tmp 1), none⟩,
  ⟨(some 105), .convert 21 9 (.tmp 104), none⟩,
  ⟨(some 106), .call ⟨.value (.func 60), #[(.tmp 103), (.tmp 105)], #[9, 9]⟩, none⟩,
  ⟨(some 13), .assign (.tmp 106), none⟩]
def c47_r21 : List SOp := [
  ⟨(some 107), .move (.tmp 13), none⟩,
  ⟨(some 108), .binOp .geq 3 (.tmp 107) (.const (.int .i64 0)) 3, none⟩]
def c47_r22 : List SOp := [
  ⟨(some 109), .move (.tmp 9), none⟩,
  ⟨(some 110), .move (.tmp 13), none⟩,
  ⟨(some 111), .binOp .add 3 (.tmp 109) (.tmp 110) 3, none⟩,
  ⟨(some 112), .move (.tmp 8), none⟩,
  ⟨(some 113), .binOp .sub 3 (.tmp 111) (.tmp 112) 3, none⟩,
  ⟨(some 4), .assign (.tmp 113), none⟩]
def c47_r23 : List SOp := [
  ⟨(some 114), .move (.tmp 7), none⟩,
  ⟨(some 115), .move (.tmp 8), none⟩,
  ⟨(some 116), .index 9 (.tmp 114) (.tmp 115), none⟩,
  ⟨(some 14), .assign (.tmp 116), none⟩]
def c47_r24 : List SOp := [
  ⟨(some 117), .move (.tmp 7), none⟩,
  ⟨(some 118), .move (.tmp 8), none⟩,
  ⟨(some 119), .binOp .sub 3 (.tmp 118) (.const (.int .i64 1)) 3, none⟩,
  ⟨(some 120), .index 9 (.tmp 117) (.tmp 119), none⟩,
  ⟨(some 15), .assign (.tmp 120), none⟩]
def c47_r25 : List SOp := [
  ⟨(some 121), .move (.tmp 9), none⟩,
  ⟨(some 122), .move (.tmp 0), none⟩,
  ⟨(some 123), .call ⟨.builtin .len, #[(.tmp 122)], #[9]⟩, none⟩,
  ⟨(some 124), .binOp .lss 3 (.tmp 121) (.tmp 123) 3, none⟩]
def c47_r27 : List SOp := [
  ⟨(some 127), .move (.tmp 0), none⟩,
  ⟨(some 128), .move (.tmp 9), none⟩,
  ⟨(some 129), .index 9 (.tmp 127) (.tmp 128), none⟩,
  ⟨(some 130), .move (.tmp 14), none⟩,
  ⟨(some 131), .binOp .eql 5 (.tmp 129) (.tmp 130) 5, none⟩,
  ⟨(some 132), .move (.tmp 131), none⟩,
  ⟨(some 133), .move (.tmp 0), (some ((some 132), true))⟩,
  ⟨(some 134), .move (.tmp 9), (some ((some 132), true))⟩,
  ⟨(some 135), .binOp .sub 3 (.tmp 134) (.const (.int .i64 1)) 3, (some ((some 132), true))⟩,
  ⟨(some 136), .index 9 (.tmp 133) (.tmp 135), (some ((some 132), true))⟩,
  ⟨(some 137), .move (.tmp 15), (some ((some 132), true))⟩,
  ⟨(some 138), .binOp .eql 5 (.tmp 136) (.tmp 137) 5, (some ((some 132), true))⟩,
  ⟨(some 139), .pick (.tmp 132) (.tmp 138) (.const (.bool false)), none⟩]
def c47_r28 : List SOp := [
  ⟨(some 16), .assign (.const (.int .i64 2)), none⟩]
def c47_r29 : List SOp := [
  ⟨(some 140), .move (.tmp 16), none⟩,
  ⟨(some 141), .move (.tmp 7), none⟩,
  ⟨(some 142), .call ⟨.builtin .len, #[(.tmp 141)], #[9]⟩, none⟩,
  ⟨(some 143), .binOp .lss 3 (.tmp 140) (.tmp 142) 3, none⟩]
def c47_r31 : List SOp := [
  ⟨(some 146), .move (.tmp 0), none⟩,
  ⟨(some 147), .move (.tmp 9), none⟩,
  ⟨(some 148), .move (.tmp 16), none⟩,
  ⟨(some 149), .binOp .sub 3 (.tmp 147) (.tmp 148) 3, none⟩,
  ⟨(some 150), .index 9 (.tmp 146) (.tmp 149), none⟩,
  ⟨(some 151), .move (.tmp 7), none⟩,
  ⟨(some 152), .move (.tmp 8), none⟩,
  ⟨(some 153), .move (.tmp 16), none⟩,
  ⟨(some 154), .binOp .sub 3 (.tmp 152) (.tmp 153) 3, none⟩,
  ⟨(some 155), .index 9 (.tmp 151) (.tmp 154), none⟩,
  ⟨(some 156), .binOp .neq 5 (.tmp 150) (.tmp 155) 5, none⟩]
def c47_r30 : List SOp := [
  ⟨(some 144), .move (.tmp 16), none⟩,
  ⟨(some 145), .binOp .add 3 (.tmp 144) (.const (.int .i64 1)) 3, none⟩,
  ⟨(some 16), .assign (.tmp 145), none⟩]
def c47_l29 : SC := (.seq (.seq (.reg c47_r29 none (some [0, 7, 8, 9, 14, 15, 16, 143])) (.cond (.tmp 143) .skip (.exit 7) (some [0, 7, 8, 9, 14, 15, 16]))) (.seq (.block 8 (.seq (.reg c47_r31 none (some [0, 7, 8, 9, 14, 15, 16, 156])) (.cond (.tmp 156) (.exit 6) .skip (some [0, 7, 8, 9, 14, 15, 16])))) (.reg c47_r30 none (some [0, 7, 8, 9, 14, 15, 16]))))
def c47_r32 : List SOp := [
  ⟨(some 157), .move (.tmp 9), none⟩,
  ⟨(some 158), .move (.tmp 8), none⟩,
  ⟨(some 159), .binOp .sub 3 (.tmp 157) (.tmp 158) 3, none⟩,
  ⟨(some 4), .assign (.tmp 159), none⟩]
def c47_r26 : List SOp := [
  ⟨(some 125), .move (.tmp 9), none⟩,
  ⟨(some 126), .binOp .add 3 (.tmp 125) (.const (.int .i64 1)) 3, none⟩,
  ⟨(some 9), .assign (.tmp 126), none⟩]
def c47_l25 : SC := (.seq (.seq (.reg c47_r25 none (some [0, 7, 8, 9, 14, 15, 124])) (.cond (.tmp 124) .skip (.exit 5) (some [0, 7, 8, 9, 14, 15]))) (.seq (.block 6 (.seq (.reg c47_r27 none (some [0, 7, 8, 9, 14, 15, 139])) (.cond (.tmp 139) (.seq (.seq (.reg c47_r28 none (some [0, 7, 8, 9, 14, 15, 16])) (.block 7 (.loop c47_l29 (some [0, 7, 8, 9, 14, 15, 16])))) (.seq (.reg c47_r32 none (some [4])) .ret)) .skip (some [0, 7, 8, 9, 14, 15])))) (.reg c47_r26 none (some [0, 7, 8, 9, 14, 15]))))
def c47_r33 : List SOp := [
  ⟨(some 4), .assign (.const (.int .i64 (-1))), none⟩]
def c47 : SC := (.seq (.reg c47_r0 none (some [0, 1])) (.block 0 (.seq (.reg c47_r34 none (some [0, 1, 160])) (.cond (.tmp 160) (.seq (.reg c47_r35 none (some [4])) .ret) (.seq (.reg c47_r36 none (some [0, 1, 171])) (.cond (.tmp 171) (.seq (.seq (.reg c47_r37 none (some [175])) (.block 9 (.loop c47_l38 (some [175])))) (.seq (.reg c47_r42 none (some [4])) .ret)) (.seq (.reg c47_r43 none (some [0, 1, 183])) (.cond (.tmp 183) (.seq (.reg c47_r44 none (some [4])) .ret) (.seq (.reg c47_r1 none (some [0, 7])) (.seq (.reg c47_r2 none (some [0, 7, 8])) (.seq (.reg c47_r3 none (some [0, 7, 8, 9])) (.seq (.reg c47_r4 none (some [0, 7, 8, 9])) (.seq (.block 1 (.loop c47_l5 (some [0, 7, 8, 9]))) (.seq (.seq (.reg c47_r19 none (some [4])) .ret) (.seq .skip (.seq (.cond (.const (.bool true)) (.seq (.reg c47_r20 none (some [8, 9, 13])) (.seq (.reg c47_r21 none (some [8, 9, 13, 108])) (.cond (.tmp 108) (.seq (.reg c47_r22 none (some [4])) .ret) .skip (some [])))) (.seq (.reg c47_r23 none (some [0, 7, 8, 9, 14])) (.seq (.reg c47_r24 none (some [0, 7, 8, 9, 14, 15])) (.seq .skip (.block 5 (.loop c47_l25 (some [0, 7, 8, 9, 14, 15])))))) (some [])) (.seq (.reg c47_r33 none (some [4])) .ret))))))))) (some [4]))) (some [4]))) (some [4])))))
theorem c47_eq : ∃ code, Tryd.f47.body = some code ∧ compile H47 code = c47 := ⟨_, rfl, by kernel_rfl⟩
theorem c47_fn : Tryd.prog.funcs[47]? = some Tryd.f47 := by kernel_rfl
theorem c47_rs : Tryd.f47.results.toList = [.tmp 4] := by kernel_rfl
theorem c47_ok : fnB Tryd.prog H47 Tryd.f47 = true := by kernel_rfl
theorem c47_nt : Tryd.f47.ntmps = 187 := by kernel_rfl

/-! 48: internal/stringslite.HasPrefix -/
def H48 : Hint := ⟨[(1, [4]), (0, [0, 1])], []⟩
def c48_r0 : List SOp := [
  ⟨(some 4), .assign (.const (.bool false)), none⟩]
def c48_r1 : List SOp := [
  ⟨(some 5), .move (.tmp 0), none⟩,
  ⟨(some 6), .call ⟨.builtin .len, #[(.tmp 5)], #[9]⟩, none⟩,
  ⟨(some 7), .move (.tmp 1), none⟩,
  ⟨(some 8), .call ⟨.builtin .len, #[(.tmp 7)], #[9]⟩, none⟩,
  ⟨(some 9), .binOp .geq 3 (.tmp 6) (.tmp 8) 3, none⟩,
  ⟨(some 10), .move (.tmp 9), none⟩,
  ⟨(some 11), .move (.tmp 0), (some ((some 10), true))⟩,
  ⟨(some 12), .move (.tmp 1), (some ((some 10), true))⟩,
  ⟨(some 13), .call ⟨.builtin .len, #[(.tmp 12)], #[9]⟩, (some ((some 10), true))⟩,
  ⟨(some 14), .slice 9 (.tmp 11) none (some (.tmp 13)) none, (some ((some 10), true))⟩,
  ⟨(some 15), .move (.tmp 1), (some ((some 10), true))⟩,
  ⟨(some 16), .binOp .eql 9 (.tmp 14) (.tmp 15) 9, (some ((some 10), true))⟩,
  ⟨(some 17), .pick (.tmp 10) (.tmp 16) (.const (.bool false)), none⟩,
  ⟨(some 4), .assign (.tmp 17), none⟩]
def c48 : SC := (.seq (.reg c48_r0 none (some [0, 1])) (.seq (.reg c48_r1 none (some [4])) .ret))
theorem c48_eq : ∃ code, Tryd.f48.body = some code ∧ compile H48 code = c48 := ⟨_, rfl, by kernel_rfl⟩
theorem c48_fn : Tryd.prog.funcs[48]? = some Tryd.f48 := by kernel_rfl
theorem c48_rs : Tryd.f48.results.toList = [.tmp 4] := by kernel_rfl
theorem c48_ok : fnB Tryd.prog H48 Tryd.f48 = true := by kernel_rfl
theorem c48_nt : Tryd.f48.ntmps = 18 := by kernel_rfl

/-! 49: rampart/rampartref08.hex -/
def H49 : Hint := ⟨[(7, [4]), (2, [4]), (4, [4]), (6, [4]), (2000037, []), (5, [0, 1, 37]), (2000014, []), (3, [0, 1, 14]), (2000005, []), (1, [0, 1, 5]), (0, [0, 1])], []⟩
def c49_r0 : List SOp := [
  ⟨(some 4), .assign (.const (.int .i64 0)), none⟩]
def c49_r1 : List SOp := [
  ⟨(some 6), .move (.tmp 0), none⟩,
  ⟨(some 7), .move (.tmp 1), none⟩,
  ⟨(some 8), .call ⟨.value (.func 29), #[(.tmp 6), (.tmp 7)], #[9, 3]⟩, none⟩,
  ⟨(some 5), .assign (.tmp 8), none⟩]
def c49_r2 : List SOp := [
  ⟨(some 9), .move (.tmp 0), none⟩,
  ⟨(some 10), .move (.tmp 1), none⟩,
  ⟨(some 11), .index 9 (.tmp 9) (.tmp 10), none⟩,
  ⟨(some 12), .binOp .sub 5 (.tmp 11) (.const (.int .u8 48)) 5, none⟩,
  ⟨(some 13), .convert 5 3 (.tmp 12), none⟩,
  ⟨(some 4), .assign (.tmp 13), none⟩]
def c49_r3 : List SOp := [
  ⟨(some 15), .move (.tmp 1), none⟩,
  ⟨(some 16), .move (.tmp 0), none⟩,
  ⟨(some 17), .call ⟨.builtin .len, #[(.tmp 16)], #[9]⟩, none⟩,
  ⟨(some 18), .binOp .lss 3 (.tmp 15) (.tmp 17) 3, none⟩,
  ⟨(some 19), .move (.tmp 18), none⟩,
  ⟨(some 20), .move (.tmp 0), (some ((some 19), true))⟩,
  ⟨(some 21), .move (.tmp 1), (some ((some 19), true))⟩,
  ⟨(some 22), .index 9 (.tmp 20) (.tmp 21), (some ((some 19), true))⟩,
  ⟨(some 23), .binOp .geq 5 (.tmp 22) (.const (.int .u8 97)) 5, (some ((some 19), true))⟩,
  ⟨(some 24), .pick (.tmp 19) (.tmp 23) (.const (.bool false)), none⟩,
  ⟨(some 25), .move (.tmp 24), none⟩,
  ⟨(some 26), .move (.tmp 0), (some ((some 25), true))⟩,
  ⟨(some 27), .move (.tmp 1), (some ((some 25), true))⟩,
  ⟨(some 28), .index 9 (.tmp 26) (.tmp 27), (some ((some 25), true))⟩,
  ⟨(some 29), .binOp .leq 5 (.tmp 28) (.const (.int .u8 102)) 5, (some ((some 25), true))⟩,
  ⟨(some 30), .pick (.tmp 25) (.tmp 29) (.const (.bool false)), none⟩,
  ⟨(some 14), .assign (.tmp 30), none⟩]
def c49_r4 : List SOp := [
  ⟨(some 31), .move (.tmp 0), none⟩,
  ⟨(some 32), .move (.tmp 1), none⟩,
  ⟨(some 33), .index 9 (.tmp 31) (.tmp 32), none⟩,
  ⟨(some 34), .binOp .sub 5 (.tmp 33) (.const (.int .u8 97)) 5, none⟩,
  ⟨(some 35), .convert 5 3 (.tmp 34), none⟩,
  ⟨(some 36), .binOp .add 3 (.tmp 35) (.const (.int .i64 10)) 3, none⟩,
  ⟨(some 4), .assign (.tmp 36), none⟩]
def c49_r5 : List SOp := [
  ⟨(some 38), .move (.tmp 1), none⟩,
  ⟨(some 39), .move (.tmp 0), none⟩,
  ⟨(some 40), .call ⟨.builtin .len, #[(.tmp 39)], #[9]⟩, none⟩,
  ⟨(some 41), .binOp .lss 3 (.tmp 38) (.tmp 40) 3, none⟩,
  ⟨(some 42), .move (.tmp 41), none⟩,
  ⟨(some 43), .move (.tmp 0), (some ((some 42), true))⟩,
  ⟨(some 44), .move (.tmp 1), (some ((some 42), true))⟩,
  ⟨(some 45), .index 9 (.tmp 43) (.tmp 44), (some ((some 42), true))⟩,
  ⟨(some 46), .binOp .geq 5 (.tmp 45) (.const (.int .u8 65)) 5, (some ((some 42), true))⟩,
  ⟨(some 47), .pick (.tmp 42) (.tmp 46) (.const (.bool false)), none⟩,
  ⟨(some 48), .move (.tmp 47), none⟩,
  ⟨(some 49), .move (.tmp 0), (some ((some 48), true))⟩,
  ⟨(some 50), .move (.tmp 1), (some ((some 48), true))⟩,
  ⟨(some 51), .index 9 (.tmp 49) (.tmp 50), (some ((some 48), true))⟩,
  ⟨(some 52), .binOp .leq 5 (.tmp 51) (.const (.int .u8 70)) 5, (some ((some 48), true))⟩,
  ⟨(some 53), .pick (.tmp 48) (.tmp 52) (.const (.bool false)), none⟩,
  ⟨(some 37), .assign (.tmp 53), none⟩]
def c49_r6 : List SOp := [
  ⟨(some 54), .move (.tmp 0), none⟩,
  ⟨(some 55), .move (.tmp 1), none⟩,
  ⟨(some 56), .index 9 (.tmp 54) (.tmp 55), none⟩,
  ⟨(some 57), .binOp .sub 5 (.tmp 56) (.const (.int .u8 65)) 5, none⟩,
  ⟨(some 58), .convert 5 3 (.tmp 57), none⟩,
  ⟨(some 59), .binOp .add 3 (.tmp 58) (.const (.int .i64 10)) 3, none⟩,
  ⟨(some 4), .assign (.tmp 59), none⟩]
def c49_r7 : List SOp := [
  ⟨(some 4), .assign (.const (.int .i64 (-1))), none⟩]
def c49 : SC := (.seq (.reg c49_r0 none (some [0, 1])) (.seq (.block 0 (.seq (.reg c49_r1 none (some [0, 1, 5])) (.cond (.tmp 5) (.seq (.reg c49_r2 none (some [4])) .ret) (.seq (.reg c49_r3 none (some [0, 1, 14])) (.cond (.tmp 14) (.seq (.reg c49_r4 none (some [4])) .ret) (.seq (.reg c49_r5 none (some [0, 1, 37])) (.cond (.tmp 37) (.seq (.reg c49_r6 none (some [4])) .ret) .skip (some []))) (some []))) (some [])))) (.seq (.reg c49_r7 none (some [4])) .ret)))
theorem c49_eq : ∃ code, Tryd.f49.body = some code ∧ compile H49 code = c49 := ⟨_, rfl, by kernel_rfl⟩
theorem c49_fn : Tryd.prog.funcs[49]? = some Tryd.f49 := by kernel_rfl
theorem c49_rs : Tryd.f49.results.toList = [.tmp 4] := by kernel_rfl
theorem c49_ok : fnB Tryd.prog H49 Tryd.f49 = true := by kernel_rfl
theorem c49_nt : Tryd.f49.ntmps = 60 := by kernel_rfl

/-! 58: unicode/utf8.ValidRune -/
def H58 : Hint := ⟨[(5, [2]), (2, [2]), (4, [2]), (2000010, []), (3, [10]), (2000003, []), (1, [0, 3]), (0, [0])], []⟩
def c58_r0 : List SOp := [
  ⟨(some 2), .assign (.const (.bool false)), none⟩]
def c58_r1 : List SOp := [
  ⟨(some 4), .move (.tmp 0), none⟩,
  ⟨(some 5), .binOp .leq 21 (.const (.int .i32 0)) (.tmp 4) 21, none⟩,
  ⟨(some 6), .move (.tmp 5), none⟩,
  ⟨(some 7), .move (.tmp 0), (some ((some 6), true))⟩,
  ⟨(some 8), .binOp .lss 21 (.tmp 7) (.const (.int .i32 55296)) 21, (some ((some 6), true))⟩,
  ⟨(some 9), .pick (.tmp 6) (.tmp 8) (.const (.bool false)), none⟩,
  ⟨(some 3), .assign (.tmp 9), none⟩]
def c58_r2 : List SOp := [
  ⟨(some 2), .assign (.const (.bool true)), none⟩]
def c58_r3 : List SOp := [
  ⟨(some 11), .move (.tmp 0), none⟩,
  ⟨(some 12), .binOp .lss 21 (.const (.int .i32 57343)) (.tmp 11) 21, none⟩,
  ⟨(some 13), .move (.tmp 12), none⟩,
  ⟨(some 14), .move (.tmp 0), (some ((some 13), true))⟩,
  ⟨(some 15), .binOp .leq 21 (.tmp 14) (.const (.int .i32 1114111)) 21, (some ((some 13), true))⟩,
  ⟨(some 16), .pick (.tmp 13) (.tmp 15) (.const (.bool false)), none⟩,
  ⟨(some 10), .assign (.tmp 16), none⟩]
def c58_r4 : List SOp := [
  ⟨(some 2), .assign (.const (.bool true)), none⟩]
def c58_r5 : List SOp := [
  ⟨(some 2), .assign (.const (.bool false)), none⟩]
def c58 : SC := (.seq (.reg c58_r0 none (some [0])) (.seq (.block 0 (.seq (.reg c58_r1 none (some [0, 3])) (.cond (.tmp 3) (.seq (.reg c58_r2 none (some [2])) .ret) (.seq (.reg c58_r3 none (some [10])) (.cond (.tmp 10) (.seq (.reg c58_r4 none (some [2])) .ret) .skip (some []))) (some [])))) (.seq (.reg c58_r5 none (some [2])) .ret)))
theorem c58_eq : ∃ code, Tryd.f58.body = some code ∧ compile H58 code = c58 := ⟨_, rfl, by kernel_rfl⟩
theorem c58_fn : Tryd.prog.funcs[58]? = some Tryd.f58 := by kernel_rfl
theorem c58_rs : Tryd.f58.results.toList = [.tmp 2] := by kernel_rfl
theorem c58_ok : fnB Tryd.prog H58 Tryd.f58 = true := by kernel_rfl
theorem c58_nt : Tryd.f58.ntmps = 17 := by kernel_rfl

end Go.AM
