/-
  Printed by program (wip/tools/print.sh): compiled code.
-/
import Derived.Test.YtamidpfdiijjgaaP27AMb
import Derived.Test.YtamidpfdiijjgaaProg
namespace Go.AM
open Go Go.Proofs
set_option maxRecDepth 100000
def H27:Hint:=⟨[(21,[8]),(16,[11,12,17,18]),(20,[8]),(2000123,[11,12,17,18]),(19,[11,12,17,18,123]),(18,[11,12,13,14,15,16,17,18]),(17,[11,12,13,14,17,18]),(2000082,[11,12,17,18]),(15,[11,12,17,18,82]),(1000015,[11,12,17,18]),(14,[11,12,17,18]),(13,[11,12,17]),(12,[8]),(2000073,[3,11,12]),(11,[3,11,12,73]),(10,[3,11,12,13,14,15,16]),(9,[3,11,12,13,14]),(8,[8]),(2000049,[3,11,12]),(7,[3,11,12,49]),(6,[3,11,12]),(5,[1,3,9,10,11]),(4,[1,3,9,10]),(3,[1,2,3,9]),(2,[8]),(2000031,[0,1,2,3]),(1,[0,1,2,3,31]),(0,[0,1,2,3])],[]⟩
def c27_r0:List SOp:=[sO 8 (.assign (.const (.bool false)))]
def c27_r1:List SOp:=[mV 19 0,⟨some 20,.call ⟨.builtin .len,#[(tM 19)],#[30]⟩,none⟩,sO 21 (.binOp .gtr 3 (tM 20) (kI 40) 3),mV 22 21,⟨some 23,.move (tM 1),(some ((some 22),false))⟩,⟨some 24,.call ⟨.builtin .len,#[(tM 23)],#[30]⟩,(some ((some 22),false))⟩,⟨some 25,.binOp .gtr 3 (tM 24) (kI 20) 3,(some ((some 22),false))⟩,sO 26 (.pick (tM 22) (.const (.bool true)) (tM 25)),mV 27 26,⟨some 28,.move (tM 3),(some ((some 27),false))⟩,⟨some 29,.call ⟨.builtin .len,#[(tM 28)],#[30]⟩,(some ((some 27),false))⟩,⟨some 30,.binOp .gtr 3 (tM 29) (kI 60) 3,(some ((some 27),false))⟩,sO 31 (.pick (tM 27) (.const (.bool true)) (tM 30))]
def c27_r2:List SOp:=[⟨some 32,.call ⟨.value (.func 79),#[],#[]⟩,none⟩,aS 8 32]
def c27_r3:List SOp:=[mV 33 0,⟨some 34,.call ⟨.value (.func 80),#[(tM 33)],#[30]⟩,none⟩,aS 9 34]
def c27_r4:List SOp:=[mV 35 2,⟨some 36,.call ⟨.value (.func 29),#[(tM 35),(kI 6)],#[3,3]⟩,none⟩,sO 37 (.binOp .add 3 (kI 1) (tM 36) 3),aS 10 37]
def c27_r5:List SOp:=[mV 38 9,⟨some 39,.call ⟨.value (.func 86),#[(tM 38)],#[89]⟩,none⟩,mV 40 1,⟨some 41,.call ⟨.builtin .append,#[(.const (.slice none 0 0)),(tM 40)],#[30,30]⟩,none⟩,mV 42 10,⟨some 43,.call ⟨.value (.func 81),#[(tM 39),(tM 41),(tM 42)],#[89,30,3]⟩,none⟩,aS 11 43]
def c27_r6:List SOp:=[mV 44 9,mV 45 1,mV 46 10,⟨some 47,.call ⟨.value (.func 87),#[(tM 44),(tM 45),(tM 46)],#[89,30,3]⟩,none⟩,aS 12 47]
def c27_r7:List SOp:=[mV 48 11,sO 49 (.binOp .eql 91 (tM 48) (.const (.pointer none)) 91)]
def c27_r8:List SOp:=[sO 8 (.assign (.const (.bool false)))]
def c27_r9:List SOp:=[mV 51 11,⟨some 52,.call ⟨.value (.func 82),#[(tM 51)],#[91]⟩,none⟩,mV 50 52,sO 53 (.extract (tM 50) 0),sO 54 (.extract (tM 50) 1),aS 13 53,aS 14 54]
def c27_r10:List SOp:=[mV 56 12,⟨some 57,.call ⟨.value (.func 88),#[(tM 56)],#[109]⟩,none⟩,mV 55 57,sO 58 (.extract (tM 55) 0),sO 59 (.extract (tM 55) 1),aS 15 58,aS 16 59]
def c27_r11:List SOp:=[mV 60 13,mV 61 15,⟨some 62,.call ⟨.value (.func 89),#[(tM 60),(tM 61)],#[94,94]⟩,none⟩,sO 63 (.unOp .not 4 (tM 62)),mV 64 63,⟨some 65,.move (tM 14),(some ((some 64),false))⟩,⟨some 66,.move (tM 16),(some ((some 64),false))⟩,⟨some 67,.binOp .neq 3 (tM 65) (tM 66) 3,(some ((some 64),false))⟩,sO 68 (.pick (tM 64) (.const (.bool true)) (tM 67)),mV 69 68,⟨some 70,.move (tM 11),(some ((some 69),false))⟩,⟨some 71,.call ⟨.value (.func 84),#[(tM 70)],#[91]⟩,(some ((some 69),false))⟩,⟨some 72,.binOp .neq 3 (tM 71) (kI 0) 3,(some ((some 69),false))⟩,sO 73 (.pick (tM 69) (.const (.bool true)) (tM 72))]
def c27_r12:List SOp:=[sO 8 (.assign (.const (.bool false)))]
def c27_r13:List SOp:=[mV 74 3,mV 75 3,⟨some 76,.call ⟨.builtin .len,#[(tM 75)],#[30]⟩,none⟩,⟨some 77,.call ⟨.builtin .min,#[(tM 76),(kI 40)],#[3,3]⟩,none⟩,⟨some 78,.call ⟨.value (.func 50),#[(tM 74),(tM 77)],#[30,3]⟩,none⟩,aS 17 78]
def c27_r14:List SOp:=[sO 18 (.assign (kI 0))]
def c27_r15:List SOp:=[mV 79 18,mV 80 17,⟨some 81,.call ⟨.builtin .len,#[(tM 80)],#[9]⟩,none⟩,sO 82 (.binOp .lss 3 (tM 79) (tM 81) 3)]
def c27_r17:List SOp:=[mV 86 11,mV 87 17,mV 88 18,sO 89 (.index 9 (tM 87) (tM 88)),⟨some 90,.call ⟨.value (.func 83),#[(tM 86),(tM 89)],#[91,5]⟩,none⟩,mV 85 90,sO 91 (.extract (tM 85) 0),sO 92 (.extract (tM 85) 1),aS 13 91,aS 14 92]
def c27_r18:List SOp:=[mV 94 12,mV 95 17,mV 96 18,sO 97 (.index 9 (tM 95) (tM 96)),⟨some 98,.call ⟨.value (.func 90),#[(tM 94),(tM 97)],#[109,5]⟩,none⟩,mV 93 98,sO 99 (.extract (tM 93) 0),sO 100 (.extract (tM 93) 1),aS 15 99,aS 16 100]
def c27_r19:List SOp:=[mV 101 13,mV 102 15,⟨some 103,.call ⟨.value (.func 89),#[(tM 101),(tM 102)],#[94,94]⟩,none⟩,sO 104 (.unOp .not 4 (tM 103)),mV 105 104,⟨some 106,.move (tM 14),(some ((some 105),false))⟩,⟨some 107,.move (tM 16),(some ((some 105),false))⟩,⟨some 108,.binOp .neq 3 (tM 106) (tM 107) 3,(some ((some 105),false))⟩,sO 109 (.pick (tM 105) (.const (.bool true)) (tM 108)),mV 110 109,⟨some 111,.move (tM 11),(some ((some 110),false))⟩,⟨some 112,.call ⟨.value (.func 84),#[(tM 111)],#[91]⟩,(some ((some 110),false))⟩,⟨some 113,.move (tM 18),(some ((some 110),false))⟩,⟨some 114,.binOp .add 3 (tM 113) (kI 1) 3,(some ((some 110),false))⟩,⟨some 115,.binOp .neq 3 (tM 112) (tM 114) 3,(some ((some 110),false))⟩,sO 116 (.pick (tM 110) (.const (.bool true)) (tM 115)),mV 117 116,⟨some 118,.move (tM 11),(some ((some 117),false))⟩,⟨some 119,.call ⟨.value (.func 85),#[(tM 118)],#[91]⟩,(some ((some 117),false))⟩,⟨some 120,.move (tM 12),(some ((some 117),false))⟩,⟨some 121,.call ⟨.value (.func 91),#[(tM 120)],#[109]⟩,(some ((some 117),false))⟩,⟨some 122,.binOp .neq 3 (tM 119) (tM 121) 3,(some ((some 117),false))⟩,sO 123 (.pick (tM 117) (.const (.bool true)) (tM 122))]
def c27_r20:List SOp:=[sO 8 (.assign (.const (.bool false)))]
def c27_r16:List SOp:=[mV 83 18,sO 84 (.binOp .add 3 (tM 83) (kI 1) 3),aS 18 84]
def c27_l15:SC:=(.seq (.seq (.reg c27_r15 none (some [11,12,17,18,82])) (.cond (.tmp 82) .skip (.exit 0) (some [11,12,17,18]))) (.seq (.block 1 (.seq (.reg c27_r17 none (some [11,12,13,14,17,18])) (.seq (.reg c27_r18 none (some [11,12,13,14,15,16,17,18])) (.seq (.reg c27_r19 none (some [11,12,17,18,123])) (.cond (.tmp 123) (.seq (.reg c27_r20 none (some [8])) .ret) .skip (some [11,12,17,18])))))) (.reg c27_r16 none (some [11,12,17,18]))))
def c27_r21:List SOp:=[⟨some 124,.call ⟨.value (.func 79),#[],#[]⟩,none⟩,aS 8 124]
def c27:SC:=(.seq (.reg c27_r0 none (some [0,1,2,3])) (.seq (.seq (.reg c27_r1 none (some [0,1,2,3,31])) (.cond (.tmp 31) (.seq (.reg c27_r2 none (some [8])) .ret) .skip (some [0,1,2,3]))) (.seq (.reg c27_r3 none (some [1,2,3,9])) (.seq (.reg c27_r4 none (some [1,3,9,10])) (.seq (.reg c27_r5 none (some [1,3,9,10,11])) (.seq (.reg c27_r6 none (some [3,11,12])) (.seq (.seq (.reg c27_r7 none (some [3,11,12,49])) (.cond (.tmp 49) (.seq (.reg c27_r8 none (some [8])) .ret) .skip (some [3,11,12]))) (.seq (.reg c27_r9 none (some [3,11,12,13,14])) (.seq (.reg c27_r10 none (some [3,11,12,13,14,15,16])) (.seq (.seq (.reg c27_r11 none (some [3,11,12,73])) (.cond (.tmp 73) (.seq (.reg c27_r12 none (some [8])) .ret) .skip (some [3,11,12]))) (.seq (.reg c27_r13 none (some [11,12,17])) (.seq (.seq (.reg c27_r14 none (some [11,12,17,18])) (.block 0 (.loop c27_l15 (some [11,12,17,18])))) (.seq (.reg c27_r21 none (some [8])) .ret)))))))))))))
theorem c27_eq:∃code,Try.f27.body=some code/\compile H27 code=c27:=⟨_,rfl,by kernel_rfl⟩
theorem c27_fn:Try.prog.funcs[27]?=some Try.f27:=by kernel_rfl
theorem c27_rs:Try.f27.results.toList=[.tmp 8]:=by kernel_rfl
theorem c27_ok:fnB Try.prog H27 Try.f27=true:=by kernel_rfl
theorem c27_nt:Try.f27.ntmps=125:=by kernel_rfl
end Go.AM
