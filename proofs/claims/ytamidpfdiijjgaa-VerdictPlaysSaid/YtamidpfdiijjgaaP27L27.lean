/-
  Printed by program (wip/tools/print.sh): compiled code.
-/
import Derived.Test.YtamidpfdiijjgaaP27AMb
import Derived.Test.YtamidpfdiijjgaaProg
namespace Go.AM
open Go Go.Proofs
set_option maxRecDepth 100000
def H27:Hint:=⟨[(21,[8]),(16,[11,12,17,18]),(20,[8]),(2000123,[11,12,17,18]),(19,[11,12,17,18,123]),(18,[11,12,13,14,15,16,17,18]),(17,[11,12,13,14,17,18]),(2000082,[11,12,17,18]),(15,[11,12,17,18,82]),(1000015,[11,12,17,18]),(14,[11,12,17,18]),(13,[11,12,17]),(12,[8]),(2000073,[3,11,12]),(11,[3,11,12,73]),(10,[3,11,12,13,14,15,16]),(9,[3,11,12,13,14]),(8,[8]),(2000049,[3,11,12]),(7,[3,11,12,49]),(6,[3,11,12]),(5,[1,3,9,10,11]),(4,[1,3,9,10]),(3,[1,2,3,9]),(2,[8]),(2000031,[0,1,2,3]),(1,[0,1,2,3,31]),(0,[0,1,2,3])],[]⟩
def c27_r0:List SOp:=[¤8(.assign (.const (.bool false)))]
def c27_r1:List SOp:=[¢19 0,⟨some 20,.call ⟨.builtin .len,#[§19],#[30]⟩,none⟩,¤21(.binOp .gtr 3 §20 £40 3),¢22 21,⟨some 23,.move §1,(some ((some 22),false))⟩,⟨some 24,.call ⟨.builtin .len,#[§23],#[30]⟩,(some ((some 22),false))⟩,⟨some 25,.binOp .gtr 3 §24 £20 3,(some ((some 22),false))⟩,¤26(.pick §22 (.const (.bool true)) §25),¢27 26,⟨some 28,.move §3,(some ((some 27),false))⟩,⟨some 29,.call ⟨.builtin .len,#[§28],#[30]⟩,(some ((some 27),false))⟩,⟨some 30,.binOp .gtr 3 §29 £60 3,(some ((some 27),false))⟩,¤31(.pick §27 (.const (.bool true)) §30)]
def c27_r2:List SOp:=[⟨some 32,.call ⟨.value (.func 79),#[],#[]⟩,none⟩,¤8(.assign §32)]
def c27_r3:List SOp:=[¢33 0,⟨some 34,.call ⟨.value (.func 80),#[§33],#[30]⟩,none⟩,¤9(.assign §34)]
def c27_r4:List SOp:=[¢35 2,⟨some 36,.call ⟨.value (.func 29),#[§35,£6],#[3,3]⟩,none⟩,¤37(.binOp .add 3 £1 §36 3),¤10(.assign §37)]
def c27_r5:List SOp:=[¢38 9,⟨some 39,.call ⟨.value (.func 86),#[§38],#[89]⟩,none⟩,¢40 1,⟨some 41,.call ⟨.builtin .append,#[(.const (.slice none 0 0)),§40],#[30,30]⟩,none⟩,¢42 10,⟨some 43,.call ⟨.value (.func 81),#[§39,§41,§42],#[89,30,3]⟩,none⟩,¤11(.assign §43)]
def c27_r6:List SOp:=[¢44 9,¢45 1,¢46 10,⟨some 47,.call ⟨.value (.func 87),#[§44,§45,§46],#[89,30,3]⟩,none⟩,¤12(.assign §47)]
def c27_r7:List SOp:=[¢48 11,¤49(.binOp .eql 91 §48 (.const (.pointer none)) 91)]
def c27_r8:List SOp:=[¤8(.assign (.const (.bool false)))]
def c27_r9:List SOp:=[¢51 11,⟨some 52,.call ⟨.value (.func 82),#[§51],#[91]⟩,none⟩,¢50 52,¤53(.extract §50 0),¤54(.extract §50 1),¤13(.assign §53),¤14(.assign §54)]
def c27_r10:List SOp:=[¢56 12,⟨some 57,.call ⟨.value (.func 88),#[§56],#[109]⟩,none⟩,¢55 57,¤58(.extract §55 0),¤59(.extract §55 1),¤15(.assign §58),¤16(.assign §59)]
def c27_r11:List SOp:=[¢60 13,¢61 15,⟨some 62,.call ⟨.value (.func 89),#[§60,§61],#[94,94]⟩,none⟩,¤63(.unOp .not 4 §62),¢64 63,⟨some 65,.move §14,(some ((some 64),false))⟩,⟨some 66,.move §16,(some ((some 64),false))⟩,⟨some 67,.binOp .neq 3 §65 §66 3,(some ((some 64),false))⟩,¤68(.pick §64 (.const (.bool true)) §67),¢69 68,⟨some 70,.move §11,(some ((some 69),false))⟩,⟨some 71,.call ⟨.value (.func 84),#[§70],#[91]⟩,(some ((some 69),false))⟩,⟨some 72,.binOp .neq 3 §71 £0 3,(some ((some 69),false))⟩,¤73(.pick §69 (.const (.bool true)) §72)]
def c27_r12:List SOp:=[¤8(.assign (.const (.bool false)))]
def c27_r13:List SOp:=[¢74 3,¢75 3,⟨some 76,.call ⟨.builtin .len,#[§75],#[30]⟩,none⟩,⟨some 77,.call ⟨.builtin .min,#[§76,£40],#[3,3]⟩,none⟩,⟨some 78,.call ⟨.value (.func 50),#[§74,§77],#[30,3]⟩,none⟩,¤17(.assign §78)]
def c27_r14:List SOp:=[¤18(.assign £0)]
def c27_r15:List SOp:=[¢79 18,¢80 17,⟨some 81,.call ⟨.builtin .len,#[§80],#[9]⟩,none⟩,¤82(.binOp .lss 3 §79 §81 3)]
def c27_r17:List SOp:=[¢86 11,¢87 17,¢88 18,¤89(.index 9 §87 §88),⟨some 90,.call ⟨.value (.func 83),#[§86,§89],#[91,5]⟩,none⟩,¢85 90,¤91(.extract §85 0),¤92(.extract §85 1),¤13(.assign §91),¤14(.assign §92)]
def c27_r18:List SOp:=[¢94 12,¢95 17,¢96 18,¤97(.index 9 §95 §96),⟨some 98,.call ⟨.value (.func 90),#[§94,§97],#[109,5]⟩,none⟩,¢93 98,¤99(.extract §93 0),¤100(.extract §93 1),¤15(.assign §99),¤16(.assign §100)]
def c27_r19:List SOp:=[¢101 13,¢102 15,⟨some 103,.call ⟨.value (.func 89),#[§101,§102],#[94,94]⟩,none⟩,¤104(.unOp .not 4 §103),¢105 104,⟨some 106,.move §14,(some ((some 105),false))⟩,⟨some 107,.move §16,(some ((some 105),false))⟩,⟨some 108,.binOp .neq 3 §106 §107 3,(some ((some 105),false))⟩,¤109(.pick §105 (.const (.bool true)) §108),¢110 109,⟨some 111,.move §11,(some ((some 110),false))⟩,⟨some 112,.call ⟨.value (.func 84),#[§111],#[91]⟩,(some ((some 110),false))⟩,⟨some 113,.move §18,(some ((some 110),false))⟩,⟨some 114,.binOp .add 3 §113 £1 3,(some ((some 110),false))⟩,⟨some 115,.binOp .neq 3 §112 §114 3,(some ((some 110),false))⟩,¤116(.pick §110 (.const (.bool true)) §115),¢117 116,⟨some 118,.move §11,(some ((some 117),false))⟩,⟨some 119,.call ⟨.value (.func 85),#[§118],#[91]⟩,(some ((some 117),false))⟩,⟨some 120,.move §12,(some ((some 117),false))⟩,⟨some 121,.call ⟨.value (.func 91),#[§120],#[109]⟩,(some ((some 117),false))⟩,⟨some 122,.binOp .neq 3 §119 §121 3,(some ((some 117),false))⟩,¤123(.pick §117 (.const (.bool true)) §122)]
def c27_r20:List SOp:=[¤8(.assign (.const (.bool false)))]
def c27_r16:List SOp:=[¢83 18,¤84(.binOp .add 3 §83 £1 3),¤18(.assign §84)]
def c27_l15:SC:=(.seq (.seq (.reg c27_r15 none (some [11,12,17,18,82])) (.cond §82 .skip (.exit 0) (some [11,12,17,18]))) (.seq (.block 1 (.seq (.reg c27_r17 none (some [11,12,13,14,17,18])) (.seq (.reg c27_r18 none (some [11,12,13,14,15,16,17,18])) (.seq (.reg c27_r19 none (some [11,12,17,18,123])) (.cond §123 (.seq (.reg c27_r20 none (some [8])) .ret) .skip (some [11,12,17,18])))))) (.reg c27_r16 none (some [11,12,17,18]))))
def c27_r21:List SOp:=[⟨some 124,.call ⟨.value (.func 79),#[],#[]⟩,none⟩,¤8(.assign §124)]
def c27:SC:=(.seq (.reg c27_r0 none (some [0,1,2,3])) (.seq (.seq (.reg c27_r1 none (some [0,1,2,3,31])) (.cond §31 (.seq (.reg c27_r2 none (some [8])) .ret) .skip (some [0,1,2,3]))) (.seq (.reg c27_r3 none (some [1,2,3,9])) (.seq (.reg c27_r4 none (some [1,3,9,10])) (.seq (.reg c27_r5 none (some [1,3,9,10,11])) (.seq (.reg c27_r6 none (some [3,11,12])) (.seq (.seq (.reg c27_r7 none (some [3,11,12,49])) (.cond §49 (.seq (.reg c27_r8 none (some [8])) .ret) .skip (some [3,11,12]))) (.seq (.reg c27_r9 none (some [3,11,12,13,14])) (.seq (.reg c27_r10 none (some [3,11,12,13,14,15,16])) (.seq (.seq (.reg c27_r11 none (some [3,11,12,73])) (.cond §73 (.seq (.reg c27_r12 none (some [8])) .ret) .skip (some [3,11,12]))) (.seq (.reg c27_r13 none (some [11,12,17])) (.seq (.seq (.reg c27_r14 none (some [11,12,17,18])) (.block 0 (.loop c27_l15 (some [11,12,17,18])))) (.seq (.reg c27_r21 none (some [8])) .ret)))))))))))))
theorem c27_eq:∃code,Try.f27.body=some code/\compile H27 code=c27:=⟨_,rfl,¥⟩
theorem c27_fn:Try.prog.funcs[27]?=some Try.f27:=¥
theorem c27_rs:Try.f27.results.toList=[.tmp 8]:=¥
theorem c27_ok:fnB Try.prog H27 Try.f27=true:=¥
theorem c27_nt:Try.f27.ntmps=125:=¥
end Go.AM
