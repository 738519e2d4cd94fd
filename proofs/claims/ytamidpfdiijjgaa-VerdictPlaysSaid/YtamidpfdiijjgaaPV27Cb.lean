/-
  Printed by program (wip/tools/print.sh): compiled code.
-/
import Derived.Test.YtamidpfdiijjgaaP27AMb
import Derived.Test.YtamidpfdiijjgaaProg
namespace Go.AM
open Go Go.Proofs
set_option maxRecDepth 100000
def H118:Hint:=⟨[(17,[2,3]),(16,[4,5]),(15,[4]),(2000113,[4,5]),(14,[0,4,5,113]),(5,[0,4,5,6,7]),(13,[0,4,5,6,7]),(2000106,[0,4,5,6,7]),(12,[0,4,5,6,7,106]),(11,[0,4,5,6,7,8]),(10,[0,4,5,6,7,8]),(9,[0,4,5,6,7,8]),(2000047,[0,4,5,6,7,8]),(8,[0,4,5,6,7,8,47]),(2000041,[0,4,5,6,7,8]),(7,[0,4,5,6,7,8,41]),(6,[0,4,5,6,7,8]),(2000015,[0,4,5,6,7]),(4,[0,4,5,6,7,15]),(1000004,[0,4,5,6,7]),(3,[0,4,5,6,7]),(2,[0,4,5,6]),(1,[0,4]),(0,[0])],[]⟩
def c118_r0:List SOp:=[¤2(.assign (.const (.slice none 0 0))),¤3(.assign £0)]
def c118_r1:List SOp:=[¤4(.assign (.const (.slice none 0 0)))]
def c118_r2:List SOp:=[¤5(.assign £0),¤6(.assign (.const (.bool false)))]
def c118_r3:List SOp:=[¤7(.assign £0)]
def c118_r4:List SOp:=[¢9 7,¢10 0,¤11(.nilCheck §10),¤12(.fieldAddr 176 §11 0),¤13(.load 89 §12),⟨some 14,.call ⟨.builtin .len,#[.tmp 13],#[89]⟩,none⟩,¤15(.binOp .lss 3 §9 §14 3)]
def c118_r6:List SOp:=[¢18 0,¤19(.nilCheck §18),¤20(.fieldAddr 176 §19 0),¤21(.load 89 §20),¢22 7,¤23(.indexAddr 89 §21 §22),¤24(.fieldAddr 107 §23 8),¤25(.load 42 §24),¤8(.assign §25)]
def c118_r7:List SOp:=[¢26 0,¤27(.nilCheck §26),¤28(.fieldAddr 176 §27 3),¤29(.load 68 §28),¢30 7,¤31(.indexAddr 68 §29 §30),¤32(.load 4 §31),¢33 32,⟨some 34,.move §0,some (some 33,false)⟩,⟨some 35,.nilCheck §34,some (some 33,false)⟩,⟨some 36,.fieldAddr 176 §35 4,some (some 33,false)⟩,⟨some 37,.load 68 §36,some (some 33,false)⟩,⟨some 38,.move §7,some (some 33,false)⟩,⟨some 39,.indexAddr 68 §37 §38,some (some 33,false)⟩,⟨some 40,.load 4 §39,some (some 33,false)⟩,¤41(.pick §33 (.const (.bool true)) §40)]
def c118_r8:List SOp:=[¢42 8,¢43 0,¤44(.nilCheck §43),¤45(.fieldAddr 176 §44 2),¤46(.load 9 §45),⟨some 47,.call ⟨.value (.func 48),#[.tmp 42,.tmp 46],#[42,9]⟩,none⟩]
def c118_r9:List SOp:=[¢48 0,¤49(.nilCheck §48),¤50(.fieldAddr 176 §49 3),¤51(.load 68 §50),¢52 7,¤53(.indexAddr 68 §51 §52),⟨none,.store 4 §53 (.const (.bool true)),none⟩]
def c118_r10:List SOp:=[¢54 4,¢55 0,¤56(.nilCheck §55),¤57(.fieldAddr 176 §56 0),¤58(.load 89 §57),¢59 7,¤60(.indexAddr 89 §58 §59),¤61(.fieldAddr 107 §60 9),¤62(.load 3 §61),¢63 0,¤64(.nilCheck §63),¤65(.fieldAddr 176 §64 2),¤66(.load 9 §65),⟨some 67,.call ⟨.builtin .len,#[.tmp 66],#[9]⟩,none⟩,¢68 0,¤69(.nilCheck §68),¤70(.fieldAddr 176 §69 0),¤71(.load 89 §70),¢72 7,¤73(.indexAddr 89 §71 §72),¤74(.fieldAddr 107 §73 0),¤75(.load 3 §74),¤76(.build 99 #[(0,§62),(2,§67),(3,§75)]),¤77(.buildSlice 94 1 #[(0,§76)]),⟨some 78,.call ⟨.builtin .append,#[.tmp 54,.tmp 77],#[94,94]⟩,none⟩,¤4(.assign §78)]
def c118_r11:List SOp:=[¢79 5,¢80 0,¤81(.nilCheck §80),¤82(.fieldAddr 176 §81 0),¤83(.load 89 §82),¢84 7,¤85(.indexAddr 89 §83 §84),¤86(.fieldAddr 107 §85 0),¤87(.load 3 §86),⟨some 88,.call ⟨.builtin .max,#[.tmp 79,.tmp 87],#[3,3]⟩,none⟩,¤5(.assign §88)]
def c118_r12:List SOp:=[¢89 0,¤90(.nilCheck §89),¤91(.fieldAddr 176 §90 2),¤92(.load 9 §91),⟨some 93,.call ⟨.builtin .len,#[.tmp 92],#[9]⟩,none⟩,¤94(.binOp .gtr 3 §93 £0 3),¢95 94,⟨some 96,.move §8,some (some 95,true)⟩,⟨some 97,.move §0,some (some 95,true)⟩,⟨some 98,.nilCheck §97,some (some 95,true)⟩,⟨some 99,.fieldAddr 176 §98 1,some (some 95,true)⟩,⟨some 100,.load 3 §99,some (some 95,true)⟩,⟨some 101,.move §0,some (some 95,true)⟩,⟨some 102,.nilCheck §101,some (some 95,true)⟩,⟨some 103,.fieldAddr 176 §102 2,some (some 95,true)⟩,⟨some 104,.load 9 §103,some (some 95,true)⟩,⟨some 105,.call ⟨.value (.func 106),#[.tmp 96,.tmp 100,.tmp 104],#[42,3,9]⟩,some (some 95,true)⟩,¤106(.pick §95 §105 (.const (.bool false)))]
def c118_r13:List SOp:=[¢107 0,¤108(.nilCheck §107),¤109(.fieldAddr 176 §108 4),¤110(.load 68 §109),¢111 7,¤112(.indexAddr 68 §110 §111),⟨none,.store 4 §112 (.const (.bool true)),none⟩,¤6(.assign (.const (.bool true)))]
def c118_r5:List SOp:=[¢16 7,¤17(.binOp .add 3 §16 £1 3),¤7(.assign §17)]
def c118_l4:SC:=(.seq (.seq (.reg c118_r4 none (some [0,4,5,6,7,15])) (.cond §15 .skip (.exit 0) (some [0,4,5,6,7]))) (.seq (.block 1 (.seq (.reg c118_r6 none (some [0,4,5,6,7,8])) (.seq (.seq (.reg c118_r7 none (some [0,4,5,6,7,8,41])) (.cond §41 (.exit 1) .skip (some [0,4,5,6,7,8]))) (.seq (.seq (.reg c118_r8 none (some [0,4,5,6,7,8,47])) (.cond §47 (.seq (.reg c118_r9 none (some [0,4,5,6,7,8])) (.seq (.reg c118_r10 none (some [0,4,5,6,7,8])) (.reg c118_r11 none (some [0,4,5,6,7,8])))) .skip (some [0,4,5,6,7,8]))) (.seq (.reg c118_r12 none (some [0,4,5,6,7,106])) (.cond §106 (.reg c118_r13 none (some [0,4,5,6,7])) .skip (some [0,4,5,6,7]))))))) (.reg c118_r5 none (some [0,4,5,6,7]))))
def c118_r14:List SOp:=[¢113 6]
def c118_r15:List SOp:=[¢114 4,¢115 0,¤116(.nilCheck §115),¤117(.fieldAddr 176 §116 2),¤118(.load 9 §117),⟨some 119,.call ⟨.builtin .len,#[.tmp 118],#[9]⟩,none⟩,¤120(.build 99 #[(2,§119),(3,£4)]),¤121(.buildSlice 94 1 #[(0,§120)]),⟨some 122,.call ⟨.builtin .append,#[.tmp 114,.tmp 121],#[94,94]⟩,none⟩,¤4(.assign §122)]
def c118_r16:List SOp:=[¤5(.assign £4)]
def c118_r17:List SOp:=[¢123 4,¢124 5,¤2(.assign §123),¤3(.assign §124)]
def c118:SC:=(.seq (.reg c118_r0 none (some [0])) (.seq (.reg c118_r1 none (some [0,4])) (.seq (.reg c118_r2 none (some [0,4,5,6])) (.seq (.seq (.reg c118_r3 none (some [0,4,5,6,7])) (.block 0 (.loop c118_l4 (some [0,4,5,6,7])))) (.seq (.seq (.reg c118_r14 none (some [0,4,5,113])) (.cond §113 (.seq (.reg c118_r15 none (some [4])) (.reg c118_r16 none (some [4,5]))) .skip (some [4,5]))) (.seq (.reg c118_r17 none (some [2,3])) .ret))))))
theorem c118_eq:∃code,Try.f118.body=some code/\compile H118 code=c118 :=⟨_,rfl,¥⟩
theorem c118_fn:Try.prog.funcs[118]?=some Try.f118:=¥
theorem c118_rs:Try.f118.results.toList=[.tmp 2,.tmp 3]:=¥
theorem c118_ok:fnB Try.prog H118 Try.f118=true:=¥
theorem c118_nt:Try.f118.ntmps=125:=¥
def H121:Hint:=⟨[(6,[4]),(3,[0,5]),(5,[4]),(2000019,[0,5]),(4,[0,5,19]),(2000011,[0,5]),(2,[0,5,11]),(1000002,[0,5]),(1,[0,5]),(0,[0,1])],[]⟩
def c121_r0:List SOp:=[¤4(.assign £0)]
def c121_r1:List SOp:=[¢6 1,¤7(.binOp .add 3 §6 £1 3),¤5(.assign §7)]
def c121_r2:List SOp:=[¢8 5,¢9 0,⟨some 10,.call ⟨.builtin .len,#[.tmp 9],#[42]⟩,none⟩,¤11(.binOp .lss 3 §8 §10 3)]
def c121_r4:List SOp:=[¢14 0,¢15 5,¤16(.indexAddr 42 §14 §15),¤17(.fieldAddr 52 §16 2),¤18(.load 4 §17),¤19(.unOp .not 4 §18)]
def c121_r5:List SOp:=[¢20 5,¤4(.assign §20)]
def c121_r3:List SOp:=[¢12 5,¤13(.binOp .add 3 §12 £1 3),¤5(.assign §13)]
def c121_l2:SC:=(.seq (.seq (.reg c121_r2 none (some [0,5,11])) (.cond §11 .skip (.exit 0) (some [0,5]))) (.seq (.block 1 (.seq (.reg c121_r4 none (some [0,5,19])) (.cond §19 (.seq (.reg c121_r5 none (some [4])) .ret) .skip (some [0,5])))) (.reg c121_r3 none (some [0,5]))))
def c121_r6:List SOp:=[¤4(.assign (.const (.int .i64 (-1))))]
def c121:SC:=(.seq (.reg c121_r0 none (some [0,1])) (.seq (.seq (.reg c121_r1 none (some [0,5])) (.block 0 (.loop c121_l2 (some [0,5])))) (.seq (.reg c121_r6 none (some [4])) .ret)))
theorem c121_eq:∃code,Try.f121.body=some code/\compile H121 code=c121 :=⟨_,rfl,¥⟩
theorem c121_fn:Try.prog.funcs[121]?=some Try.f121:=¥
theorem c121_rs:Try.f121.results.toList=[.tmp 4]:=¥
theorem c121_ok:fnB Try.prog H121 Try.f121=true:=¥
theorem c121_nt:Try.f121.ntmps=21:=¥
def H122:Hint:=⟨[(2,[6]),(1,[1,3,7]),(0,[1,2,3])],[]⟩
def c122_r0:List SOp:=[¤3(.box 52 §0),¤6(.assign (.const (.bool false)))]
def c122_r1:List SOp:=[¢8 2,¤9(.fieldAddr 52 §3 6),¤10(.load 3 §9),¤11(.binOp .add 3 §8 §10 3),¤7(.assign §11)]
def c122_r2:List SOp:=[¢12 1,¤13(.fieldAddr 52 §3 0),¤14(.load 9 §13),⟨some 15,.call ⟨.builtin .len,#[.tmp 14],#[9]⟩,none⟩,¤16(.binOp .sub 3 §12 §15 3),¢17 7,¤18(.binOp .geq 3 §16 §17 3),¢19 18,⟨some 20,.fieldAddr 52 §3 7,some (some 19,true)⟩,⟨some 21,.load 3 §20,some (some 19,true)⟩,⟨some 22,.binOp .leq 3 §21 £0 3,some (some 19,true)⟩,⟨some 23,.move §22,some (some 19,true)⟩,⟨some 24,.move §1,some (some 23,false)⟩,⟨some 25,.move §7,some (some 23,false)⟩,⟨some 26,.fieldAddr 52 §3 7,some (some 23,false)⟩,⟨some 27,.load 3 §26,some (some 23,false)⟩,⟨some 28,.binOp .add 3 §25 §27 3,some (some 23,false)⟩,⟨some 29,.binOp .leq 3 §24 §28 3,some (some 23,false)⟩,⟨some 30,.pick §23 (.const (.bool true)) §29,some (some 19,true)⟩,¤31(.pick §19 §30 (.const (.bool false))),¤6(.assign §31)]
def c122:SC:=(.seq (.reg c122_r0 none (some [1,2,3])) (.seq (.reg c122_r1 none (some [1,3,7])) (.seq (.reg c122_r2 none (some [6])) .ret)))
theorem c122_eq:∃code,Try.f122.body=some code/\compile H122 code=c122 :=⟨_,rfl,¥⟩
theorem c122_fn:Try.prog.funcs[122]?=some Try.f122:=¥
theorem c122_rs:Try.f122.results.toList=[.tmp 6]:=¥
theorem c122_ok:fnB Try.prog H122 Try.f122=true:=¥
theorem c122_nt:Try.f122.ntmps=32:=¥
def H123:Hint:=⟨[(6,[2]),(3,[1,3]),(5,[2]),(2000026,[1,3]),(4,[1,3,26]),(2000008,[1,3]),(2,[1,3,8]),(1000002,[1,3]),(1,[1,3]),(0,[1])],[]⟩
def c123_r0:List SOp:=[¤1(.box 102 §0),¤2(.assign (.const (.bool false)))]
def c123_r1:List SOp:=[¤3(.assign £0)]
def c123_r2:List SOp:=[¢4 3,¤5(.fieldAddr 102 §1 1),¤6(.load 100 §5),⟨some 7,.call ⟨.builtin .len,#[.tmp 6],#[100]⟩,none⟩,¤8(.binOp .lss 3 §4 §7 3)]
def c123_r4:List SOp:=[¤11(.fieldAddr 102 §1 1),¤12(.load 100 §11),¢13 3,¤14(.indexAddr 100 §12 §13),¤15(.fieldAddr 158 §14 1),¤16(.load 3 §15),¤17(.binOp .lss 3 §16 £0 3),¢18 17,⟨some 19,.fieldAddr 102 §1 1,some (some 18,false)⟩,⟨some 20,.load 100 §19,some (some 18,false)⟩,⟨some 21,.move §3,some (some 18,false)⟩,⟨some 22,.indexAddr 100 §20 §21,some (some 18,false)⟩,⟨some 23,.fieldAddr 158 §22 1,some (some 18,false)⟩,⟨some 24,.load 3 §23,some (some 18,false)⟩,⟨some 25,.binOp .gtr 3 §24 £32 3,some (some 18,false)⟩,¤26(.pick §18 (.const (.bool true)) §25)]
def c123_r5:List SOp:=[¤2(.assign (.const (.bool false)))]
def c123_r3:List SOp:=[¢9 3,¤10(.binOp .add 3 §9 £1 3),¤3(.assign §10)]
def c123_l2:SC:=(.seq (.seq (.reg c123_r2 none (some [1,3,8])) (.cond §8 .skip (.exit 0) (some [1,3]))) (.seq (.block 1 (.seq (.reg c123_r4 none (some [1,3,26])) (.cond §26 (.seq (.reg c123_r5 none (some [2])) .ret) .skip (some [1,3])))) (.reg c123_r3 none (some [1,3]))))
def c123_r6:List SOp:=[¤27(.fieldAddr 102 §1 1),¤28(.load 100 §27),⟨some 29,.call ⟨.builtin .len,#[.tmp 28],#[100]⟩,none⟩,¤30(.binOp .leq 3 §29 £4 3),¤2(.assign §30)]
def c123:SC:=(.seq (.reg c123_r0 none (some [1])) (.seq (.seq (.reg c123_r1 none (some [1,3])) (.block 0 (.loop c123_l2 (some [1,3])))) (.seq (.reg c123_r6 none (some [2])) .ret)))
theorem c123_eq:∃code,Try.f123.body=some code/\compile H123 code=c123 :=⟨_,rfl,¥⟩
theorem c123_fn:Try.prog.funcs[123]?=some Try.f123:=¥
theorem c123_rs:Try.f123.results.toList=[.tmp 2]:=¥
theorem c123_ok:fnB Try.prog H123 Try.f123=true:=¥
theorem c123_nt:Try.f123.ntmps=31:=¥
def H124:Hint:=⟨[(1,[4]),(0,[2,3])],[]⟩
def c124_r0:List SOp:=[¤2(.box 158 §0),¤3(.box 158 §1),¤4(.assign (.const (.bool false)))]
def c124_r1:List SOp:=[¤5(.fieldAddr 158 §2 1),¤6(.load 3 §5),¤7(.fieldAddr 158 §3 1),¤8(.load 3 §7),¤9(.binOp .leq 3 §6 §8 3),¢10 9,⟨some 11,.load 158 §2,some (some 10,true)⟩,⟨some 12,.fieldAddr 158 §3 0,some (some 10,true)⟩,⟨some 13,.load 156 §12,some (some 10,true)⟩,⟨some 14,.call ⟨.value (.func 130),#[.tmp 11,.tmp 13],#[158,156]⟩,some (some 10,true)⟩,¤15(.pick §10 §14 (.const (.bool false))),¤4(.assign §15)]
def c124:SC:=(.seq (.reg c124_r0 none (some [2,3])) (.seq (.reg c124_r1 none (some [4])) .ret))
theorem c124_eq:∃code,Try.f124.body=some code/\compile H124 code=c124 :=⟨_,rfl,¥⟩
theorem c124_fn:Try.prog.funcs[124]?=some Try.f124:=¥
theorem c124_rs:Try.f124.results.toList=[.tmp 4]:=¥
theorem c124_ok:fnB Try.prog H124 Try.f124=true:=¥
theorem c124_nt:Try.f124.ntmps=16:=¥
def H125:Hint:=⟨[(3,[2]),(2,[2]),(2000004,[0]),(1,[0,4]),(0,[0])],[]⟩
def c125_r0:List SOp:=[¤2(.assign (.const (.int .u32 0)))]
def c125_r1:List SOp:=[¢3 0,¤4(.binOp .leq 3 §3 £0 3)]
def c125_r2:List SOp:=[¤2(.assign (.const (.int .u32 0)))]
def c125_r3:List SOp:=[¢5 0,¤6(.binOp .sub 3 £32 §5 3),¤7(.convert 3 188 §6),¤8(.binOp .shl 156 (.const (.int .u32 4294967295)) §7 188),¤2(.assign §8)]
def c125:SC:=(.seq (.reg c125_r0 none (some [0])) (.seq (.seq (.reg c125_r1 none (some [0,4])) (.cond §4 (.seq (.reg c125_r2 none (some [2])) .ret) .skip (some [0]))) (.seq (.reg c125_r3 none (some [2])) .ret)))
theorem c125_eq:∃code,Try.f125.body=some code/\compile H125 code=c125 :=⟨_,rfl,¥⟩
theorem c125_fn:Try.prog.funcs[125]?=some Try.f125:=¥
theorem c125_rs:Try.f125.results.toList=[.tmp 2]:=¥
theorem c125_ok:fnB Try.prog H125 Try.f125=true:=¥
theorem c125_nt:Try.f125.ntmps=9:=¥
def H126:Hint:=⟨[(4,[0,8,9,10]),(2000024,[0,8,9,10]),(3,[0,8,9,10,24]),(2,[0,4,8,9,10]),(2000011,[0,8,9,10]),(1,[0,8,9,10,11]),(1000001,[0,8,9,10]),(0,[0,8,9,10])],[]⟩
def c126_r0:List SOp:=[¤5(.load 91 §1),¤6(.nilCheck §5),¤7(.fieldAddr 163 §6 2),¤8(.load 161 §7),⟨some 9,.call ⟨.builtin .len,#[.tmp 8],#[161]⟩,none⟩,¤10(.move £0)]
def c126_r1:List SOp:=[¤11(.binOp .lss 3 §10 §9 3)]
def c126_r2:List SOp:=[¤12(.indexAddr 161 §8 §10),¤13(.load 164 §12),¤4(.assign §13)]
def c126_r3:List SOp:=[¢14 4,¤15(.nilCheck §14),¤16(.fieldAddr 166 §15 3),¤17(.load 4 §16),¤18(.unOp .not 4 §17),¢19 18,⟨some 20,.move §0,some (some 19,true)⟩,⟨some 21,.move §4,some (some 19,true)⟩,⟨some 22,.call ⟨.value §20,#[.tmp 21],#[164]⟩,some (some 19,true)⟩,⟨some 23,.unOp .not 4 §22,some (some 19,true)⟩,¤24(.pick §19 §23 (.const (.bool false)))]
def c126_r4:List SOp:=[¤25(.binOp .add 3 §10 £1 3),¢10 25]
def c126_l1:SC:=(.seq (.reg c126_r1 none (some [0,8,9,10,11])) (.seq (.cond §11 .skip (.exit 0) (some [0,8,9,10])) (.seq (.block 1 (.seq (.reg c126_r2 none (some [0,4,8,9,10])) (.seq (.reg c126_r3 none (some [0,8,9,10,24])) (.cond §24 .ret .skip (some [0,8,9,10]))))) (.reg c126_r4 none (some [0,8,9,10])))))
def c126:SC:=(.seq (.reg c126_r0 none (some [0,8,9,10])) (.block 0 (.loop c126_l1 (some [0,8,9,10]))))
theorem c126_eq:∃code,Try.f126.body=some code/\compile H126 code=c126 :=⟨_,rfl,¥⟩
theorem c126_fn:Try.prog.funcs[126]?=some Try.f126:=¥
theorem c126_rs:Try.f126.results.toList=[]:=¥
theorem c126_ok:fnB Try.prog H126 Try.f126=true:=¥
theorem c126_nt:Try.f126.ntmps=26:=¥
def H130:Hint:=⟨[(1,[4]),(0,[1,2])],[(1,[(1,6)])]⟩
def c130_r0:List SOp:=[¤2(.box 158 §0),¤4(.assign (.const (.bool false)))]
def c130_r1:List SOp:=[¤5(.fieldAddr 158 §2 0),¤6(.load 156 §5),¢7 1,¤8(.binOp .xor 156 §6 §7 156),¤9(.fieldAddr 158 §2 1),¤10(.load 3 §9),⟨some 11,.call ⟨.value (.func 125),#[.tmp 10],#[3]⟩,none⟩,¤12(.binOp .and 156 §8 §11 156),¤13(.binOp .eql 156 §12 (.const (.int .u32 0)) 156),¤4(.assign §13)]
def c130:SC:=(.seq (.reg c130_r0 none (some [1,2])) (.seq (.reg c130_r1 (some [(1,6)]) (some [4])) .ret))
theorem c130_eq:∃code,Try.f130.body=some code/\compile H130 code=c130 :=⟨_,rfl,¥⟩
theorem c130_fn:Try.prog.funcs[130]?=some Try.f130:=¥
theorem c130_rs:Try.f130.results.toList=[.tmp 4]:=¥
theorem c130_ok:fnB Try.prog H130 Try.f130=true:=¥
theorem c130_nt:Try.f130.ntmps=14:=¥
end Go.AM
