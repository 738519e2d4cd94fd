/-
  Printed by program (wip/tools/print.sh): compiled code.
-/
import Derived.Test.YtamidpfdiijjgaaP27AMb
import Derived.Test.YtamidpfdiijjgaaProg
namespace Go.AM
open Go Go.Proofs
set_option maxRecDepth 100000
def H29:Hint:=⟨[(4,[4]),(3,[5]),(2000010,[5]),(2,[1,5,10]),(1,[1,5]),(0,[0,1])],[]⟩
def c29_r0:List SOp:=[¤4(.assign £0)]
def c29_r1:List SOp:=[¢6 0,¢7 1,¤8(.binOp .rem 3 §6 §7 3),¤5(.assign §8)]
def c29_r2:List SOp:=[¢9 5,¤10(.binOp .lss 3 §9 £0 3)]
def c29_r3:List SOp:=[¢11 5,¢12 1,¤13(.binOp .add 3 §11 §12 3),¤5(.assign §13)]
def c29_r4:List SOp:=[¢14 5,¤4(.assign §14)]
def c29:SC:=(.seq (.reg c29_r0 none (some [0,1])) (.seq (.reg c29_r1 none (some [1,5])) (.seq (.seq (.reg c29_r2 none (some [1,5,10])) (.cond §10 (.reg c29_r3 none (some [5])) .skip (some [5]))) (.seq (.reg c29_r4 none (some [4])) .ret))))
theorem c29_eq:∃code,Try.f29.body=some code/\compile H29 code=c29 :=⟨_,rfl,¥⟩
theorem c29_fn:Try.prog.funcs[29]?=some Try.f29:=¥
theorem c29_rs:Try.f29.results.toList=[.tmp 4]:=¥
theorem c29_ok:fnB Try.prog H29 Try.f29=true:=¥
theorem c29_nt:Try.f29.ntmps=15:=¥
def H30:Hint:=⟨[(1,[0]),(0,[])],[]⟩
def c30_r0:List SOp:=[¤0(.assign (.const (.pointer none)))]
def c30_r1:List SOp:=[¤1(.makeMap 113 none),¤2(.makeSlice 114 £1 £1),¤3(.makeSlice 44 £1 £1),¤4(.makeSlice 30 £1 £1),¤5(.build 116 #[(0,§1),(1,§2),(2,§3),(3,§4)]),¤6(.box 116 §5),¤0(.assign §6)]
def c30:SC:=(.seq (.reg c30_r0 none (some [])) (.seq (.reg c30_r1 none (some [0])) .ret))
theorem c30_eq:∃code,Try.f30.body=some code/\compile H30 code=c30 :=⟨_,rfl,¥⟩
theorem c30_fn:Try.prog.funcs[30]?=some Try.f30:=¥
theorem c30_rs:Try.f30.results.toList=[.tmp 0]:=¥
theorem c30_ok:fnB Try.prog H30 Try.f30=true:=¥
theorem c30_nt:Try.f30.ntmps=7:=¥
def H31:Hint:=⟨[(15,[4]),(14,[0]),(13,[0]),(12,[0,5,16,17,18]),(11,[0,5,16,17,18]),(10,[0,9,16,17,18]),(9,[0,5,8,9,16,17,18]),(8,[0,5,8,9,16,17,18]),(2000035,[0,9,16,17,18]),(7,[0,5,8,9,16,17,18,35]),(6,[0,5,8,9,10,16,17,18]),(5,[0,5,8,16,17,18]),(4,[0,5,7,16,17,18]),(2000019,[0,5,16,17,18]),(3,[0,5,16,17,18,19]),(1000003,[0,5,16,17,18]),(2,[0,5,16,17,18]),(1,[0,1,5]),(0,[0,1])],[(10,[(13,8),(13,9),(19,8),(19,9),(19,14),(19,15),(23,8),(23,9),(23,14),(23,15),(26,8),(26,9),(26,14),(26,15)]),(13,[(3,17)])]⟩
def c31_r0:List SOp:=[¤4(.assign £0)]
def c31_r1:List SOp:=[¤5(.assign £0)]
def c31_r2:List SOp:=[¢11 1,¢12 1,⟨some 13,.call ⟨.builtin .len,#[.tmp 12],#[9]⟩,none⟩,⟨some 14,.call ⟨.builtin .min,#[§13,£16],#[3,3]⟩,none⟩,¤15(.slice 9 §11 none (some §14) none),¤16(.convert 9 25 §15),⟨some 17,.call ⟨.builtin .len,#[.tmp 16],#[25]⟩,none⟩,¤18(.move £0)]
def c31_r3:List SOp:=[¤19(.binOp .lss 3 §18 §17 3)]
def c31_r4:List SOp:=[¤20(.indexAddr 25 §16 §18),¤21(.load 5 §20),¤7(.assign §21)]
def c31_r5:List SOp:=[¢22 5,¢23 7,¤24(.build 118 #[(0,§22),(1,§23)]),¤8(.alloc 118),⟨none,.store 118 §8 §24,none⟩]
def c31_r6:List SOp:=[¢26 0,¤27(.nilCheck §26),¤28(.fieldAddr 116 §27 0),¤29(.load 113 §28),¤30(.load 118 §8),¤31(.lookup 113 §29 §30 true),¢25 31,¤32(.extract §25 0),¤33(.extract §25 1),¤9(.assign §32),¤10(.assign §33)]
def c31_r7:List SOp:=[¢34 10,¤35(.unOp .not 4 §34)]
def c31_r8:List SOp:=[¢36 0,¤37(.nilCheck §36),¤38(.fieldAddr 116 §37 1),¤39(.load 114 §38),⟨some 40,.call ⟨.builtin .len,#[.tmp 39],#[114]⟩,none⟩,¤9(.assign §40)]
def c31_r9:List SOp:=[¢41 0,¤42(.nilCheck §41),¤43(.fieldAddr 116 §42 0),¤44(.load 113 §43),¤45(.load 118 §8),¢46 9,⟨none,.mapUpdate 113 §44 §45 §46,none⟩]
def c31_r10:List SOp:=[¢47 0,¢48 0,¢49 0,¢50 0,¤51(.nilCheck §50),¤52(.fieldAddr 116 §51 1),¤53(.load 114 §52),¤54(.load 118 §8),¤55(.buildSlice 114 1 #[(0,§54)]),⟨some 56,.call ⟨.builtin .append,#[.tmp 53,.tmp 55],#[114,114]⟩,none⟩,¢57 0,¤58(.nilCheck §57),¤59(.fieldAddr 116 §58 2),¤60(.load 44 §59),¤61(.buildSlice 44 1 #[(0,(.const (.slice none 0 0)))]),⟨some 62,.call ⟨.builtin .append,#[.tmp 60,.tmp 61],#[44,44]⟩,none⟩,¢63 0,¤64(.nilCheck §63),¤65(.fieldAddr 116 §64 3),¤66(.load 30 §65),¢67 0,¤68(.nilCheck §67),¤69(.fieldAddr 116 §68 3),¤70(.load 30 §69),¢71 5,¤72(.indexAddr 30 §70 §71),¤73(.load 3 §72),¤74(.binOp .add 3 §73 £1 3),¤75(.buildSlice 30 1 #[(0,§74)]),⟨some 76,.call ⟨.builtin .append,#[.tmp 66,.tmp 75],#[30,30]⟩,none⟩,¤77(.nilCheck §47),¤78(.fieldAddr 116 §77 1),⟨none,.store 114 §78 §56,none⟩,¤79(.nilCheck §48),¤80(.fieldAddr 116 §79 2),⟨none,.store 44 §80 §62,none⟩,¤81(.nilCheck §49),¤82(.fieldAddr 116 §81 3),⟨none,.store 30 §82 §76,none⟩]
def c31_r11:List SOp:=[¢83 9,¤5(.assign §83)]
def c31_r12:List SOp:=[¤84(.binOp .add 3 §18 £1 3),¢18 84]
def c31_l3:SC:=(.seq (.reg c31_r3 none (some [0,5,16,17,18,19])) (.seq (.cond §19 .skip (.exit 0) (some [0,5,16,17,18])) (.seq (.block 1 (.seq (.reg c31_r4 none (some [0,5,7,16,17,18])) (.seq (.reg c31_r5 none (some [0,5,8,16,17,18])) (.seq (.reg c31_r6 none (some [0,5,8,9,10,16,17,18])) (.seq (.seq (.reg c31_r7 none (some [0,5,8,9,16,17,18,35])) (.cond §35 (.seq (.reg c31_r8 none (some [0,5,8,9,16,17,18])) (.seq (.reg c31_r9 none (some [0,5,8,9,16,17,18])) (.reg c31_r10 (some [(13,8),(13,9),(19,8),(19,9),(19,14),(19,15),(23,8),(23,9),(23,14),(23,15),(26,8),(26,9),(26,14),(26,15)]) (some [0,9,16,17,18])))) .skip (some [0,9,16,17,18]))) (.reg c31_r11 none (some [0,5,16,17,18]))))))) (.reg c31_r12 none (some [0,5,16,17,18])))))
def c31_r13:List SOp:=[¢85 0,¤86(.nilCheck §85),¤87(.fieldAddr 116 §86 2),¤88(.load 44 §87),¢89 5,¢90 0,¤91(.nilCheck §90),¤92(.fieldAddr 116 §91 2),¤93(.load 44 §92),¢94 5,¤95(.indexAddr 44 §93 §94),¤96(.load 30 §95),¢97 0,¤98(.nilCheck §97),¤99(.fieldAddr 116 §98 4),¤100(.load 3 §99),¤101(.buildSlice 30 1 #[(0,§100)]),⟨some 102,.call ⟨.builtin .append,#[.tmp 96,.tmp 101],#[30,30]⟩,none⟩,¤103(.indexAddr 44 §88 §89),⟨none,.store 30 §103 §102,none⟩]
def c31_r14:List SOp:=[¢104 0,¤105(.nilCheck §104),¤106(.fieldAddr 116 §105 4),¤107(.load 3 §106),¤108(.binOp .add 3 §107 £1 3),¤109(.nilCheck §104),¤110(.fieldAddr 116 §109 4),⟨none,.store 3 §110 §108,none⟩]
def c31_r15:List SOp:=[¢111 0,¤112(.nilCheck §111),¤113(.fieldAddr 116 §112 4),¤114(.load 3 §113),¤115(.binOp .sub 3 §114 £1 3),¤4(.assign §115)]
def c31:SC:=(.seq (.reg c31_r0 none (some [0,1])) (.seq (.reg c31_r1 none (some [0,1,5])) (.seq (.seq (.reg c31_r2 none (some [0,5,16,17,18])) (.block 0 (.loop c31_l3 (some [0,5,16,17,18])))) (.seq (.reg c31_r13 (some [(3,17)]) (some [0])) (.seq (.reg c31_r14 none (some [0])) (.seq (.reg c31_r15 none (some [4])) .ret))))))
theorem c31_eq:∃code,Try.f31.body=some code/\compile H31 code=c31 :=⟨_,rfl,¥⟩
theorem c31_fn:Try.prog.funcs[31]?=some Try.f31:=¥
theorem c31_rs:Try.f31.results.toList=[.tmp 4]:=¥
theorem c31_ok:fnB Try.prog H31 Try.f31=true:=¥
theorem c31_nt:Try.f31.ntmps=116:=¥
def H32:Hint:=⟨[(1,[2]),(0,[0])],[]⟩
def c32_r0:List SOp:=[¤2(.assign £0)]
def c32_r1:List SOp:=[¢3 0,¤4(.nilCheck §3),¤5(.fieldAddr 116 §4 1),¤6(.load 114 §5),⟨some 7,.call ⟨.builtin .len,#[.tmp 6],#[114]⟩,none⟩,¤2(.assign §7)]
def c32:SC:=(.seq (.reg c32_r0 none (some [0])) (.seq (.reg c32_r1 none (some [2])) .ret))
theorem c32_eq:∃code,Try.f32.body=some code/\compile H32 code=c32 :=⟨_,rfl,¥⟩
theorem c32_fn:Try.prog.funcs[32]?=some Try.f32:=¥
theorem c32_rs:Try.f32.results.toList=[.tmp 2]:=¥
theorem c32_ok:fnB Try.prog H32 Try.f32=true:=¥
theorem c32_nt:Try.f32.ntmps=8:=¥
def H33:Hint:=⟨[(2,[6,7]),(1,[8,9]),(0,[0,1,2])],[]⟩
def c33_r0:List SOp:=[¤6(.assign £0),¤7(.assign (.const (.bool false)))]
def c33_r1:List SOp:=[¢11 0,¤12(.nilCheck §11),¤13(.fieldAddr 116 §12 0),¤14(.load 113 §13),¢15 1,¢16 2,¤17(.build 118 #[(0,§15),(1,§16)]),¤18(.lookup 113 §14 §17 true),¢10 18,¤19(.extract §10 0),¤20(.extract §10 1),¤8(.assign §19),¤9(.assign §20)]
def c33_r2:List SOp:=[¢21 8,¢22 9,¤6(.assign §21),¤7(.assign §22)]
def c33:SC:=(.seq (.reg c33_r0 none (some [0,1,2])) (.seq (.reg c33_r1 none (some [8,9])) (.seq (.reg c33_r2 none (some [6,7])) .ret)))
theorem c33_eq:∃code,Try.f33.body=some code/\compile H33 code=c33 :=⟨_,rfl,¥⟩
theorem c33_fn:Try.prog.funcs[33]?=some Try.f33:=¥
theorem c33_rs:Try.f33.results.toList=[.tmp 6,.tmp 7]:=¥
theorem c33_ok:fnB Try.prog H33 Try.f33=true:=¥
theorem c33_nt:Try.f33.ntmps=23:=¥
def H34:Hint:=⟨[(3,[4]),(2,[4]),(2000007,[0,1]),(1,[0,1,7]),(0,[0,1])],[]⟩
def c34_r0:List SOp:=[¤4(.assign (.const (.slice none 0 0)))]
def c34_r1:List SOp:=[¢5 0,¢6 1,⟨some 7,.call ⟨.value (.func 92),#[.tmp 5,.tmp 6],#[23,3]⟩,none⟩]
def c34_r2:List SOp:=[¤4(.assign (.const (.slice none 0 0)))]
def c34_r3:List SOp:=[¢8 0,¤9(.nilCheck §8),¤10(.fieldAddr 116 §9 2),¤11(.load 44 §10),¢12 1,¤13(.indexAddr 44 §11 §12),¤14(.load 30 §13),⟨some 15,.call ⟨.value (.func 93),#[.tmp 14],#[30]⟩,none⟩,¤4(.assign §15)]
def c34:SC:=(.seq (.reg c34_r0 none (some [0,1])) (.seq (.seq (.reg c34_r1 none (some [0,1,7])) (.cond §7 (.seq (.reg c34_r2 none (some [4])) .ret) .skip (some [0,1]))) (.seq (.reg c34_r3 none (some [4])) .ret)))
theorem c34_eq:∃code,Try.f34.body=some code/\compile H34 code=c34 :=⟨_,rfl,¥⟩
theorem c34_fn:Try.prog.funcs[34]?=some Try.f34:=¥
theorem c34_rs:Try.f34.results.toList=[.tmp 4]:=¥
theorem c34_ok:fnB Try.prog H34 Try.f34=true:=¥
theorem c34_nt:Try.f34.ntmps=16:=¥
def H44:Hint:=⟨[(20,[4]),(4,[0,1,5,6]),(19,[0,1,5,6]),(9,[0,1,5,6,7,8]),(18,[0,1,5,6,7,8]),(2000081,[0,1,5,6,7,8]),(17,[0,1,5,6,7,8,81]),(15,[0,1,5,6,7,8,9,10]),(16,[0,1,5,6,7,8,9,10]),(2000060,[0,1,5,6,7,8,9,10]),(14,[0,1,5,6,7,8,9,10,60]),(1000014,[0,1,5,6,7,8,9,10]),(13,[0,1,5,6,7,8,9,10]),(2000051,[0,1,5,6,7,8,9]),(12,[0,1,5,6,7,8,9,51]),(11,[0,1,5,6,7,8,9]),(2000035,[0,1,5,6,7,8]),(10,[0,1,5,6,7,8,35]),(2000025,[0,1,5,6,7,8]),(8,[0,1,5,6,7,8,25]),(1000008,[0,1,5,6,7,8]),(7,[0,1,5,6,7,8]),(6,[0,1,5,6,7]),(2000021,[0,1,5,6]),(5,[0,1,5,6,21]),(2000014,[0,1,5,6]),(3,[0,1,5,6,14]),(1000003,[0,1,5,6]),(2,[0,1,5,6]),(1,[0,1,5]),(0,[0,1])],[]⟩
def c44_r0:List SOp:=[¤4(.assign (.const (.slice none 0 0)))]
def c44_r1:List SOp:=[¤5(.assign (.const (.slice none 0 0)))]
def c44_r2:List SOp:=[¤6(.assign £0)]
def c44_r3:List SOp:=[¢11 6,¢12 0,⟨some 13,.call ⟨.builtin .len,#[.tmp 12],#[42]⟩,none⟩,¤14(.binOp .lss 3 §11 §13 3)]
def c44_r5:List SOp:=[¢17 0,¢18 6,¤19(.indexAddr 42 §17 §18),¤20(.fieldAddr 52 §19 2),¤21(.load 4 §20)]
def c44_r6:List SOp:=[¤7(.assign (.const (.slice none 0 0)))]
def c44_r7:List SOp:=[¤8(.assign £0)]
def c44_r8:List SOp:=[¢22 8,¢23 1,⟨some 24,.call ⟨.builtin .len,#[.tmp 23],#[9]⟩,none⟩,¤25(.binOp .leq 3 §22 §24 3)]
def c44_r10:List SOp:=[¢28 0,¢29 6,¤30(.indexAddr 42 §28 §29),¤31(.load 52 §30),¢32 1,¢33 8,⟨some 34,.call ⟨.value (.func 96),#[.tmp 31,.tmp 32,.tmp 33],#[52,9,3]⟩,none⟩,¤35(.unOp .not 4 §34)]
def c44_r11:List SOp:=[¢36 0,¢37 6,¤38(.indexAddr 42 §36 §37),¤39(.fieldAddr 52 §38 5),¤40(.load 4 §39),¤41(.unOp .not 4 §40),¤9(.assign §41)]
def c44_r12:List SOp:=[¢42 0,¢43 6,¤44(.indexAddr 42 §42 §43),¤45(.fieldAddr 52 §44 5),¤46(.load 4 §45),¢47 46,⟨some 48,.move §5,some (some 47,true)⟩,⟨some 49,.call ⟨.builtin .len,#[.tmp 48],#[44]⟩,some (some 47,true)⟩,⟨some 50,.binOp .gtr 3 §49 £0 3,some (some 47,true)⟩,¤51(.pick §47 §50 (.const (.bool false)))]
def c44_r13:List SOp:=[¤10(.assign £0)]
def c44_r14:List SOp:=[¢52 10,¢53 5,¢54 5,⟨some 55,.call ⟨.builtin .len,#[.tmp 54],#[44]⟩,none⟩,¤56(.binOp .sub 3 §55 £1 3),¤57(.indexAddr 44 §53 §56),¤58(.load 30 §57),⟨some 59,.call ⟨.builtin .len,#[.tmp 58],#[30]⟩,none⟩,¤60(.binOp .lss 3 §52 §59 3)]
def c44_r16:List SOp:=[¢63 9,¢64 63,⟨some 65,.move §0,some (some 64,false)⟩,⟨some 66,.move §6,some (some 64,false)⟩,⟨some 67,.indexAddr 42 §65 §66,some (some 64,false)⟩,⟨some 68,.load 52 §67,some (some 64,false)⟩,⟨some 69,.move §5,some (some 64,false)⟩,⟨some 70,.move §5,some (some 64,false)⟩,⟨some 71,.call ⟨.builtin .len,#[.tmp 70],#[44]⟩,some (some 64,false)⟩,⟨some 72,.binOp .sub 3 §71 £1 3,some (some 64,false)⟩,⟨some 73,.indexAddr 44 §69 §72,some (some 64,false)⟩,⟨some 74,.load 30 §73,some (some 64,false)⟩,⟨some 75,.move §10,some (some 64,false)⟩,⟨some 76,.indexAddr 30 §74 §75,some (some 64,false)⟩,⟨some 77,.load 3 §76,some (some 64,false)⟩,⟨some 78,.move §8,some (some 64,false)⟩,⟨some 79,.call ⟨.value (.func 97),#[.tmp 68,.tmp 77,.tmp 78],#[52,3,3]⟩,some (some 64,false)⟩,¤80(.pick §64 (.const (.bool true)) §79),¤9(.assign §80)]
def c44_r15:List SOp:=[¢61 10,¤62(.binOp .add 3 §61 £1 3),¤10(.assign §62)]
def c44_l14:SC:=(.seq (.seq (.reg c44_r14 none (some [0,1,5,6,7,8,9,10,60])) (.cond §60 .skip (.exit 4) (some [0,1,5,6,7,8,9,10]))) (.seq (.block 5 (.reg c44_r16 none (some [0,1,5,6,7,8,9,10]))) (.reg c44_r15 none (some [0,1,5,6,7,8,9,10]))))
def c44_r17:List SOp:=[¢81 9]
def c44_r18:List SOp:=[¢82 7,¢83 8,¤84(.buildSlice 30 1 #[(0,§83)]),⟨some 85,.call ⟨.builtin .append,#[.tmp 82,.tmp 84],#[30,30]⟩,none⟩,¤7(.assign §85)]
def c44_r9:List SOp:=[¢26 8,¤27(.binOp .add 3 §26 £1 3),¤8(.assign §27)]
def c44_l8:SC:=(.seq (.seq (.reg c44_r8 none (some [0,1,5,6,7,8,25])) (.cond §25 .skip (.exit 2) (some [0,1,5,6,7,8]))) (.seq (.block 3 (.seq (.seq (.reg c44_r10 none (some [0,1,5,6,7,8,35])) (.cond §35 (.exit 3) .skip (some [0,1,5,6,7,8]))) (.seq (.reg c44_r11 none (some [0,1,5,6,7,8,9])) (.seq (.seq (.reg c44_r12 none (some [0,1,5,6,7,8,9,51])) (.cond §51 (.seq (.reg c44_r13 none (some [0,1,5,6,7,8,9,10])) (.block 4 (.loop c44_l14 (some [0,1,5,6,7,8,9,10])))) .skip (some [0,1,5,6,7,8,9]))) (.seq (.reg c44_r17 none (some [0,1,5,6,7,8,81])) (.cond §81 (.reg c44_r18 none (some [0,1,5,6,7,8])) .skip (some [0,1,5,6,7,8]))))))) (.reg c44_r9 none (some [0,1,5,6,7,8]))))
def c44_r19:List SOp:=[¢86 5,¢87 7,¤88(.buildSlice 44 1 #[(0,§87)]),⟨some 89,.call ⟨.builtin .append,#[.tmp 86,.tmp 88],#[44,44]⟩,none⟩,¤5(.assign §89)]
def c44_r4:List SOp:=[¢15 6,¤16(.binOp .add 3 §15 £1 3),¤6(.assign §16)]
def c44_l3:SC:=(.seq (.seq (.reg c44_r3 none (some [0,1,5,6,14])) (.cond §14 .skip (.exit 0) (some [0,1,5,6]))) (.seq (.block 1 (.seq (.seq (.reg c44_r5 none (some [0,1,5,6,21])) (.cond §21 (.exit 1) .skip (some [0,1,5,6]))) (.seq (.reg c44_r6 none (some [0,1,5,6,7])) (.seq (.seq (.reg c44_r7 none (some [0,1,5,6,7,8])) (.block 2 (.loop c44_l8 (some [0,1,5,6,7,8])))) (.reg c44_r19 none (some [0,1,5,6])))))) (.reg c44_r4 none (some [0,1,5,6]))))
def c44_r20:List SOp:=[¢90 5,¤4(.assign §90)]
def c44:SC:=(.seq (.reg c44_r0 none (some [0,1])) (.seq (.reg c44_r1 none (some [0,1,5])) (.seq (.seq (.reg c44_r2 none (some [0,1,5,6])) (.block 0 (.loop c44_l3 (some [0,1,5,6])))) (.seq (.reg c44_r20 none (some [4])) .ret))))
theorem c44_eq:∃code,Try.f44.body=some code/\compile H44 code=c44 :=⟨_,rfl,¥⟩
theorem c44_fn:Try.prog.funcs[44]?=some Try.f44:=¥
theorem c44_rs:Try.f44.results.toList=[.tmp 4]:=¥
theorem c44_ok:fnB Try.prog H44 Try.f44=true:=¥
theorem c44_nt:Try.f44.ntmps=91:=¥
def H48:Hint:=⟨[(7,[4]),(4,[0,1,5,6]),(6,[4]),(2000021,[0,1,5,6]),(5,[0,1,5,6,21]),(2000013,[0,1,5,6]),(3,[0,1,5,6,13]),(1000003,[0,1,5,6]),(2,[0,1,5,6]),(1,[0,1,5]),(0,[0,1])],[]⟩
def c48_r0:List SOp:=[¤4(.assign (.const (.bool false)))]
def c48_r1:List SOp:=[¢7 0,¢8 1,⟨some 9,.call ⟨.value (.func 44),#[.tmp 7,.tmp 8],#[42,9]⟩,none⟩,¤5(.assign §9)]
def c48_r2:List SOp:=[¤6(.assign £0)]
def c48_r3:List SOp:=[¢10 6,¢11 5,⟨some 12,.call ⟨.builtin .len,#[.tmp 11],#[44]⟩,none⟩,¤13(.binOp .lss 3 §10 §12 3)]
def c48_r5:List SOp:=[¢16 5,¢17 6,¤18(.indexAddr 44 §16 §17),¤19(.load 30 §18),⟨some 20,.call ⟨.builtin .len,#[.tmp 19],#[30]⟩,none⟩,¤21(.binOp .eql 3 §20 £0 3)]
def c48_r6:List SOp:=[¤4(.assign (.const (.bool false)))]
def c48_r4:List SOp:=[¢14 6,¤15(.binOp .add 3 §14 £1 3),¤6(.assign §15)]
def c48_l3:SC:=(.seq (.seq (.reg c48_r3 none (some [0,1,5,6,13])) (.cond §13 .skip (.exit 0) (some [0,1,5,6]))) (.seq (.block 1 (.seq (.reg c48_r5 none (some [0,1,5,6,21])) (.cond §21 (.seq (.reg c48_r6 none (some [4])) .ret) .skip (some [0,1,5,6])))) (.reg c48_r4 none (some [0,1,5,6]))))
def c48_r7:List SOp:=[¢22 0,¢23 1,⟨some 24,.call ⟨.value (.func 99),#[.tmp 22,.tmp 23],#[42,9]⟩,none⟩,¤4(.assign §24)]
def c48:SC:=(.seq (.reg c48_r0 none (some [0,1])) (.seq (.reg c48_r1 none (some [0,1,5])) (.seq (.seq (.reg c48_r2 none (some [0,1,5,6])) (.block 0 (.loop c48_l3 (some [0,1,5,6])))) (.seq (.reg c48_r7 none (some [4])) .ret))))
theorem c48_eq:∃code,Try.f48.body=some code/\compile H48 code=c48 :=⟨_,rfl,¥⟩
theorem c48_fn:Try.prog.funcs[48]?=some Try.f48:=¥
theorem c48_rs:Try.f48.results.toList=[.tmp 4]:=¥
theorem c48_ok:fnB Try.prog H48 Try.f48=true:=¥
theorem c48_nt:Try.f48.ntmps=25:=¥
def H49:Hint:=⟨[(25,[2]),(4,[0,3,4]),(24,[0,3,4]),(14,[0,3,4,6]),(19,[0,3,4,6]),(2000078,[0,3,4,6]),(18,[0,3,4,5,6,78]),(17,[0,3,4,5,6]),(16,[0,3,4,5,6]),(21,[0,3,4,6]),(23,[0,3,4,6]),(2000094,[0,3,4,6]),(22,[0,3,4,5,6,94]),(2000087,[0,3,4,6]),(20,[0,3,4,5,6,9,87]),(2000063,[0,3,4,6]),(15,[0,3,4,5,6,9,63]),(2000059,[0,3,4,6]),(13,[0,3,4,5,6,7,9,59]),(12,[0,3,4,5,6,7,9]),(10,[0,3,4,5,6,7,8]),(11,[0,3,4,5,6,7,8]),(2000044,[0,3,4,5,6,7,8]),(9,[0,3,4,5,6,7,8,44]),(1000009,[0,3,4,5,6,7,8]),(8,[0,3,4,5,6,7,8]),(7,[0,3,4,5,6,7]),(6,[0,3,4,5,6]),(5,[0,3,4,5]),(2000017,[0,3,4]),(3,[0,3,4,17]),(1000003,[0,3,4]),(2,[0,3,4]),(1,[0,3]),(0,[0])],[]⟩
def c49_r0:List SOp:=[¤2(.assign (.const (.slice none 0 0)))]
def c49_r1:List SOp:=[¤3(.assign (.const (.slice none 0 0)))]
def c49_r2:List SOp:=[¤4(.assign £0)]
def c49_r3:List SOp:=[¢10 4,¢11 0,⟨some 12,.call ⟨.builtin .len,#[.tmp 11],#[30]⟩,none⟩,¤13(.binOp .lss 3 §10 §12 3),¢14 13,⟨some 15,.move §4,some (some 14,true)⟩,⟨some 16,.binOp .lss 3 §15 £3 3,some (some 14,true)⟩,¤17(.pick §14 §16 (.const (.bool false)))]
def c49_r5:List SOp:=[¢20 0,¢21 4,¤22(.indexAddr 30 §20 §21),¤23(.load 3 §22),⟨some 24,.call ⟨.value (.func 29),#[§23,£16777216],#[3,3]⟩,none⟩,¤5(.assign §24)]
def c49_r6:List SOp:=[¢25 5,¤26(.binOp .quo 3 §25 £7 3),¢27 5,¤28(.binOp .quo 3 §27 £31 3),¢29 5,¤30(.binOp .quo 3 §29 £101 3),¤31(.buildSlice 30 3 #[(0,§26),(1,§28),(2,§30)]),¢32 5,¤33(.binOp .rem 3 §32 £3 3),¤34(.binOp .add 3 £1 §33 3),⟨some 35,.call ⟨.value (.func 50),#[.tmp 31,.tmp 34],#[30,3]⟩,none⟩,¢36 5,¤37(.binOp .quo 3 §36 £3 3),¤38(.binOp .rem 3 §37 £3 3),¤39(.binOp .eql 3 §38 £0 3),¤40(.build 52 #[(0,§35),(1,§39)]),¤6(.alloc 52),⟨none,.store 52 §6 §40,none⟩]
def c49_r7:List SOp:=[¤7(.assign (.const (.bool false)))]
def c49_r8:List SOp:=[¤8(.assign £0)]
def c49_r9:List SOp:=[¢41 8,¢42 3,⟨some 43,.call ⟨.builtin .len,#[.tmp 42],#[42]⟩,none⟩,¤44(.binOp .lss 3 §41 §43 3)]
def c49_r11:List SOp:=[¢47 7,¢48 47,⟨some 49,.move §3,some (some 48,false)⟩,⟨some 50,.move §8,some (some 48,false)⟩,⟨some 51,.indexAddr 42 §49 §50,some (some 48,false)⟩,⟨some 52,.fieldAddr 52 §51 2,some (some 48,false)⟩,⟨some 53,.load 4 §52,some (some 48,false)⟩,⟨some 54,.unOp .not 4 §53,some (some 48,false)⟩,¤55(.pick §48 (.const (.bool true)) §54),¤7(.assign §55)]
def c49_r10:List SOp:=[¢45 8,¤46(.binOp .add 3 §45 £1 3),¤8(.assign §46)]
def c49_l9:SC:=(.seq (.seq (.reg c49_r9 none (some [0,3,4,5,6,7,8,44])) (.cond §44 .skip (.exit 2) (some [0,3,4,5,6,7,8]))) (.seq (.block 3 (.reg c49_r11 none (some [0,3,4,5,6,7,8]))) (.reg c49_r10 none (some [0,3,4,5,6,7,8]))))
def c49_r12:List SOp:=[¢56 5,¤57(.binOp .quo 3 §56 £9 3),¤58(.binOp .rem 3 §57 £8 3),¤9(.assign §58)]
def c49_r13:List SOp:=[¢60 9,¤61(.binOp .eql 3 §60 £0 3),¤59(.assign §61)]
def c49_r14:List SOp:=[¤62(.fieldAddr 52 §6 2),⟨none,.store 4 §62 (.const (.bool true)),none⟩]
def c49_r15:List SOp:=[¢64 9,¤65(.binOp .lss 3 §64 £4 3),¢66 65,⟨some 67,.move §7,some (some 66,true)⟩,¤68(.pick §66 §67 (.const (.bool false))),¤63(.assign §68)]
def c49_r16:List SOp:=[¤69(.fieldAddr 52 §6 5),⟨none,.store 4 §69 (.const (.bool true)),none⟩]
def c49_r17:List SOp:=[¢70 5,¤71(.binOp .quo 3 §70 £72 3),¤72(.binOp .rem 3 §71 £8 3),¤73(.binOp .sub 3 §72 £3 3),¤74(.fieldAddr 52 §6 6),⟨none,.store 3 §74 §73,none⟩]
def c49_r18:List SOp:=[¢75 5,¤76(.binOp .quo 3 §75 £576 3),¤77(.binOp .rem 3 §76 £2 3),¤78(.binOp .eql 3 §77 £0 3)]
def c49_r19:List SOp:=[¤79(.fieldAddr 52 §6 0),¤80(.load 9 §79),⟨some 81,.call ⟨.builtin .len,#[.tmp 80],#[9]⟩,none⟩,¢82 5,¤83(.binOp .quo 3 §82 £1152 3),¤84(.binOp .rem 3 §83 £6 3),¤85(.binOp .add 3 §81 §84 3),¤86(.fieldAddr 52 §6 7),⟨none,.store 3 §86 §85,none⟩]
def c49_r20:List SOp:=[¢88 9,¤89(.binOp .eql 3 §88 £4 3),¤87(.assign §89)]
def c49_r21:List SOp:=[¢90 5,¤91(.binOp .quo 3 §90 £72 3),¤92(.binOp .rem 3 §91 £5 3),¤93(.fieldAddr 52 §6 3),⟨none,.store 3 §93 §92,none⟩]
def c49_r22:List SOp:=[¢95 9,¤96(.binOp .eql 3 §95 £5 3),¤94(.assign §96)]
def c49_r23:List SOp:=[¤97(.fieldAddr 52 §6 0),¤98(.load 9 §97),⟨some 99,.call ⟨.builtin .len,#[.tmp 98],#[9]⟩,none⟩,¢100 5,¤101(.binOp .quo 3 §100 £72 3),¤102(.binOp .rem 3 §101 £9 3),¤103(.binOp .add 3 §99 §102 3),¤104(.fieldAddr 52 §6 4),⟨none,.store 3 §104 §103,none⟩]
def c49_r24:List SOp:=[¢105 3,¤106(.load 52 §6),¤107(.buildSlice 42 1 #[(0,§106)]),⟨some 108,.call ⟨.builtin .append,#[.tmp 105,.tmp 107],#[42,42]⟩,none⟩,¤3(.assign §108)]
def c49_r4:List SOp:=[¢18 4,¤19(.binOp .add 3 §18 £1 3),¤4(.assign §19)]
def c49_l3:SC:=(.seq (.seq (.reg c49_r3 none (some [0,3,4,17])) (.cond §17 .skip (.exit 0) (some [0,3,4]))) (.seq (.block 1 (.seq (.reg c49_r5 none (some [0,3,4,5])) (.seq (.reg c49_r6 none (some [0,3,4,5,6])) (.seq (.reg c49_r7 none (some [0,3,4,5,6,7])) (.seq (.seq (.reg c49_r8 none (some [0,3,4,5,6,7,8])) (.block 2 (.loop c49_l9 (some [0,3,4,5,6,7,8])))) (.seq (.seq (.reg c49_r12 none (some [0,3,4,5,6,7,9])) (.block 4 (.seq (.reg c49_r13 none (some [0,3,4,5,6,7,9,59])) (.cond §59 (.reg c49_r14 none (some [0,3,4,6])) (.seq (.reg c49_r15 none (some [0,3,4,5,6,9,63])) (.cond §63 (.seq (.reg c49_r16 none (some [0,3,4,5,6])) (.seq (.reg c49_r17 none (some [0,3,4,5,6])) (.seq (.reg c49_r18 none (some [0,3,4,5,6,78])) (.cond §78 (.reg c49_r19 none (some [0,3,4,6])) .skip (some [0,3,4,6]))))) (.seq (.reg c49_r20 none (some [0,3,4,5,6,9,87])) (.cond §87 (.reg c49_r21 none (some [0,3,4,6])) (.seq (.reg c49_r22 none (some [0,3,4,5,6,94])) (.cond §94 (.reg c49_r23 none (some [0,3,4,6])) .skip (some [0,3,4,6]))) (some [0,3,4,6]))) (some [0,3,4,6]))) (some [0,3,4,6]))))) (.reg c49_r24 none (some [0,3,4])))))))) (.reg c49_r4 none (some [0,3,4]))))
def c49_r25:List SOp:=[¢109 3,¤2(.assign §109)]
def c49:SC:=(.seq (.reg c49_r0 none (some [0])) (.seq (.reg c49_r1 none (some [0,3])) (.seq (.seq (.reg c49_r2 none (some [0,3,4])) (.block 0 (.loop c49_l3 (some [0,3,4])))) (.seq (.reg c49_r25 none (some [2])) .ret))))
theorem c49_eq:∃code,Try.f49.body=some code/\compile H49 code=c49 :=⟨_,rfl,¥⟩
theorem c49_fn:Try.prog.funcs[49]?=some Try.f49:=¥
theorem c49_rs:Try.f49.results.toList=[.tmp 2]:=¥
theorem c49_ok:fnB Try.prog H49 Try.f49=true:=¥
theorem c49_nt:Try.f49.ntmps=110:=¥
def H50:Hint:=⟨[(6,[4]),(4,[0,1,5,6]),(5,[0,1,5,6]),(2000014,[0,1,5,6]),(3,[0,1,5,6,14]),(1000003,[0,1,5,6]),(2,[0,1,5,6]),(1,[0,1,5]),(0,[0,1])],[]⟩
def c50_r0:List SOp:=[⟨some 4,.assign (.const (.string ⟨#[]⟩)),none⟩]
def c50_r1:List SOp:=[¤5(.assign (.const (.slice none 0 0)))]
def c50_r2:List SOp:=[¤6(.assign £0)]
def c50_r3:List SOp:=[¢7 6,¢8 1,¤9(.binOp .lss 3 §7 §8 3),¢10 9,⟨some 11,.move §0,some (some 10,true)⟩,⟨some 12,.call ⟨.builtin .len,#[.tmp 11],#[30]⟩,some (some 10,true)⟩,⟨some 13,.binOp .gtr 3 §12 £0 3,some (some 10,true)⟩,¤14(.pick §10 §13 (.const (.bool false)))]
def c50_r5:List SOp:=[¢17 5,¢18 0,¢19 6,¢20 0,⟨some 21,.call ⟨.builtin .len,#[.tmp 20],#[30]⟩,none⟩,¤22(.binOp .rem 3 §19 §21 3),¤23(.indexAddr 30 §18 §22),¤24(.load 3 §23),⟨some 25,.call ⟨.value (.func 29),#[§24,£1073741824],#[3,3]⟩,none⟩,¢26 6,¢27 6,¤28(.binOp .mul 3 §26 §27 3),¤29(.binOp .quo 3 §28 £3 3),¤30(.binOp .add 3 §25 §29 3),⟨some 31,.call ⟨.value (.func 29),#[§30,£4],#[3,3]⟩,none⟩,⟨some 32,.index 9 (.const (.string ⟨#[97,98,99,65]⟩)) §31,none⟩,¤33(.buildSlice 25 1 #[(0,§32)]),⟨some 34,.call ⟨.builtin .append,#[.tmp 17,.tmp 33],#[25,25]⟩,none⟩,¤5(.assign §34)]
def c50_r4:List SOp:=[¢15 6,¤16(.binOp .add 3 §15 £1 3),¤6(.assign §16)]
def c50_l3:SC:=(.seq (.seq (.reg c50_r3 none (some [0,1,5,6,14])) (.cond §14 .skip (.exit 0) (some [0,1,5,6]))) (.seq (.block 1 (.reg c50_r5 none (some [0,1,5,6]))) (.reg c50_r4 none (some [0,1,5,6]))))
def c50_r6:List SOp:=[¢35 5,¤36(.convert 25 9 §35),¤4(.assign §36)]
def c50:SC:=(.seq (.reg c50_r0 none (some [0,1])) (.seq (.reg c50_r1 none (some [0,1,5])) (.seq (.seq (.reg c50_r2 none (some [0,1,5,6])) (.block 0 (.loop c50_l3 (some [0,1,5,6])))) (.seq (.reg c50_r6 none (some [4])) .ret))))
theorem c50_eq:∃code,Try.f50.body=some code/\compile H50 code=c50 :=⟨_,rfl,¥⟩
theorem c50_fn:Try.prog.funcs[50]?=some Try.f50:=¥
theorem c50_rs:Try.f50.results.toList=[.tmp 4]:=¥
theorem c50_ok:fnB Try.prog H50 Try.f50=true:=¥
theorem c50_nt:Try.f50.ntmps=37:=¥
def H52:Hint:=⟨[(23,[4,5]),(22,[6,12,13]),(21,[6,12,13,14]),(2000061,[6,12,13]),(20,[6,12,13,61]),(1000020,[6,12,13]),(19,[6,12,13]),(18,[6,12]),(17,[4,5]),(2000049,[6,11]),(16,[6,11,49]),(15,[1,6,11]),(14,[1,6,30,31,32]),(13,[4,5]),(2000043,[1,6,30,31,32]),(12,[1,6,30,31,32,43]),(11,[1,6,30,31,32]),(10,[1,6,10,30,31,32]),(2000033,[1,6,30,31,32]),(9,[1,6,30,31,32,33]),(1000009,[1,6,30,31,32]),(8,[1,6,30,31,32]),(7,[0,1,6,16,17,18]),(6,[4,5]),(2000028,[0,1,6,16,17,18]),(5,[0,1,6,16,17,18,28]),(4,[0,1,6,8,16,17,18]),(2000019,[0,1,6,16,17,18]),(3,[0,1,6,16,17,18,19]),(1000003,[0,1,6,16,17,18]),(2,[0,1,6,16,17,18]),(1,[0,1,6]),(0,[0,1])],[]⟩
def c52_r0:List SOp:=[¤4(.assign (.const (.pointer none))),¤5(.assign £0)]
def c52_r1:List SOp:=[⟨some 15,.call ⟨.value (.func 30),#[],#[]⟩,none⟩,¤6(.assign §15)]
def c52_r2:List SOp:=[¢16 0,⟨some 17,.call ⟨.builtin .len,#[.tmp 16],#[38]⟩,none⟩,¤18(.move £0)]
def c52_r3:List SOp:=[¤19(.binOp .lss 3 §18 §17 3)]
def c52_r4:List SOp:=[¤20(.indexAddr 38 §16 §18),¤21(.load 9 §20),¤8(.assign §21)]
def c52_r5:List SOp:=[¢22 8,⟨some 23,.binOp .eql 9 §22 (.const (.string ⟨#[]⟩)) 9,none⟩,¢24 23,⟨some 25,.move §8,some (some 24,false)⟩,⟨some 26,.call ⟨.builtin .len,#[.tmp 25],#[9]⟩,some (some 24,false)⟩,⟨some 27,.binOp .gtr 3 §26 £16 3,some (some 24,false)⟩,¤28(.pick §24 (.const (.bool true)) §27)]
def c52_r6:List SOp:=[¤4(.assign (.const (.pointer none))),¤5(.assign £1)]
def c52_r7:List SOp:=[¤29(.binOp .add 3 §18 £1 3),¢18 29]
def c52_l3:SC:=(.seq (.reg c52_r3 none (some [0,1,6,16,17,18,19])) (.seq (.cond §19 .skip (.exit 0) (some [0,1,6,16,17,18])) (.seq (.block 1 (.seq (.reg c52_r4 none (some [0,1,6,8,16,17,18])) (.seq (.reg c52_r5 none (some [0,1,6,16,17,18,28])) (.cond §28 (.seq (.reg c52_r6 none (some [4,5])) .ret) .skip (some [0,1,6,16,17,18]))))) (.reg c52_r7 none (some [0,1,6,16,17,18])))))
def c52_r8:List SOp:=[¢30 0,⟨some 31,.call ⟨.builtin .len,#[.tmp 30],#[38]⟩,none⟩,¤32(.move £0)]
def c52_r9:List SOp:=[¤33(.binOp .lss 3 §32 §31 3)]
def c52_r10:List SOp:=[¤34(.indexAddr 38 §30 §32),¤35(.load 9 §34),¤10(.assign §35)]
def c52_r11:List SOp:=[¢36 6,¢37 10,⟨some 38,.call ⟨.value (.func 31),#[.tmp 36,.tmp 37],#[23,9]⟩,none⟩]
def c52_r12:List SOp:=[¢39 6,⟨some 40,.call ⟨.value (.func 32),#[.tmp 39],#[23]⟩,none⟩,¢41 1,⟨some 42,.call ⟨.builtin .min,#[§41,£4096],#[3,3]⟩,none⟩,¤43(.binOp .gtr 3 §40 §42 3)]
def c52_r13:List SOp:=[¤4(.assign (.const (.pointer none))),¤5(.assign £9)]
def c52_r14:List SOp:=[¤44(.binOp .add 3 §32 £1 3),¢32 44]
def c52_l9:SC:=(.seq (.reg c52_r9 none (some [1,6,30,31,32,33])) (.seq (.cond §33 .skip (.exit 2) (some [1,6,30,31,32])) (.seq (.block 3 (.seq (.reg c52_r10 none (some [1,6,10,30,31,32])) (.seq (.reg c52_r11 none (some [1,6,30,31,32])) (.seq (.reg c52_r12 none (some [1,6,30,31,32,43])) (.cond §43 (.seq (.reg c52_r13 none (some [4,5])) .ret) .skip (some [1,6,30,31,32])))))) (.reg c52_r14 none (some [1,6,30,31,32])))))
def c52_r15:List SOp:=[¢45 6,⟨some 46,.call ⟨.value (.func 32),#[.tmp 45],#[23]⟩,none⟩,¤11(.assign §46)]
def c52_r16:List SOp:=[¢47 11,¢48 1,¤49(.binOp .gtr 3 §47 §48 3)]
def c52_r17:List SOp:=[¤4(.assign (.const (.pointer none))),¤5(.assign £9)]
def c52_r18:List SOp:=[¢50 11,¤51(.makeSlice 127 §50 §50),¢52 11,¤53(.makeSlice 30 §52 §52),¢54 11,¤55(.makeSlice 44 §54 §54),¤56(.build 129 #[(0,§51),(1,§53),(2,§55)]),¤57(.box 129 §56),¤12(.assign §57)]
def c52_r19:List SOp:=[¤58(.buildSlice 30 1 #[(0,£0)]),¤13(.assign §58)]
def c52_r20:List SOp:=[¢59 13,⟨some 60,.call ⟨.builtin .len,#[.tmp 59],#[30]⟩,none⟩,¤61(.binOp .gtr 3 §60 £0 3)]
def c52_r21:List SOp:=[¢62 13,¤63(.indexAddr 30 §62 £0),¤64(.load 3 §63),¤14(.assign §64)]
def c52_r22:List SOp:=[¢65 13,¤66(.slice 30 §65 (some £1) none none),¢67 12,¢68 6,¢69 14,⟨some 70,.call ⟨.value (.func 100),#[.tmp 67,.tmp 68,.tmp 69],#[57,23,3]⟩,none⟩,⟨some 71,.call ⟨.builtin .append,#[.tmp 66,.tmp 70],#[30,30]⟩,none⟩,¤13(.assign §71)]
def c52_l20:SC:=(.seq (.seq (.reg c52_r20 none (some [6,12,13,61])) (.cond §61 .skip (.exit 4) (some [6,12,13]))) (.block 5 (.seq (.reg c52_r21 none (some [6,12,13,14])) (.reg c52_r22 none (some [6,12,13])))))
def c52_r23:List SOp:=[¢72 12,¤4(.assign §72),¤5(.assign £0)]
def c52:SC:=(.seq (.reg c52_r0 none (some [0,1])) (.seq (.reg c52_r1 none (some [0,1,6])) (.seq (.seq (.reg c52_r2 none (some [0,1,6,16,17,18])) (.block 0 (.loop c52_l3 (some [0,1,6,16,17,18])))) (.seq (.seq (.reg c52_r8 none (some [1,6,30,31,32])) (.block 2 (.loop c52_l9 (some [1,6,30,31,32])))) (.seq (.reg c52_r15 none (some [1,6,11])) (.seq (.seq (.reg c52_r16 none (some [6,11,49])) (.cond §49 (.seq (.reg c52_r17 none (some [4,5])) .ret) .skip (some [6,11]))) (.seq (.reg c52_r18 none (some [6,12])) (.seq (.seq (.reg c52_r19 none (some [6,12,13])) (.block 4 (.loop c52_l20 (some [6,12,13])))) (.seq (.reg c52_r23 none (some [4,5])) .ret)))))))))
theorem c52_eq:∃code,Try.f52.body=some code/\compile H52 code=c52 :=⟨_,rfl,¥⟩
theorem c52_fn:Try.prog.funcs[52]?=some Try.f52:=¥
theorem c52_rs:Try.f52.results.toList=[.tmp 4,.tmp 5]:=¥
theorem c52_ok:fnB Try.prog H52 Try.f52=true:=¥
theorem c52_nt:Try.f52.ntmps=73:=¥
def H53:Hint:=⟨[(3,[6]),(2,[6]),(2000009,[0,1,2]),(1,[0,1,2,9]),(0,[0,1,2])],[]⟩
def c53_r0:List SOp:=[¤6(.assign £0)]
def c53_r1:List SOp:=[¢7 0,¢8 1,⟨some 9,.call ⟨.value (.func 101),#[.tmp 7,.tmp 8],#[57,3]⟩,none⟩]
def c53_r2:List SOp:=[¤6(.assign £0)]
def c53_r3:List SOp:=[¢10 0,¤11(.nilCheck §10),¤12(.fieldAddr 129 §11 0),¤13(.load 127 §12),¢14 1,¢15 2,¤16(.indexAddr 127 §13 §14),¤17(.indexAddr 132 §16 §15),¤18(.load 131 §17),¤19(.convert 131 3 §18),¤6(.assign §19)]
def c53:SC:=(.seq (.reg c53_r0 none (some [0,1,2])) (.seq (.seq (.reg c53_r1 none (some [0,1,2,9])) (.cond §9 (.seq (.reg c53_r2 none (some [6])) .ret) .skip (some [0,1,2]))) (.seq (.reg c53_r3 none (some [6])) .ret)))
theorem c53_eq:∃code,Try.f53.body=some code/\compile H53 code=c53 :=⟨_,rfl,¥⟩
theorem c53_fn:Try.prog.funcs[53]?=some Try.f53:=¥
theorem c53_rs:Try.f53.results.toList=[.tmp 6]:=¥
theorem c53_ok:fnB Try.prog H53 Try.f53=true:=¥
theorem c53_nt:Try.f53.ntmps=20:=¥
def H54:Hint:=⟨[(3,[4]),(2,[4]),(2000007,[0,1]),(1,[0,1,7]),(0,[0,1])],[]⟩
def c54_r0:List SOp:=[¤4(.assign (.const (.slice none 0 0)))]
def c54_r1:List SOp:=[¢5 0,¢6 1,⟨some 7,.call ⟨.value (.func 101),#[.tmp 5,.tmp 6],#[57,3]⟩,none⟩]
def c54_r2:List SOp:=[¤4(.assign (.const (.slice none 0 0)))]
def c54_r3:List SOp:=[¢8 0,¤9(.nilCheck §8),¤10(.fieldAddr 129 §9 2),¤11(.load 44 §10),¢12 1,¤13(.indexAddr 44 §11 §12),¤14(.load 30 §13),⟨some 15,.call ⟨.value (.func 93),#[.tmp 14],#[30]⟩,none⟩,¤4(.assign §15)]
def c54:SC:=(.seq (.reg c54_r0 none (some [0,1])) (.seq (.seq (.reg c54_r1 none (some [0,1,7])) (.cond §7 (.seq (.reg c54_r2 none (some [4])) .ret) .skip (some [0,1]))) (.seq (.reg c54_r3 none (some [4])) .ret)))
theorem c54_eq:∃code,Try.f54.body=some code/\compile H54 code=c54 :=⟨_,rfl,¥⟩
theorem c54_fn:Try.prog.funcs[54]?=some Try.f54:=¥
theorem c54_rs:Try.f54.results.toList=[.tmp 4]:=¥
theorem c54_ok:fnB Try.prog H54 Try.f54=true:=¥
theorem c54_nt:Try.f54.ntmps=16:=¥
def H57:Hint:=⟨[(4,[8]),(3,[0,1,9]),(2,[8]),(2000019,[0,1,2,3]),(1,[0,1,2,3,19]),(0,[0,1,2,3])],[]⟩
def c57_r0:List SOp:=[¤8(.assign (.const (.bool false)))]
def c57_r1:List SOp:=[¢10 3,¢11 0,⟨some 12,.call ⟨.builtin .len,#[.tmp 11],#[9]⟩,none⟩,¤13(.binOp .lss 3 §10 §12 3),¢14 13,⟨some 15,.move §3,some (some 14,false)⟩,⟨some 16,.move §2,some (some 14,false)⟩,⟨some 17,.call ⟨.builtin .len,#[.tmp 16],#[9]⟩,some (some 14,false)⟩,⟨some 18,.binOp .gtr 3 §15 §17 3,some (some 14,false)⟩,¤19(.pick §14 (.const (.bool true)) §18)]
def c57_r2:List SOp:=[¤8(.assign (.const (.bool false)))]
def c57_r3:List SOp:=[¢20 2,¢21 3,¢22 0,⟨some 23,.call ⟨.builtin .len,#[.tmp 22],#[9]⟩,none⟩,¤24(.binOp .sub 3 §21 §23 3),¢25 3,¤26(.slice 9 §20 (some §24) (some §25) none),¤9(.assign §26)]
def c57_r4:List SOp:=[¢27 9,¢28 0,¤29(.binOp .eql 9 §27 §28 9),¢30 29,⟨some 31,.move §1,some (some 30,false)⟩,⟨some 32,.move §31,some (some 30,false)⟩,⟨some 33,.move §9,some (some 32,true)⟩,⟨some 34,.call ⟨.value (.func 60),#[.tmp 33],#[9]⟩,some (some 32,true)⟩,⟨some 35,.move §0,some (some 32,true)⟩,⟨some 36,.call ⟨.value (.func 60),#[.tmp 35],#[9]⟩,some (some 32,true)⟩,⟨some 37,.binOp .eql 9 §34 §36 9,some (some 32,true)⟩,⟨some 38,.pick §32 §37 (.const (.bool false)),some (some 30,false)⟩,¤39(.pick §30 (.const (.bool true)) §38),¤8(.assign §39)]
def c57:SC:=(.seq (.reg c57_r0 none (some [0,1,2,3])) (.seq (.seq (.reg c57_r1 none (some [0,1,2,3,19])) (.cond §19 (.seq (.reg c57_r2 none (some [8])) .ret) .skip (some [0,1,2,3]))) (.seq (.reg c57_r3 none (some [0,1,9])) (.seq (.reg c57_r4 none (some [8])) .ret))))
theorem c57_eq:∃code,Try.f57.body=some code/\compile H57 code=c57 :=⟨_,rfl,¥⟩
theorem c57_fn:Try.prog.funcs[57]?=some Try.f57:=¥
theorem c57_rs:Try.f57.results.toList=[.tmp 8]:=¥
theorem c57_ok:fnB Try.prog H57 Try.f57=true:=¥
theorem c57_nt:Try.f57.ntmps=40:=¥
def H59:Hint:=⟨[(8,[2]),(7,[3,8,9,10]),(6,[3,8,9,10]),(2000020,[3,8,9,10]),(5,[3,4,5,8,9,10,20]),(4,[3,4,5,8,9,10]),(2000011,[3,8,9,10]),(3,[3,8,9,10,11]),(1000003,[3,8,9,10]),(2,[3,8,9,10]),(1,[3]),(0,[0])],[]⟩
def c59_r0:List SOp:=[⟨some 2,.assign (.const (.string ⟨#[]⟩)),none⟩]
def c59_r1:List SOp:=[¢6 0,¤7(.convert 9 25 §6),¤3(.assign §7)]
def c59_r2:List SOp:=[¢8 3,⟨some 9,.call ⟨.builtin .len,#[.tmp 8],#[25]⟩,none⟩,¤10(.move £0)]
def c59_r3:List SOp:=[¤11(.binOp .lss 3 §10 §9 3)]
def c59_r4:List SOp:=[¢12 10,¤13(.indexAddr 25 §8 §10),¤14(.load 5 §13),¤4(.assign §12),¤5(.assign §14)]
def c59_r5:List SOp:=[¢15 5,¤16(.binOp .geq 5 §15 (.const (.int .u8 65)) 5),¢17 16,⟨some 18,.move §5,some (some 17,true)⟩,⟨some 19,.binOp .leq 5 §18 (.const (.int .u8 90)) 5,some (some 17,true)⟩,¤20(.pick §17 §19 (.const (.bool false)))]
def c59_r6:List SOp:=[¢21 3,¢22 4,¢23 5,¤24(.binOp .sub 5 §23 (.const (.int .u8 65)) 5),¤25(.binOp .add 5 §24 (.const (.int .u8 97)) 5),¤26(.indexAddr 25 §21 §22),⟨none,.store 5 §26 §25,none⟩]
def c59_r7:List SOp:=[¤27(.binOp .add 3 §10 £1 3),¢10 27]
def c59_l3:SC:=(.seq (.reg c59_r3 none (some [3,8,9,10,11])) (.seq (.cond §11 .skip (.exit 0) (some [3,8,9,10])) (.seq (.block 1 (.seq (.reg c59_r4 none (some [3,4,5,8,9,10])) (.seq (.reg c59_r5 none (some [3,4,5,8,9,10,20])) (.cond §20 (.reg c59_r6 none (some [3,8,9,10])) .skip (some [3,8,9,10]))))) (.reg c59_r7 none (some [3,8,9,10])))))
def c59_r8:List SOp:=[¢28 3,¤29(.convert 25 9 §28),¤2(.assign §29)]
def c59:SC:=(.seq (.reg c59_r0 none (some [0])) (.seq (.reg c59_r1 none (some [3])) (.seq (.seq (.reg c59_r2 none (some [3,8,9,10])) (.block 0 (.loop c59_l3 (some [3,8,9,10])))) (.seq (.reg c59_r8 none (some [2])) .ret))))
theorem c59_eq:∃code,Try.f59.body=some code/\compile H59 code=c59 :=⟨_,rfl,¥⟩
theorem c59_fn:Try.prog.funcs[59]?=some Try.f59:=¥
theorem c59_rs:Try.f59.results.toList=[.tmp 2]:=¥
theorem c59_ok:fnB Try.prog H59 Try.f59=true:=¥
theorem c59_nt:Try.f59.ntmps=30:=¥
def H60:Hint:=⟨[(9,[2]),(4,[0,3,4]),(8,[0,3,4]),(7,[0,3,4,5]),(2000020,[0,3,4,5]),(6,[0,3,4,5,20]),(5,[0,3,4,5]),(2000009,[0,3,4]),(3,[0,3,4,9]),(1000003,[0,3,4]),(2,[0,3,4]),(1,[0,3]),(0,[0])],[]⟩
def c60_r0:List SOp:=[⟨some 2,.assign (.const (.string ⟨#[]⟩)),none⟩]
def c60_r1:List SOp:=[¤3(.assign (.const (.slice none 0 0)))]
def c60_r2:List SOp:=[¤4(.assign £0)]
def c60_r3:List SOp:=[¢6 4,¢7 0,⟨some 8,.call ⟨.builtin .len,#[.tmp 7],#[9]⟩,none⟩,¤9(.binOp .lss 3 §6 §8 3)]
def c60_r5:List SOp:=[¢12 0,¢13 4,¤14(.index 9 §12 §13),¤5(.assign §14)]
def c60_r6:List SOp:=[¢15 5,¤16(.binOp .geq 5 §15 (.const (.int .u8 65)) 5),¢17 16,⟨some 18,.move §5,some (some 17,true)⟩,⟨some 19,.binOp .leq 5 §18 (.const (.int .u8 90)) 5,some (some 17,true)⟩,¤20(.pick §17 §19 (.const (.bool false)))]
def c60_r7:List SOp:=[¢21 5,¤22(.binOp .add 5 §21 (.const (.int .u8 32)) 5),¤5(.assign §22)]
def c60_r8:List SOp:=[¢23 3,¢24 5,¤25(.buildSlice 25 1 #[(0,§24)]),⟨some 26,.call ⟨.builtin .append,#[.tmp 23,.tmp 25],#[25,25]⟩,none⟩,¤3(.assign §26)]
def c60_r4:List SOp:=[¢10 4,¤11(.binOp .add 3 §10 £1 3),¤4(.assign §11)]
def c60_l3:SC:=(.seq (.seq (.reg c60_r3 none (some [0,3,4,9])) (.cond §9 .skip (.exit 0) (some [0,3,4]))) (.seq (.block 1 (.seq (.reg c60_r5 none (some [0,3,4,5])) (.seq (.seq (.reg c60_r6 none (some [0,3,4,5,20])) (.cond §20 (.reg c60_r7 none (some [0,3,4,5])) .skip (some [0,3,4,5]))) (.reg c60_r8 none (some [0,3,4]))))) (.reg c60_r4 none (some [0,3,4]))))
def c60_r9:List SOp:=[¢27 3,¤28(.convert 25 9 §27),¤2(.assign §28)]
def c60:SC:=(.seq (.reg c60_r0 none (some [0])) (.seq (.reg c60_r1 none (some [0,3])) (.seq (.seq (.reg c60_r2 none (some [0,3,4])) (.block 0 (.loop c60_l3 (some [0,3,4])))) (.seq (.reg c60_r9 none (some [2])) .ret))))
theorem c60_eq:∃code,Try.f60.body=some code/\compile H60 code=c60 :=⟨_,rfl,¥⟩
theorem c60_fn:Try.prog.funcs[60]?=some Try.f60:=¥
theorem c60_rs:Try.f60.results.toList=[.tmp 2]:=¥
theorem c60_ok:fnB Try.prog H60 Try.f60=true:=¥
theorem c60_nt:Try.f60.ntmps=29:=¥
def H65:Hint:=⟨[(13,[4]),(12,[0,5,52,53,54]),(11,[0,5,52,53,54]),(2000093,[0,5,52,53,54]),(10,[0,5,7,52,53,54,93]),(9,[0,5,7,52,53,54]),(2000055,[0,5,52,53,54]),(8,[0,5,52,53,54,55]),(1000008,[0,5,52,53,54]),(7,[0,5,52,53,54]),(6,[0,5]),(5,[0]),(4,[4]),(2000029,[0,1]),(3,[0,1,29]),(2,[0,1]),(1,[0,1]),(0,[0,1])],[(5,[(4,10),(8,10)])]⟩
def c65_r0:List SOp:=[¤4(.assign (.const (.slice none 0 0)))]
def c65_r1:List SOp:=[¢8 0,¢9 0,¤10(.nilCheck §9),¤11(.fieldAddr 136 §10 4),¤12(.load 3 §11),¤13(.binOp .rem 3 §12 £16 3),¢14 1,¤15(.nilCheck §8),¤16(.fieldAddr 136 §15 5),¤17(.indexAddr 134 §16 §13),⟨none,.store 5 §17 §14,none⟩]
def c65_r2:List SOp:=[¢18 0,¤19(.nilCheck §18),¤20(.fieldAddr 136 §19 4),¤21(.load 3 §20),¤22(.binOp .add 3 §21 £1 3),¤23(.nilCheck §18),¤24(.fieldAddr 136 §23 4),⟨none,.store 3 §24 §22,none⟩]
def c65_r3:List SOp:=[¢25 0,¤26(.nilCheck §25),¤27(.fieldAddr 136 §26 0),¤28(.load 57 §27),¤29(.binOp .eql 57 §28 (.const (.pointer none)) 57)]
def c65_r4:List SOp:=[¤4(.assign (.const (.slice none 0 0)))]
def c65_r5:List SOp:=[¢30 0,¢31 0,¤32(.nilCheck §31),¤33(.fieldAddr 136 §32 0),¤34(.load 57 §33),¢35 0,¤36(.nilCheck §35),¤37(.fieldAddr 136 §36 3),¤38(.load 3 §37),¢39 1,⟨some 40,.call ⟨.value (.func 103),#[.tmp 39],#[5]⟩,none⟩,⟨some 41,.call ⟨.value (.func 53),#[.tmp 34,.tmp 38,.tmp 40],#[57,3,5]⟩,none⟩,¤42(.nilCheck §30),¤43(.fieldAddr 136 §42 3),⟨none,.store 3 §43 §41,none⟩]
def c65_r6:List SOp:=[¤5(.assign (.const (.slice none 0 0)))]
def c65_r7:List SOp:=[¢44 0,¤45(.nilCheck §44),¤46(.fieldAddr 136 §45 0),¤47(.load 57 §46),¢48 0,¤49(.nilCheck §48),¤50(.fieldAddr 136 §49 3),¤51(.load 3 §50),⟨some 52,.call ⟨.value (.func 54),#[.tmp 47,.tmp 51],#[57,3]⟩,none⟩,⟨some 53,.call ⟨.builtin .len,#[.tmp 52],#[30]⟩,none⟩,¤54(.move £0)]
def c65_r8:List SOp:=[¤55(.binOp .lss 3 §54 §53 3)]
def c65_r9:List SOp:=[¤56(.indexAddr 30 §52 §54),¤57(.load 3 §56),¤7(.assign §57)]
def c65_r10:List SOp:=[¢58 7,¢59 0,¤60(.nilCheck §59),¤61(.fieldAddr 136 §60 1),¤62(.load 38 §61),⟨some 63,.call ⟨.builtin .len,#[.tmp 62],#[38]⟩,none⟩,¤64(.binOp .lss 3 §58 §63 3),¢65 64,⟨some 66,.move §7,some (some 65,true)⟩,⟨some 67,.move §0,some (some 65,true)⟩,⟨some 68,.nilCheck §67,some (some 65,true)⟩,⟨some 69,.fieldAddr 136 §68 2,some (some 65,true)⟩,⟨some 70,.load 68 §69,some (some 65,true)⟩,⟨some 71,.call ⟨.builtin .len,#[.tmp 70],#[68]⟩,some (some 65,true)⟩,⟨some 72,.binOp .lss 3 §66 §71 3,some (some 65,true)⟩,⟨some 73,.move §72,some (some 65,true)⟩,⟨some 74,.move §0,some (some 73,true)⟩,⟨some 75,.nilCheck §74,some (some 73,true)⟩,⟨some 76,.fieldAddr 136 §75 2,some (some 73,true)⟩,⟨some 77,.load 68 §76,some (some 73,true)⟩,⟨some 78,.move §7,some (some 73,true)⟩,⟨some 79,.indexAddr 68 §77 §78,some (some 73,true)⟩,⟨some 80,.load 4 §79,some (some 73,true)⟩,⟨some 81,.pick §73 §80 (.const (.bool false)),some (some 65,true)⟩,⟨some 82,.move §81,some (some 65,true)⟩,⟨some 83,.move §0,some (some 82,false)⟩,⟨some 84,.move §0,some (some 82,false)⟩,⟨some 85,.nilCheck §84,some (some 82,false)⟩,⟨some 86,.fieldAddr 136 §85 1,some (some 82,false)⟩,⟨some 87,.load 38 §86,some (some 82,false)⟩,⟨some 88,.move §7,some (some 82,false)⟩,⟨some 89,.indexAddr 38 §87 §88,some (some 82,false)⟩,⟨some 90,.load 9 §89,some (some 82,false)⟩,⟨some 91,.call ⟨.value (.func 104),#[.tmp 83,.tmp 90],#[69,9]⟩,some (some 82,false)⟩,⟨some 92,.pick §82 (.const (.bool true)) §91,some (some 65,true)⟩,¤93(.pick §65 §92 (.const (.bool false)))]
def c65_r11:List SOp:=[¢94 5,¢95 7,¤96(.buildSlice 30 1 #[(0,§95)]),⟨some 97,.call ⟨.builtin .append,#[.tmp 94,.tmp 96],#[30,30]⟩,none⟩,¤5(.assign §97)]
def c65_r12:List SOp:=[¤98(.binOp .add 3 §54 £1 3),¢54 98]
def c65_l8:SC:=(.seq (.reg c65_r8 none (some [0,5,52,53,54,55])) (.seq (.cond §55 .skip (.exit 0) (some [0,5,52,53,54])) (.seq (.block 1 (.seq (.reg c65_r9 none (some [0,5,7,52,53,54])) (.seq (.reg c65_r10 none (some [0,5,7,52,53,54,93])) (.cond §93 (.reg c65_r11 none (some [0,5,52,53,54])) .skip (some [0,5,52,53,54]))))) (.reg c65_r12 none (some [0,5,52,53,54])))))
def c65_r13:List SOp:=[¢99 5,¤4(.assign §99)]
def c65:SC:=(.seq (.reg c65_r0 none (some [0,1])) (.seq (.reg c65_r1 none (some [0,1])) (.seq (.reg c65_r2 none (some [0,1])) (.seq (.seq (.reg c65_r3 none (some [0,1,29])) (.cond §29 (.seq (.reg c65_r4 none (some [4])) .ret) .skip (some [0,1]))) (.seq (.reg c65_r5 (some [(4,10),(8,10)]) (some [0])) (.seq (.reg c65_r6 none (some [0,5])) (.seq (.seq (.reg c65_r7 none (some [0,5,52,53,54])) (.block 0 (.loop c65_l8 (some [0,5,52,53,54])))) (.seq (.reg c65_r13 none (some [4])) .ret))))))))
theorem c65_eq:∃code,Try.f65.body=some code/\compile H65 code=c65 :=⟨_,rfl,¥⟩
theorem c65_fn:Try.prog.funcs[65]?=some Try.f65:=¥
theorem c65_rs:Try.f65.results.toList=[.tmp 4]:=¥
theorem c65_ok:fnB Try.prog H65 Try.f65=true:=¥
theorem c65_nt:Try.f65.ntmps=100:=¥
def H72:Hint:=⟨[(12,[4]),(11,[5,14,15,16]),(10,[5,14,15,16]),(9,[5,6,7,14,15,16]),(2000050,[5,6,7,14,15,16]),(8,[5,6,7,8,14,15,16,50]),(7,[5,6,7,8,14,15,16]),(6,[5,14,15,16]),(2000022,[5,6,7,14,15,16]),(5,[5,6,7,14,15,16,22]),(4,[5,6,7,14,15,16]),(2000017,[5,14,15,16]),(3,[5,14,15,16,17]),(1000003,[5,14,15,16]),(2,[5,14,15,16]),(1,[0,5]),(0,[0,1])],[(9,[(17,23),(19,23)])]⟩
def c72_r0:List SOp:=[¤4(.assign (.const (.pointer none)))]
def c72_r1:List SOp:=[¢9 1,⟨some 10,.call ⟨.builtin .min,#[§9,£32],#[3,3]⟩,none⟩,⟨some 11,.call ⟨.builtin .max,#[£1,§10],#[3,3]⟩,none⟩,¤12(.build 144 #[(0,§11)]),¤13(.box 144 §12),¤5(.assign §13)]
def c72_r2:List SOp:=[¢14 0,⟨some 15,.call ⟨.builtin .len,#[.tmp 14],#[42]⟩,none⟩,¤16(.move £0)]
def c72_r3:List SOp:=[¤17(.binOp .lss 3 §16 §15 3)]
def c72_r4:List SOp:=[¢18 16,¤19(.indexAddr 42 §14 §16),¤20(.load 52 §19),¤7(.alloc 52),¤6(.assign §18),⟨none,.store 52 §7 §20,none⟩]
def c72_r5:List SOp:=[¤21(.fieldAddr 52 §7 2),¤22(.load 4 §21)]
def c72_r6:List SOp:=[¢23 5,¢24 5,¤25(.nilCheck §24),¤26(.fieldAddr 144 §25 3),¤27(.load 142 §26),¤28(.load 52 §7),¢29 6,¤30(.build 147 #[(0,§28),(1,§29)]),¤31(.buildSlice 142 1 #[(0,§30)]),⟨some 32,.call ⟨.builtin .append,#[.tmp 27,.tmp 31],#[142,142]⟩,none⟩,¤33(.nilCheck §23),¤34(.fieldAddr 144 §33 3),⟨none,.store 142 §34 §32,none⟩]
def c72_r7:List SOp:=[¢35 5,¤36(.nilCheck §35),¤37(.fieldAddr 144 §36 2),¤38(.load 141 §37),⟨some 39,.call ⟨.builtin .len,#[.tmp 38],#[141]⟩,none⟩,¤8(.assign §39)]
def c72_r8:List SOp:=[¢40 8,¤41(.binOp .gtr 3 §40 £0 3),¢42 41,⟨some 43,.fieldAddr 52 §7 5,some (some 42,true)⟩,⟨some 44,.load 4 §43,some (some 42,true)⟩,¤45(.pick §42 §44 (.const (.bool false))),¢46 45,⟨some 47,.fieldAddr 52 §7 7,some (some 46,true)⟩,⟨some 48,.load 3 §47,some (some 46,true)⟩,⟨some 49,.binOp .gtr 3 §48 £0 3,some (some 46,true)⟩,¤50(.pick §46 §49 (.const (.bool false)))]
def c72_r9:List SOp:=[¢51 5,¤52(.nilCheck §51),¤53(.fieldAddr 144 §52 2),¤54(.load 141 §53),¢55 8,¤56(.binOp .sub 3 §55 £1 3),¤57(.indexAddr 141 §54 §56),¤58(.load 148 §57),¢59 5,¤60(.nilCheck §59),¤61(.fieldAddr 144 §60 2),¤62(.load 141 §61),¢63 8,¤64(.binOp .sub 3 §63 £1 3),¤65(.indexAddr 141 §62 §64),¤66(.load 148 §65),¤67(.fieldAddr 52 §7 6),¤68(.load 3 §67),¤69(.fieldAddr 52 §7 7),¤70(.load 3 §69),¤71(.binOp .add 3 §68 §70 3),¤72(.nilCheck §58),¤73(.fieldAddr 147 §72 4),⟨none,.store 4 §73 (.const (.bool false)),none⟩,¤74(.nilCheck §66),¤75(.fieldAddr 147 §74 3),⟨none,.store 3 §75 §71,none⟩]
def c72_r10:List SOp:=[¢76 5,¢77 5,¤78(.nilCheck §77),¤79(.fieldAddr 144 §78 2),¤80(.load 141 §79),¤81(.load 52 §7),¢82 6,¢83 5,¤84(.nilCheck §83),¤85(.fieldAddr 144 §84 2),¤86(.load 141 §85),⟨some 87,.call ⟨.builtin .len,#[.tmp 86],#[141]⟩,none⟩,¤88(.binOp .eql 3 §87 £0 3),¤89(.build 147 #[(0,§81),(1,§82),(2,§88),(4,(.const (.bool true)))]),¤90(.box 147 §89),¤91(.buildSlice 141 1 #[(0,§90)]),⟨some 92,.call ⟨.builtin .append,#[.tmp 80,.tmp 91],#[141,141]⟩,none⟩,¤93(.nilCheck §76),¤94(.fieldAddr 144 §93 2),⟨none,.store 141 §94 §92,none⟩]
def c72_r11:List SOp:=[¤95(.binOp .add 3 §16 £1 3),¢16 95]
def c72_l3:SC:=(.seq (.reg c72_r3 none (some [5,14,15,16,17])) (.seq (.cond §17 .skip (.exit 0) (some [5,14,15,16])) (.seq (.block 1 (.seq (.reg c72_r4 none (some [5,6,7,14,15,16])) (.seq (.seq (.reg c72_r5 none (some [5,6,7,14,15,16,22])) (.cond §22 (.seq (.reg c72_r6 none (some [5,14,15,16])) (.exit 1)) .skip (some [5,6,7,14,15,16]))) (.seq (.seq (.reg c72_r7 none (some [5,6,7,8,14,15,16])) (.seq (.reg c72_r8 none (some [5,6,7,8,14,15,16,50])) (.cond §50 (.reg c72_r9 (some [(17,23),(19,23)]) (some [5,6,7,14,15,16])) .skip (some [5,6,7,14,15,16])))) (.reg c72_r10 none (some [5,14,15,16])))))) (.reg c72_r11 none (some [5,14,15,16])))))
def c72_r12:List SOp:=[¢96 5,¤4(.assign §96)]
def c72:SC:=(.seq (.reg c72_r0 none (some [0,1])) (.seq (.reg c72_r1 none (some [0,5])) (.seq (.seq (.reg c72_r2 none (some [5,14,15,16])) (.block 0 (.loop c72_l3 (some [5,14,15,16])))) (.seq (.reg c72_r12 none (some [4])) .ret))))
theorem c72_eq:∃code,Try.f72.body=some code/\compile H72 code=c72 :=⟨_,rfl,¥⟩
theorem c72_fn:Try.prog.funcs[72]?=some Try.f72:=¥
theorem c72_rs:Try.f72.results.toList=[.tmp 4]:=¥
theorem c72_ok:fnB Try.prog H72 Try.f72=true:=¥
theorem c72_nt:Try.f72.ntmps=97:=¥
def H73:Hint:=⟨[(24,[4]),(23,[2,5,127,128]),(22,[2,5,127,128]),(21,[2,5,11,127,128]),(2000129,[2,5,127,128]),(20,[2,5,127,128,129]),(1000020,[2,5,127,128]),(19,[2,5,127,128]),(18,[2,5,6,87,88,89]),(17,[2,5,6,87,88,89]),(16,[2,5,6,10,87,88,89]),(15,[2,5,6,9,10,87,88,89]),(2000090,[2,5,6,87,88,89]),(14,[2,5,6,87,88,89,90]),(1000014,[2,5,6,87,88,89]),(13,[2,5,6,87,88,89]),(12,[2,5,6,33,34,35]),(11,[2,5,6,33,34,35]),(2000056,[2,5,6,33,34,35]),(10,[2,5,6,7,8,33,34,35,56]),(9,[2,5,6,7,8,33,34,35]),(8,[2,5,6,7,8,33,34,35]),(2000036,[2,5,6,33,34,35]),(7,[2,5,6,33,34,35,36]),(1000007,[2,5,6,33,34,35]),(6,[2,5,6,33,34,35]),(5,[2,5,6]),(4,[2,5]),(3,[2,3]),(2,[4]),(2000015,[2,3]),(1,[2,3,15]),(0,[2,3])],[(22,[(0,13)])]⟩
def c73_r0:List SOp:=[¤2(.box 84 §0),¤3(.box 68 §1),¤4(.assign (.const (.bool false)))]
def c73_r1:List SOp:=[¤12(.load 84 §2),¤13(.nilCheck §12),¤14(.fieldAddr 144 §13 5),¤15(.load 4 §14)]
def c73_r2:List SOp:=[¤4(.assign (.const (.bool true)))]
def c73_r3:List SOp:=[¤16(.load 84 §2),¤17(.nilCheck §16),¤18(.fieldAddr 144 §17 1),¤19(.load 3 §18),¤20(.binOp .add 3 §19 £1 3),¤21(.nilCheck §16),¤22(.fieldAddr 144 §21 1),⟨none,.store 3 §22 §20,none⟩]
def c73_r4:List SOp:=[¤23(.makeFunc (.func 108) #[] #[.tmp 3,.tmp 2]),¤5(.assign §23)]
def c73_r5:List SOp:=[¤24(.load 84 §2),¤25(.nilCheck §24),¤26(.fieldAddr 144 §25 2),¤27(.load 141 §26),⟨some 28,.call ⟨.builtin .len,#[.tmp 27],#[141]⟩,none⟩,¤29(.makeSlice 68 §28 §28),¤6(.assign §29)]
def c73_r6:List SOp:=[¤30(.load 84 §2),¤31(.nilCheck §30),¤32(.fieldAddr 144 §31 2),¤33(.load 141 §32),⟨some 34,.call ⟨.builtin .len,#[.tmp 33],#[141]⟩,none⟩,¤35(.move £0)]
def c73_r7:List SOp:=[¤36(.binOp .lss 3 §35 §34 3)]
def c73_r8:List SOp:=[¢37 35,¤38(.indexAddr 141 §33 §35),¤39(.load 148 §38),¤7(.assign §37),¤8(.assign §39)]
def c73_r9:List SOp:=[¢40 6,¢41 7,¢42 5,¢43 8,⟨some 44,.call ⟨.value §42,#[.tmp 43],#[148]⟩,none⟩,¤45(.indexAddr 68 §40 §41),⟨none,.store 4 §45 §44,none⟩]
def c73_r10:List SOp:=[¢46 6,¢47 7,¤48(.indexAddr 68 §46 §47),¤49(.load 4 §48),¢50 49,⟨some 51,.move §8,some (some 50,true)⟩,⟨some 52,.nilCheck §51,some (some 50,true)⟩,⟨some 53,.fieldAddr 147 §52 0,some (some 50,true)⟩,⟨some 54,.fieldAddr 52 §53 5,some (some 50,true)⟩,⟨some 55,.load 4 §54,some (some 50,true)⟩,¤56(.pick §50 §55 (.const (.bool false)))]
def c73_r11:List SOp:=[¢57 6,¢58 7,¢59 7,¤60(.binOp .gtr 3 §59 £0 3),¢61 60,⟨some 62,.move §8,some (some 61,true)⟩,⟨some 63,.load 84 §2,some (some 61,true)⟩,⟨some 64,.nilCheck §63,some (some 61,true)⟩,⟨some 65,.fieldAddr 144 §64 2,some (some 61,true)⟩,⟨some 66,.load 141 §65,some (some 61,true)⟩,⟨some 67,.move §7,some (some 61,true)⟩,⟨some 68,.binOp .sub 3 §67 £1 3,some (some 61,true)⟩,⟨some 69,.indexAddr 141 §66 §68,some (some 61,true)⟩,⟨some 70,.load 148 §69,some (some 61,true)⟩,⟨some 71,.move §6,some (some 61,true)⟩,⟨some 72,.move §7,some (some 61,true)⟩,⟨some 73,.binOp .sub 3 §72 £1 3,some (some 61,true)⟩,⟨some 74,.indexAddr 68 §71 §73,some (some 61,true)⟩,⟨some 75,.load 4 §74,some (some 61,true)⟩,⟨some 76,.load 84 §2,some (some 61,true)⟩,⟨some 77,.nilCheck §76,some (some 61,true)⟩,⟨some 78,.fieldAddr 144 §77 1,some (some 61,true)⟩,⟨some 79,.load 3 §78,some (some 61,true)⟩,⟨some 80,.call ⟨.value (.func 110),#[.tmp 62,.tmp 70,.tmp 75,.tmp 79],#[148,148,4,3]⟩,some (some 61,true)⟩,¤81(.pick §61 §80 (.const (.bool false))),¤82(.indexAddr 68 §57 §58),⟨none,.store 4 §82 §81,none⟩]
def c73_r12:List SOp:=[¤83(.binOp .add 3 §35 £1 3),¢35 83]
def c73_l7:SC:=(.seq (.reg c73_r7 none (some [2,5,6,33,34,35,36])) (.seq (.cond §36 .skip (.exit 0) (some [2,5,6,33,34,35])) (.seq (.block 1 (.seq (.reg c73_r8 none (some [2,5,6,7,8,33,34,35])) (.seq (.reg c73_r9 none (some [2,5,6,7,8,33,34,35])) (.seq (.reg c73_r10 none (some [2,5,6,7,8,33,34,35,56])) (.cond §56 (.reg c73_r11 none (some [2,5,6,33,34,35])) .skip (some [2,5,6,33,34,35])))))) (.reg c73_r12 none (some [2,5,6,33,34,35])))))
def c73_r13:List SOp:=[¤84(.load 84 §2),¤85(.nilCheck §84),¤86(.fieldAddr 144 §85 2),¤87(.load 141 §86),⟨some 88,.call ⟨.builtin .len,#[.tmp 87],#[141]⟩,none⟩,¤89(.move £0)]
def c73_r14:List SOp:=[¤90(.binOp .lss 3 §89 §88 3)]
def c73_r15:List SOp:=[¢91 89,¤92(.indexAddr 141 §87 §89),¤93(.load 148 §92),¤9(.assign §91),¤10(.assign §93)]
def c73_r16:List SOp:=[¢94 10,¤95(.load 84 §2),¤96(.nilCheck §95),¤97(.fieldAddr 144 §96 1),¤98(.load 3 §97),¢99 6,¢100 9,¤101(.indexAddr 68 §99 §100),¤102(.load 4 §101),⟨some 103,.call ⟨.value (.func 111),#[.tmp 94,.tmp 98,.tmp 102],#[148,3,4]⟩,none⟩]
def c73_r17:List SOp:=[¤104(.load 84 §2),¤105(.load 84 §2),¤106(.nilCheck §105),¤107(.fieldAddr 144 §106 5),¤108(.load 4 §107),¢109 108,⟨some 110,.move §10,some (some 109,false)⟩,⟨some 111,.nilCheck §110,some (some 109,false)⟩,⟨some 112,.fieldAddr 147 §111 6,some (some 109,false)⟩,⟨some 113,.load 3 §112,some (some 109,false)⟩,⟨some 114,.load 84 §2,some (some 109,false)⟩,⟨some 115,.nilCheck §114,some (some 109,false)⟩,⟨some 116,.fieldAddr 144 §115 0,some (some 109,false)⟩,⟨some 117,.load 3 §116,some (some 109,false)⟩,⟨some 118,.binOp .gtr 3 §113 §117 3,some (some 109,false)⟩,¤119(.pick §109 (.const (.bool true)) §118),¤120(.nilCheck §104),¤121(.fieldAddr 144 §120 5),⟨none,.store 4 §121 §119,none⟩]
def c73_r18:List SOp:=[¤122(.binOp .add 3 §89 £1 3),¢89 122]
def c73_l14:SC:=(.seq (.reg c73_r14 none (some [2,5,6,87,88,89,90])) (.seq (.cond §90 .skip (.exit 2) (some [2,5,6,87,88,89])) (.seq (.block 3 (.seq (.reg c73_r15 none (some [2,5,6,9,10,87,88,89])) (.seq (.reg c73_r16 none (some [2,5,6,10,87,88,89])) (.reg c73_r17 none (some [2,5,6,87,88,89]))))) (.reg c73_r18 none (some [2,5,6,87,88,89])))))
def c73_r19:List SOp:=[¤123(.load 84 §2),¤124(.nilCheck §123),¤125(.fieldAddr 144 §124 3),¤126(.load 142 §125),⟨some 127,.call ⟨.builtin .len,#[.tmp 126],#[142]⟩,none⟩,¤128(.move £0)]
def c73_r20:List SOp:=[¤129(.binOp .lss 3 §128 §127 3)]
def c73_r21:List SOp:=[¢130 128,¤11(.assign §130)]
def c73_r22:List SOp:=[¤131(.load 84 §2),¤132(.load 84 §2),¤133(.nilCheck §132),¤134(.fieldAddr 144 §133 4),¤135(.load 4 §134),¢136 135,⟨some 137,.move §5,some (some 136,false)⟩,⟨some 138,.load 84 §2,some (some 136,false)⟩,⟨some 139,.nilCheck §138,some (some 136,false)⟩,⟨some 140,.fieldAddr 144 §139 3,some (some 136,false)⟩,⟨some 141,.load 142 §140,some (some 136,false)⟩,⟨some 142,.move §11,some (some 136,false)⟩,⟨some 143,.indexAddr 142 §141 §142,some (some 136,false)⟩,⟨some 144,.call ⟨.value §137,#[.tmp 143],#[148]⟩,some (some 136,false)⟩,¤145(.pick §136 (.const (.bool true)) §144),¤146(.nilCheck §131),¤147(.fieldAddr 144 §146 4),⟨none,.store 4 §147 §145,none⟩]
def c73_r23:List SOp:=[¤148(.binOp .add 3 §128 £1 3),¢128 148]
def c73_l20:SC:=(.seq (.reg c73_r20 none (some [2,5,127,128,129])) (.seq (.cond §129 .skip (.exit 4) (some [2,5,127,128])) (.seq (.block 5 (.seq (.reg c73_r21 none (some [2,5,11,127,128])) (.reg c73_r22 (some [(0,13)]) (some [2,5,127,128])))) (.reg c73_r23 none (some [2,5,127,128])))))
def c73_r24:List SOp:=[¤149(.load 84 §2),¤150(.nilCheck §149),¤151(.fieldAddr 144 §150 5),¤152(.load 4 §151),¤4(.assign §152)]
def c73:SC:=(.seq (.reg c73_r0 none (some [2,3])) (.seq (.seq (.reg c73_r1 none (some [2,3,15])) (.cond §15 (.seq (.reg c73_r2 none (some [4])) .ret) .skip (some [2,3]))) (.seq (.reg c73_r3 none (some [2,3])) (.seq (.reg c73_r4 none (some [2,5])) (.seq (.reg c73_r5 none (some [2,5,6])) (.seq (.seq (.reg c73_r6 none (some [2,5,6,33,34,35])) (.block 0 (.loop c73_l7 (some [2,5,6,33,34,35])))) (.seq (.seq (.reg c73_r13 none (some [2,5,6,87,88,89])) (.block 2 (.loop c73_l14 (some [2,5,6,87,88,89])))) (.seq (.seq (.reg c73_r19 none (some [2,5,127,128])) (.block 4 (.loop c73_l20 (some [2,5,127,128])))) (.seq (.reg c73_r24 none (some [4])) .ret)))))))))
theorem c73_eq:∃code,Try.f73.body=some code/\compile H73 code=c73 :=⟨_,rfl,¥⟩
theorem c73_fn:Try.prog.funcs[73]?=some Try.f73:=¥
theorem c73_rs:Try.f73.results.toList=[.tmp 4]:=¥
theorem c73_ok:fnB Try.prog H73 Try.f73=true:=¥
theorem c73_nt:Try.f73.ntmps=153:=¥
def H74:Hint:=⟨[(7,[2]),(6,[3,15,16,17]),(5,[3,15,16,17]),(4,[3,4,5,15,16,17]),(2000018,[3,15,16,17]),(3,[3,15,16,17,18]),(1000003,[3,15,16,17]),(2,[3,15,16,17]),(1,[0,3]),(0,[0])],[]⟩
def c74_r0:List SOp:=[¤2(.assign (.const (.slice none 0 0)))]
def c74_r1:List SOp:=[¢6 0,¤7(.nilCheck §6),¤8(.fieldAddr 144 §7 2),¤9(.load 141 §8),⟨some 10,.call ⟨.builtin .len,#[.tmp 9],#[141]⟩,none⟩,¤11(.makeSlice 30 §10 §10),¤3(.assign §11)]
def c74_r2:List SOp:=[¢12 0,¤13(.nilCheck §12),¤14(.fieldAddr 144 §13 2),¤15(.load 141 §14),⟨some 16,.call ⟨.builtin .len,#[.tmp 15],#[141]⟩,none⟩,¤17(.move £0)]
def c74_r3:List SOp:=[¤18(.binOp .lss 3 §17 §16 3)]
def c74_r4:List SOp:=[¢19 17,¤20(.indexAddr 141 §15 §17),¤21(.load 148 §20),¤4(.assign §19),¤5(.assign §21)]
def c74_r5:List SOp:=[¢22 3,¢23 4,¢24 5,¤25(.nilCheck §24),¤26(.fieldAddr 147 §25 6),¤27(.load 3 §26),¤28(.indexAddr 30 §22 §23),⟨none,.store 3 §28 §27,none⟩]
def c74_r6:List SOp:=[¤29(.binOp .add 3 §17 £1 3),¢17 29]
def c74_l3:SC:=(.seq (.reg c74_r3 none (some [3,15,16,17,18])) (.seq (.cond §18 .skip (.exit 0) (some [3,15,16,17])) (.seq (.block 1 (.seq (.reg c74_r4 none (some [3,4,5,15,16,17])) (.reg c74_r5 none (some [3,15,16,17])))) (.reg c74_r6 none (some [3,15,16,17])))))
def c74_r7:List SOp:=[¢30 3,¤2(.assign §30)]
def c74:SC:=(.seq (.reg c74_r0 none (some [0])) (.seq (.reg c74_r1 none (some [0,3])) (.seq (.seq (.reg c74_r2 none (some [3,15,16,17])) (.block 0 (.loop c74_l3 (some [3,15,16,17])))) (.seq (.reg c74_r7 none (some [2])) .ret))))
theorem c74_eq:∃code,Try.f74.body=some code/\compile H74 code=c74 :=⟨_,rfl,¥⟩
theorem c74_fn:Try.prog.funcs[74]?=some Try.f74:=¥
theorem c74_rs:Try.f74.results.toList=[.tmp 2]:=¥
theorem c74_ok:fnB Try.prog H74 Try.f74=true:=¥
theorem c74_nt:Try.f74.ntmps=31:=¥
def H75:Hint:=⟨[(1,[2]),(0,[0])],[]⟩
def c75_r0:List SOp:=[¤2(.assign (.const (.bool false)))]
def c75_r1:List SOp:=[¢3 0,¤4(.nilCheck §3),¤5(.fieldAddr 144 §4 5),¤6(.load 4 §5),¤2(.assign §6)]
def c75:SC:=(.seq (.reg c75_r0 none (some [0])) (.seq (.reg c75_r1 none (some [2])) .ret))
theorem c75_eq:∃code,Try.f75.body=some code/\compile H75 code=c75 :=⟨_,rfl,¥⟩
theorem c75_fn:Try.prog.funcs[75]?=some Try.f75:=¥
theorem c75_rs:Try.f75.results.toList=[.tmp 2]:=¥
theorem c75_ok:fnB Try.prog H75 Try.f75=true:=¥
theorem c75_nt:Try.f75.ntmps=7:=¥
def H76:Hint:=⟨[(7,[2]),(6,[0,8,9,10]),(5,[2]),(2000018,[0,8,9,10]),(4,[0,8,9,10,18]),(3,[0,4,8,9,10]),(2000011,[0,8,9,10]),(2,[0,8,9,10,11]),(1000002,[0,8,9,10]),(1,[0,8,9,10]),(0,[0])],[]⟩
def c76_r0:List SOp:=[¤2(.assign (.const (.bool false)))]
def c76_r1:List SOp:=[¢5 0,¤6(.nilCheck §5),¤7(.fieldAddr 144 §6 2),¤8(.load 141 §7),⟨some 9,.call ⟨.builtin .len,#[.tmp 8],#[141]⟩,none⟩,¤10(.move £0)]
def c76_r2:List SOp:=[¤11(.binOp .lss 3 §10 §9 3)]
def c76_r3:List SOp:=[¤12(.indexAddr 141 §8 §10),¤13(.load 148 §12),¤4(.assign §13)]
def c76_r4:List SOp:=[¢14 4,¤15(.nilCheck §14),¤16(.fieldAddr 147 §15 7),¤17(.load 4 §16),¤18(.unOp .not 4 §17)]
def c76_r5:List SOp:=[¤2(.assign (.const (.bool false)))]
def c76_r6:List SOp:=[¤19(.binOp .add 3 §10 £1 3),¢10 19]
def c76_l2:SC:=(.seq (.reg c76_r2 none (some [0,8,9,10,11])) (.seq (.cond §11 .skip (.exit 0) (some [0,8,9,10])) (.seq (.block 1 (.seq (.reg c76_r3 none (some [0,4,8,9,10])) (.seq (.reg c76_r4 none (some [0,8,9,10,18])) (.cond §18 (.seq (.reg c76_r5 none (some [2])) .ret) .skip (some [0,8,9,10]))))) (.reg c76_r6 none (some [0,8,9,10])))))
def c76_r7:List SOp:=[¢20 0,¤21(.nilCheck §20),¤22(.fieldAddr 144 §21 4),¤23(.load 4 §22),¤24(.unOp .not 4 §23),¤2(.assign §24)]
def c76:SC:=(.seq (.reg c76_r0 none (some [0])) (.seq (.seq (.reg c76_r1 none (some [0,8,9,10])) (.block 0 (.loop c76_l2 (some [0,8,9,10])))) (.seq (.reg c76_r7 none (some [2])) .ret)))
theorem c76_eq:∃code,Try.f76.body=some code/\compile H76 code=c76 :=⟨_,rfl,¥⟩
theorem c76_fn:Try.prog.funcs[76]?=some Try.f76:=¥
theorem c76_rs:Try.f76.results.toList=[.tmp 2]:=¥
theorem c76_ok:fnB Try.prog H76 Try.f76=true:=¥
theorem c76_nt:Try.f76.ntmps=25:=¥
def H78:Hint:=⟨[(1,[4]),(0,[0,1])],[]⟩
def c78_r0:List SOp:=[¤4(.assign (.const (.bool false)))]
def c78_r1:List SOp:=[¢5 0,¢6 1,¤7(.binOp .gtr 3 §5 §6 3),¤4(.assign §7)]
def c78:SC:=(.seq (.reg c78_r0 none (some [0,1])) (.seq (.reg c78_r1 none (some [4])) .ret))
theorem c78_eq:∃code,Try.f78.body=some code/\compile H78 code=c78 :=⟨_,rfl,¥⟩
theorem c78_fn:Try.prog.funcs[78]?=some Try.f78:=¥
theorem c78_rs:Try.f78.results.toList=[.tmp 4]:=¥
theorem c78_ok:fnB Try.prog H78 Try.f78=true:=¥
theorem c78_nt:Try.f78.ntmps=8:=¥
def H79:Hint:=⟨[(6,[0]),(5,[2,3,4,5]),(4,[1,2,3]),(3,[0]),(2000011,[1]),(2,[1,11]),(1,[1]),(0,[])],[]⟩
def c79_r0:List SOp:=[¤0(.assign (.const (.bool false)))]
def c79_r1:List SOp:=[¤6(.build 107 #[(0,£2),(9,£7),(10,£1)]),¤7(.buildSlice 89 1 #[(0,§6)]),¤8(.buildSlice 30 1 #[(0,£0)]),⟨some 9,.call ⟨.value (.func 81),#[§7,§8,£4],#[89,30,3]⟩,none⟩,¤1(.assign §9)]
def c79_r2:List SOp:=[¢10 1,¤11(.binOp .eql 91 §10 (.const (.pointer none)) 91)]
def c79_r3:List SOp:=[¤0(.assign (.const (.bool false)))]
def c79_r4:List SOp:=[¢13 1,⟨some 14,.call ⟨.value (.func 82),#[.tmp 13],#[91]⟩,none⟩,¢12 14,¤15(.extract §12 0),¤16(.extract §12 1),¤2(.assign §15),¤3(.assign §16)]
def c79_r5:List SOp:=[¢18 1,⟨some 19,.call ⟨.value (.func 83),#[§18,(.const (.int .u8 97))],#[91,5]⟩,none⟩,¢17 19,¤20(.extract §17 0),¤21(.extract §17 1),¤4(.assign §20),¤5(.assign §21)]
def c79_r6:List SOp:=[¢22 2,⟨some 23,.call ⟨.builtin .len,#[.tmp 22],#[94]⟩,none⟩,¤24(.binOp .eql 3 §23 £1 3),¢25 24,⟨some 26,.move §2,some (some 25,true)⟩,⟨some 27,.indexAddr 94 §26 £0,some (some 25,true)⟩,⟨some 28,.fieldAddr 99 §27 0,some (some 25,true)⟩,⟨some 29,.load 3 §28,some (some 25,true)⟩,⟨some 30,.binOp .eql 3 §29 £7 3,some (some 25,true)⟩,¤31(.pick §25 §30 (.const (.bool false))),¢32 31,⟨some 33,.move §2,some (some 32,true)⟩,⟨some 34,.indexAddr 94 §33 £0,some (some 32,true)⟩,⟨some 35,.fieldAddr 99 §34 2,some (some 32,true)⟩,⟨some 36,.load 3 §35,some (some 32,true)⟩,⟨some 37,.binOp .eql 3 §36 £0 3,some (some 32,true)⟩,¤38(.pick §32 §37 (.const (.bool false))),¢39 38,⟨some 40,.move §3,some (some 39,true)⟩,⟨some 41,.binOp .eql 3 §40 £2 3,some (some 39,true)⟩,¤42(.pick §39 §41 (.const (.bool false))),¢43 42,⟨some 44,.move §4,some (some 43,true)⟩,⟨some 45,.call ⟨.builtin .len,#[.tmp 44],#[94]⟩,some (some 43,true)⟩,⟨some 46,.binOp .eql 3 §45 £0 3,some (some 43,true)⟩,¤47(.pick §43 §46 (.const (.bool false))),¢48 47,⟨some 49,.move §5,some (some 48,true)⟩,⟨some 50,.binOp .eql 3 §49 £0 3,some (some 48,true)⟩,¤51(.pick §48 §50 (.const (.bool false))),¢52 51,⟨some 53,.call ⟨.value (.func 78),#[£4,£3],#[3,3]⟩,some (some 52,true)⟩,¤54(.pick §52 §53 (.const (.bool false))),¤0(.assign §54)]
def c79:SC:=(.seq (.reg c79_r0 none (some [])) (.seq (.reg c79_r1 none (some [1])) (.seq (.seq (.reg c79_r2 none (some [1,11])) (.cond §11 (.seq (.reg c79_r3 none (some [0])) .ret) .skip (some [1]))) (.seq (.reg c79_r4 none (some [1,2,3])) (.seq (.reg c79_r5 none (some [2,3,4,5])) (.seq (.reg c79_r6 none (some [0])) .ret))))))
theorem c79_eq:∃code,Try.f79.body=some code/\compile H79 code=c79 :=⟨_,rfl,¥⟩
theorem c79_fn:Try.prog.funcs[79]?=some Try.f79:=¥
theorem c79_rs:Try.f79.results.toList=[.tmp 0]:=¥
theorem c79_ok:fnB Try.prog H79 Try.f79=true:=¥
theorem c79_nt:Try.f79.ntmps=55:=¥
def H80:Hint:=⟨[(14,[2]),(4,[0,3,4]),(13,[0,3,4]),(12,[0,3,4,6]),(11,[0,3,4,5,6]),(10,[0,3,4,5,6]),(2000063,[0,3,4,5,6]),(9,[0,3,4,5,6,63]),(8,[0,3,4,5,6]),(2000051,[0,3,4,5,6]),(7,[0,3,4,5,6,51]),(6,[0,3,4,5,6]),(5,[0,3,4,5]),(2000015,[0,3,4]),(3,[0,3,4,15]),(1000003,[0,3,4]),(2,[0,3,4]),(1,[0,3]),(0,[0])],[]⟩
def c80_r0:List SOp:=[¤2(.assign (.const (.slice none 0 0)))]
def c80_r1:List SOp:=[¤3(.assign (.const (.slice none 0 0)))]
def c80_r2:List SOp:=[¤4(.assign £0)]
def c80_r3:List SOp:=[¢7 4,¤8(.binOp .add 3 §7 £3 3),¢9 0,⟨some 10,.call ⟨.builtin .len,#[.tmp 9],#[30]⟩,none⟩,¤11(.binOp .lss 3 §8 §10 3),¢12 11,⟨some 13,.move §4,some (some 12,true)⟩,⟨some 14,.binOp .lss 3 §13 £24 3,some (some 12,true)⟩,¤15(.pick §12 §14 (.const (.bool false)))]
def c80_r5:List SOp:=[¢18 0,¢19 4,¤20(.indexAddr 30 §18 §19),¤21(.load 3 §20),⟨some 22,.call ⟨.value (.func 29),#[§21,£16777216],#[3,3]⟩,none⟩,¤5(.assign §22)]
def c80_r6:List SOp:=[¤23(.build 152 #[(0,£1),(1,£1),(2,£1),(3,£1),(4,£2),(5,£3),(6,£4),(7,£1)]),¢24 5,¤25(.binOp .rem 3 §24 £8 3),¤26(.index 152 §23 §25),¤27(.build 153 #[(0,£6),(1,£6),(2,£0),(3,£17)]),¢28 5,¤29(.binOp .quo 3 §28 £8 3),¤30(.binOp .rem 3 §29 £4 3),¤31(.index 153 §27 §30),¤32(.build 153 #[(0,£0),(1,£1),(2,£2),(3,£0)]),¢33 5,¤34(.binOp .quo 3 §33 £32 3),¤35(.binOp .rem 3 §34 £4 3),¤36(.index 153 §32 §35),¢37 5,¤38(.binOp .quo 3 §37 £128 3),¤39(.binOp .rem 3 §38 £4 3),¤40(.binOp .eql 3 §39 £0 3),¢41 4,¤42(.binOp .add 3 £100 §41 3),¢43 5,¤44(.binOp .quo 3 §43 £512 3),¤45(.binOp .rem 3 §44 £3 3),¤46(.binOp .add 3 £1 §45 3),¤47(.build 107 #[(0,§26),(1,§31),(7,§36),(6,§40),(9,§42),(10,§46)]),¤6(.alloc 107),⟨none,.store 107 §6 §47,none⟩]
def c80_r7:List SOp:=[¢48 5,¤49(.binOp .quo 3 §48 £1536 3),¤50(.binOp .rem 3 §49 £3 3),¤51(.binOp .eql 3 §50 £0 3)]
def c80_r8:List SOp:=[¢52 5,¤53(.binOp .quo 3 §52 £4608 3),¤54(.binOp .rem 3 §53 £2 3),¤55(.binOp .add 3 £80 §54 3),¤56(.build 155 #[(0,£80),(1,§55)]),¤57(.buildSlice 103 1 #[(0,§56)]),¤58(.build 105 #[(1,§57)]),¤59(.fieldAddr 107 §6 5),⟨none,.store 105 §59 §58,none⟩]
def c80_r9:List SOp:=[¢60 5,¤61(.binOp .quo 3 §60 £9216 3),¤62(.binOp .rem 3 §61 £4 3),¤63(.binOp .eql 3 §62 £0 3)]
def c80_r10:List SOp:=[¢64 5,¤65(.binOp .quo 3 §64 £36864 3),¤66(.binOp .rem 3 §65 £2 3),¤67(.binOp .eql 3 §66 £0 3),¢68 5,¤69(.binOp .quo 3 §68 £73728 3),¤70(.binOp .rem 3 §69 £3 3),¤71(.binOp .add 3 £30 §70 3),¤72(.build 158 #[(0,(.const (.int .u32 167772161))),(1,§71)]),¤73(.buildSlice 100 1 #[(0,§72)]),¤74(.build 102 #[(0,§67),(1,§73)]),¤75(.fieldAddr 107 §6 2),⟨none,.store 102 §75 §74,none⟩]
def c80_r11:List SOp:=[¤76(.fieldAddr 107 §6 2),¤77(.load 102 §76),⟨some 78,.call ⟨.value (.func 112),#[.tmp 77],#[102]⟩,none⟩,¤79(.fieldAddr 107 §6 2),⟨none,.store 102 §79 §78,none⟩]
def c80_r12:List SOp:=[¢80 0,¢81 4,¤82(.binOp .add 3 §81 £1 3),¢83 4,¤84(.binOp .add 3 §83 £1 3),¢85 5,¤86(.binOp .quo 3 §85 £221184 3),¤87(.binOp .rem 3 §86 £4 3),¤88(.binOp .add 3 §84 §87 3),¤89(.slice 30 §80 (some §82) (some §88) none),⟨some 90,.call ⟨.value (.func 49),#[.tmp 89],#[30]⟩,none⟩,¤91(.fieldAddr 107 §6 8),⟨none,.store 42 §91 §90,none⟩]
def c80_r13:List SOp:=[¢92 3,¤93(.load 107 §6),¤94(.buildSlice 89 1 #[(0,§93)]),⟨some 95,.call ⟨.builtin .append,#[.tmp 92,.tmp 94],#[89,89]⟩,none⟩,¤3(.assign §95)]
def c80_r4:List SOp:=[¢16 4,¤17(.binOp .add 3 §16 £4 3),¤4(.assign §17)]
def c80_l3:SC:=(.seq (.seq (.reg c80_r3 none (some [0,3,4,15])) (.cond §15 .skip (.exit 0) (some [0,3,4]))) (.seq (.block 1 (.seq (.reg c80_r5 none (some [0,3,4,5])) (.seq (.reg c80_r6 none (some [0,3,4,5,6])) (.seq (.seq (.reg c80_r7 none (some [0,3,4,5,6,51])) (.cond §51 (.reg c80_r8 none (some [0,3,4,5,6])) .skip (some [0,3,4,5,6]))) (.seq (.seq (.reg c80_r9 none (some [0,3,4,5,6,63])) (.cond §63 (.reg c80_r10 none (some [0,3,4,5,6])) .skip (some [0,3,4,5,6]))) (.seq (.reg c80_r11 none (some [0,3,4,5,6])) (.seq (.reg c80_r12 none (some [0,3,4,6])) (.reg c80_r13 none (some [0,3,4]))))))))) (.reg c80_r4 none (some [0,3,4]))))
def c80_r14:List SOp:=[¢96 3,¤2(.assign §96)]
def c80:SC:=(.seq (.reg c80_r0 none (some [0])) (.seq (.reg c80_r1 none (some [0,3])) (.seq (.seq (.reg c80_r2 none (some [0,3,4])) (.block 0 (.loop c80_l3 (some [0,3,4])))) (.seq (.reg c80_r14 none (some [2])) .ret))))
theorem c80_eq:∃code,Try.f80.body=some code/\compile H80 code=c80 :=⟨_,rfl,¥⟩
theorem c80_fn:Try.prog.funcs[80]?=some Try.f80:=¥
theorem c80_rs:Try.f80.results.toList=[.tmp 2]:=¥
theorem c80_ok:fnB Try.prog H80 Try.f80=true:=¥
theorem c80_nt:Try.f80.ntmps=97:=¥
def H81:Hint:=⟨[(21,[6]),(20,[7]),(19,[7,8,10,17]),(18,[0,2,7,8,9,10,21,22,23]),(17,[0,2,7,8,9,10,13,21,22,23,69,70,71]),(16,[0,2,7,8,9,10,13,21,22,23,69,70,71]),(15,[0,2,7,8,9,10,13,15,21,22,23,69,70,71]),(2000084,[0,2,7,8,9,10,13,14,15,21,22,23,69,70,71]),(14,[0,2,7,8,9,10,13,14,15,21,22,23,69,70,71,84]),(13,[0,2,7,8,9,10,13,14,15,16,21,22,23,69,70,71]),(12,[0,2,7,8,9,10,13,14,15,21,22,23,69,70,71]),(2000072,[0,2,7,8,9,10,13,21,22,23,69,70,71]),(11,[0,2,7,8,9,10,13,21,22,23,69,70,71,72]),(1000011,[0,2,7,8,9,10,13,21,22,23,69,70,71]),(10,[0,2,7,8,9,10,13,21,22,23,69,70,71]),(9,[0,2,7,8,9,10,12,13,21,22,23]),(8,[0,2,7,8,9,10,12,13,21,22,23]),(2000034,[0,2,7,8,9,10,12,21,22,23]),(7,[0,2,7,8,9,10,12,21,22,23,34]),(6,[0,2,7,8,9,10,12,21,22,23]),(2000024,[0,2,7,8,9,10,21,22,23]),(5,[0,2,7,8,9,10,21,22,23,24]),(1000005,[0,2,7,8,9,10,21,22,23]),(4,[0,2,7,8,9,10,21,22,23]),(3,[0,1,2,7,8,9,10]),(2,[0,1,2,7,8,9]),(1,[0,1,2,7]),(0,[0,1,2])],[(8,[(3,10),(15,10),(16,10)]),(16,[(7,3),(7,4),(13,3),(13,4),(13,8),(13,9),(13,10)])]⟩
def c81_r0:List SOp:=[¤6(.assign (.const (.pointer none)))]
def c81_r1:List SOp:=[¤19(.build 163 #[]),¤20(.box 163 §19),¤7(.assign §20)]
def c81_r2:List SOp:=[¤8(.assign (.const (.slice none 0 0))),¤9(.assign (.const (.slice none 0 0)))]
def c81_r3:List SOp:=[¤10(.assign (.const (.slice none 0 0)))]
def c81_r4:List SOp:=[¢21 1,⟨some 22,.call ⟨.builtin .len,#[.tmp 21],#[30]⟩,none⟩,¤23(.move £0)]
def c81_r5:List SOp:=[¤24(.binOp .lss 3 §23 §22 3)]
def c81_r6:List SOp:=[¤25(.indexAddr 30 §21 §23),¤26(.load 3 §25),¤12(.assign §26)]
def c81_r7:List SOp:=[¢27 12,¤28(.binOp .lss 3 §27 £0 3),¢29 28,⟨some 30,.move §12,some (some 29,false)⟩,⟨some 31,.move §0,some (some 29,false)⟩,⟨some 32,.call ⟨.builtin .len,#[.tmp 31],#[89]⟩,some (some 29,false)⟩,⟨some 33,.binOp .geq 3 §30 §32 3,some (some 29,false)⟩,¤34(.pick §29 (.const (.bool true)) §33)]
def c81_r8:List SOp:=[¢35 0,¢36 12,¤37(.indexAddr 89 §35 §36),¤38(.load 107 §37),¢39 0,¢40 12,¤41(.indexAddr 89 §39 §40),¤42(.fieldAddr 107 §41 8),¤43(.load 42 §42),¢44 2,⟨some 45,.call ⟨.value (.func 72),#[.tmp 43,.tmp 44],#[42,3]⟩,none⟩,¢46 0,¢47 12,¤48(.indexAddr 89 §46 §47),¤49(.fieldAddr 107 §48 8),¤50(.load 42 §49),⟨some 51,.call ⟨.builtin .len,#[.tmp 50],#[42]⟩,none⟩,¤52(.makeSlice 68 §51 §51),¤53(.build 166 #[(0,§38),(1,§45),(2,§52)]),¤54(.box 166 §53),¤13(.assign §54)]
def c81_r9:List SOp:=[¢55 7,¢56 7,¤57(.nilCheck §56),¤58(.fieldAddr 163 §57 2),¤59(.load 161 §58),¢60 13,¤61(.buildSlice 161 1 #[(0,§60)]),⟨some 62,.call ⟨.builtin .append,#[.tmp 59,.tmp 61],#[161,161]⟩,none⟩,¤63(.nilCheck §55),¤64(.fieldAddr 163 §63 2),⟨none,.store 161 §64 §62,none⟩]
def c81_r10:List SOp:=[¢65 0,¢66 12,¤67(.indexAddr 89 §65 §66),¤68(.fieldAddr 107 §67 8),¤69(.load 42 §68),⟨some 70,.call ⟨.builtin .len,#[.tmp 69],#[42]⟩,none⟩,¤71(.move £0)]
def c81_r11:List SOp:=[¤72(.binOp .lss 3 §71 §70 3)]
def c81_r12:List SOp:=[¢73 71,¤74(.indexAddr 42 §69 §71),¤75(.load 52 §74),¤15(.alloc 52),¤14(.assign §73),⟨none,.store 52 §15 §75,none⟩]
def c81_r13:List SOp:=[¤76(.fieldAddr 52 §15 0),¤77(.load 9 §76),⟨some 78,.call ⟨.builtin .len,#[.tmp 77],#[9]⟩,none⟩,¤16(.assign §78)]
def c81_r14:List SOp:=[¢79 16,¤80(.binOp .eql 3 §79 £0 3),¢81 80,⟨some 82,.move §16,some (some 81,false)⟩,⟨some 83,.binOp .gtr 3 §82 £16 3,some (some 81,false)⟩,¤84(.pick §81 (.const (.bool true)) §83)]
def c81_r15:List SOp:=[¢85 7,¢86 7,¤87(.nilCheck §86),¤88(.fieldAddr 163 §87 1),¤89(.load 160 §88),¢90 13,¢91 14,¤92(.build 168 #[(0,§90),(1,§91)]),¤93(.buildSlice 160 1 #[(0,§92)]),⟨some 94,.call ⟨.builtin .append,#[.tmp 89,.tmp 93],#[160,160]⟩,none⟩,¤95(.nilCheck §85),¤96(.fieldAddr 163 §95 1),⟨none,.store 160 §96 §94,none⟩]
def c81_r16:List SOp:=[¢97 8,¤98(.fieldAddr 52 §15 0),¤99(.load 9 §98),¤100(.buildSlice 38 1 #[(0,§99)]),⟨some 101,.call ⟨.builtin .append,#[.tmp 97,.tmp 100],#[38,38]⟩,none⟩,¢102 9,¤103(.fieldAddr 52 §15 0),¤104(.load 9 §103),⟨some 105,.call ⟨.value (.func 59),#[.tmp 104],#[9]⟩,none⟩,¤106(.buildSlice 38 1 #[(0,§105)]),⟨some 107,.call ⟨.builtin .append,#[.tmp 102,.tmp 106],#[38,38]⟩,none⟩,¢108 10,¤109(.fieldAddr 52 §15 1),¤110(.load 4 §109),¤111(.buildSlice 68 1 #[(0,§110)]),⟨some 112,.call ⟨.builtin .append,#[.tmp 108,.tmp 111],#[68,68]⟩,none⟩,¤8(.assign §101),¤9(.assign §107),¤10(.assign §112)]
def c81_r17:List SOp:=[¤113(.binOp .add 3 §71 £1 3),¢71 113]
def c81_l11:SC:=(.seq (.reg c81_r11 none (some [0,2,7,8,9,10,13,21,22,23,69,70,71,72])) (.seq (.cond §72 .skip (.exit 2) (some [0,2,7,8,9,10,13,21,22,23,69,70,71])) (.seq (.block 3 (.seq (.reg c81_r12 none (some [0,2,7,8,9,10,13,14,15,21,22,23,69,70,71])) (.seq (.seq (.reg c81_r13 none (some [0,2,7,8,9,10,13,14,15,16,21,22,23,69,70,71])) (.seq (.reg c81_r14 none (some [0,2,7,8,9,10,13,14,15,21,22,23,69,70,71,84])) (.cond §84 (.exit 3) .skip (some [0,2,7,8,9,10,13,14,15,21,22,23,69,70,71])))) (.seq (.reg c81_r15 none (some [0,2,7,8,9,10,13,15,21,22,23,69,70,71])) (.reg c81_r16 (some [(7,3),(7,4),(13,3),(13,4),(13,8),(13,9),(13,10)]) (some [0,2,7,8,9,10,13,21,22,23,69,70,71])))))) (.reg c81_r17 none (some [0,2,7,8,9,10,13,21,22,23,69,70,71])))))
def c81_r18:List SOp:=[¤114(.binOp .add 3 §23 £1 3),¢23 114]
def c81_l5:SC:=(.seq (.reg c81_r5 none (some [0,2,7,8,9,10,21,22,23,24])) (.seq (.cond §24 .skip (.exit 0) (some [0,2,7,8,9,10,21,22,23])) (.seq (.block 1 (.seq (.reg c81_r6 none (some [0,2,7,8,9,10,12,21,22,23])) (.seq (.seq (.reg c81_r7 none (some [0,2,7,8,9,10,12,21,22,23,34])) (.cond §34 (.exit 1) .skip (some [0,2,7,8,9,10,12,21,22,23]))) (.seq (.reg c81_r8 (some [(3,10),(15,10),(16,10)]) (some [0,2,7,8,9,10,12,13,21,22,23])) (.seq (.reg c81_r9 none (some [0,2,7,8,9,10,12,13,21,22,23])) (.seq (.reg c81_r10 none (some [0,2,7,8,9,10,13,21,22,23,69,70,71])) (.block 2 (.loop c81_l11 (some [0,2,7,8,9,10,13,21,22,23,69,70,71]))))))))) (.reg c81_r18 none (some [0,2,7,8,9,10,21,22,23])))))
def c81_r19:List SOp:=[¢116 9,⟨some 117,.call ⟨.value (.func 52),#[§116,£4096],#[38,3]⟩,none⟩,¢115 117,¤118(.extract §115 0),¤119(.extract §115 1),¤17(.assign §118),¤18(.assign §119)]
def c81_r20:List SOp:=[¢120 7,¢121 17,¢122 8,¢123 10,⟨some 124,.call ⟨.value (.func 102),#[.tmp 121,.tmp 122,.tmp 123],#[57,38,68]⟩,none⟩,¤125(.nilCheck §120),¤126(.fieldAddr 163 §125 0),⟨none,.store 69 §126 §124,none⟩]
def c81_r21:List SOp:=[¢127 7,¤6(.assign §127)]
def c81:SC:=(.seq (.reg c81_r0 none (some [0,1,2])) (.seq (.reg c81_r1 none (some [0,1,2,7])) (.seq (.reg c81_r2 none (some [0,1,2,7,8,9])) (.seq (.reg c81_r3 none (some [0,1,2,7,8,9,10])) (.seq (.seq (.reg c81_r4 none (some [0,2,7,8,9,10,21,22,23])) (.block 0 (.loop c81_l5 (some [0,2,7,8,9,10,21,22,23])))) (.seq (.reg c81_r19 none (some [7,8,10,17])) (.seq (.reg c81_r20 none (some [7])) (.seq (.reg c81_r21 none (some [6])) .ret))))))))
theorem c81_eq:∃code,Try.f81.body=some code/\compile H81 code=c81 :=⟨_,rfl,¥⟩
theorem c81_fn:Try.prog.funcs[81]?=some Try.f81:=¥
theorem c81_rs:Try.f81.results.toList=[.tmp 6]:=¥
theorem c81_ok:fnB Try.prog H81 Try.f81=true:=¥
theorem c81_nt:Try.f81.ntmps=128:=¥
def H82:Hint:=⟨[(2,[2,3]),(1,[4]),(0,[0])],[]⟩
def c82_r0:List SOp:=[¤2(.assign (.const (.slice none 0 0))),¤3(.assign £0)]
def c82_r1:List SOp:=[¢5 0,⟨some 6,.call ⟨.value (.func 113),#[§5,(.func 114)],#[91,170]⟩,none⟩,¤4(.assign §6)]
def c82_r2:List SOp:=[¢7 4,¢8 4,⟨some 9,.call ⟨.value (.func 115),#[.tmp 8],#[94]⟩,none⟩,¤2(.assign §7),¤3(.assign §9)]
def c82:SC:=(.seq (.reg c82_r0 none (some [0])) (.seq (.reg c82_r1 none (some [4])) (.seq (.reg c82_r2 none (some [2,3])) .ret)))
theorem c82_eq:∃code,Try.f82.body=some code/\compile H82 code=c82 :=⟨_,rfl,¥⟩
theorem c82_fn:Try.prog.funcs[82]?=some Try.f82:=¥
theorem c82_rs:Try.f82.results.toList=[.tmp 2,.tmp 3]:=¥
theorem c82_ok:fnB Try.prog H82 Try.f82=true:=¥
theorem c82_nt:Try.f82.ntmps=10:=¥
def H83:Hint:=⟨[(16,[4,5]),(15,[0,10,51,52,53]),(14,[0,10,51,52,53]),(13,[0,10,13,51,52,53]),(12,[0,10,12,51,52,53]),(2000054,[0,10,51,52,53]),(11,[0,10,51,52,53,54]),(1000011,[0,10,51,52,53]),(10,[0,10,51,52,53]),(9,[0,6,10]),(8,[0,6,27,28,29]),(7,[0,6,27,28,29]),(6,[0,6,9,27,28,29]),(5,[0,6,8,27,28,29]),(2000030,[0,6,27,28,29]),(4,[0,6,27,28,29,30]),(1000004,[0,6,27,28,29]),(3,[0,6,27,28,29]),(2,[0,6]),(1,[0,1]),(0,[0,1])],[]⟩
def c83_r0:List SOp:=[¤4(.assign (.const (.slice none 0 0))),¤5(.assign £0)]
def c83_r1:List SOp:=[¢14 0,¤15(.nilCheck §14),¤16(.fieldAddr 163 §15 3),¤17(.load 3 §16),¤18(.binOp .add 3 §17 £1 3),¤19(.nilCheck §14),¤20(.fieldAddr 163 §19 3),⟨none,.store 3 §20 §18,none⟩]
def c83_r2:List SOp:=[¢21 0,¤22(.nilCheck §21),¤23(.fieldAddr 163 §22 0),¤24(.load 69 §23),¢25 1,⟨some 26,.call ⟨.value (.func 65),#[.tmp 24,.tmp 25],#[69,5]⟩,none⟩,¤6(.assign §26)]
def c83_r3:List SOp:=[¢27 6,⟨some 28,.call ⟨.builtin .len,#[.tmp 27],#[30]⟩,none⟩,¤29(.move £0)]
def c83_r4:List SOp:=[¤30(.binOp .lss 3 §29 §28 3)]
def c83_r5:List SOp:=[¤31(.indexAddr 30 §27 §29),¤32(.load 3 §31),¤8(.assign §32)]
def c83_r6:List SOp:=[¢33 0,¤34(.nilCheck §33),¤35(.fieldAddr 163 §34 1),¤36(.load 160 §35),¢37 8,¤38(.indexAddr 160 §36 §37),¤39(.load 168 §38),¤9(.alloc 168),⟨none,.store 168 §9 §39,none⟩]
def c83_r7:List SOp:=[¤40(.fieldAddr 168 §9 0),¤41(.load 164 §40),¤42(.nilCheck §41),¤43(.fieldAddr 166 §42 2),¤44(.load 68 §43),¤45(.fieldAddr 168 §9 1),¤46(.load 3 §45),¤47(.indexAddr 68 §44 §46),⟨none,.store 4 §47 (.const (.bool true)),none⟩]
def c83_r8:List SOp:=[¤48(.binOp .add 3 §29 £1 3),¢29 48]
def c83_l4:SC:=(.seq (.reg c83_r4 none (some [0,6,27,28,29,30])) (.seq (.cond §30 .skip (.exit 0) (some [0,6,27,28,29])) (.seq (.block 1 (.seq (.reg c83_r5 none (some [0,6,8,27,28,29])) (.seq (.reg c83_r6 none (some [0,6,9,27,28,29])) (.reg c83_r7 none (some [0,6,27,28,29]))))) (.reg c83_r8 none (some [0,6,27,28,29])))))
def c83_r9:List SOp:=[¢49 0,⟨some 50,.call ⟨.value (.func 113),#[§49,(.func 116)],#[91,170]⟩,none⟩,¤10(.assign §50)]
def c83_r10:List SOp:=[¢51 6,⟨some 52,.call ⟨.builtin .len,#[.tmp 51],#[30]⟩,none⟩,¤53(.move £0)]
def c83_r11:List SOp:=[¤54(.binOp .lss 3 §53 §52 3)]
def c83_r12:List SOp:=[¤55(.indexAddr 30 §51 §53),¤56(.load 3 §55),¤12(.assign §56)]
def c83_r13:List SOp:=[¢57 0,¤58(.nilCheck §57),¤59(.fieldAddr 163 §58 1),¤60(.load 160 §59),¢61 12,¤62(.indexAddr 160 §60 §61),¤63(.load 168 §62),¤13(.alloc 168),⟨none,.store 168 §13 §63,none⟩]
def c83_r14:List SOp:=[¤64(.fieldAddr 168 §13 0),¤65(.load 164 §64),¤66(.nilCheck §65),¤67(.fieldAddr 166 §66 2),¤68(.load 68 §67),¤69(.fieldAddr 168 §13 1),¤70(.load 3 §69),¤71(.indexAddr 68 §68 §70),⟨none,.store 4 §71 (.const (.bool false)),none⟩]
def c83_r15:List SOp:=[¤72(.binOp .add 3 §53 £1 3),¢53 72]
def c83_l11:SC:=(.seq (.reg c83_r11 none (some [0,10,51,52,53,54])) (.seq (.cond §54 .skip (.exit 2) (some [0,10,51,52,53])) (.seq (.block 3 (.seq (.reg c83_r12 none (some [0,10,12,51,52,53])) (.seq (.reg c83_r13 none (some [0,10,13,51,52,53])) (.reg c83_r14 none (some [0,10,51,52,53]))))) (.reg c83_r15 none (some [0,10,51,52,53])))))
def c83_r16:List SOp:=[¢73 10,¢74 10,⟨some 75,.call ⟨.value (.func 115),#[.tmp 74],#[94]⟩,none⟩,¤4(.assign §73),¤5(.assign §75)]
def c83:SC:=(.seq (.reg c83_r0 none (some [0,1])) (.seq (.reg c83_r1 none (some [0,1])) (.seq (.reg c83_r2 none (some [0,6])) (.seq (.seq (.reg c83_r3 none (some [0,6,27,28,29])) (.block 0 (.loop c83_l4 (some [0,6,27,28,29])))) (.seq (.reg c83_r9 none (some [0,6,10])) (.seq (.seq (.reg c83_r10 none (some [0,10,51,52,53])) (.block 2 (.loop c83_l11 (some [0,10,51,52,53])))) (.seq (.reg c83_r16 none (some [4,5])) .ret)))))))
theorem c83_eq:∃code,Try.f83.body=some code/\compile H83 code=c83 :=⟨_,rfl,¥⟩
theorem c83_fn:Try.prog.funcs[83]?=some Try.f83:=¥
theorem c83_rs:Try.f83.results.toList=[.tmp 4,.tmp 5]:=¥
theorem c83_ok:fnB Try.prog H83 Try.f83=true:=¥
theorem c83_nt:Try.f83.ntmps=76:=¥
def H84:Hint:=⟨[(1,[2]),(0,[0])],[]⟩
def c84_r0:List SOp:=[¤2(.assign £0)]
def c84_r1:List SOp:=[¢3 0,¤4(.nilCheck §3),¤5(.fieldAddr 163 §4 3),¤6(.load 3 §5),¤2(.assign §6)]
def c84:SC:=(.seq (.reg c84_r0 none (some [0])) (.seq (.reg c84_r1 none (some [2])) .ret))
theorem c84_eq:∃code,Try.f84.body=some code/\compile H84 code=c84 :=⟨_,rfl,¥⟩
theorem c84_fn:Try.prog.funcs[84]?=some Try.f84:=¥
theorem c84_rs:Try.f84.results.toList=[.tmp 2]:=¥
theorem c84_ok:fnB Try.prog H84 Try.f84=true:=¥
theorem c84_nt:Try.f84.ntmps=7:=¥
def H86:Hint:=⟨[(10,[2]),(4,[0,3,4]),(9,[0,3,4]),(8,[0,3,4,5]),(7,[0,3,4,5]),(6,[0,3,4,5]),(5,[0,3,4,5]),(2000009,[0,3,4]),(3,[0,3,4,9]),(1000003,[0,3,4]),(2,[0,3,4]),(1,[0,3]),(0,[0])],[(6,[(6,3)]),(7,[(6,3)])]⟩
def c86_r0:List SOp:=[¤2(.assign (.const (.slice none 0 0)))]
def c86_r1:List SOp:=[¤3(.assign (.const (.slice none 0 0)))]
def c86_r2:List SOp:=[¤4(.assign £0)]
def c86_r3:List SOp:=[¢6 4,¢7 0,⟨some 8,.call ⟨.builtin .len,#[.tmp 7],#[89]⟩,none⟩,¤9(.binOp .lss 3 §6 §8 3)]
def c86_r5:List SOp:=[¢12 0,¢13 4,¤14(.indexAddr 89 §12 §13),¤15(.load 107 §14),¤5(.alloc 107),⟨none,.store 107 §5 §15,none⟩]
def c86_r6:List SOp:=[¤16(.fieldAddr 107 §5 2),¤17(.fieldAddr 102 §16 1),¤18(.load 100 §17),⟨some 19,.call ⟨.builtin .append,#[(.const (.slice none 0 0)),§18],#[100,100]⟩,none⟩,¤20(.fieldAddr 107 §5 4),¤21(.fieldAddr 102 §20 1),¤22(.load 100 §21),⟨some 23,.call ⟨.builtin .append,#[(.const (.slice none 0 0)),§22],#[100,100]⟩,none⟩,¤24(.fieldAddr 107 §5 2),¤25(.fieldAddr 102 §24 1),⟨none,.store 100 §25 §19,none⟩,¤26(.fieldAddr 107 §5 4),¤27(.fieldAddr 102 §26 1),⟨none,.store 100 §27 §23,none⟩]
def c86_r7:List SOp:=[¤28(.fieldAddr 107 §5 3),¤29(.fieldAddr 105 §28 1),¤30(.load 103 §29),⟨some 31,.call ⟨.builtin .append,#[(.const (.slice none 0 0)),§30],#[103,103]⟩,none⟩,¤32(.fieldAddr 107 §5 5),¤33(.fieldAddr 105 §32 1),¤34(.load 103 §33),⟨some 35,.call ⟨.builtin .append,#[(.const (.slice none 0 0)),§34],#[103,103]⟩,none⟩,¤36(.fieldAddr 107 §5 3),¤37(.fieldAddr 105 §36 1),⟨none,.store 103 §37 §31,none⟩,¤38(.fieldAddr 107 §5 5),¤39(.fieldAddr 105 §38 1),⟨none,.store 103 §39 §35,none⟩]
def c86_r8:List SOp:=[¤40(.fieldAddr 107 §5 8),¤41(.load 42 §40),⟨some 42,.call ⟨.builtin .append,#[(.const (.slice none 0 0)),§41],#[42,42]⟩,none⟩,¤43(.fieldAddr 107 §5 8),⟨none,.store 42 §43 §42,none⟩]
def c86_r9:List SOp:=[¢44 3,¤45(.load 107 §5),¤46(.buildSlice 89 1 #[(0,§45)]),⟨some 47,.call ⟨.builtin .append,#[.tmp 44,.tmp 46],#[89,89]⟩,none⟩,¤3(.assign §47)]
def c86_r4:List SOp:=[¢10 4,¤11(.binOp .add 3 §10 £1 3),¤4(.assign §11)]
def c86_l3:SC:=(.seq (.seq (.reg c86_r3 none (some [0,3,4,9])) (.cond §9 .skip (.exit 0) (some [0,3,4]))) (.seq (.block 1 (.seq (.reg c86_r5 none (some [0,3,4,5])) (.seq (.reg c86_r6 (some [(6,3)]) (some [0,3,4,5])) (.seq (.reg c86_r7 (some [(6,3)]) (some [0,3,4,5])) (.seq (.reg c86_r8 none (some [0,3,4,5])) (.reg c86_r9 none (some [0,3,4]))))))) (.reg c86_r4 none (some [0,3,4]))))
def c86_r10:List SOp:=[¢48 3,¤2(.assign §48)]
def c86:SC:=(.seq (.reg c86_r0 none (some [0])) (.seq (.reg c86_r1 none (some [0,3])) (.seq (.seq (.reg c86_r2 none (some [0,3,4])) (.block 0 (.loop c86_l3 (some [0,3,4])))) (.seq (.reg c86_r10 none (some [2])) .ret))))
theorem c86_eq:∃code,Try.f86.body=some code/\compile H86 code=c86 :=⟨_,rfl,¥⟩
theorem c86_fn:Try.prog.funcs[86]?=some Try.f86:=¥
theorem c86_rs:Try.f86.results.toList=[.tmp 2]:=¥
theorem c86_ok:fnB Try.prog H86 Try.f86=true:=¥
theorem c86_nt:Try.f86.ntmps=49:=¥
def H87:Hint:=⟨[(8,[6]),(7,[7]),(4,[0,1,7,8]),(6,[0,1,7,8]),(2000033,[0,1,7,8]),(5,[0,1,7,8,33]),(2000017,[0,1,7,8]),(3,[0,1,7,8,17]),(1000003,[0,1,7,8]),(2,[0,1,7,8]),(1,[0,1,7]),(0,[0,1,2])],[(7,[(11,7),(12,7),(12,16)])]⟩
def c87_r0:List SOp:=[¤6(.assign (.const (.pointer none)))]
def c87_r1:List SOp:=[¢9 2,⟨some 10,.call ⟨.builtin .max,#[§9,£1],#[3,3]⟩,none⟩,⟨some 11,.call ⟨.builtin .min,#[§10,£32],#[3,3]⟩,none⟩,¤12(.build 176 #[(1,§11)]),¤13(.box 176 §12),¤7(.assign §13)]
def c87_r2:List SOp:=[¤8(.assign £0)]
def c87_r3:List SOp:=[¢14 8,¢15 1,⟨some 16,.call ⟨.builtin .len,#[.tmp 15],#[30]⟩,none⟩,¤17(.binOp .lss 3 §14 §16 3)]
def c87_r5:List SOp:=[¢20 1,¢21 8,¤22(.indexAddr 30 §20 §21),¤23(.load 3 §22),¤24(.binOp .geq 3 §23 £0 3),¢25 24,⟨some 26,.move §1,some (some 25,true)⟩,⟨some 27,.move §8,some (some 25,true)⟩,⟨some 28,.indexAddr 30 §26 §27,some (some 25,true)⟩,⟨some 29,.load 3 §28,some (some 25,true)⟩,⟨some 30,.move §0,some (some 25,true)⟩,⟨some 31,.call ⟨.builtin .len,#[.tmp 30],#[89]⟩,some (some 25,true)⟩,⟨some 32,.binOp .lss 3 §29 §31 3,some (some 25,true)⟩,¤33(.pick §25 §32 (.const (.bool false)))]
def c87_r6:List SOp:=[¢34 7,¢35 7,¤36(.nilCheck §35),¤37(.fieldAddr 176 §36 0),¤38(.load 89 §37),¢39 0,¢40 1,¢41 8,¤42(.indexAddr 30 §40 §41),¤43(.load 3 §42),¤44(.indexAddr 89 §39 §43),¤45(.load 107 §44),¤46(.buildSlice 89 1 #[(0,§45)]),⟨some 47,.call ⟨.builtin .append,#[.tmp 38,.tmp 46],#[89,89]⟩,none⟩,¤48(.nilCheck §34),¤49(.fieldAddr 176 §48 0),⟨none,.store 89 §49 §47,none⟩]
def c87_r4:List SOp:=[¢18 8,¤19(.binOp .add 3 §18 £1 3),¤8(.assign §19)]
def c87_l3:SC:=(.seq (.seq (.reg c87_r3 none (some [0,1,7,8,17])) (.cond §17 .skip (.exit 0) (some [0,1,7,8]))) (.seq (.block 1 (.seq (.reg c87_r5 none (some [0,1,7,8,33])) (.cond §33 (.reg c87_r6 none (some [0,1,7,8])) .skip (some [0,1,7,8])))) (.reg c87_r4 none (some [0,1,7,8]))))
def c87_r7:List SOp:=[¢50 7,¢51 7,¢52 7,¤53(.nilCheck §52),¤54(.fieldAddr 176 §53 0),¤55(.load 89 §54),⟨some 56,.call ⟨.builtin .len,#[.tmp 55],#[89]⟩,none⟩,¤57(.makeSlice 68 §56 §56),¢58 7,¤59(.nilCheck §58),¤60(.fieldAddr 176 §59 0),¤61(.load 89 §60),⟨some 62,.call ⟨.builtin .len,#[.tmp 61],#[89]⟩,none⟩,¤63(.makeSlice 68 §62 §62),¤64(.nilCheck §50),¤65(.fieldAddr 176 §64 3),⟨none,.store 68 §65 §57,none⟩,¤66(.nilCheck §51),¤67(.fieldAddr 176 §66 4),⟨none,.store 68 §67 §63,none⟩]
def c87_r8:List SOp:=[¢68 7,¤6(.assign §68)]
def c87:SC:=(.seq (.reg c87_r0 none (some [0,1,2])) (.seq (.reg c87_r1 none (some [0,1,7])) (.seq (.seq (.reg c87_r2 none (some [0,1,7,8])) (.block 0 (.loop c87_l3 (some [0,1,7,8])))) (.seq (.reg c87_r7 (some [(11,7),(12,7),(12,16)]) (some [7])) (.seq (.reg c87_r8 none (some [6])) .ret)))))
theorem c87_eq:∃code,Try.f87.body=some code/\compile H87 code=c87 :=⟨_,rfl,¥⟩
theorem c87_fn:Try.prog.funcs[87]?=some Try.f87:=¥
theorem c87_rs:Try.f87.results.toList=[.tmp 6]:=¥
theorem c87_ok:fnB Try.prog H87 Try.f87=true:=¥
theorem c87_nt:Try.f87.ntmps=69:=¥
def H88:Hint:=⟨[(1,[2,3]),(0,[0])],[]⟩
def c88_r0:List SOp:=[¤2(.assign (.const (.slice none 0 0))),¤3(.assign £0)]
def c88_r1:List SOp:=[¢4 0,⟨some 5,.call ⟨.value (.func 118),#[.tmp 4],#[109]⟩,none⟩,¤6(.extract §5 0),¤7(.extract §5 1),¤2(.assign §6),¤3(.assign §7)]
def c88:SC:=(.seq (.reg c88_r0 none (some [0])) (.seq (.reg c88_r1 none (some [2,3])) .ret))
theorem c88_eq:∃code,Try.f88.body=some code/\compile H88 code=c88 :=⟨_,rfl,¥⟩
theorem c88_fn:Try.prog.funcs[88]?=some Try.f88:=¥
theorem c88_rs:Try.f88.results.toList=[.tmp 2,.tmp 3]:=¥
theorem c88_ok:fnB Try.prog H88 Try.f88=true:=¥
theorem c88_nt:Try.f88.ntmps=8:=¥
def H89:Hint:=⟨[(8,[4]),(5,[0,1,5]),(7,[4]),(2000066,[0,1,5]),(6,[0,1,5,66]),(2000014,[0,1,5]),(4,[0,1,5,14]),(1000004,[0,1,5]),(3,[0,1,5]),(2,[4]),(2000010,[0,1]),(1,[0,1,10]),(0,[0,1])],[]⟩
def c89_r0:List SOp:=[¤4(.assign (.const (.bool false)))]
def c89_r1:List SOp:=[¢6 0,⟨some 7,.call ⟨.builtin .len,#[.tmp 6],#[94]⟩,none⟩,¢8 1,⟨some 9,.call ⟨.builtin .len,#[.tmp 8],#[94]⟩,none⟩,¤10(.binOp .neq 3 §7 §9 3)]
def c89_r2:List SOp:=[¤4(.assign (.const (.bool false)))]
def c89_r3:List SOp:=[¤5(.assign £0)]
def c89_r4:List SOp:=[¢11 5,¢12 0,⟨some 13,.call ⟨.builtin .len,#[.tmp 12],#[94]⟩,none⟩,¤14(.binOp .lss 3 §11 §13 3)]
def c89_r6:List SOp:=[¢17 0,¢18 5,¤19(.indexAddr 94 §17 §18),¤20(.fieldAddr 99 §19 0),¤21(.load 3 §20),¢22 1,¢23 5,¤24(.indexAddr 94 §22 §23),¤25(.fieldAddr 99 §24 0),¤26(.load 3 §25),¤27(.binOp .neq 3 §21 §26 3),¢28 27,⟨some 29,.move §0,some (some 28,false)⟩,⟨some 30,.move §5,some (some 28,false)⟩,⟨some 31,.indexAddr 94 §29 §30,some (some 28,false)⟩,⟨some 32,.fieldAddr 99 §31 1,some (some 28,false)⟩,⟨some 33,.load 3 §32,some (some 28,false)⟩,⟨some 34,.move §1,some (some 28,false)⟩,⟨some 35,.move §5,some (some 28,false)⟩,⟨some 36,.indexAddr 94 §34 §35,some (some 28,false)⟩,⟨some 37,.fieldAddr 99 §36 1,some (some 28,false)⟩,⟨some 38,.load 3 §37,some (some 28,false)⟩,⟨some 39,.binOp .neq 3 §33 §38 3,some (some 28,false)⟩,¤40(.pick §28 (.const (.bool true)) §39),¢41 40,⟨some 42,.move §0,some (some 41,false)⟩,⟨some 43,.move §5,some (some 41,false)⟩,⟨some 44,.indexAddr 94 §42 §43,some (some 41,false)⟩,⟨some 45,.fieldAddr 99 §44 2,some (some 41,false)⟩,⟨some 46,.load 3 §45,some (some 41,false)⟩,⟨some 47,.move §1,some (some 41,false)⟩,⟨some 48,.move §5,some (some 41,false)⟩,⟨some 49,.indexAddr 94 §47 §48,some (some 41,false)⟩,⟨some 50,.fieldAddr 99 §49 2,some (some 41,false)⟩,⟨some 51,.load 3 §50,some (some 41,false)⟩,⟨some 52,.binOp .neq 3 §46 §51 3,some (some 41,false)⟩,¤53(.pick §41 (.const (.bool true)) §52),¢54 53,⟨some 55,.move §0,some (some 54,false)⟩,⟨some 56,.move §5,some (some 54,false)⟩,⟨some 57,.indexAddr 94 §55 §56,some (some 54,false)⟩,⟨some 58,.fieldAddr 99 §57 3,some (some 54,false)⟩,⟨some 59,.load 3 §58,some (some 54,false)⟩,⟨some 60,.move §1,some (some 54,false)⟩,⟨some 61,.move §5,some (some 54,false)⟩,⟨some 62,.indexAddr 94 §60 §61,some (some 54,false)⟩,⟨some 63,.fieldAddr 99 §62 3,some (some 54,false)⟩,⟨some 64,.load 3 §63,some (some 54,false)⟩,⟨some 65,.binOp .neq 3 §59 §64 3,some (some 54,false)⟩,¤66(.pick §54 (.const (.bool true)) §65)]
def c89_r7:List SOp:=[¤4(.assign (.const (.bool false)))]
def c89_r5:List SOp:=[¢15 5,¤16(.binOp .add 3 §15 £1 3),¤5(.assign §16)]
def c89_l4:SC:=(.seq (.seq (.reg c89_r4 none (some [0,1,5,14])) (.cond §14 .skip (.exit 0) (some [0,1,5]))) (.seq (.block 1 (.seq (.reg c89_r6 none (some [0,1,5,66])) (.cond §66 (.seq (.reg c89_r7 none (some [4])) .ret) .skip (some [0,1,5])))) (.reg c89_r5 none (some [0,1,5]))))
def c89_r8:List SOp:=[¤4(.assign (.const (.bool true)))]
def c89:SC:=(.seq (.reg c89_r0 none (some [0,1])) (.seq (.seq (.reg c89_r1 none (some [0,1,10])) (.cond §10 (.seq (.reg c89_r2 none (some [4])) .ret) .skip (some [0,1]))) (.seq (.seq (.reg c89_r3 none (some [0,1,5])) (.block 0 (.loop c89_l4 (some [0,1,5])))) (.seq (.reg c89_r8 none (some [4])) .ret))))
theorem c89_eq:∃code,Try.f89.body=some code/\compile H89 code=c89 :=⟨_,rfl,¥⟩
theorem c89_fn:Try.prog.funcs[89]?=some Try.f89:=¥
theorem c89_rs:Try.f89.results.toList=[.tmp 4]:=¥
theorem c89_ok:fnB Try.prog H89 Try.f89=true:=¥
theorem c89_nt:Try.f89.ntmps=67:=¥
def H90:Hint:=⟨[(2,[4,5]),(1,[0]),(0,[0,1])],[]⟩
def c90_r0:List SOp:=[¤4(.assign (.const (.slice none 0 0))),¤5(.assign £0)]
def c90_r1:List SOp:=[¢6 0,¢7 0,¤8(.nilCheck §7),¤9(.fieldAddr 176 §8 2),¤10(.load 9 §9),¢11 1,¤12(.buildSlice 25 1 #[(0,§11)]),¤13(.convert 25 9 §12),¤14(.binOp .add 9 §10 §13 9),¤15(.nilCheck §6),¤16(.fieldAddr 176 §15 2),⟨none,.store 9 §16 §14,none⟩]
def c90_r2:List SOp:=[¢17 0,⟨some 18,.call ⟨.value (.func 118),#[.tmp 17],#[109]⟩,none⟩,¤19(.extract §18 0),¤20(.extract §18 1),¤4(.assign §19),¤5(.assign §20)]
def c90:SC:=(.seq (.reg c90_r0 none (some [0,1])) (.seq (.reg c90_r1 none (some [0])) (.seq (.reg c90_r2 none (some [4,5])) .ret)))
theorem c90_eq:∃code,Try.f90.body=some code/\compile H90 code=c90 :=⟨_,rfl,¥⟩
theorem c90_fn:Try.prog.funcs[90]?=some Try.f90:=¥
theorem c90_rs:Try.f90.results.toList=[.tmp 4,.tmp 5]:=¥
theorem c90_ok:fnB Try.prog H90 Try.f90=true:=¥
theorem c90_nt:Try.f90.ntmps=21:=¥
def H91:Hint:=⟨[(11,[2]),(4,[0,3,4]),(9,[0,3,4,5,6]),(10,[0,3,4,5,6]),(2000048,[0,3,4,5,6]),(8,[0,3,4,5,6,48]),(1000008,[0,3,4,5,6]),(7,[0,3,4,5,6]),(6,[0,3,4,5]),(2000031,[0,3,4]),(5,[0,3,4,31]),(2000013,[0,3,4]),(3,[0,3,4,13]),(1000003,[0,3,4]),(2,[0,3,4]),(1,[0,3]),(0,[0])],[]⟩
def c91_r0:List SOp:=[¤2(.assign £0)]
def c91_r1:List SOp:=[¤3(.assign £0)]
def c91_r2:List SOp:=[¤4(.assign £0)]
def c91_r3:List SOp:=[¢7 4,¢8 0,¤9(.nilCheck §8),¤10(.fieldAddr 176 §9 0),¤11(.load 89 §10),⟨some 12,.call ⟨.builtin .len,#[.tmp 11],#[89]⟩,none⟩,¤13(.binOp .lss 3 §7 §12 3)]
def c91_r5:List SOp:=[¢16 0,¤17(.nilCheck §16),¤18(.fieldAddr 176 §17 4),¤19(.load 68 §18),¢20 4,¤21(.indexAddr 68 §19 §20),¤22(.load 4 §21),¢23 22,⟨some 24,.move §0,some (some 23,false)⟩,⟨some 25,.nilCheck §24,some (some 23,false)⟩,⟨some 26,.fieldAddr 176 §25 3,some (some 23,false)⟩,⟨some 27,.load 68 §26,some (some 23,false)⟩,⟨some 28,.move §4,some (some 23,false)⟩,⟨some 29,.indexAddr 68 §27 §28,some (some 23,false)⟩,⟨some 30,.load 4 §29,some (some 23,false)⟩,¤31(.pick §23 (.const (.bool true)) §30)]
def c91_r6:List SOp:=[¢32 0,¤33(.nilCheck §32),¤34(.fieldAddr 176 §33 0),¤35(.load 89 §34),¢36 4,¤37(.indexAddr 89 §35 §36),¤38(.fieldAddr 107 §37 8),¤39(.load 42 §38),¢40 0,¤41(.nilCheck §40),¤42(.fieldAddr 176 §41 2),¤43(.load 9 §42),⟨some 44,.call ⟨.value (.func 107),#[.tmp 39,.tmp 43],#[42,9]⟩,none⟩,¤5(.assign §44)]
def c91_r7:List SOp:=[¤6(.assign £0)]
def c91_r8:List SOp:=[¢45 6,¢46 5,⟨some 47,.call ⟨.builtin .len,#[.tmp 46],#[30]⟩,none⟩,¤48(.binOp .lss 3 §45 §47 3)]
def c91_r10:List SOp:=[¢51 3,¢52 5,¢53 6,¤54(.indexAddr 30 §52 §53),¤55(.load 3 §54),⟨some 56,.call ⟨.builtin .max,#[.tmp 51,.tmp 55],#[3,3]⟩,none⟩,¤3(.assign §56)]
def c91_r9:List SOp:=[¢49 6,¤50(.binOp .add 3 §49 £1 3),¤6(.assign §50)]
def c91_l8:SC:=(.seq (.seq (.reg c91_r8 none (some [0,3,4,5,6,48])) (.cond §48 .skip (.exit 2) (some [0,3,4,5,6]))) (.seq (.block 3 (.reg c91_r10 none (some [0,3,4,5,6]))) (.reg c91_r9 none (some [0,3,4,5,6]))))
def c91_r4:List SOp:=[¢14 4,¤15(.binOp .add 3 §14 £1 3),¤4(.assign §15)]
def c91_l3:SC:=(.seq (.seq (.reg c91_r3 none (some [0,3,4,13])) (.cond §13 .skip (.exit 0) (some [0,3,4]))) (.seq (.block 1 (.seq (.seq (.reg c91_r5 none (some [0,3,4,31])) (.cond §31 (.exit 1) .skip (some [0,3,4]))) (.seq (.reg c91_r6 none (some [0,3,4,5])) (.seq (.reg c91_r7 none (some [0,3,4,5,6])) (.block 2 (.loop c91_l8 (some [0,3,4,5,6]))))))) (.reg c91_r4 none (some [0,3,4]))))
def c91_r11:List SOp:=[¢57 3,¤2(.assign §57)]
def c91:SC:=(.seq (.reg c91_r0 none (some [0])) (.seq (.reg c91_r1 none (some [0,3])) (.seq (.seq (.reg c91_r2 none (some [0,3,4])) (.block 0 (.loop c91_l3 (some [0,3,4])))) (.seq (.reg c91_r11 none (some [2])) .ret))))
theorem c91_eq:∃code,Try.f91.body=some code/\compile H91 code=c91 :=⟨_,rfl,¥⟩
theorem c91_fn:Try.prog.funcs[91]?=some Try.f91:=¥
theorem c91_rs:Try.f91.results.toList=[.tmp 2]:=¥
theorem c91_ok:fnB Try.prog H91 Try.f91=true:=¥
theorem c91_nt:Try.f91.ntmps=58:=¥
def H92:Hint:=⟨[(1,[4]),(0,[0,1])],[]⟩
def c92_r0:List SOp:=[¤4(.assign (.const (.bool false)))]
def c92_r1:List SOp:=[¢5 1,¤6(.binOp .lss 3 §5 £0 3),¢7 6,⟨some 8,.move §1,some (some 7,false)⟩,⟨some 9,.move §0,some (some 7,false)⟩,⟨some 10,.nilCheck §9,some (some 7,false)⟩,⟨some 11,.fieldAddr 116 §10 1,some (some 7,false)⟩,⟨some 12,.load 114 §11,some (some 7,false)⟩,⟨some 13,.call ⟨.builtin .len,#[.tmp 12],#[114]⟩,some (some 7,false)⟩,⟨some 14,.binOp .geq 3 §8 §13 3,some (some 7,false)⟩,¤15(.pick §7 (.const (.bool true)) §14),¤4(.assign §15)]
def c92:SC:=(.seq (.reg c92_r0 none (some [0,1])) (.seq (.reg c92_r1 none (some [4])) .ret))
theorem c92_eq:∃code,Try.f92.body=some code/\compile H92 code=c92 :=⟨_,rfl,¥⟩
theorem c92_fn:Try.prog.funcs[92]?=some Try.f92:=¥
theorem c92_rs:Try.f92.results.toList=[.tmp 4]:=¥
theorem c92_ok:fnB Try.prog H92 Try.f92=true:=¥
theorem c92_nt:Try.f92.ntmps=16:=¥
def H93:Hint:=⟨[(3,[2]),(2,[2]),(2000004,[0]),(1,[0,4]),(0,[0])],[]⟩
def c93_r0:List SOp:=[¤2(.assign (.const (.slice none 0 0)))]
def c93_r1:List SOp:=[¢3 0,¤4(.binOp .eql 30 §3 (.const (.slice none 0 0)) 30)]
def c93_r2:List SOp:=[¤2(.assign (.const (.slice none 0 0)))]
def c93_r3:List SOp:=[¤5(.buildSlice 30 0 #[]),¢6 0,⟨some 7,.call ⟨.builtin .append,#[.tmp 5,.tmp 6],#[30,30]⟩,none⟩,¤2(.assign §7)]
def c93:SC:=(.seq (.reg c93_r0 none (some [0])) (.seq (.seq (.reg c93_r1 none (some [0,4])) (.cond §4 (.seq (.reg c93_r2 none (some [2])) .ret) .skip (some [0]))) (.seq (.reg c93_r3 none (some [2])) .ret)))
theorem c93_eq:∃code,Try.f93.body=some code/\compile H93 code=c93 :=⟨_,rfl,¥⟩
theorem c93_fn:Try.prog.funcs[93]?=some Try.f93:=¥
theorem c93_rs:Try.f93.results.toList=[.tmp 2]:=¥
theorem c93_ok:fnB Try.prog H93 Try.f93=true:=¥
theorem c93_nt:Try.f93.ntmps=8:=¥
def H96:Hint:=⟨[(3,[6]),(2,[6]),(2000014,[2,3]),(1,[2,3,14]),(0,[1,2,3])],[]⟩
def c96_r0:List SOp:=[¤3(.box 52 §0),¤6(.assign (.const (.bool false)))]
def c96_r1:List SOp:=[¤7(.fieldAddr 52 §3 0),¤8(.load 9 §7),¤9(.fieldAddr 52 §3 1),¤10(.load 4 §9),¢11 1,¢12 2,⟨some 13,.call ⟨.value (.func 57),#[.tmp 8,.tmp 10,.tmp 11,.tmp 12],#[9,4,9,3]⟩,none⟩,¤14(.unOp .not 4 §13)]
def c96_r2:List SOp:=[¤6(.assign (.const (.bool false)))]
def c96_r3:List SOp:=[¤15(.fieldAddr 52 §3 5),¤16(.load 4 §15),¢17 16,⟨some 18,.move §2,some (some 17,false)⟩,⟨some 19,.fieldAddr 52 §3 0,some (some 17,false)⟩,⟨some 20,.load 9 §19,some (some 17,false)⟩,⟨some 21,.call ⟨.builtin .len,#[.tmp 20],#[9]⟩,some (some 17,false)⟩,⟨some 22,.binOp .sub 3 §18 §21 3,some (some 17,false)⟩,⟨some 23,.fieldAddr 52 §3 3,some (some 17,false)⟩,⟨some 24,.load 3 §23,some (some 17,false)⟩,⟨some 25,.binOp .geq 3 §22 §24 3,some (some 17,false)⟩,⟨some 26,.move §25,some (some 17,false)⟩,⟨some 27,.fieldAddr 52 §3 4,some (some 26,true)⟩,⟨some 28,.load 3 §27,some (some 26,true)⟩,⟨some 29,.binOp .leq 3 §28 £0 3,some (some 26,true)⟩,⟨some 30,.move §29,some (some 26,true)⟩,⟨some 31,.move §2,some (some 30,false)⟩,⟨some 32,.fieldAddr 52 §3 3,some (some 30,false)⟩,⟨some 33,.load 3 §32,some (some 30,false)⟩,⟨some 34,.binOp .sub 3 §31 §33 3,some (some 30,false)⟩,⟨some 35,.fieldAddr 52 §3 4,some (some 30,false)⟩,⟨some 36,.load 3 §35,some (some 30,false)⟩,⟨some 37,.binOp .leq 3 §34 §36 3,some (some 30,false)⟩,⟨some 38,.pick §30 (.const (.bool true)) §37,some (some 26,true)⟩,⟨some 39,.pick §26 §38 (.const (.bool false)),some (some 17,false)⟩,¤40(.pick §17 (.const (.bool true)) §39),¤6(.assign §40)]
def c96:SC:=(.seq (.reg c96_r0 none (some [1,2,3])) (.seq (.seq (.reg c96_r1 none (some [2,3,14])) (.cond §14 (.seq (.reg c96_r2 none (some [6])) .ret) .skip (some [2,3]))) (.seq (.reg c96_r3 none (some [6])) .ret)))
theorem c96_eq:∃code,Try.f96.body=some code/\compile H96 code=c96 :=⟨_,rfl,¥⟩
theorem c96_fn:Try.prog.funcs[96]?=some Try.f96:=¥
theorem c96_rs:Try.f96.results.toList=[.tmp 6]:=¥
theorem c96_ok:fnB Try.prog H96 Try.f96=true:=¥
theorem c96_nt:Try.f96.ntmps=41:=¥
def H97:Hint:=⟨[(1,[6]),(0,[1,2,3])],[]⟩
def c97_r0:List SOp:=[¤3(.box 52 §0),¤6(.assign (.const (.bool false)))]
def c97_r1:List SOp:=[¢7 1,¢8 2,¤9(.binOp .leq 3 §7 §8 3),¢10 9,⟨some 11,.move §2,some (some 10,true)⟩,⟨some 12,.fieldAddr 52 §3 0,some (some 10,true)⟩,⟨some 13,.load 9 §12,some (some 10,true)⟩,⟨some 14,.call ⟨.builtin .len,#[.tmp 13],#[9]⟩,some (some 10,true)⟩,⟨some 15,.binOp .sub 3 §11 §14 3,some (some 10,true)⟩,⟨some 16,.move §1,some (some 10,true)⟩,⟨some 17,.binOp .sub 3 §15 §16 3,some (some 10,true)⟩,⟨some 18,.fieldAddr 52 §3 6,some (some 10,true)⟩,⟨some 19,.load 3 §18,some (some 10,true)⟩,⟨some 20,.binOp .geq 3 §17 §19 3,some (some 10,true)⟩,¤21(.pick §10 §20 (.const (.bool false))),¢22 21,⟨some 23,.fieldAddr 52 §3 7,some (some 22,true)⟩,⟨some 24,.load 3 §23,some (some 22,true)⟩,⟨some 25,.binOp .leq 3 §24 £0 3,some (some 22,true)⟩,⟨some 26,.move §25,some (some 22,true)⟩,⟨some 27,.move §2,some (some 26,false)⟩,⟨some 28,.move §1,some (some 26,false)⟩,⟨some 29,.binOp .sub 3 §27 §28 3,some (some 26,false)⟩,⟨some 30,.fieldAddr 52 §3 6,some (some 26,false)⟩,⟨some 31,.load 3 §30,some (some 26,false)⟩,⟨some 32,.binOp .sub 3 §29 §31 3,some (some 26,false)⟩,⟨some 33,.fieldAddr 52 §3 7,some (some 26,false)⟩,⟨some 34,.load 3 §33,some (some 26,false)⟩,⟨some 35,.binOp .leq 3 §32 §34 3,some (some 26,false)⟩,⟨some 36,.pick §26 (.const (.bool true)) §35,some (some 22,true)⟩,¤37(.pick §22 §36 (.const (.bool false))),¤6(.assign §37)]
def c97:SC:=(.seq (.reg c97_r0 none (some [1,2,3])) (.seq (.reg c97_r1 none (some [6])) .ret))
theorem c97_eq:∃code,Try.f97.body=some code/\compile H97 code=c97 :=⟨_,rfl,¥⟩
theorem c97_fn:Try.prog.funcs[97]?=some Try.f97:=¥
theorem c97_rs:Try.f97.results.toList=[.tmp 6]:=¥
theorem c97_ok:fnB Try.prog H97 Try.f97=true:=¥
theorem c97_nt:Try.f97.ntmps=38:=¥
def H99:Hint:=⟨[(9,[4]),(3,[0,1,5]),(6,[0,1,5,6]),(8,[4]),(2000032,[0,1,5,6]),(7,[0,1,5,6,32]),(2000023,[0,1,5,6]),(5,[0,1,5,6,23]),(1000005,[0,1,5,6]),(4,[0,1,5,6]),(2000010,[0,1,5]),(2,[0,1,5,10]),(1000002,[0,1,5]),(1,[0,1,5]),(0,[0,1])],[]⟩
def c99_r0:List SOp:=[¤4(.assign (.const (.bool false)))]
def c99_r1:List SOp:=[¤5(.assign £0)]
def c99_r2:List SOp:=[¢7 5,¢8 0,⟨some 9,.call ⟨.builtin .len,#[.tmp 8],#[42]⟩,none⟩,¤10(.binOp .lss 3 §7 §9 3)]
def c99_r4:List SOp:=[¤6(.assign £0)]
def c99_r5:List SOp:=[¢13 6,¢14 1,⟨some 15,.call ⟨.builtin .len,#[.tmp 14],#[9]⟩,none⟩,¤16(.binOp .leq 3 §13 §15 3),¢17 16,⟨some 18,.move §0,some (some 17,true)⟩,⟨some 19,.move §5,some (some 17,true)⟩,⟨some 20,.indexAddr 42 §18 §19,some (some 17,true)⟩,⟨some 21,.fieldAddr 52 §20 2,some (some 17,true)⟩,⟨some 22,.load 4 §21,some (some 17,true)⟩,¤23(.pick §17 §22 (.const (.bool false)))]
def c99_r7:List SOp:=[¢26 0,¢27 5,¤28(.indexAddr 42 §26 §27),¤29(.load 52 §28),¢30 1,¢31 6,⟨some 32,.call ⟨.value (.func 96),#[.tmp 29,.tmp 30,.tmp 31],#[52,9,3]⟩,none⟩]
def c99_r8:List SOp:=[¤4(.assign (.const (.bool false)))]
def c99_r6:List SOp:=[¢24 6,¤25(.binOp .add 3 §24 £1 3),¤6(.assign §25)]
def c99_l5:SC:=(.seq (.seq (.reg c99_r5 none (some [0,1,5,6,23])) (.cond §23 .skip (.exit 2) (some [0,1,5,6]))) (.seq (.block 3 (.seq (.reg c99_r7 none (some [0,1,5,6,32])) (.cond §32 (.seq (.reg c99_r8 none (some [4])) .ret) .skip (some [0,1,5,6])))) (.reg c99_r6 none (some [0,1,5,6]))))
def c99_r3:List SOp:=[¢11 5,¤12(.binOp .add 3 §11 £1 3),¤5(.assign §12)]
def c99_l2:SC:=(.seq (.seq (.reg c99_r2 none (some [0,1,5,10])) (.cond §10 .skip (.exit 0) (some [0,1,5]))) (.seq (.block 1 (.seq (.reg c99_r4 none (some [0,1,5,6])) (.block 2 (.loop c99_l5 (some [0,1,5,6]))))) (.reg c99_r3 none (some [0,1,5]))))
def c99_r9:List SOp:=[¤4(.assign (.const (.bool true)))]
def c99:SC:=(.seq (.reg c99_r0 none (some [0,1])) (.seq (.seq (.reg c99_r1 none (some [0,1,5])) (.block 0 (.loop c99_l2 (some [0,1,5])))) (.seq (.reg c99_r9 none (some [4])) .ret)))
theorem c99_eq:∃code,Try.f99.body=some code/\compile H99 code=c99 :=⟨_,rfl,¥⟩
theorem c99_fn:Try.prog.funcs[99]?=some Try.f99:=¥
theorem c99_rs:Try.f99.results.toList=[.tmp 4]:=¥
theorem c99_ok:fnB Try.prog H99 Try.f99=true:=¥
theorem c99_nt:Try.f99.ntmps=33:=¥
def H100:Hint:=⟨[(18,[6]),(17,[0,1,2,7,8,69]),(16,[0,1,2,7,8,69]),(15,[0,1,2,7,8,10,69]),(14,[0,1,2,7,8,9,10,69]),(2000083,[0,1,2,7,8,9,10,69]),(13,[0,1,2,7,8,9,10,69,83]),(2000081,[0,1,2,7,8,9,10,69]),(12,[0,1,2,7,8,9,10,69,81]),(11,[0,1,2,7,8,9,10,11,69]),(10,[0,1,2,7,8,9,69]),(2000070,[0,1,2,7,8,69]),(9,[0,1,2,7,8,69,70]),(1000009,[0,1,2,7,8,69]),(8,[0,1,2,7,8,69]),(7,[0,1,2,7,8]),(5,[0,1,2,7]),(4,[0,1,2,7]),(3,[0,1,2,7]),(6,[0,1,2,7]),(2000020,[0,1,2,7]),(2,[0,1,2,7,20]),(1,[0,1,2,7]),(0,[0,1,2])],[(4,[(3,12),(3,15),(3,16)]),(6,[(3,7)])]⟩
def c100_r0:List SOp:=[¤6(.assign (.const (.slice none 0 0)))]
def c100_r1:List SOp:=[¢12 0,¤13(.nilCheck §12),¤14(.fieldAddr 129 §13 1),¤15(.load 30 §14),¢16 2,¤17(.indexAddr 30 §15 §16),¤18(.load 3 §17),¤7(.assign §18)]
def c100_r2:List SOp:=[¢19 2,¤20(.binOp .gtr 3 §19 £0 3)]
def c100_r3:List SOp:=[¢21 0,¤22(.nilCheck §21),¤23(.fieldAddr 129 §22 0),¤24(.load 127 §23),¢25 2,¢26 0,¤27(.nilCheck §26),¤28(.fieldAddr 129 §27 0),¤29(.load 127 §28),¢30 7,¤31(.indexAddr 127 §29 §30),¤32(.load 132 §31),¤33(.indexAddr 127 §24 §25),⟨none,.store 132 §33 §32,none⟩]
def c100_r4:List SOp:=[¢34 0,¤35(.nilCheck §34),¤36(.fieldAddr 129 §35 2),¤37(.load 44 §36),¢38 2,¢39 0,¤40(.nilCheck §39),¤41(.fieldAddr 129 §40 2),¤42(.load 44 §41),¢43 7,¤44(.indexAddr 44 §42 §43),¤45(.load 30 §44),⟨some 46,.call ⟨.value (.func 93),#[.tmp 45],#[30]⟩,none⟩,¢47 1,¢48 2,⟨some 49,.call ⟨.value (.func 34),#[.tmp 47,.tmp 48],#[23,3]⟩,none⟩,⟨some 50,.call ⟨.builtin .append,#[.tmp 46,.tmp 49],#[30,30]⟩,none⟩,¤51(.indexAddr 44 §37 §38),⟨none,.store 30 §51 §50,none⟩]
def c100_r5:List SOp:=[¢52 0,¤53(.nilCheck §52),¤54(.fieldAddr 129 §53 2),¤55(.load 44 §54),¢56 2,¤57(.indexAddr 44 §55 §56),¤58(.load 30 §57),⟨some 59,.call ⟨.value (.func 120),#[.tmp 58],#[30]⟩,none⟩]
def c100_r6:List SOp:=[¢60 0,¤61(.nilCheck §60),¤62(.fieldAddr 129 §61 2),¤63(.load 44 §62),¢64 2,¢65 1,¢66 2,⟨some 67,.call ⟨.value (.func 34),#[.tmp 65,.tmp 66],#[23,3]⟩,none⟩,¤68(.indexAddr 44 §63 §64),⟨none,.store 30 §68 §67,none⟩]
def c100_r7:List SOp:=[¤8(.assign (.const (.slice none 0 0)))]
def c100_r8:List SOp:=[¤69(.move £0)]
def c100_r9:List SOp:=[¤70(.binOp .lss 3 §69 £256 3)]
def c100_r10:List SOp:=[¢71 69,¤9(.assign §71)]
def c100_r11:List SOp:=[¢73 1,¢74 2,¢75 9,¤76(.convert 3 5 §75),⟨some 77,.call ⟨.value (.func 33),#[.tmp 73,.tmp 74,.tmp 76],#[23,3,5]⟩,none⟩,¢72 77,¤78(.extract §72 0),¤79(.extract §72 1),¤10(.assign §78),¤11(.assign §79)]
def c100_r12:List SOp:=[¢80 11,¤81(.unOp .not 4 §80)]
def c100_r13:List SOp:=[¢82 2,¤83(.binOp .gtr 3 §82 £0 3)]
def c100_r14:List SOp:=[¢84 0,¤85(.nilCheck §84),¤86(.fieldAddr 129 §85 1),¤87(.load 30 §86),¢88 10,¢89 0,¤90(.nilCheck §89),¤91(.fieldAddr 129 §90 0),¤92(.load 127 §91),¢93 7,¢94 9,¤95(.indexAddr 127 §92 §93),¤96(.indexAddr 132 §95 §94),¤97(.load 131 §96),¤98(.convert 131 3 §97),¤99(.indexAddr 30 §87 §88),⟨none,.store 3 §99 §98,none⟩]
def c100_r15:List SOp:=[¢100 0,¤101(.nilCheck §100),¤102(.fieldAddr 129 §101 0),¤103(.load 127 §102),¢104 2,¢105 9,¢106 10,¤107(.convert 3 131 §106),¤108(.indexAddr 127 §103 §104),¤109(.indexAddr 132 §108 §105),⟨none,.store 131 §109 §107,none⟩]
def c100_r16:List SOp:=[¢110 8,¢111 10,¤112(.buildSlice 30 1 #[(0,§111)]),⟨some 113,.call ⟨.builtin .append,#[.tmp 110,.tmp 112],#[30,30]⟩,none⟩,¤8(.assign §113)]
def c100_r17:List SOp:=[¤114(.binOp .add 3 §69 £1 3),¢69 114]
def c100_l9:SC:=(.seq (.reg c100_r9 none (some [0,1,2,7,8,69,70])) (.seq (.cond §70 .skip (.exit 0) (some [0,1,2,7,8,69])) (.seq (.block 1 (.seq (.reg c100_r10 none (some [0,1,2,7,8,9,69])) (.seq (.reg c100_r11 none (some [0,1,2,7,8,9,10,11,69])) (.seq (.seq (.reg c100_r12 none (some [0,1,2,7,8,9,10,69,81])) (.cond §81 (.exit 1) .skip (some [0,1,2,7,8,9,10,69]))) (.seq (.seq (.reg c100_r13 none (some [0,1,2,7,8,9,10,69,83])) (.cond §83 (.reg c100_r14 none (some [0,1,2,7,8,9,10,69])) .skip (some [0,1,2,7,8,9,10,69]))) (.seq (.reg c100_r15 none (some [0,1,2,7,8,10,69])) (.reg c100_r16 none (some [0,1,2,7,8,69])))))))) (.reg c100_r17 none (some [0,1,2,7,8,69])))))
def c100_r18:List SOp:=[¢115 8,¤6(.assign §115)]
def c100:SC:=(.seq (.reg c100_r0 none (some [0,1,2])) (.seq (.reg c100_r1 none (some [0,1,2,7])) (.seq (.seq (.reg c100_r2 none (some [0,1,2,7,20])) (.cond §20 (.seq (.reg c100_r3 none (some [0,1,2,7])) (.seq (.reg c100_r4 (some [(3,12),(3,15),(3,16)]) (some [0,1,2,7])) (.reg c100_r5 none (some [0,1,2,7])))) (.reg c100_r6 (some [(3,7)]) (some [0,1,2,7])) (some [0,1,2,7]))) (.seq (.reg c100_r7 none (some [0,1,2,7,8])) (.seq (.seq (.reg c100_r8 none (some [0,1,2,7,8,69])) (.block 0 (.loop c100_l9 (some [0,1,2,7,8,69])))) (.seq (.reg c100_r18 none (some [6])) .ret))))))
theorem c100_eq:∃code,Try.f100.body=some code/\compile H100 code=c100 :=⟨_,rfl,¥⟩
theorem c100_fn:Try.prog.funcs[100]?=some Try.f100:=¥
theorem c100_rs:Try.f100.results.toList=[.tmp 6]:=¥
theorem c100_ok:fnB Try.prog H100 Try.f100=true:=¥
theorem c100_nt:Try.f100.ntmps=116:=¥
def H101:Hint:=⟨[(1,[4]),(0,[0,1])],[]⟩
def c101_r0:List SOp:=[¤4(.assign (.const (.bool false)))]
def c101_r1:List SOp:=[¢5 1,¤6(.binOp .lss 3 §5 £0 3),¢7 6,⟨some 8,.move §1,some (some 7,false)⟩,⟨some 9,.move §0,some (some 7,false)⟩,⟨some 10,.nilCheck §9,some (some 7,false)⟩,⟨some 11,.fieldAddr 129 §10 0,some (some 7,false)⟩,⟨some 12,.load 127 §11,some (some 7,false)⟩,⟨some 13,.call ⟨.builtin .len,#[.tmp 12],#[127]⟩,some (some 7,false)⟩,⟨some 14,.binOp .geq 3 §8 §13 3,some (some 7,false)⟩,¤15(.pick §7 (.const (.bool true)) §14),¤4(.assign §15)]
def c101:SC:=(.seq (.reg c101_r0 none (some [0,1])) (.seq (.reg c101_r1 none (some [4])) .ret))
theorem c101_eq:∃code,Try.f101.body=some code/\compile H101 code=c101 :=⟨_,rfl,¥⟩
theorem c101_fn:Try.prog.funcs[101]?=some Try.f101:=¥
theorem c101_rs:Try.f101.results.toList=[.tmp 4]:=¥
theorem c101_ok:fnB Try.prog H101 Try.f101=true:=¥
theorem c101_nt:Try.f101.ntmps=16:=¥
def H102:Hint:=⟨[(1,[6]),(0,[0,1,2])],[]⟩
def c102_r0:List SOp:=[¤6(.assign (.const (.pointer none)))]
def c102_r1:List SOp:=[¢7 0,¢8 1,⟨some 9,.call ⟨.builtin .append,#[(.const (.slice none 0 0)),§8],#[38,38]⟩,none⟩,¢10 2,⟨some 11,.call ⟨.builtin .append,#[(.const (.slice none 0 0)),§10],#[68,68]⟩,none⟩,¤12(.build 136 #[(0,§7),(1,§9),(2,§11)]),¤13(.box 136 §12),¤6(.assign §13)]
def c102:SC:=(.seq (.reg c102_r0 none (some [0,1,2])) (.seq (.reg c102_r1 none (some [6])) .ret))
theorem c102_eq:∃code,Try.f102.body=some code/\compile H102 code=c102 :=⟨_,rfl,¥⟩
theorem c102_fn:Try.prog.funcs[102]?=some Try.f102:=¥
theorem c102_rs:Try.f102.results.toList=[.tmp 6]:=¥
theorem c102_ok:fnB Try.prog H102 Try.f102=true:=¥
theorem c102_nt:Try.f102.ntmps=14:=¥
def H103:Hint:=⟨[(3,[2]),(2,[2]),(2000008,[0]),(1,[0,8]),(0,[0])],[]⟩
def c103_r0:List SOp:=[¤2(.assign (.const (.int .u8 0)))]
def c103_r1:List SOp:=[¢3 0,¤4(.binOp .geq 5 §3 (.const (.int .u8 65)) 5),¢5 4,⟨some 6,.move §0,some (some 5,true)⟩,⟨some 7,.binOp .leq 5 §6 (.const (.int .u8 90)) 5,some (some 5,true)⟩,¤8(.pick §5 §7 (.const (.bool false)))]
def c103_r2:List SOp:=[¢9 0,¤10(.binOp .sub 5 §9 (.const (.int .u8 65)) 5),¤11(.binOp .add 5 §10 (.const (.int .u8 97)) 5),¤2(.assign §11)]
def c103_r3:List SOp:=[¢12 0,¤2(.assign §12)]
def c103:SC:=(.seq (.reg c103_r0 none (some [0])) (.seq (.seq (.reg c103_r1 none (some [0,8])) (.cond §8 (.seq (.reg c103_r2 none (some [2])) .ret) .skip (some [0]))) (.seq (.reg c103_r3 none (some [2])) .ret)))
theorem c103_eq:∃code,Try.f103.body=some code/\compile H103 code=c103 :=⟨_,rfl,¥⟩
theorem c103_fn:Try.prog.funcs[103]?=some Try.f103:=¥
theorem c103_rs:Try.f103.results.toList=[.tmp 2]:=¥
theorem c103_ok:fnB Try.prog H103 Try.f103=true:=¥
theorem c103_nt:Try.f103.ntmps=13:=¥
def H104:Hint:=⟨[(7,[4]),(6,[0,1,7,8]),(5,[4]),(2000029,[0,1,7,8]),(4,[0,1,7,8,29]),(3,[0,1,5,7,8]),(2000009,[0,1,7,8]),(2,[0,1,7,8,9]),(1000002,[0,1,7,8]),(1,[0,1,7,8]),(0,[0,1])],[]⟩
def c104_r0:List SOp:=[¤4(.assign (.const (.bool false)))]
def c104_r1:List SOp:=[¢6 1,⟨some 7,.call ⟨.builtin .len,#[.tmp 6],#[9]⟩,none⟩,¤8(.move £0)]
def c104_r2:List SOp:=[¤9(.binOp .lss 3 §8 §7 3)]
def c104_r3:List SOp:=[¢10 8,¤5(.assign §10)]
def c104_r4:List SOp:=[¢11 0,¢12 0,¤13(.nilCheck §12),¤14(.fieldAddr 136 §13 4),¤15(.load 3 §14),¢16 1,⟨some 17,.call ⟨.builtin .len,#[.tmp 16],#[9]⟩,none⟩,¤18(.binOp .sub 3 §15 §17 3),¢19 5,¤20(.binOp .add 3 §18 §19 3),¤21(.binOp .rem 3 §20 £16 3),¤22(.nilCheck §11),¤23(.fieldAddr 136 §22 5),¤24(.indexAddr 134 §23 §21),¤25(.load 5 §24),¢26 1,¢27 5,¤28(.index 9 §26 §27),¤29(.binOp .neq 5 §25 §28 5)]
def c104_r5:List SOp:=[¤4(.assign (.const (.bool false)))]
def c104_r6:List SOp:=[¤30(.binOp .add 3 §8 £1 3),¢8 30]
def c104_l2:SC:=(.seq (.reg c104_r2 none (some [0,1,7,8,9])) (.seq (.cond §9 .skip (.exit 0) (some [0,1,7,8])) (.seq (.block 1 (.seq (.reg c104_r3 none (some [0,1,5,7,8])) (.seq (.reg c104_r4 none (some [0,1,7,8,29])) (.cond §29 (.seq (.reg c104_r5 none (some [4])) .ret) .skip (some [0,1,7,8]))))) (.reg c104_r6 none (some [0,1,7,8])))))
def c104_r7:List SOp:=[¤4(.assign (.const (.bool true)))]
def c104:SC:=(.seq (.reg c104_r0 none (some [0,1])) (.seq (.seq (.reg c104_r1 none (some [0,1,7,8])) (.block 0 (.loop c104_l2 (some [0,1,7,8])))) (.seq (.reg c104_r7 none (some [4])) .ret)))
theorem c104_eq:∃code,Try.f104.body=some code/\compile H104 code=c104 :=⟨_,rfl,¥⟩
theorem c104_fn:Try.prog.funcs[104]?=some Try.f104:=¥
theorem c104_rs:Try.f104.results.toList=[.tmp 4]:=¥
theorem c104_ok:fnB Try.prog H104 Try.f104=true:=¥
theorem c104_nt:Try.f104.ntmps=31:=¥
def H106:Hint:=⟨[(7,[6]),(4,[1,7,8]),(6,[6]),(2000023,[1,7,8]),(5,[1,7,8,23]),(2000015,[1,7,8]),(3,[1,7,8,15]),(1000003,[1,7,8]),(2,[1,7,8]),(1,[1,7]),(0,[0,1,2])],[]⟩
def c106_r0:List SOp:=[¤6(.assign (.const (.bool false)))]
def c106_r1:List SOp:=[¢9 0,¢10 2,⟨some 11,.call ⟨.value (.func 107),#[.tmp 9,.tmp 10],#[42,9]⟩,none⟩,¤7(.assign §11)]
def c106_r2:List SOp:=[¤8(.assign £0)]
def c106_r3:List SOp:=[¢12 8,¢13 7,⟨some 14,.call ⟨.builtin .len,#[.tmp 13],#[30]⟩,none⟩,¤15(.binOp .lss 3 §12 §14 3)]
def c106_r5:List SOp:=[¢18 7,¢19 8,¤20(.indexAddr 30 §18 §19),¤21(.load 3 §20),¢22 1,¤23(.binOp .gtr 3 §21 §22 3)]
def c106_r6:List SOp:=[¤6(.assign (.const (.bool true)))]
def c106_r4:List SOp:=[¢16 8,¤17(.binOp .add 3 §16 £1 3),¤8(.assign §17)]
def c106_l3:SC:=(.seq (.seq (.reg c106_r3 none (some [1,7,8,15])) (.cond §15 .skip (.exit 0) (some [1,7,8]))) (.seq (.block 1 (.seq (.reg c106_r5 none (some [1,7,8,23])) (.cond §23 (.seq (.reg c106_r6 none (some [6])) .ret) .skip (some [1,7,8])))) (.reg c106_r4 none (some [1,7,8]))))
def c106_r7:List SOp:=[¤6(.assign (.const (.bool false)))]
def c106:SC:=(.seq (.reg c106_r0 none (some [0,1,2])) (.seq (.reg c106_r1 none (some [1,7])) (.seq (.seq (.reg c106_r2 none (some [1,7,8])) (.block 0 (.loop c106_l3 (some [1,7,8])))) (.seq (.reg c106_r7 none (some [6])) .ret))))
theorem c106_eq:∃code,Try.f106.body=some code/\compile H106 code=c106 :=⟨_,rfl,¥⟩
theorem c106_fn:Try.prog.funcs[106]?=some Try.f106:=¥
theorem c106_rs:Try.f106.results.toList=[.tmp 6]:=¥
theorem c106_ok:fnB Try.prog H106 Try.f106=true:=¥
theorem c106_nt:Try.f106.ntmps=24:=¥
def H107:Hint:=⟨[(18,[4]),(5,[0,1,5,6,7]),(17,[0,1,5,6,7]),(14,[0,1,5,6,7,8,9,10,11]),(16,[0,1,5,6,7,8,9,10,11]),(2000078,[0,1,5,6,7,8,9,10,11]),(15,[0,1,5,6,7,8,9,10,11,78]),(2000057,[0,1,5,6,7,8,9,10,11]),(13,[0,1,5,6,7,8,9,10,11,57]),(1000013,[0,1,5,6,7,8,9,10,11]),(12,[0,1,5,6,7,8,9,10,11]),(11,[0,1,5,6,7,8,9,10]),(2000053,[0,1,5,6,7,10]),(10,[0,1,5,6,7,8,9,10,53]),(9,[0,1,5,6,7,8,9,10]),(8,[0,1,5,6,7,8,9]),(7,[0,1,5,6,7,8]),(2000025,[0,1,5,6,7]),(6,[0,1,5,6,7,25]),(2000018,[0,1,5,6,7]),(4,[0,1,5,6,7,18]),(1000004,[0,1,5,6,7]),(3,[0,1,5,6,7]),(2,[0,1,5,6]),(1,[0,1,5]),(0,[0,1])],[]⟩
def c107_r0:List SOp:=[¤4(.assign (.const (.slice none 0 0)))]
def c107_r1:List SOp:=[¢12 0,¢13 1,⟨some 14,.call ⟨.value (.func 44),#[.tmp 12,.tmp 13],#[42,9]⟩,none⟩,¤5(.assign §14)]
def c107_r2:List SOp:=[¤6(.assign (.const (.slice none 0 0)))]
def c107_r3:List SOp:=[¤7(.assign £0)]
def c107_r4:List SOp:=[¢15 7,¢16 0,⟨some 17,.call ⟨.builtin .len,#[.tmp 16],#[42]⟩,none⟩,¤18(.binOp .lss 3 §15 §17 3)]
def c107_r6:List SOp:=[¢21 0,¢22 7,¤23(.indexAddr 42 §21 §22),¤24(.fieldAddr 52 §23 2),¤25(.load 4 §24)]
def c107_r7:List SOp:=[¢26 5,¢27 6,⟨some 28,.call ⟨.builtin .len,#[.tmp 27],#[30]⟩,none⟩,¤29(.indexAddr 44 §26 §28),¤30(.load 30 §29),¤8(.assign §30)]
def c107_r8:List SOp:=[¢31 0,¢32 7,⟨some 33,.call ⟨.value (.func 121),#[.tmp 31,.tmp 32],#[42,3]⟩,none⟩,¤9(.assign §33)]
def c107_r9:List SOp:=[¢34 8,⟨some 35,.call ⟨.builtin .len,#[.tmp 34],#[30]⟩,none⟩,⟨some 36,.call ⟨.builtin .min,#[§35,£1],#[3,3]⟩,none⟩,¤10(.assign §36)]
def c107_r10:List SOp:=[¢37 9,¤38(.binOp .geq 3 §37 £0 3),¢39 38,⟨some 40,.move §0,some (some 39,true)⟩,⟨some 41,.move §9,some (some 39,true)⟩,⟨some 42,.indexAddr 42 §40 §41,some (some 39,true)⟩,⟨some 43,.fieldAddr 52 §42 5,some (some 39,true)⟩,⟨some 44,.load 4 §43,some (some 39,true)⟩,¤45(.pick §39 §44 (.const (.bool false))),¢46 45,⟨some 47,.move §0,some (some 46,true)⟩,⟨some 48,.move §9,some (some 46,true)⟩,⟨some 49,.indexAddr 42 §47 §48,some (some 46,true)⟩,⟨some 50,.fieldAddr 52 §49 7,some (some 46,true)⟩,⟨some 51,.load 3 §50,some (some 46,true)⟩,⟨some 52,.binOp .gtr 3 §51 £0 3,some (some 46,true)⟩,¤53(.pick §46 §52 (.const (.bool false)))]
def c107_r11:List SOp:=[¤10(.assign £0)]
def c107_r12:List SOp:=[¤11(.assign £0)]
def c107_r13:List SOp:=[¢54 11,¢55 8,⟨some 56,.call ⟨.builtin .len,#[.tmp 55],#[30]⟩,none⟩,¤57(.binOp .lss 3 §54 §56 3)]
def c107_r15:List SOp:=[¢60 8,¢61 11,¤62(.indexAddr 30 §60 §61),¤63(.load 3 §62),¢64 0,¢65 9,¤66(.indexAddr 42 §64 §65),¤67(.fieldAddr 52 §66 6),¤68(.load 3 §67),¤69(.binOp .add 3 §63 §68 3),¢70 0,¢71 9,¤72(.indexAddr 42 §70 §71),¤73(.fieldAddr 52 §72 7),¤74(.load 3 §73),¤75(.binOp .add 3 §69 §74 3),¢76 1,⟨some 77,.call ⟨.builtin .len,#[.tmp 76],#[9]⟩,none⟩,¤78(.binOp .gtr 3 §75 §77 3)]
def c107_r16:List SOp:=[¢79 10,¤80(.binOp .add 3 §79 £1 3),¤10(.assign §80)]
def c107_r14:List SOp:=[¢58 11,¤59(.binOp .add 3 §58 £1 3),¤11(.assign §59)]
def c107_l13:SC:=(.seq (.seq (.reg c107_r13 none (some [0,1,5,6,7,8,9,10,11,57])) (.cond §57 .skip (.exit 2) (some [0,1,5,6,7,8,9,10,11]))) (.seq (.block 3 (.seq (.reg c107_r15 none (some [0,1,5,6,7,8,9,10,11,78])) (.cond §78 (.reg c107_r16 none (some [0,1,5,6,7,8,9,10,11])) .skip (some [0,1,5,6,7,8,9,10,11])))) (.reg c107_r14 none (some [0,1,5,6,7,8,9,10,11]))))
def c107_r17:List SOp:=[¢81 6,¢82 10,¤83(.buildSlice 30 1 #[(0,§82)]),⟨some 84,.call ⟨.builtin .append,#[.tmp 81,.tmp 83],#[30,30]⟩,none⟩,¤6(.assign §84)]
def c107_r5:List SOp:=[¢19 7,¤20(.binOp .add 3 §19 £1 3),¤7(.assign §20)]
def c107_l4:SC:=(.seq (.seq (.reg c107_r4 none (some [0,1,5,6,7,18])) (.cond §18 .skip (.exit 0) (some [0,1,5,6,7]))) (.seq (.block 1 (.seq (.seq (.reg c107_r6 none (some [0,1,5,6,7,25])) (.cond §25 (.exit 1) .skip (some [0,1,5,6,7]))) (.seq (.reg c107_r7 none (some [0,1,5,6,7,8])) (.seq (.reg c107_r8 none (some [0,1,5,6,7,8,9])) (.seq (.reg c107_r9 none (some [0,1,5,6,7,8,9,10])) (.seq (.seq (.reg c107_r10 none (some [0,1,5,6,7,8,9,10,53])) (.cond §53 (.seq (.reg c107_r11 none (some [0,1,5,6,7,8,9,10])) (.seq (.reg c107_r12 none (some [0,1,5,6,7,8,9,10,11])) (.block 2 (.loop c107_l13 (some [0,1,5,6,7,8,9,10,11]))))) .skip (some [0,1,5,6,7,10]))) (.reg c107_r17 none (some [0,1,5,6,7])))))))) (.reg c107_r5 none (some [0,1,5,6,7]))))
def c107_r18:List SOp:=[¢85 6,¤4(.assign §85)]
def c107:SC:=(.seq (.reg c107_r0 none (some [0,1])) (.seq (.reg c107_r1 none (some [0,1,5])) (.seq (.reg c107_r2 none (some [0,1,5,6])) (.seq (.seq (.reg c107_r3 none (some [0,1,5,6,7])) (.block 0 (.loop c107_l4 (some [0,1,5,6,7])))) (.seq (.reg c107_r18 none (some [4])) .ret)))))
theorem c107_eq:∃code,Try.f107.body=some code/\compile H107 code=c107 :=⟨_,rfl,¥⟩
theorem c107_fn:Try.prog.funcs[107]?=some Try.f107:=¥
theorem c107_rs:Try.f107.results.toList=[.tmp 4]:=¥
theorem c107_ok:fnB Try.prog H107 Try.f107=true:=¥
theorem c107_nt:Try.f107.ntmps=86:=¥
def H108:Hint:=⟨[(1,[4]),(0,[0,1,2])],[]⟩
def c108_r0:List SOp:=[¤4(.assign (.const (.bool false)))]
def c108_r1:List SOp:=[¢5 0,¤6(.nilCheck §5),¤7(.fieldAddr 147 §6 1),¤8(.load 3 §7),¤9(.load 68 §1),⟨some 10,.call ⟨.builtin .len,#[.tmp 9],#[68]⟩,none⟩,¤11(.binOp .lss 3 §8 §10 3),¢12 11,⟨some 13,.load 68 §1,some (some 12,true)⟩,⟨some 14,.move §0,some (some 12,true)⟩,⟨some 15,.nilCheck §14,some (some 12,true)⟩,⟨some 16,.fieldAddr 147 §15 1,some (some 12,true)⟩,⟨some 17,.load 3 §16,some (some 12,true)⟩,⟨some 18,.indexAddr 68 §13 §17,some (some 12,true)⟩,⟨some 19,.load 4 §18,some (some 12,true)⟩,¤20(.pick §12 §19 (.const (.bool false))),¢21 20,⟨some 22,.move §0,some (some 21,true)⟩,⟨some 23,.nilCheck §22,some (some 21,true)⟩,⟨some 24,.fieldAddr 147 §23 0,some (some 21,true)⟩,⟨some 25,.load 52 §24,some (some 21,true)⟩,⟨some 26,.load 84 §2,some (some 21,true)⟩,⟨some 27,.nilCheck §26,some (some 21,true)⟩,⟨some 28,.fieldAddr 144 §27 1,some (some 21,true)⟩,⟨some 29,.load 3 §28,some (some 21,true)⟩,⟨some 30,.call ⟨.value (.func 109),#[.tmp 25,.tmp 29],#[52,3]⟩,some (some 21,true)⟩,¤31(.pick §21 §30 (.const (.bool false))),¤4(.assign §31)]
def c108:SC:=(.seq (.reg c108_r0 none (some [0,1,2])) (.seq (.reg c108_r1 none (some [4])) .ret))
theorem c108_eq:∃code,Try.f108.body=some code/\compile H108 code=c108 :=⟨_,rfl,¥⟩
theorem c108_fn:Try.prog.funcs[108]?=some Try.f108:=¥
theorem c108_rs:Try.f108.results.toList=[.tmp 4]:=¥
theorem c108_ok:fnB Try.prog H108 Try.f108=true:=¥
theorem c108_nt:Try.f108.ntmps=32:=¥
def H109:Hint:=⟨[(1,[4]),(0,[1,2])],[]⟩
def c109_r0:List SOp:=[¤2(.box 52 §0),¤4(.assign (.const (.bool false)))]
def c109_r1:List SOp:=[¤5(.fieldAddr 52 §2 5),¤6(.load 4 §5),¢7 6,⟨some 8,.move §1,some (some 7,false)⟩,⟨some 9,.fieldAddr 52 §2 0,some (some 7,false)⟩,⟨some 10,.load 9 §9,some (some 7,false)⟩,⟨some 11,.call ⟨.builtin .len,#[.tmp 10],#[9]⟩,some (some 7,false)⟩,⟨some 12,.binOp .sub 3 §8 §11 3,some (some 7,false)⟩,⟨some 13,.fieldAddr 52 §2 3,some (some 7,false)⟩,⟨some 14,.load 3 §13,some (some 7,false)⟩,⟨some 15,.binOp .geq 3 §12 §14 3,some (some 7,false)⟩,⟨some 16,.move §15,some (some 7,false)⟩,⟨some 17,.fieldAddr 52 §2 4,some (some 16,true)⟩,⟨some 18,.load 3 §17,some (some 16,true)⟩,⟨some 19,.binOp .leq 3 §18 £0 3,some (some 16,true)⟩,⟨some 20,.move §19,some (some 16,true)⟩,⟨some 21,.move §1,some (some 20,false)⟩,⟨some 22,.fieldAddr 52 §2 3,some (some 20,false)⟩,⟨some 23,.load 3 §22,some (some 20,false)⟩,⟨some 24,.fieldAddr 52 §2 4,some (some 20,false)⟩,⟨some 25,.load 3 §24,some (some 20,false)⟩,⟨some 26,.binOp .add 3 §23 §25 3,some (some 20,false)⟩,⟨some 27,.binOp .leq 3 §21 §26 3,some (some 20,false)⟩,⟨some 28,.pick §20 (.const (.bool true)) §27,some (some 16,true)⟩,⟨some 29,.pick §16 §28 (.const (.bool false)),some (some 7,false)⟩,¤30(.pick §7 (.const (.bool true)) §29),¤4(.assign §30)]
def c109:SC:=(.seq (.reg c109_r0 none (some [1,2])) (.seq (.reg c109_r1 none (some [4])) .ret))
theorem c109_eq:∃code,Try.f109.body=some code/\compile H109 code=c109 :=⟨_,rfl,¥⟩
theorem c109_fn:Try.prog.funcs[109]?=some Try.f109:=¥
theorem c109_rs:Try.f109.results.toList=[.tmp 4]:=¥
theorem c109_ok:fnB Try.prog H109 Try.f109=true:=¥
theorem c109_nt:Try.f109.ntmps=31:=¥
def H110:Hint:=⟨[(8,[8]),(5,[0,2,3,9]),(7,[8]),(2000031,[0,2,3,9]),(6,[0,2,3,9,31]),(2000017,[0,2,3,9]),(4,[0,2,3,9,17]),(1000004,[0,2,3,9]),(3,[0,2,3,9]),(2,[8]),(2000011,[0,1,2,3]),(1,[0,1,2,3,11]),(0,[0,1,2,3])],[]⟩
def c110_r0:List SOp:=[¤8(.assign (.const (.bool false)))]
def c110_r1:List SOp:=[¢10 1,¤11(.binOp .eql 148 §10 (.const (.pointer none)) 148)]
def c110_r2:List SOp:=[¤8(.assign (.const (.bool false)))]
def c110_r3:List SOp:=[¢12 1,¤13(.nilCheck §12),¤14(.fieldAddr 147 §13 5),¤15(.load 145 §14),¤9(.assign §15)]
def c110_r4:List SOp:=[¢16 9,¤17(.binOp .neq 145 §16 (.const (.pointer none)) 145)]
def c110_r6:List SOp:=[¢22 0,¤23(.nilCheck §22),¤24(.fieldAddr 147 §23 0),¤25(.load 52 §24),¢26 3,¢27 9,¤28(.nilCheck §27),¤29(.fieldAddr 181 §28 0),¤30(.load 3 §29),⟨some 31,.call ⟨.value (.func 122),#[.tmp 25,.tmp 26,.tmp 30],#[52,3,3]⟩,none⟩]
def c110_r7:List SOp:=[¤8(.assign (.const (.bool true)))]
def c110_r5:List SOp:=[¢18 9,¤19(.nilCheck §18),¤20(.fieldAddr 181 §19 1),¤21(.load 145 §20),¤9(.assign §21)]
def c110_l4:SC:=(.seq (.seq (.reg c110_r4 none (some [0,2,3,9,17])) (.cond §17 .skip (.exit 0) (some [0,2,3,9]))) (.seq (.block 1 (.seq (.reg c110_r6 none (some [0,2,3,9,31])) (.cond §31 (.seq (.reg c110_r7 none (some [8])) .ret) .skip (some [0,2,3,9])))) (.reg c110_r5 none (some [0,2,3,9]))))
def c110_r8:List SOp:=[¢32 2,¢33 32,⟨some 34,.move §0,some (some 33,true)⟩,⟨some 35,.nilCheck §34,some (some 33,true)⟩,⟨some 36,.fieldAddr 147 §35 0,some (some 33,true)⟩,⟨some 37,.load 52 §36,some (some 33,true)⟩,⟨some 38,.move §3,some (some 33,true)⟩,⟨some 39,.move §3,some (some 33,true)⟩,⟨some 40,.call ⟨.value (.func 122),#[.tmp 37,.tmp 38,.tmp 39],#[52,3,3]⟩,some (some 33,true)⟩,¤41(.pick §33 §40 (.const (.bool false))),¤8(.assign §41)]
def c110:SC:=(.seq (.reg c110_r0 none (some [0,1,2,3])) (.seq (.seq (.reg c110_r1 none (some [0,1,2,3,11])) (.cond §11 (.seq (.reg c110_r2 none (some [8])) .ret) .skip (some [0,1,2,3]))) (.seq (.seq (.reg c110_r3 none (some [0,2,3,9])) (.block 0 (.loop c110_l4 (some [0,2,3,9])))) (.seq (.reg c110_r8 none (some [8])) .ret))))
theorem c110_eq:∃code,Try.f110.body=some code/\compile H110 code=c110 :=⟨_,rfl,¥⟩
theorem c110_fn:Try.prog.funcs[110]?=some Try.f110:=¥
theorem c110_rs:Try.f110.results.toList=[.tmp 8]:=¥
theorem c110_ok:fnB Try.prog H110 Try.f110=true:=¥
theorem c110_nt:Try.f110.ntmps=42:=¥
def H111:Hint:=⟨[(13,[]),(12,[0]),(2000091,[]),(11,[0,1,6,91]),(9,[0,1,2,6]),(8,[0,1,2,6]),(10,[0,1,2,6]),(2000060,[0,1,2,6]),(7,[0,1,2,6,60]),(2000047,[0,1,2,6]),(6,[0,1,2,6,47]),(1000006,[0,1,2,6]),(5,[0,1,2,6]),(4,[0,1,2,6]),(3,[]),(2000028,[]),(2,[0,1,28]),(2000020,[0,1,2]),(1,[0,1,2,20]),(0,[0,1,2])],[]⟩
def c111_r0:List SOp:=[¢7 0,¢8 0,¤9(.nilCheck §8),¤10(.fieldAddr 147 §9 7),¤11(.load 4 §10),¢12 11,⟨some 13,.move §2,some (some 12,false)⟩,¤14(.pick §12 (.const (.bool true)) §13),¤15(.nilCheck §7),¤16(.fieldAddr 147 §15 7),⟨none,.store 4 §16 §14,none⟩]
def c111_r1:List SOp:=[¢17 0,¤18(.nilCheck §17),¤19(.fieldAddr 147 §18 4),¤20(.load 4 §19)]
def c111_r2:List SOp:=[¢21 2,¢22 21,⟨some 23,.move §0,some (some 22,true)⟩,⟨some 24,.nilCheck §23,some (some 22,true)⟩,⟨some 25,.fieldAddr 147 §24 5,some (some 22,true)⟩,⟨some 26,.load 145 §25,some (some 22,true)⟩,⟨some 27,.binOp .eql 145 §26 (.const (.pointer none)) 145,some (some 22,true)⟩,¤28(.pick §22 §27 (.const (.bool false)))]
def c111_r3:List SOp:=[¢29 0,¢30 0,¢31 1,¤32(.build 181 #[(0,§31)]),¤33(.box 181 §32),¤34(.nilCheck §29),¤35(.fieldAddr 147 §34 5),⟨none,.store 145 §35 §33,none⟩,¤36(.nilCheck §30),¤37(.fieldAddr 147 §36 6),⟨none,.store 3 §37 £1,none⟩]
def c111_r4:List SOp:=[¢38 0,¤39(.nilCheck §38),¤40(.fieldAddr 147 §39 5),¤6(.assign §40)]
def c111_r5:List SOp:=[¢41 0,¤42(.nilCheck §41),¤43(.fieldAddr 147 §42 6),⟨none,.store 3 §43 £0,none⟩]
def c111_r6:List SOp:=[¢44 6,¤45(.nilCheck §44),¤46(.load 145 §45),¤47(.binOp .neq 145 §46 (.const (.pointer none)) 145)]
def c111_r7:List SOp:=[¢48 6,¤49(.nilCheck §48),¤50(.load 145 §49),¤51(.nilCheck §50),¤52(.fieldAddr 181 §51 0),¤53(.load 3 §52),¢54 0,¤55(.nilCheck §54),¤56(.fieldAddr 147 §55 3),¤57(.load 3 §56),¤58(.binOp .add 3 §53 §57 3),¢59 1,¤60(.binOp .gtr 3 §58 §59 3)]
def c111_r8:List SOp:=[¢61 6,¤62(.nilCheck §61),¤63(.load 145 §62),¤64(.nilCheck §63),¤65(.fieldAddr 181 §64 1),¤6(.assign §65)]
def c111_r9:List SOp:=[¢66 0,¤67(.nilCheck §66),¤68(.fieldAddr 147 §67 6),¤69(.load 3 §68),¤70(.binOp .add 3 §69 £1 3),¤71(.nilCheck §66),¤72(.fieldAddr 147 §71 6),⟨none,.store 3 §72 §70,none⟩]
def c111_r10:List SOp:=[¢73 6,¢74 6,¤75(.nilCheck §74),¤76(.load 145 §75),¤77(.nilCheck §76),¤78(.fieldAddr 181 §77 1),¤79(.load 145 §78),¤80(.nilCheck §73),⟨none,.store 145 §80 §79,none⟩]
def c111_l6:SC:=(.seq (.seq (.reg c111_r6 none (some [0,1,2,6,47])) (.cond §47 .skip (.exit 0) (some [0,1,2,6]))) (.block 1 (.seq (.reg c111_r7 none (some [0,1,2,6,60])) (.cond §60 (.seq (.reg c111_r8 none (some [0,1,2,6])) (.reg c111_r9 none (some [0,1,2,6]))) (.reg c111_r10 none (some [0,1,2,6])) (some [0,1,2,6])))))
def c111_r11:List SOp:=[¢81 2,¢82 81,⟨some 83,.move §1,some (some 82,true)⟩,⟨some 84,.move §0,some (some 82,true)⟩,⟨some 85,.nilCheck §84,some (some 82,true)⟩,⟨some 86,.fieldAddr 147 §85 3,some (some 82,true)⟩,⟨some 87,.load 3 §86,some (some 82,true)⟩,⟨some 88,.binOp .add 3 §83 §87 3,some (some 82,true)⟩,⟨some 89,.move §1,some (some 82,true)⟩,⟨some 90,.binOp .gtr 3 §88 §89 3,some (some 82,true)⟩,¤91(.pick §82 §90 (.const (.bool false)))]
def c111_r12:List SOp:=[¢92 6,¢93 1,¤94(.build 181 #[(0,§93)]),¤95(.box 181 §94),¤96(.nilCheck §92),⟨none,.store 145 §96 §95,none⟩]
def c111_r13:List SOp:=[¢97 0,¤98(.nilCheck §97),¤99(.fieldAddr 147 §98 6),¤100(.load 3 §99),¤101(.binOp .add 3 §100 £1 3),¤102(.nilCheck §97),¤103(.fieldAddr 147 §102 6),⟨none,.store 3 §103 §101,none⟩]
def c111:SC:=(.seq (.reg c111_r0 none (some [0,1,2])) (.seq (.seq (.reg c111_r1 none (some [0,1,2,20])) (.cond §20 (.seq (.seq (.reg c111_r2 none (some [0,1,28])) (.cond §28 (.reg c111_r3 none (some [])) .skip (some []))) .ret) .skip (some [0,1,2]))) (.seq (.reg c111_r4 none (some [0,1,2,6])) (.seq (.reg c111_r5 none (some [0,1,2,6])) (.seq (.block 0 (.loop c111_l6 (some [0,1,2,6]))) (.seq (.reg c111_r11 none (some [0,1,6,91])) (.cond §91 (.seq (.reg c111_r12 none (some [0])) (.reg c111_r13 none (some []))) .skip (some []))))))))
theorem c111_eq:∃code,Try.f111.body=some code/\compile H111 code=c111 :=⟨_,rfl,¥⟩
theorem c111_fn:Try.prog.funcs[111]?=some Try.f111:=¥
theorem c111_rs:Try.f111.results.toList=[]:=¥
theorem c111_ok:fnB Try.prog H111 Try.f111=true:=¥
theorem c111_nt:Try.f111.ntmps=104:=¥
def H112:Hint:=⟨[(15,[2]),(6,[1,2,3,4]),(14,[1,2,3,4]),(2000082,[1,2,3,4]),(13,[1,2,3,4,82]),(10,[1,2,3,4,5,6]),(12,[1,2,3,4,5,6]),(11,[1,2,3,4,5,6,7]),(2000026,[1,2,3,4,5,6]),(9,[1,2,3,4,5,6,26]),(1000009,[1,2,3,4,5,6]),(8,[1,2,3,4,5,6]),(7,[1,2,3,4,5]),(2000019,[1,2,3,4]),(5,[1,2,3,4,19]),(1000005,[1,2,3,4]),(4,[1,2,3,4]),(3,[1,2,3]),(2,[2]),(2000010,[1,2]),(1,[1,2,10]),(0,[1,2])],[(14,[(1,14),(3,14),(7,14),(17,14),(21,14)])]⟩
def c112_r0:List SOp:=[¤1(.box 102 §0),¤2(.alloc 102)]
def c112_r1:List SOp:=[¤8(.load 102 §1),⟨some 9,.call ⟨.value (.func 123),#[.tmp 8],#[102]⟩,none⟩,¤10(.unOp .not 4 §9)]
def c112_r2:List SOp:=[¤11(.build 102 #[]),⟨none,.store 102 §2 §11,none⟩]
def c112_r3:List SOp:=[¤12(.fieldAddr 102 §1 0),¤13(.load 4 §12),¤14(.build 102 #[(0,§13)]),¤3(.alloc 102),⟨none,.store 102 §3 §14,none⟩]
def c112_r4:List SOp:=[¤4(.assign £0)]
def c112_r5:List SOp:=[¢15 4,¤16(.fieldAddr 102 §1 1),¤17(.load 100 §16),⟨some 18,.call ⟨.builtin .len,#[.tmp 17],#[100]⟩,none⟩,¤19(.binOp .lss 3 §15 §18 3)]
def c112_r7:List SOp:=[¤5(.assign (.const (.bool false)))]
def c112_r8:List SOp:=[¤6(.assign £0)]
def c112_r9:List SOp:=[¢22 6,¤23(.fieldAddr 102 §1 1),¤24(.load 100 §23),⟨some 25,.call ⟨.builtin .len,#[.tmp 24],#[100]⟩,none⟩,¤26(.binOp .lss 3 §22 §25 3)]
def c112_r11:List SOp:=[¤29(.fieldAddr 102 §1 1),¤30(.load 100 §29),¢31 4,¤32(.indexAddr 100 §30 §31),¤33(.load 158 §32),¤34(.fieldAddr 102 §1 1),¤35(.load 100 §34),¢36 6,¤37(.indexAddr 100 §35 §36),¤38(.load 158 §37),⟨some 39,.call ⟨.value (.func 124),#[.tmp 33,.tmp 38],#[158,158]⟩,none⟩,¢40 39,⟨some 41,.fieldAddr 102 §1 1,some (some 40,true)⟩,⟨some 42,.load 100 §41,some (some 40,true)⟩,⟨some 43,.move §6,some (some 40,true)⟩,⟨some 44,.indexAddr 100 §42 §43,some (some 40,true)⟩,⟨some 45,.load 158 §44,some (some 40,true)⟩,⟨some 46,.fieldAddr 102 §1 1,some (some 40,true)⟩,⟨some 47,.load 100 §46,some (some 40,true)⟩,⟨some 48,.move §4,some (some 40,true)⟩,⟨some 49,.indexAddr 100 §47 §48,some (some 40,true)⟩,⟨some 50,.load 158 §49,some (some 40,true)⟩,⟨some 51,.call ⟨.value (.func 124),#[.tmp 45,.tmp 50],#[158,158]⟩,some (some 40,true)⟩,¤52(.pick §40 §51 (.const (.bool false))),¤7(.assign §52)]
def c112_r12:List SOp:=[¢53 5,¢54 53,⟨some 55,.move §6,some (some 54,false)⟩,⟨some 56,.move §4,some (some 54,false)⟩,⟨some 57,.binOp .neq 3 §55 §56 3,some (some 54,false)⟩,⟨some 58,.move §57,some (some 54,false)⟩,⟨some 59,.fieldAddr 102 §1 1,some (some 58,true)⟩,⟨some 60,.load 100 §59,some (some 58,true)⟩,⟨some 61,.move §6,some (some 58,true)⟩,⟨some 62,.indexAddr 100 §60 §61,some (some 58,true)⟩,⟨some 63,.load 158 §62,some (some 58,true)⟩,⟨some 64,.fieldAddr 102 §1 1,some (some 58,true)⟩,⟨some 65,.load 100 §64,some (some 58,true)⟩,⟨some 66,.move §4,some (some 58,true)⟩,⟨some 67,.indexAddr 100 §65 §66,some (some 58,true)⟩,⟨some 68,.load 158 §67,some (some 58,true)⟩,⟨some 69,.call ⟨.value (.func 124),#[.tmp 63,.tmp 68],#[158,158]⟩,some (some 58,true)⟩,⟨some 70,.pick §58 §69 (.const (.bool false)),some (some 54,false)⟩,⟨some 71,.move §70,some (some 54,false)⟩,⟨some 72,.move §7,some (some 71,true)⟩,⟨some 73,.unOp .not 4 §72,some (some 71,true)⟩,⟨some 74,.move §73,some (some 71,true)⟩,⟨some 75,.move §6,some (some 74,false)⟩,⟨some 76,.move §4,some (some 74,false)⟩,⟨some 77,.binOp .lss 3 §75 §76 3,some (some 74,false)⟩,⟨some 78,.pick §74 (.const (.bool true)) §77,some (some 71,true)⟩,⟨some 79,.pick §71 §78 (.const (.bool false)),some (some 54,false)⟩,¤80(.pick §54 (.const (.bool true)) §79),¤5(.assign §80)]
def c112_r10:List SOp:=[¢27 6,¤28(.binOp .add 3 §27 £1 3),¤6(.assign §28)]
def c112_l9:SC:=(.seq (.seq (.reg c112_r9 none (some [1,2,3,4,5,6,26])) (.cond §26 .skip (.exit 2) (some [1,2,3,4,5,6]))) (.seq (.block 3 (.seq (.reg c112_r11 none (some [1,2,3,4,5,6,7])) (.reg c112_r12 none (some [1,2,3,4,5,6])))) (.reg c112_r10 none (some [1,2,3,4,5,6]))))
def c112_r13:List SOp:=[¢81 5,¤82(.unOp .not 4 §81)]
def c112_r14:List SOp:=[¤83(.fieldAddr 102 §3 1),¤84(.load 100 §83),¤85(.fieldAddr 102 §1 1),¤86(.load 100 §85),¢87 4,¤88(.indexAddr 100 §86 §87),¤89(.fieldAddr 158 §88 0),¤90(.load 156 §89),¤91(.fieldAddr 102 §1 1),¤92(.load 100 §91),¢93 4,¤94(.indexAddr 100 §92 §93),¤95(.fieldAddr 158 §94 1),¤96(.load 3 §95),⟨some 97,.call ⟨.value (.func 125),#[.tmp 96],#[3]⟩,none⟩,¤98(.binOp .and 156 §90 §97 156),¤99(.fieldAddr 102 §1 1),¤100(.load 100 §99),¢101 4,¤102(.indexAddr 100 §100 §101),¤103(.fieldAddr 158 §102 1),¤104(.load 3 §103),¤105(.build 158 #[(0,§98),(1,§104)]),¤106(.buildSlice 100 1 #[(0,§105)]),⟨some 107,.call ⟨.builtin .append,#[.tmp 84,.tmp 106],#[100,100]⟩,none⟩,¤108(.fieldAddr 102 §3 1),⟨none,.store 100 §108 §107,none⟩]
def c112_r6:List SOp:=[¢20 4,¤21(.binOp .add 3 §20 £1 3),¤4(.assign §21)]
def c112_l5:SC:=(.seq (.seq (.reg c112_r5 none (some [1,2,3,4,19])) (.cond §19 .skip (.exit 0) (some [1,2,3,4]))) (.seq (.block 1 (.seq (.reg c112_r7 none (some [1,2,3,4,5])) (.seq (.seq (.reg c112_r8 none (some [1,2,3,4,5,6])) (.block 2 (.loop c112_l9 (some [1,2,3,4,5,6])))) (.seq (.reg c112_r13 none (some [1,2,3,4,82])) (.cond §82 (.reg c112_r14 (some [(1,14),(3,14),(7,14),(17,14),(21,14)]) (some [1,2,3,4])) .skip (some [1,2,3,4])))))) (.reg c112_r6 none (some [1,2,3,4]))))
def c112_r15:List SOp:=[¤109(.load 102 §3),⟨none,.store 102 §2 §109,none⟩]
def c112:SC:=(.seq (.reg c112_r0 none (some [1,2])) (.seq (.seq (.reg c112_r1 none (some [1,2,10])) (.cond §10 (.seq (.reg c112_r2 none (some [2])) .ret) .skip (some [1,2]))) (.seq (.reg c112_r3 none (some [1,2,3])) (.seq (.seq (.reg c112_r4 none (some [1,2,3,4])) (.block 0 (.loop c112_l5 (some [1,2,3,4])))) (.seq (.reg c112_r15 none (some [2])) .ret)))))
theorem c112_eq:∃code,Try.f112.body=some code/\compile H112 code=c112 :=⟨_,rfl,¥⟩
theorem c112_fn:Try.prog.funcs[112]?=some Try.f112:=¥
theorem c112_rs:Try.f112.results.toList=[.cell 2 102]:=¥
theorem c112_ok:fnB Try.prog H112 Try.f112=true:=¥
theorem c112_nt:Try.f112.ntmps=110:=¥
def H114:Hint:=⟨[(1,[2]),(0,[0])],[]⟩
def c114_r0:List SOp:=[¤2(.assign (.const (.bool false)))]
def c114_r1:List SOp:=[¢3 0,¤4(.nilCheck §3),¤5(.fieldAddr 166 §4 1),¤6(.load 84 §5),⟨some 7,.call ⟨.value (.func 76),#[.tmp 6],#[84]⟩,none⟩,¤2(.assign §7)]
def c114:SC:=(.seq (.reg c114_r0 none (some [0])) (.seq (.reg c114_r1 none (some [2])) .ret))
theorem c114_eq:∃code,Try.f114.body=some code/\compile H114 code=c114 :=⟨_,rfl,¥⟩
theorem c114_fn:Try.prog.funcs[114]?=some Try.f114:=¥
theorem c114_rs:Try.f114.results.toList=[.tmp 2]:=¥
theorem c114_ok:fnB Try.prog H114 Try.f114=true:=¥
theorem c114_nt:Try.f114.ntmps=8:=¥
def H115:Hint:=⟨[(8,[2]),(7,[3,6,7,8]),(6,[3,6,7,8]),(2000015,[3,6,7,8]),(5,[3,5,6,7,8,15]),(4,[3,5,6,7,8]),(2000009,[3,6,7,8]),(3,[3,6,7,8,9]),(1000003,[3,6,7,8]),(2,[3,6,7,8]),(1,[0,3]),(0,[0])],[]⟩
def c115_r0:List SOp:=[¤2(.assign £0)]
def c115_r1:List SOp:=[¤3(.assign £0)]
def c115_r2:List SOp:=[¢6 0,⟨some 7,.call ⟨.builtin .len,#[.tmp 6],#[94]⟩,none⟩,¤8(.move £0)]
def c115_r3:List SOp:=[¤9(.binOp .lss 3 §8 §7 3)]
def c115_r4:List SOp:=[¤10(.indexAddr 94 §6 §8),¤11(.load 99 §10),¤5(.alloc 99),⟨none,.store 99 §5 §11,none⟩]
def c115_r5:List SOp:=[¤12(.fieldAddr 99 §5 3),¤13(.load 3 §12),¢14 3,⟨some 15,.call ⟨.value (.func 78),#[.tmp 13,.tmp 14],#[3,3]⟩,none⟩]
def c115_r6:List SOp:=[¤16(.fieldAddr 99 §5 3),¤17(.load 3 §16),¤3(.assign §17)]
def c115_r7:List SOp:=[¤18(.binOp .add 3 §8 £1 3),¢8 18]
def c115_l3:SC:=(.seq (.reg c115_r3 none (some [3,6,7,8,9])) (.seq (.cond §9 .skip (.exit 0) (some [3,6,7,8])) (.seq (.block 1 (.seq (.reg c115_r4 none (some [3,5,6,7,8])) (.seq (.reg c115_r5 none (some [3,5,6,7,8,15])) (.cond §15 (.reg c115_r6 none (some [3,6,7,8])) .skip (some [3,6,7,8]))))) (.reg c115_r7 none (some [3,6,7,8])))))
def c115_r8:List SOp:=[¢19 3,¤2(.assign §19)]
def c115:SC:=(.seq (.reg c115_r0 none (some [0])) (.seq (.reg c115_r1 none (some [0,3])) (.seq (.seq (.reg c115_r2 none (some [3,6,7,8])) (.block 0 (.loop c115_l3 (some [3,6,7,8])))) (.seq (.reg c115_r8 none (some [2])) .ret))))
theorem c115_eq:∃code,Try.f115.body=some code/\compile H115 code=c115 :=⟨_,rfl,¥⟩
theorem c115_fn:Try.prog.funcs[115]?=some Try.f115:=¥
theorem c115_rs:Try.f115.results.toList=[.tmp 2]:=¥
theorem c115_ok:fnB Try.prog H115 Try.f115=true:=¥
theorem c115_nt:Try.f115.ntmps=20:=¥
def H116:Hint:=⟨[(2,[2]),(1,[0]),(0,[0])],[]⟩
def c116_r0:List SOp:=[¤2(.assign (.const (.bool false)))]
def c116_r1:List SOp:=[¢3 0,¤4(.nilCheck §3),¤5(.fieldAddr 166 §4 1),¤6(.load 84 §5),¢7 0,¤8(.nilCheck §7),¤9(.fieldAddr 166 §8 2),¤10(.load 68 §9),⟨some 11,.call ⟨.value (.func 73),#[.tmp 6,.tmp 10],#[84,68]⟩,none⟩]
def c116_r2:List SOp:=[¢12 0,¤13(.nilCheck §12),¤14(.fieldAddr 166 §13 1),¤15(.load 84 §14),⟨some 16,.call ⟨.value (.func 76),#[.tmp 15],#[84]⟩,none⟩,¤2(.assign §16)]
def c116:SC:=(.seq (.reg c116_r0 none (some [0])) (.seq (.reg c116_r1 none (some [0])) (.seq (.reg c116_r2 none (some [2])) .ret)))
theorem c116_eq:∃code,Try.f116.body=some code/\compile H116 code=c116 :=⟨_,rfl,¥⟩
theorem c116_fn:Try.prog.funcs[116]?=some Try.f116:=¥
theorem c116_rs:Try.f116.results.toList=[.tmp 2]:=¥
theorem c116_ok:fnB Try.prog H116 Try.f116=true:=¥
theorem c116_nt:Try.f116.ntmps=17:=¥
def H117:Hint:=⟨[(1,[2]),(0,[1])],[]⟩
def c117_r0:List SOp:=[¤1(.box 91 §0),¤2(.assign (.const .nilFunc))]
def c117_r1:List SOp:=[¤3(.makeFunc (.func 126) #[] #[.tmp 1]),¤2(.assign §3)]
def c117:SC:=(.seq (.reg c117_r0 none (some [1])) (.seq (.reg c117_r1 none (some [2])) .ret))
theorem c117_eq:∃code,Try.f117.body=some code/\compile H117 code=c117 :=⟨_,rfl,¥⟩
theorem c117_fn:Try.prog.funcs[117]?=some Try.f117:=¥
theorem c117_rs:Try.f117.results.toList=[.tmp 2]:=¥
theorem c117_ok:fnB Try.prog H117 Try.f117=true:=¥
theorem c117_nt:Try.f117.ntmps=4:=¥
end Go.AM
