/-
  Printed by program (wip/tools/print.sh): compiled code.
-/
import Derived.Test.YtamidpfdiijjgaaP27AMb
import Derived.Test.YtamidpfdiijjgaaProg
namespace Go.AM
open Go Go.Proofs
set_option maxRecDepth 100000
def H118:Hint:=⟨[(17,[2,3]),(16,[4,5]),(15,[4]),(2000113,[4,5]),(14,[0,4,5,113]),(5,[0,4,5,6,7]),(13,[0,4,5,6,7]),(2000106,[0,4,5,6,7]),(12,[0,4,5,6,7,106]),(11,[0,4,5,6,7,8]),(10,[0,4,5,6,7,8]),(9,[0,4,5,6,7,8]),(2000047,[0,4,5,6,7,8]),(8,[0,4,5,6,7,8,47]),(2000041,[0,4,5,6,7,8]),(7,[0,4,5,6,7,8,41]),(6,[0,4,5,6,7,8]),(2000015,[0,4,5,6,7]),(4,[0,4,5,6,7,15]),(1000004,[0,4,5,6,7]),(3,[0,4,5,6,7]),(2,[0,4,5,6]),(1,[0,4]),(0,[0])],[]⟩
def c118_r0:List SOp:=[sO 2 (.assign (.const (.slice none 0 0))),sO 3 (.assign (kI 0))]
def c118_r1:List SOp:=[sO 4 (.assign (.const (.slice none 0 0)))]
def c118_r2:List SOp:=[sO 5 (.assign (kI 0)),sO 6 (.assign (.const (.bool false)))]
def c118_r3:List SOp:=[sO 7 (.assign (kI 0))]
def c118_r4:List SOp:=[mV 9 7,mV 10 0,nI 11 10,fD 12 176 11 0,lD 13 89 12,⟨some 14,.call ⟨.builtin .len,#[.tmp 13],#[89]⟩,none⟩,sO 15 (.binOp .lss 3 (tM 9) (tM 14) 3)]
def c118_r6:List SOp:=[mV 18 0,nI 19 18,fD 20 176 19 0,lD 21 89 20,mV 22 7,iX 23 89 21 22,fD 24 107 23 8,lD 25 42 24,aS 8 25]
def c118_r7:List SOp:=[mV 26 0,nI 27 26,fD 28 176 27 3,lD 29 68 28,mV 30 7,iX 31 68 29 30,lD 32 4 31,mV 33 32,⟨some 34,.move (tM 0),some (some 33,false)⟩,⟨some 35,.nilCheck (tM 34),some (some 33,false)⟩,⟨some 36,.fieldAddr 176 (tM 35) 4,some (some 33,false)⟩,⟨some 37,.load 68 (tM 36),some (some 33,false)⟩,⟨some 38,.move (tM 7),some (some 33,false)⟩,⟨some 39,.indexAddr 68 (tM 37) (tM 38),some (some 33,false)⟩,⟨some 40,.load 4 (tM 39),some (some 33,false)⟩,sO 41 (.pick (tM 33) (.const (.bool true)) (tM 40))]
def c118_r8:List SOp:=[mV 42 8,mV 43 0,nI 44 43,fD 45 176 44 2,lD 46 9 45,⟨some 47,.call ⟨.value (.func 48),#[.tmp 42,.tmp 46],#[42,9]⟩,none⟩]
def c118_r9:List SOp:=[mV 48 0,nI 49 48,fD 50 176 49 3,lD 51 68 50,mV 52 7,iX 53 68 51 52,⟨none,.store 4 (tM 53) (.const (.bool true)),none⟩]
def c118_r10:List SOp:=[mV 54 4,mV 55 0,nI 56 55,fD 57 176 56 0,lD 58 89 57,mV 59 7,iX 60 89 58 59,fD 61 107 60 9,lD 62 3 61,mV 63 0,nI 64 63,fD 65 176 64 2,lD 66 9 65,⟨some 67,.call ⟨.builtin .len,#[.tmp 66],#[9]⟩,none⟩,mV 68 0,nI 69 68,fD 70 176 69 0,lD 71 89 70,mV 72 7,iX 73 89 71 72,fD 74 107 73 0,lD 75 3 74,sO 76 (.build 99 #[(0,(tM 62)),(2,(tM 67)),(3,(tM 75))]),sO 77 (.buildSlice 94 1 #[(0,(tM 76))]),⟨some 78,.call ⟨.builtin .append,#[.tmp 54,.tmp 77],#[94,94]⟩,none⟩,aS 4 78]
def c118_r11:List SOp:=[mV 79 5,mV 80 0,nI 81 80,fD 82 176 81 0,lD 83 89 82,mV 84 7,iX 85 89 83 84,fD 86 107 85 0,lD 87 3 86,⟨some 88,.call ⟨.builtin .max,#[.tmp 79,.tmp 87],#[3,3]⟩,none⟩,aS 5 88]
def c118_r12:List SOp:=[mV 89 0,nI 90 89,fD 91 176 90 2,lD 92 9 91,⟨some 93,.call ⟨.builtin .len,#[.tmp 92],#[9]⟩,none⟩,sO 94 (.binOp .gtr 3 (tM 93) (kI 0) 3),mV 95 94,⟨some 96,.move (tM 8),some (some 95,true)⟩,⟨some 97,.move (tM 0),some (some 95,true)⟩,⟨some 98,.nilCheck (tM 97),some (some 95,true)⟩,⟨some 99,.fieldAddr 176 (tM 98) 1,some (some 95,true)⟩,⟨some 100,.load 3 (tM 99),some (some 95,true)⟩,⟨some 101,.move (tM 0),some (some 95,true)⟩,⟨some 102,.nilCheck (tM 101),some (some 95,true)⟩,⟨some 103,.fieldAddr 176 (tM 102) 2,some (some 95,true)⟩,⟨some 104,.load 9 (tM 103),some (some 95,true)⟩,⟨some 105,.call ⟨.value (.func 106),#[.tmp 96,.tmp 100,.tmp 104],#[42,3,9]⟩,some (some 95,true)⟩,sO 106 (.pick (tM 95) (tM 105) (.const (.bool false)))]
def c118_r13:List SOp:=[mV 107 0,nI 108 107,fD 109 176 108 4,lD 110 68 109,mV 111 7,iX 112 68 110 111,⟨none,.store 4 (tM 112) (.const (.bool true)),none⟩,sO 6 (.assign (.const (.bool true)))]
def c118_r5:List SOp:=[mV 16 7,sO 17 (.binOp .add 3 (tM 16) (kI 1) 3),aS 7 17]
def c118_l4:SC:=(.seq (.seq (.reg c118_r4 none (some [0,4,5,6,7,15])) (.cond (.tmp 15) .skip (.exit 0) (some [0,4,5,6,7]))) (.seq (.block 1 (.seq (.reg c118_r6 none (some [0,4,5,6,7,8])) (.seq (.seq (.reg c118_r7 none (some [0,4,5,6,7,8,41])) (.cond (.tmp 41) (.exit 1) .skip (some [0,4,5,6,7,8]))) (.seq (.seq (.reg c118_r8 none (some [0,4,5,6,7,8,47])) (.cond (.tmp 47) (.seq (.reg c118_r9 none (some [0,4,5,6,7,8])) (.seq (.reg c118_r10 none (some [0,4,5,6,7,8])) (.reg c118_r11 none (some [0,4,5,6,7,8])))) .skip (some [0,4,5,6,7,8]))) (.seq (.reg c118_r12 none (some [0,4,5,6,7,106])) (.cond (.tmp 106) (.reg c118_r13 none (some [0,4,5,6,7])) .skip (some [0,4,5,6,7]))))))) (.reg c118_r5 none (some [0,4,5,6,7]))))
def c118_r14:List SOp:=[mV 113 6]
def c118_r15:List SOp:=[mV 114 4,mV 115 0,nI 116 115,fD 117 176 116 2,lD 118 9 117,⟨some 119,.call ⟨.builtin .len,#[.tmp 118],#[9]⟩,none⟩,sO 120 (.build 99 #[(2,(tM 119)),(3,(kI 4))]),sO 121 (.buildSlice 94 1 #[(0,(tM 120))]),⟨some 122,.call ⟨.builtin .append,#[.tmp 114,.tmp 121],#[94,94]⟩,none⟩,aS 4 122]
def c118_r16:List SOp:=[sO 5 (.assign (kI 4))]
def c118_r17:List SOp:=[mV 123 4,mV 124 5,aS 2 123,aS 3 124]
def c118:SC:=(.seq (.reg c118_r0 none (some [0])) (.seq (.reg c118_r1 none (some [0,4])) (.seq (.reg c118_r2 none (some [0,4,5,6])) (.seq (.seq (.reg c118_r3 none (some [0,4,5,6,7])) (.block 0 (.loop c118_l4 (some [0,4,5,6,7])))) (.seq (.seq (.reg c118_r14 none (some [0,4,5,113])) (.cond (.tmp 113) (.seq (.reg c118_r15 none (some [4])) (.reg c118_r16 none (some [4,5]))) .skip (some [4,5]))) (.seq (.reg c118_r17 none (some [2,3])) .ret))))))
theorem c118_eq:∃code,Try.f118.body=some code/\compile H118 code=c118 :=⟨_,rfl,by kernel_rfl⟩
theorem c118_fn:Try.prog.funcs[118]?=some Try.f118:=by kernel_rfl
theorem c118_rs:Try.f118.results.toList=[.tmp 2,.tmp 3]:=by kernel_rfl
theorem c118_ok:fnB Try.prog H118 Try.f118=true:=by kernel_rfl
theorem c118_nt:Try.f118.ntmps=125:=by kernel_rfl
def H121:Hint:=⟨[(6,[4]),(3,[0,5]),(5,[4]),(2000019,[0,5]),(4,[0,5,19]),(2000011,[0,5]),(2,[0,5,11]),(1000002,[0,5]),(1,[0,5]),(0,[0,1])],[]⟩
def c121_r0:List SOp:=[sO 4 (.assign (kI 0))]
def c121_r1:List SOp:=[mV 6 1,sO 7 (.binOp .add 3 (tM 6) (kI 1) 3),aS 5 7]
def c121_r2:List SOp:=[mV 8 5,mV 9 0,⟨some 10,.call ⟨.builtin .len,#[.tmp 9],#[42]⟩,none⟩,sO 11 (.binOp .lss 3 (tM 8) (tM 10) 3)]
def c121_r4:List SOp:=[mV 14 0,mV 15 5,iX 16 42 14 15,fD 17 52 16 2,lD 18 4 17,sO 19 (.unOp .not 4 (tM 18))]
def c121_r5:List SOp:=[mV 20 5,aS 4 20]
def c121_r3:List SOp:=[mV 12 5,sO 13 (.binOp .add 3 (tM 12) (kI 1) 3),aS 5 13]
def c121_l2:SC:=(.seq (.seq (.reg c121_r2 none (some [0,5,11])) (.cond (.tmp 11) .skip (.exit 0) (some [0,5]))) (.seq (.block 1 (.seq (.reg c121_r4 none (some [0,5,19])) (.cond (.tmp 19) (.seq (.reg c121_r5 none (some [4])) .ret) .skip (some [0,5])))) (.reg c121_r3 none (some [0,5]))))
def c121_r6:List SOp:=[sO 4 (.assign (.const (.int .i64 (-1))))]
def c121:SC:=(.seq (.reg c121_r0 none (some [0,1])) (.seq (.seq (.reg c121_r1 none (some [0,5])) (.block 0 (.loop c121_l2 (some [0,5])))) (.seq (.reg c121_r6 none (some [4])) .ret)))
theorem c121_eq:∃code,Try.f121.body=some code/\compile H121 code=c121 :=⟨_,rfl,by kernel_rfl⟩
theorem c121_fn:Try.prog.funcs[121]?=some Try.f121:=by kernel_rfl
theorem c121_rs:Try.f121.results.toList=[.tmp 4]:=by kernel_rfl
theorem c121_ok:fnB Try.prog H121 Try.f121=true:=by kernel_rfl
theorem c121_nt:Try.f121.ntmps=21:=by kernel_rfl
def H122:Hint:=⟨[(2,[6]),(1,[1,3,7]),(0,[1,2,3])],[]⟩
def c122_r0:List SOp:=[sO 3 (.box 52 (tM 0)),sO 6 (.assign (.const (.bool false)))]
def c122_r1:List SOp:=[mV 8 2,fD 9 52 3 6,lD 10 3 9,sO 11 (.binOp .add 3 (tM 8) (tM 10) 3),aS 7 11]
def c122_r2:List SOp:=[mV 12 1,fD 13 52 3 0,lD 14 9 13,⟨some 15,.call ⟨.builtin .len,#[.tmp 14],#[9]⟩,none⟩,sO 16 (.binOp .sub 3 (tM 12) (tM 15) 3),mV 17 7,sO 18 (.binOp .geq 3 (tM 16) (tM 17) 3),mV 19 18,⟨some 20,.fieldAddr 52 (tM 3) 7,some (some 19,true)⟩,⟨some 21,.load 3 (tM 20),some (some 19,true)⟩,⟨some 22,.binOp .leq 3 (tM 21) (kI 0) 3,some (some 19,true)⟩,⟨some 23,.move (tM 22),some (some 19,true)⟩,⟨some 24,.move (tM 1),some (some 23,false)⟩,⟨some 25,.move (tM 7),some (some 23,false)⟩,⟨some 26,.fieldAddr 52 (tM 3) 7,some (some 23,false)⟩,⟨some 27,.load 3 (tM 26),some (some 23,false)⟩,⟨some 28,.binOp .add 3 (tM 25) (tM 27) 3,some (some 23,false)⟩,⟨some 29,.binOp .leq 3 (tM 24) (tM 28) 3,some (some 23,false)⟩,⟨some 30,.pick (tM 23) (.const (.bool true)) (tM 29),some (some 19,true)⟩,sO 31 (.pick (tM 19) (tM 30) (.const (.bool false))),aS 6 31]
def c122:SC:=(.seq (.reg c122_r0 none (some [1,2,3])) (.seq (.reg c122_r1 none (some [1,3,7])) (.seq (.reg c122_r2 none (some [6])) .ret)))
theorem c122_eq:∃code,Try.f122.body=some code/\compile H122 code=c122 :=⟨_,rfl,by kernel_rfl⟩
theorem c122_fn:Try.prog.funcs[122]?=some Try.f122:=by kernel_rfl
theorem c122_rs:Try.f122.results.toList=[.tmp 6]:=by kernel_rfl
theorem c122_ok:fnB Try.prog H122 Try.f122=true:=by kernel_rfl
theorem c122_nt:Try.f122.ntmps=32:=by kernel_rfl
def H123:Hint:=⟨[(6,[2]),(3,[1,3]),(5,[2]),(2000026,[1,3]),(4,[1,3,26]),(2000008,[1,3]),(2,[1,3,8]),(1000002,[1,3]),(1,[1,3]),(0,[1])],[]⟩
def c123_r0:List SOp:=[sO 1 (.box 102 (tM 0)),sO 2 (.assign (.const (.bool false)))]
def c123_r1:List SOp:=[sO 3 (.assign (kI 0))]
def c123_r2:List SOp:=[mV 4 3,fD 5 102 1 1,lD 6 100 5,⟨some 7,.call ⟨.builtin .len,#[.tmp 6],#[100]⟩,none⟩,sO 8 (.binOp .lss 3 (tM 4) (tM 7) 3)]
def c123_r4:List SOp:=[fD 11 102 1 1,lD 12 100 11,mV 13 3,iX 14 100 12 13,fD 15 158 14 1,lD 16 3 15,sO 17 (.binOp .lss 3 (tM 16) (kI 0) 3),mV 18 17,⟨some 19,.fieldAddr 102 (tM 1) 1,some (some 18,false)⟩,⟨some 20,.load 100 (tM 19),some (some 18,false)⟩,⟨some 21,.move (tM 3),some (some 18,false)⟩,⟨some 22,.indexAddr 100 (tM 20) (tM 21),some (some 18,false)⟩,⟨some 23,.fieldAddr 158 (tM 22) 1,some (some 18,false)⟩,⟨some 24,.load 3 (tM 23),some (some 18,false)⟩,⟨some 25,.binOp .gtr 3 (tM 24) (kI 32) 3,some (some 18,false)⟩,sO 26 (.pick (tM 18) (.const (.bool true)) (tM 25))]
def c123_r5:List SOp:=[sO 2 (.assign (.const (.bool false)))]
def c123_r3:List SOp:=[mV 9 3,sO 10 (.binOp .add 3 (tM 9) (kI 1) 3),aS 3 10]
def c123_l2:SC:=(.seq (.seq (.reg c123_r2 none (some [1,3,8])) (.cond (.tmp 8) .skip (.exit 0) (some [1,3]))) (.seq (.block 1 (.seq (.reg c123_r4 none (some [1,3,26])) (.cond (.tmp 26) (.seq (.reg c123_r5 none (some [2])) .ret) .skip (some [1,3])))) (.reg c123_r3 none (some [1,3]))))
def c123_r6:List SOp:=[fD 27 102 1 1,lD 28 100 27,⟨some 29,.call ⟨.builtin .len,#[.tmp 28],#[100]⟩,none⟩,sO 30 (.binOp .leq 3 (tM 29) (kI 4) 3),aS 2 30]
def c123:SC:=(.seq (.reg c123_r0 none (some [1])) (.seq (.seq (.reg c123_r1 none (some [1,3])) (.block 0 (.loop c123_l2 (some [1,3])))) (.seq (.reg c123_r6 none (some [2])) .ret)))
theorem c123_eq:∃code,Try.f123.body=some code/\compile H123 code=c123 :=⟨_,rfl,by kernel_rfl⟩
theorem c123_fn:Try.prog.funcs[123]?=some Try.f123:=by kernel_rfl
theorem c123_rs:Try.f123.results.toList=[.tmp 2]:=by kernel_rfl
theorem c123_ok:fnB Try.prog H123 Try.f123=true:=by kernel_rfl
theorem c123_nt:Try.f123.ntmps=31:=by kernel_rfl
def H124:Hint:=⟨[(1,[4]),(0,[2,3])],[]⟩
def c124_r0:List SOp:=[sO 2 (.box 158 (tM 0)),sO 3 (.box 158 (tM 1)),sO 4 (.assign (.const (.bool false)))]
def c124_r1:List SOp:=[fD 5 158 2 1,lD 6 3 5,fD 7 158 3 1,lD 8 3 7,sO 9 (.binOp .leq 3 (tM 6) (tM 8) 3),mV 10 9,⟨some 11,.load 158 (tM 2),some (some 10,true)⟩,⟨some 12,.fieldAddr 158 (tM 3) 0,some (some 10,true)⟩,⟨some 13,.load 156 (tM 12),some (some 10,true)⟩,⟨some 14,.call ⟨.value (.func 130),#[.tmp 11,.tmp 13],#[158,156]⟩,some (some 10,true)⟩,sO 15 (.pick (tM 10) (tM 14) (.const (.bool false))),aS 4 15]
def c124:SC:=(.seq (.reg c124_r0 none (some [2,3])) (.seq (.reg c124_r1 none (some [4])) .ret))
theorem c124_eq:∃code,Try.f124.body=some code/\compile H124 code=c124 :=⟨_,rfl,by kernel_rfl⟩
theorem c124_fn:Try.prog.funcs[124]?=some Try.f124:=by kernel_rfl
theorem c124_rs:Try.f124.results.toList=[.tmp 4]:=by kernel_rfl
theorem c124_ok:fnB Try.prog H124 Try.f124=true:=by kernel_rfl
theorem c124_nt:Try.f124.ntmps=16:=by kernel_rfl
def H125:Hint:=⟨[(3,[2]),(2,[2]),(2000004,[0]),(1,[0,4]),(0,[0])],[]⟩
def c125_r0:List SOp:=[sO 2 (.assign (.const (.int .u32 0)))]
def c125_r1:List SOp:=[mV 3 0,sO 4 (.binOp .leq 3 (tM 3) (kI 0) 3)]
def c125_r2:List SOp:=[sO 2 (.assign (.const (.int .u32 0)))]
def c125_r3:List SOp:=[mV 5 0,sO 6 (.binOp .sub 3 (kI 32) (tM 5) 3),sO 7 (.convert 3 188 (tM 6)),sO 8 (.binOp .shl 156 (.const (.int .u32 4294967295)) (tM 7) 188),aS 2 8]
def c125:SC:=(.seq (.reg c125_r0 none (some [0])) (.seq (.seq (.reg c125_r1 none (some [0,4])) (.cond (.tmp 4) (.seq (.reg c125_r2 none (some [2])) .ret) .skip (some [0]))) (.seq (.reg c125_r3 none (some [2])) .ret)))
theorem c125_eq:∃code,Try.f125.body=some code/\compile H125 code=c125 :=⟨_,rfl,by kernel_rfl⟩
theorem c125_fn:Try.prog.funcs[125]?=some Try.f125:=by kernel_rfl
theorem c125_rs:Try.f125.results.toList=[.tmp 2]:=by kernel_rfl
theorem c125_ok:fnB Try.prog H125 Try.f125=true:=by kernel_rfl
theorem c125_nt:Try.f125.ntmps=9:=by kernel_rfl
def H126:Hint:=⟨[(4,[0,8,9,10]),(2000024,[0,8,9,10]),(3,[0,8,9,10,24]),(2,[0,4,8,9,10]),(2000011,[0,8,9,10]),(1,[0,8,9,10,11]),(1000001,[0,8,9,10]),(0,[0,8,9,10])],[]⟩
def c126_r0:List SOp:=[lD 5 91 1,nI 6 5,fD 7 163 6 2,lD 8 161 7,⟨some 9,.call ⟨.builtin .len,#[.tmp 8],#[161]⟩,none⟩,sO 10 (.move (kI 0))]
def c126_r1:List SOp:=[sO 11 (.binOp .lss 3 (tM 10) (tM 9) 3)]
def c126_r2:List SOp:=[iX 12 161 8 10,lD 13 164 12,aS 4 13]
def c126_r3:List SOp:=[mV 14 4,nI 15 14,fD 16 166 15 3,lD 17 4 16,sO 18 (.unOp .not 4 (tM 17)),mV 19 18,⟨some 20,.move (tM 0),some (some 19,true)⟩,⟨some 21,.move (tM 4),some (some 19,true)⟩,⟨some 22,.call ⟨.value (tM 20),#[.tmp 21],#[164]⟩,some (some 19,true)⟩,⟨some 23,.unOp .not 4 (tM 22),some (some 19,true)⟩,sO 24 (.pick (tM 19) (tM 23) (.const (.bool false)))]
def c126_r4:List SOp:=[sO 25 (.binOp .add 3 (tM 10) (kI 1) 3),mV 10 25]
def c126_l1:SC:=(.seq (.reg c126_r1 none (some [0,8,9,10,11])) (.seq (.cond (.tmp 11) .skip (.exit 0) (some [0,8,9,10])) (.seq (.block 1 (.seq (.reg c126_r2 none (some [0,4,8,9,10])) (.seq (.reg c126_r3 none (some [0,8,9,10,24])) (.cond (.tmp 24) .ret .skip (some [0,8,9,10]))))) (.reg c126_r4 none (some [0,8,9,10])))))
def c126:SC:=(.seq (.reg c126_r0 none (some [0,8,9,10])) (.block 0 (.loop c126_l1 (some [0,8,9,10]))))
theorem c126_eq:∃code,Try.f126.body=some code/\compile H126 code=c126 :=⟨_,rfl,by kernel_rfl⟩
theorem c126_fn:Try.prog.funcs[126]?=some Try.f126:=by kernel_rfl
theorem c126_rs:Try.f126.results.toList=[]:=by kernel_rfl
theorem c126_ok:fnB Try.prog H126 Try.f126=true:=by kernel_rfl
theorem c126_nt:Try.f126.ntmps=26:=by kernel_rfl
def H130:Hint:=⟨[(1,[4]),(0,[1,2])],[(1,[(1,6)])]⟩
def c130_r0:List SOp:=[sO 2 (.box 158 (tM 0)),sO 4 (.assign (.const (.bool false)))]
def c130_r1:List SOp:=[fD 5 158 2 0,lD 6 156 5,mV 7 1,sO 8 (.binOp .xor 156 (tM 6) (tM 7) 156),fD 9 158 2 1,lD 10 3 9,⟨some 11,.call ⟨.value (.func 125),#[.tmp 10],#[3]⟩,none⟩,sO 12 (.binOp .and 156 (tM 8) (tM 11) 156),sO 13 (.binOp .eql 156 (tM 12) (.const (.int .u32 0)) 156),aS 4 13]
def c130:SC:=(.seq (.reg c130_r0 none (some [1,2])) (.seq (.reg c130_r1 (some [(1,6)]) (some [4])) .ret))
theorem c130_eq:∃code,Try.f130.body=some code/\compile H130 code=c130 :=⟨_,rfl,by kernel_rfl⟩
theorem c130_fn:Try.prog.funcs[130]?=some Try.f130:=by kernel_rfl
theorem c130_rs:Try.f130.results.toList=[.tmp 4]:=by kernel_rfl
theorem c130_ok:fnB Try.prog H130 Try.f130=true:=by kernel_rfl
theorem c130_nt:Try.f130.ntmps=14:=by kernel_rfl
end Go.AM
