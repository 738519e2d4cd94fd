/-
  Printed by program (wip/tools/print.sh): compiled code.
-/
import Derived.Test.YtamidpfdiijjgaaP27AMb
import Derived.Test.YtamidpfdiijjgaaProg
namespace Go.AM
open Go Go.Proofs
set_option maxRecDepth 100000
def H29:Hint:=⟨[(4,[4]),(3,[5]),(2000010,[5]),(2,[1,5,10]),(1,[1,5]),(0,[0,1])],[]⟩
def c29_r0:List SOp:=[sO 4 (.assign (kI 0))]
def c29_r1:List SOp:=[mV 6 0,mV 7 1,sO 8 (.binOp .rem 3 (tM 6) (tM 7) 3),aS 5 8]
def c29_r2:List SOp:=[mV 9 5,sO 10 (.binOp .lss 3 (tM 9) (kI 0) 3)]
def c29_r3:List SOp:=[mV 11 5,mV 12 1,sO 13 (.binOp .add 3 (tM 11) (tM 12) 3),aS 5 13]
def c29_r4:List SOp:=[mV 14 5,aS 4 14]
def c29:SC:=(.seq (.reg c29_r0 none (some [0,1])) (.seq (.reg c29_r1 none (some [1,5])) (.seq (.seq (.reg c29_r2 none (some [1,5,10])) (.cond (.tmp 10) (.reg c29_r3 none (some [5])) .skip (some [5]))) (.seq (.reg c29_r4 none (some [4])) .ret))))
theorem c29_eq:∃code,Try.f29.body=some code/\compile H29 code=c29 :=⟨_,rfl,by kernel_rfl⟩
theorem c29_fn:Try.prog.funcs[29]?=some Try.f29:=by kernel_rfl
theorem c29_rs:Try.f29.results.toList=[.tmp 4]:=by kernel_rfl
theorem c29_ok:fnB Try.prog H29 Try.f29=true:=by kernel_rfl
theorem c29_nt:Try.f29.ntmps=15:=by kernel_rfl
def H30:Hint:=⟨[(1,[0]),(0,[])],[]⟩
def c30_r0:List SOp:=[sO 0 (.assign (.const (.pointer none)))]
def c30_r1:List SOp:=[sO 1 (.makeMap 113 none),sO 2 (.makeSlice 114 (kI 1) (kI 1)),sO 3 (.makeSlice 44 (kI 1) (kI 1)),sO 4 (.makeSlice 30 (kI 1) (kI 1)),sO 5 (.build 116 #[(0,(tM 1)),(1,(tM 2)),(2,(tM 3)),(3,(tM 4))]),sO 6 (.box 116 (tM 5)),aS 0 6]
def c30:SC:=(.seq (.reg c30_r0 none (some [])) (.seq (.reg c30_r1 none (some [0])) .ret))
theorem c30_eq:∃code,Try.f30.body=some code/\compile H30 code=c30 :=⟨_,rfl,by kernel_rfl⟩
theorem c30_fn:Try.prog.funcs[30]?=some Try.f30:=by kernel_rfl
theorem c30_rs:Try.f30.results.toList=[.tmp 0]:=by kernel_rfl
theorem c30_ok:fnB Try.prog H30 Try.f30=true:=by kernel_rfl
theorem c30_nt:Try.f30.ntmps=7:=by kernel_rfl
def H31:Hint:=⟨[(15,[4]),(14,[0]),(13,[0]),(12,[0,5,16,17,18]),(11,[0,5,16,17,18]),(10,[0,9,16,17,18]),(9,[0,5,8,9,16,17,18]),(8,[0,5,8,9,16,17,18]),(2000035,[0,9,16,17,18]),(7,[0,5,8,9,16,17,18,35]),(6,[0,5,8,9,10,16,17,18]),(5,[0,5,8,16,17,18]),(4,[0,5,7,16,17,18]),(2000019,[0,5,16,17,18]),(3,[0,5,16,17,18,19]),(1000003,[0,5,16,17,18]),(2,[0,5,16,17,18]),(1,[0,1,5]),(0,[0,1])],[(10,[(13,8),(13,9),(19,8),(19,9),(19,14),(19,15),(23,8),(23,9),(23,14),(23,15),(26,8),(26,9),(26,14),(26,15)]),(13,[(3,17)])]⟩
def c31_r0:List SOp:=[sO 4 (.assign (kI 0))]
def c31_r1:List SOp:=[sO 5 (.assign (kI 0))]
def c31_r2:List SOp:=[mV 11 1,mV 12 1,⟨some 13,.call ⟨.builtin .len,#[.tmp 12],#[9]⟩,none⟩,⟨some 14,.call ⟨.builtin .min,#[(tM 13),(kI 16)],#[3,3]⟩,none⟩,sO 15 (.slice 9 (tM 11) none (some (tM 14)) none),sO 16 (.convert 9 25 (tM 15)),⟨some 17,.call ⟨.builtin .len,#[.tmp 16],#[25]⟩,none⟩,sO 18 (.move (kI 0))]
def c31_r3:List SOp:=[sO 19 (.binOp .lss 3 (tM 18) (tM 17) 3)]
def c31_r4:List SOp:=[iX 20 25 16 18,lD 21 5 20,aS 7 21]
def c31_r5:List SOp:=[mV 22 5,mV 23 7,sO 24 (.build 118 #[(0,(tM 22)),(1,(tM 23))]),sO 8 (.alloc 118),⟨none,.store 118 (tM 8) (tM 24),none⟩]
def c31_r6:List SOp:=[mV 26 0,nI 27 26,fD 28 116 27 0,lD 29 113 28,lD 30 118 8,sO 31 (.lookup 113 (tM 29) (tM 30) true),mV 25 31,sO 32 (.extract (tM 25) 0),sO 33 (.extract (tM 25) 1),aS 9 32,aS 10 33]
def c31_r7:List SOp:=[mV 34 10,sO 35 (.unOp .not 4 (tM 34))]
def c31_r8:List SOp:=[mV 36 0,nI 37 36,fD 38 116 37 1,lD 39 114 38,⟨some 40,.call ⟨.builtin .len,#[.tmp 39],#[114]⟩,none⟩,aS 9 40]
def c31_r9:List SOp:=[mV 41 0,nI 42 41,fD 43 116 42 0,lD 44 113 43,lD 45 118 8,mV 46 9,⟨none,.mapUpdate 113 (tM 44) (tM 45) (tM 46),none⟩]
def c31_r10:List SOp:=[mV 47 0,mV 48 0,mV 49 0,mV 50 0,nI 51 50,fD 52 116 51 1,lD 53 114 52,lD 54 118 8,sO 55 (.buildSlice 114 1 #[(0,(tM 54))]),⟨some 56,.call ⟨.builtin .append,#[.tmp 53,.tmp 55],#[114,114]⟩,none⟩,mV 57 0,nI 58 57,fD 59 116 58 2,lD 60 44 59,sO 61 (.buildSlice 44 1 #[(0,(.const (.slice none 0 0)))]),⟨some 62,.call ⟨.builtin .append,#[.tmp 60,.tmp 61],#[44,44]⟩,none⟩,mV 63 0,nI 64 63,fD 65 116 64 3,lD 66 30 65,mV 67 0,nI 68 67,fD 69 116 68 3,lD 70 30 69,mV 71 5,iX 72 30 70 71,lD 73 3 72,sO 74 (.binOp .add 3 (tM 73) (kI 1) 3),sO 75 (.buildSlice 30 1 #[(0,(tM 74))]),⟨some 76,.call ⟨.builtin .append,#[.tmp 66,.tmp 75],#[30,30]⟩,none⟩,nI 77 47,fD 78 116 77 1,⟨none,.store 114 (tM 78) (tM 56),none⟩,nI 79 48,fD 80 116 79 2,⟨none,.store 44 (tM 80) (tM 62),none⟩,nI 81 49,fD 82 116 81 3,⟨none,.store 30 (tM 82) (tM 76),none⟩]
def c31_r11:List SOp:=[mV 83 9,aS 5 83]
def c31_r12:List SOp:=[sO 84 (.binOp .add 3 (tM 18) (kI 1) 3),mV 18 84]
def c31_l3:SC:=(.seq (.reg c31_r3 none (some [0,5,16,17,18,19])) (.seq (.cond (.tmp 19) .skip (.exit 0) (some [0,5,16,17,18])) (.seq (.block 1 (.seq (.reg c31_r4 none (some [0,5,7,16,17,18])) (.seq (.reg c31_r5 none (some [0,5,8,16,17,18])) (.seq (.reg c31_r6 none (some [0,5,8,9,10,16,17,18])) (.seq (.seq (.reg c31_r7 none (some [0,5,8,9,16,17,18,35])) (.cond (.tmp 35) (.seq (.reg c31_r8 none (some [0,5,8,9,16,17,18])) (.seq (.reg c31_r9 none (some [0,5,8,9,16,17,18])) (.reg c31_r10 (some [(13,8),(13,9),(19,8),(19,9),(19,14),(19,15),(23,8),(23,9),(23,14),(23,15),(26,8),(26,9),(26,14),(26,15)]) (some [0,9,16,17,18])))) .skip (some [0,9,16,17,18]))) (.reg c31_r11 none (some [0,5,16,17,18]))))))) (.reg c31_r12 none (some [0,5,16,17,18])))))
def c31_r13:List SOp:=[mV 85 0,nI 86 85,fD 87 116 86 2,lD 88 44 87,mV 89 5,mV 90 0,nI 91 90,fD 92 116 91 2,lD 93 44 92,mV 94 5,iX 95 44 93 94,lD 96 30 95,mV 97 0,nI 98 97,fD 99 116 98 4,lD 100 3 99,sO 101 (.buildSlice 30 1 #[(0,(tM 100))]),⟨some 102,.call ⟨.builtin .append,#[.tmp 96,.tmp 101],#[30,30]⟩,none⟩,iX 103 44 88 89,⟨none,.store 30 (tM 103) (tM 102),none⟩]
def c31_r14:List SOp:=[mV 104 0,nI 105 104,fD 106 116 105 4,lD 107 3 106,sO 108 (.binOp .add 3 (tM 107) (kI 1) 3),nI 109 104,fD 110 116 109 4,⟨none,.store 3 (tM 110) (tM 108),none⟩]
def c31_r15:List SOp:=[mV 111 0,nI 112 111,fD 113 116 112 4,lD 114 3 113,sO 115 (.binOp .sub 3 (tM 114) (kI 1) 3),aS 4 115]
def c31:SC:=(.seq (.reg c31_r0 none (some [0,1])) (.seq (.reg c31_r1 none (some [0,1,5])) (.seq (.seq (.reg c31_r2 none (some [0,5,16,17,18])) (.block 0 (.loop c31_l3 (some [0,5,16,17,18])))) (.seq (.reg c31_r13 (some [(3,17)]) (some [0])) (.seq (.reg c31_r14 none (some [0])) (.seq (.reg c31_r15 none (some [4])) .ret))))))
theorem c31_eq:∃code,Try.f31.body=some code/\compile H31 code=c31 :=⟨_,rfl,by kernel_rfl⟩
theorem c31_fn:Try.prog.funcs[31]?=some Try.f31:=by kernel_rfl
theorem c31_rs:Try.f31.results.toList=[.tmp 4]:=by kernel_rfl
theorem c31_ok:fnB Try.prog H31 Try.f31=true:=by kernel_rfl
theorem c31_nt:Try.f31.ntmps=116:=by kernel_rfl
def H32:Hint:=⟨[(1,[2]),(0,[0])],[]⟩
def c32_r0:List SOp:=[sO 2 (.assign (kI 0))]
def c32_r1:List SOp:=[mV 3 0,nI 4 3,fD 5 116 4 1,lD 6 114 5,⟨some 7,.call ⟨.builtin .len,#[.tmp 6],#[114]⟩,none⟩,aS 2 7]
def c32:SC:=(.seq (.reg c32_r0 none (some [0])) (.seq (.reg c32_r1 none (some [2])) .ret))
theorem c32_eq:∃code,Try.f32.body=some code/\compile H32 code=c32 :=⟨_,rfl,by kernel_rfl⟩
theorem c32_fn:Try.prog.funcs[32]?=some Try.f32:=by kernel_rfl
theorem c32_rs:Try.f32.results.toList=[.tmp 2]:=by kernel_rfl
theorem c32_ok:fnB Try.prog H32 Try.f32=true:=by kernel_rfl
theorem c32_nt:Try.f32.ntmps=8:=by kernel_rfl
def H33:Hint:=⟨[(2,[6,7]),(1,[8,9]),(0,[0,1,2])],[]⟩
def c33_r0:List SOp:=[sO 6 (.assign (kI 0)),sO 7 (.assign (.const (.bool false)))]
def c33_r1:List SOp:=[mV 11 0,nI 12 11,fD 13 116 12 0,lD 14 113 13,mV 15 1,mV 16 2,sO 17 (.build 118 #[(0,(tM 15)),(1,(tM 16))]),sO 18 (.lookup 113 (tM 14) (tM 17) true),mV 10 18,sO 19 (.extract (tM 10) 0),sO 20 (.extract (tM 10) 1),aS 8 19,aS 9 20]
def c33_r2:List SOp:=[mV 21 8,mV 22 9,aS 6 21,aS 7 22]
def c33:SC:=(.seq (.reg c33_r0 none (some [0,1,2])) (.seq (.reg c33_r1 none (some [8,9])) (.seq (.reg c33_r2 none (some [6,7])) .ret)))
theorem c33_eq:∃code,Try.f33.body=some code/\compile H33 code=c33 :=⟨_,rfl,by kernel_rfl⟩
theorem c33_fn:Try.prog.funcs[33]?=some Try.f33:=by kernel_rfl
theorem c33_rs:Try.f33.results.toList=[.tmp 6,.tmp 7]:=by kernel_rfl
theorem c33_ok:fnB Try.prog H33 Try.f33=true:=by kernel_rfl
theorem c33_nt:Try.f33.ntmps=23:=by kernel_rfl
def H34:Hint:=⟨[(3,[4]),(2,[4]),(2000007,[0,1]),(1,[0,1,7]),(0,[0,1])],[]⟩
def c34_r0:List SOp:=[sO 4 (.assign (.const (.slice none 0 0)))]
def c34_r1:List SOp:=[mV 5 0,mV 6 1,⟨some 7,.call ⟨.value (.func 92),#[.tmp 5,.tmp 6],#[23,3]⟩,none⟩]
def c34_r2:List SOp:=[sO 4 (.assign (.const (.slice none 0 0)))]
def c34_r3:List SOp:=[mV 8 0,nI 9 8,fD 10 116 9 2,lD 11 44 10,mV 12 1,iX 13 44 11 12,lD 14 30 13,⟨some 15,.call ⟨.value (.func 93),#[.tmp 14],#[30]⟩,none⟩,aS 4 15]
def c34:SC:=(.seq (.reg c34_r0 none (some [0,1])) (.seq (.seq (.reg c34_r1 none (some [0,1,7])) (.cond (.tmp 7) (.seq (.reg c34_r2 none (some [4])) .ret) .skip (some [0,1]))) (.seq (.reg c34_r3 none (some [4])) .ret)))
theorem c34_eq:∃code,Try.f34.body=some code/\compile H34 code=c34 :=⟨_,rfl,by kernel_rfl⟩
theorem c34_fn:Try.prog.funcs[34]?=some Try.f34:=by kernel_rfl
theorem c34_rs:Try.f34.results.toList=[.tmp 4]:=by kernel_rfl
theorem c34_ok:fnB Try.prog H34 Try.f34=true:=by kernel_rfl
theorem c34_nt:Try.f34.ntmps=16:=by kernel_rfl
def H44:Hint:=⟨[(20,[4]),(4,[0,1,5,6]),(19,[0,1,5,6]),(9,[0,1,5,6,7,8]),(18,[0,1,5,6,7,8]),(2000081,[0,1,5,6,7,8]),(17,[0,1,5,6,7,8,81]),(15,[0,1,5,6,7,8,9,10]),(16,[0,1,5,6,7,8,9,10]),(2000060,[0,1,5,6,7,8,9,10]),(14,[0,1,5,6,7,8,9,10,60]),(1000014,[0,1,5,6,7,8,9,10]),(13,[0,1,5,6,7,8,9,10]),(2000051,[0,1,5,6,7,8,9]),(12,[0,1,5,6,7,8,9,51]),(11,[0,1,5,6,7,8,9]),(2000035,[0,1,5,6,7,8]),(10,[0,1,5,6,7,8,35]),(2000025,[0,1,5,6,7,8]),(8,[0,1,5,6,7,8,25]),(1000008,[0,1,5,6,7,8]),(7,[0,1,5,6,7,8]),(6,[0,1,5,6,7]),(2000021,[0,1,5,6]),(5,[0,1,5,6,21]),(2000014,[0,1,5,6]),(3,[0,1,5,6,14]),(1000003,[0,1,5,6]),(2,[0,1,5,6]),(1,[0,1,5]),(0,[0,1])],[]⟩
def c44_r0:List SOp:=[sO 4 (.assign (.const (.slice none 0 0)))]
def c44_r1:List SOp:=[sO 5 (.assign (.const (.slice none 0 0)))]
def c44_r2:List SOp:=[sO 6 (.assign (kI 0))]
def c44_r3:List SOp:=[mV 11 6,mV 12 0,⟨some 13,.call ⟨.builtin .len,#[.tmp 12],#[42]⟩,none⟩,sO 14 (.binOp .lss 3 (tM 11) (tM 13) 3)]
def c44_r5:List SOp:=[mV 17 0,mV 18 6,iX 19 42 17 18,fD 20 52 19 2,lD 21 4 20]
def c44_r6:List SOp:=[sO 7 (.assign (.const (.slice none 0 0)))]
def c44_r7:List SOp:=[sO 8 (.assign (kI 0))]
def c44_r8:List SOp:=[mV 22 8,mV 23 1,⟨some 24,.call ⟨.builtin .len,#[.tmp 23],#[9]⟩,none⟩,sO 25 (.binOp .leq 3 (tM 22) (tM 24) 3)]
def c44_r10:List SOp:=[mV 28 0,mV 29 6,iX 30 42 28 29,lD 31 52 30,mV 32 1,mV 33 8,⟨some 34,.call ⟨.value (.func 96),#[.tmp 31,.tmp 32,.tmp 33],#[52,9,3]⟩,none⟩,sO 35 (.unOp .not 4 (tM 34))]
def c44_r11:List SOp:=[mV 36 0,mV 37 6,iX 38 42 36 37,fD 39 52 38 5,lD 40 4 39,sO 41 (.unOp .not 4 (tM 40)),aS 9 41]
def c44_r12:List SOp:=[mV 42 0,mV 43 6,iX 44 42 42 43,fD 45 52 44 5,lD 46 4 45,mV 47 46,⟨some 48,.move (tM 5),some (some 47,true)⟩,⟨some 49,.call ⟨.builtin .len,#[.tmp 48],#[44]⟩,some (some 47,true)⟩,⟨some 50,.binOp .gtr 3 (tM 49) (kI 0) 3,some (some 47,true)⟩,sO 51 (.pick (tM 47) (tM 50) (.const (.bool false)))]
def c44_r13:List SOp:=[sO 10 (.assign (kI 0))]
def c44_r14:List SOp:=[mV 52 10,mV 53 5,mV 54 5,⟨some 55,.call ⟨.builtin .len,#[.tmp 54],#[44]⟩,none⟩,sO 56 (.binOp .sub 3 (tM 55) (kI 1) 3),iX 57 44 53 56,lD 58 30 57,⟨some 59,.call ⟨.builtin .len,#[.tmp 58],#[30]⟩,none⟩,sO 60 (.binOp .lss 3 (tM 52) (tM 59) 3)]
def c44_r16:List SOp:=[mV 63 9,mV 64 63,⟨some 65,.move (tM 0),some (some 64,false)⟩,⟨some 66,.move (tM 6),some (some 64,false)⟩,⟨some 67,.indexAddr 42 (tM 65) (tM 66),some (some 64,false)⟩,⟨some 68,.load 52 (tM 67),some (some 64,false)⟩,⟨some 69,.move (tM 5),some (some 64,false)⟩,⟨some 70,.move (tM 5),some (some 64,false)⟩,⟨some 71,.call ⟨.builtin .len,#[.tmp 70],#[44]⟩,some (some 64,false)⟩,⟨some 72,.binOp .sub 3 (tM 71) (kI 1) 3,some (some 64,false)⟩,⟨some 73,.indexAddr 44 (tM 69) (tM 72),some (some 64,false)⟩,⟨some 74,.load 30 (tM 73),some (some 64,false)⟩,⟨some 75,.move (tM 10),some (some 64,false)⟩,⟨some 76,.indexAddr 30 (tM 74) (tM 75),some (some 64,false)⟩,⟨some 77,.load 3 (tM 76),some (some 64,false)⟩,⟨some 78,.move (tM 8),some (some 64,false)⟩,⟨some 79,.call ⟨.value (.func 97),#[.tmp 68,.tmp 77,.tmp 78],#[52,3,3]⟩,some (some 64,false)⟩,sO 80 (.pick (tM 64) (.const (.bool true)) (tM 79)),aS 9 80]
def c44_r15:List SOp:=[mV 61 10,sO 62 (.binOp .add 3 (tM 61) (kI 1) 3),aS 10 62]
def c44_l14:SC:=(.seq (.seq (.reg c44_r14 none (some [0,1,5,6,7,8,9,10,60])) (.cond (.tmp 60) .skip (.exit 4) (some [0,1,5,6,7,8,9,10]))) (.seq (.block 5 (.reg c44_r16 none (some [0,1,5,6,7,8,9,10]))) (.reg c44_r15 none (some [0,1,5,6,7,8,9,10]))))
def c44_r17:List SOp:=[mV 81 9]
def c44_r18:List SOp:=[mV 82 7,mV 83 8,sO 84 (.buildSlice 30 1 #[(0,(tM 83))]),⟨some 85,.call ⟨.builtin .append,#[.tmp 82,.tmp 84],#[30,30]⟩,none⟩,aS 7 85]
def c44_r9:List SOp:=[mV 26 8,sO 27 (.binOp .add 3 (tM 26) (kI 1) 3),aS 8 27]
def c44_l8:SC:=(.seq (.seq (.reg c44_r8 none (some [0,1,5,6,7,8,25])) (.cond (.tmp 25) .skip (.exit 2) (some [0,1,5,6,7,8]))) (.seq (.block 3 (.seq (.seq (.reg c44_r10 none (some [0,1,5,6,7,8,35])) (.cond (.tmp 35) (.exit 3) .skip (some [0,1,5,6,7,8]))) (.seq (.reg c44_r11 none (some [0,1,5,6,7,8,9])) (.seq (.seq (.reg c44_r12 none (some [0,1,5,6,7,8,9,51])) (.cond (.tmp 51) (.seq (.reg c44_r13 none (some [0,1,5,6,7,8,9,10])) (.block 4 (.loop c44_l14 (some [0,1,5,6,7,8,9,10])))) .skip (some [0,1,5,6,7,8,9]))) (.seq (.reg c44_r17 none (some [0,1,5,6,7,8,81])) (.cond (.tmp 81) (.reg c44_r18 none (some [0,1,5,6,7,8])) .skip (some [0,1,5,6,7,8]))))))) (.reg c44_r9 none (some [0,1,5,6,7,8]))))
def c44_r19:List SOp:=[mV 86 5,mV 87 7,sO 88 (.buildSlice 44 1 #[(0,(tM 87))]),⟨some 89,.call ⟨.builtin .append,#[.tmp 86,.tmp 88],#[44,44]⟩,none⟩,aS 5 89]
def c44_r4:List SOp:=[mV 15 6,sO 16 (.binOp .add 3 (tM 15) (kI 1) 3),aS 6 16]
def c44_l3:SC:=(.seq (.seq (.reg c44_r3 none (some [0,1,5,6,14])) (.cond (.tmp 14) .skip (.exit 0) (some [0,1,5,6]))) (.seq (.block 1 (.seq (.seq (.reg c44_r5 none (some [0,1,5,6,21])) (.cond (.tmp 21) (.exit 1) .skip (some [0,1,5,6]))) (.seq (.reg c44_r6 none (some [0,1,5,6,7])) (.seq (.seq (.reg c44_r7 none (some [0,1,5,6,7,8])) (.block 2 (.loop c44_l8 (some [0,1,5,6,7,8])))) (.reg c44_r19 none (some [0,1,5,6])))))) (.reg c44_r4 none (some [0,1,5,6]))))
def c44_r20:List SOp:=[mV 90 5,aS 4 90]
def c44:SC:=(.seq (.reg c44_r0 none (some [0,1])) (.seq (.reg c44_r1 none (some [0,1,5])) (.seq (.seq (.reg c44_r2 none (some [0,1,5,6])) (.block 0 (.loop c44_l3 (some [0,1,5,6])))) (.seq (.reg c44_r20 none (some [4])) .ret))))
theorem c44_eq:∃code,Try.f44.body=some code/\compile H44 code=c44 :=⟨_,rfl,by kernel_rfl⟩
theorem c44_fn:Try.prog.funcs[44]?=some Try.f44:=by kernel_rfl
theorem c44_rs:Try.f44.results.toList=[.tmp 4]:=by kernel_rfl
theorem c44_ok:fnB Try.prog H44 Try.f44=true:=by kernel_rfl
theorem c44_nt:Try.f44.ntmps=91:=by kernel_rfl
def H48:Hint:=⟨[(7,[4]),(4,[0,1,5,6]),(6,[4]),(2000021,[0,1,5,6]),(5,[0,1,5,6,21]),(2000013,[0,1,5,6]),(3,[0,1,5,6,13]),(1000003,[0,1,5,6]),(2,[0,1,5,6]),(1,[0,1,5]),(0,[0,1])],[]⟩
def c48_r0:List SOp:=[sO 4 (.assign (.const (.bool false)))]
def c48_r1:List SOp:=[mV 7 0,mV 8 1,⟨some 9,.call ⟨.value (.func 44),#[.tmp 7,.tmp 8],#[42,9]⟩,none⟩,aS 5 9]
def c48_r2:List SOp:=[sO 6 (.assign (kI 0))]
def c48_r3:List SOp:=[mV 10 6,mV 11 5,⟨some 12,.call ⟨.builtin .len,#[.tmp 11],#[44]⟩,none⟩,sO 13 (.binOp .lss 3 (tM 10) (tM 12) 3)]
def c48_r5:List SOp:=[mV 16 5,mV 17 6,iX 18 44 16 17,lD 19 30 18,⟨some 20,.call ⟨.builtin .len,#[.tmp 19],#[30]⟩,none⟩,sO 21 (.binOp .eql 3 (tM 20) (kI 0) 3)]
def c48_r6:List SOp:=[sO 4 (.assign (.const (.bool false)))]
def c48_r4:List SOp:=[mV 14 6,sO 15 (.binOp .add 3 (tM 14) (kI 1) 3),aS 6 15]
def c48_l3:SC:=(.seq (.seq (.reg c48_r3 none (some [0,1,5,6,13])) (.cond (.tmp 13) .skip (.exit 0) (some [0,1,5,6]))) (.seq (.block 1 (.seq (.reg c48_r5 none (some [0,1,5,6,21])) (.cond (.tmp 21) (.seq (.reg c48_r6 none (some [4])) .ret) .skip (some [0,1,5,6])))) (.reg c48_r4 none (some [0,1,5,6]))))
def c48_r7:List SOp:=[mV 22 0,mV 23 1,⟨some 24,.call ⟨.value (.func 99),#[.tmp 22,.tmp 23],#[42,9]⟩,none⟩,aS 4 24]
def c48:SC:=(.seq (.reg c48_r0 none (some [0,1])) (.seq (.reg c48_r1 none (some [0,1,5])) (.seq (.seq (.reg c48_r2 none (some [0,1,5,6])) (.block 0 (.loop c48_l3 (some [0,1,5,6])))) (.seq (.reg c48_r7 none (some [4])) .ret))))
theorem c48_eq:∃code,Try.f48.body=some code/\compile H48 code=c48 :=⟨_,rfl,by kernel_rfl⟩
theorem c48_fn:Try.prog.funcs[48]?=some Try.f48:=by kernel_rfl
theorem c48_rs:Try.f48.results.toList=[.tmp 4]:=by kernel_rfl
theorem c48_ok:fnB Try.prog H48 Try.f48=true:=by kernel_rfl
theorem c48_nt:Try.f48.ntmps=25:=by kernel_rfl
def H49:Hint:=⟨[(25,[2]),(4,[0,3,4]),(24,[0,3,4]),(14,[0,3,4,6]),(19,[0,3,4,6]),(2000078,[0,3,4,6]),(18,[0,3,4,5,6,78]),(17,[0,3,4,5,6]),(16,[0,3,4,5,6]),(21,[0,3,4,6]),(23,[0,3,4,6]),(2000094,[0,3,4,6]),(22,[0,3,4,5,6,94]),(2000087,[0,3,4,6]),(20,[0,3,4,5,6,9,87]),(2000063,[0,3,4,6]),(15,[0,3,4,5,6,9,63]),(2000059,[0,3,4,6]),(13,[0,3,4,5,6,7,9,59]),(12,[0,3,4,5,6,7,9]),(10,[0,3,4,5,6,7,8]),(11,[0,3,4,5,6,7,8]),(2000044,[0,3,4,5,6,7,8]),(9,[0,3,4,5,6,7,8,44]),(1000009,[0,3,4,5,6,7,8]),(8,[0,3,4,5,6,7,8]),(7,[0,3,4,5,6,7]),(6,[0,3,4,5,6]),(5,[0,3,4,5]),(2000017,[0,3,4]),(3,[0,3,4,17]),(1000003,[0,3,4]),(2,[0,3,4]),(1,[0,3]),(0,[0])],[]⟩
def c49_r0:List SOp:=[sO 2 (.assign (.const (.slice none 0 0)))]
def c49_r1:List SOp:=[sO 3 (.assign (.const (.slice none 0 0)))]
def c49_r2:List SOp:=[sO 4 (.assign (kI 0))]
def c49_r3:List SOp:=[mV 10 4,mV 11 0,⟨some 12,.call ⟨.builtin .len,#[.tmp 11],#[30]⟩,none⟩,sO 13 (.binOp .lss 3 (tM 10) (tM 12) 3),mV 14 13,⟨some 15,.move (tM 4),some (some 14,true)⟩,⟨some 16,.binOp .lss 3 (tM 15) (kI 3) 3,some (some 14,true)⟩,sO 17 (.pick (tM 14) (tM 16) (.const (.bool false)))]
def c49_r5:List SOp:=[mV 20 0,mV 21 4,iX 22 30 20 21,lD 23 3 22,⟨some 24,.call ⟨.value (.func 29),#[(tM 23),(kI 16777216)],#[3,3]⟩,none⟩,aS 5 24]
def c49_r6:List SOp:=[mV 25 5,sO 26 (.binOp .quo 3 (tM 25) (kI 7) 3),mV 27 5,sO 28 (.binOp .quo 3 (tM 27) (kI 31) 3),mV 29 5,sO 30 (.binOp .quo 3 (tM 29) (kI 101) 3),sO 31 (.buildSlice 30 3 #[(0,(tM 26)),(1,(tM 28)),(2,(tM 30))]),mV 32 5,sO 33 (.binOp .rem 3 (tM 32) (kI 3) 3),sO 34 (.binOp .add 3 (kI 1) (tM 33) 3),⟨some 35,.call ⟨.value (.func 50),#[.tmp 31,.tmp 34],#[30,3]⟩,none⟩,mV 36 5,sO 37 (.binOp .quo 3 (tM 36) (kI 3) 3),sO 38 (.binOp .rem 3 (tM 37) (kI 3) 3),sO 39 (.binOp .eql 3 (tM 38) (kI 0) 3),sO 40 (.build 52 #[(0,(tM 35)),(1,(tM 39))]),sO 6 (.alloc 52),⟨none,.store 52 (tM 6) (tM 40),none⟩]
def c49_r7:List SOp:=[sO 7 (.assign (.const (.bool false)))]
def c49_r8:List SOp:=[sO 8 (.assign (kI 0))]
def c49_r9:List SOp:=[mV 41 8,mV 42 3,⟨some 43,.call ⟨.builtin .len,#[.tmp 42],#[42]⟩,none⟩,sO 44 (.binOp .lss 3 (tM 41) (tM 43) 3)]
def c49_r11:List SOp:=[mV 47 7,mV 48 47,⟨some 49,.move (tM 3),some (some 48,false)⟩,⟨some 50,.move (tM 8),some (some 48,false)⟩,⟨some 51,.indexAddr 42 (tM 49) (tM 50),some (some 48,false)⟩,⟨some 52,.fieldAddr 52 (tM 51) 2,some (some 48,false)⟩,⟨some 53,.load 4 (tM 52),some (some 48,false)⟩,⟨some 54,.unOp .not 4 (tM 53),some (some 48,false)⟩,sO 55 (.pick (tM 48) (.const (.bool true)) (tM 54)),aS 7 55]
def c49_r10:List SOp:=[mV 45 8,sO 46 (.binOp .add 3 (tM 45) (kI 1) 3),aS 8 46]
def c49_l9:SC:=(.seq (.seq (.reg c49_r9 none (some [0,3,4,5,6,7,8,44])) (.cond (.tmp 44) .skip (.exit 2) (some [0,3,4,5,6,7,8]))) (.seq (.block 3 (.reg c49_r11 none (some [0,3,4,5,6,7,8]))) (.reg c49_r10 none (some [0,3,4,5,6,7,8]))))
def c49_r12:List SOp:=[mV 56 5,sO 57 (.binOp .quo 3 (tM 56) (kI 9) 3),sO 58 (.binOp .rem 3 (tM 57) (kI 8) 3),aS 9 58]
def c49_r13:List SOp:=[mV 60 9,sO 61 (.binOp .eql 3 (tM 60) (kI 0) 3),aS 59 61]
def c49_r14:List SOp:=[fD 62 52 6 2,⟨none,.store 4 (tM 62) (.const (.bool true)),none⟩]
def c49_r15:List SOp:=[mV 64 9,sO 65 (.binOp .lss 3 (tM 64) (kI 4) 3),mV 66 65,⟨some 67,.move (tM 7),some (some 66,true)⟩,sO 68 (.pick (tM 66) (tM 67) (.const (.bool false))),aS 63 68]
def c49_r16:List SOp:=[fD 69 52 6 5,⟨none,.store 4 (tM 69) (.const (.bool true)),none⟩]
def c49_r17:List SOp:=[mV 70 5,sO 71 (.binOp .quo 3 (tM 70) (kI 72) 3),sO 72 (.binOp .rem 3 (tM 71) (kI 8) 3),sO 73 (.binOp .sub 3 (tM 72) (kI 3) 3),fD 74 52 6 6,⟨none,.store 3 (tM 74) (tM 73),none⟩]
def c49_r18:List SOp:=[mV 75 5,sO 76 (.binOp .quo 3 (tM 75) (kI 576) 3),sO 77 (.binOp .rem 3 (tM 76) (kI 2) 3),sO 78 (.binOp .eql 3 (tM 77) (kI 0) 3)]
def c49_r19:List SOp:=[fD 79 52 6 0,lD 80 9 79,⟨some 81,.call ⟨.builtin .len,#[.tmp 80],#[9]⟩,none⟩,mV 82 5,sO 83 (.binOp .quo 3 (tM 82) (kI 1152) 3),sO 84 (.binOp .rem 3 (tM 83) (kI 6) 3),sO 85 (.binOp .add 3 (tM 81) (tM 84) 3),fD 86 52 6 7,⟨none,.store 3 (tM 86) (tM 85),none⟩]
def c49_r20:List SOp:=[mV 88 9,sO 89 (.binOp .eql 3 (tM 88) (kI 4) 3),aS 87 89]
def c49_r21:List SOp:=[mV 90 5,sO 91 (.binOp .quo 3 (tM 90) (kI 72) 3),sO 92 (.binOp .rem 3 (tM 91) (kI 5) 3),fD 93 52 6 3,⟨none,.store 3 (tM 93) (tM 92),none⟩]
def c49_r22:List SOp:=[mV 95 9,sO 96 (.binOp .eql 3 (tM 95) (kI 5) 3),aS 94 96]
def c49_r23:List SOp:=[fD 97 52 6 0,lD 98 9 97,⟨some 99,.call ⟨.builtin .len,#[.tmp 98],#[9]⟩,none⟩,mV 100 5,sO 101 (.binOp .quo 3 (tM 100) (kI 72) 3),sO 102 (.binOp .rem 3 (tM 101) (kI 9) 3),sO 103 (.binOp .add 3 (tM 99) (tM 102) 3),fD 104 52 6 4,⟨none,.store 3 (tM 104) (tM 103),none⟩]
def c49_r24:List SOp:=[mV 105 3,lD 106 52 6,sO 107 (.buildSlice 42 1 #[(0,(tM 106))]),⟨some 108,.call ⟨.builtin .append,#[.tmp 105,.tmp 107],#[42,42]⟩,none⟩,aS 3 108]
def c49_r4:List SOp:=[mV 18 4,sO 19 (.binOp .add 3 (tM 18) (kI 1) 3),aS 4 19]
def c49_l3:SC:=(.seq (.seq (.reg c49_r3 none (some [0,3,4,17])) (.cond (.tmp 17) .skip (.exit 0) (some [0,3,4]))) (.seq (.block 1 (.seq (.reg c49_r5 none (some [0,3,4,5])) (.seq (.reg c49_r6 none (some [0,3,4,5,6])) (.seq (.reg c49_r7 none (some [0,3,4,5,6,7])) (.seq (.seq (.reg c49_r8 none (some [0,3,4,5,6,7,8])) (.block 2 (.loop c49_l9 (some [0,3,4,5,6,7,8])))) (.seq (.seq (.reg c49_r12 none (some [0,3,4,5,6,7,9])) (.block 4 (.seq (.reg c49_r13 none (some [0,3,4,5,6,7,9,59])) (.cond (.tmp 59) (.reg c49_r14 none (some [0,3,4,6])) (.seq (.reg c49_r15 none (some [0,3,4,5,6,9,63])) (.cond (.tmp 63) (.seq (.reg c49_r16 none (some [0,3,4,5,6])) (.seq (.reg c49_r17 none (some [0,3,4,5,6])) (.seq (.reg c49_r18 none (some [0,3,4,5,6,78])) (.cond (.tmp 78) (.reg c49_r19 none (some [0,3,4,6])) .skip (some [0,3,4,6]))))) (.seq (.reg c49_r20 none (some [0,3,4,5,6,9,87])) (.cond (.tmp 87) (.reg c49_r21 none (some [0,3,4,6])) (.seq (.reg c49_r22 none (some [0,3,4,5,6,94])) (.cond (.tmp 94) (.reg c49_r23 none (some [0,3,4,6])) .skip (some [0,3,4,6]))) (some [0,3,4,6]))) (some [0,3,4,6]))) (some [0,3,4,6]))))) (.reg c49_r24 none (some [0,3,4])))))))) (.reg c49_r4 none (some [0,3,4]))))
def c49_r25:List SOp:=[mV 109 3,aS 2 109]
def c49:SC:=(.seq (.reg c49_r0 none (some [0])) (.seq (.reg c49_r1 none (some [0,3])) (.seq (.seq (.reg c49_r2 none (some [0,3,4])) (.block 0 (.loop c49_l3 (some [0,3,4])))) (.seq (.reg c49_r25 none (some [2])) .ret))))
theorem c49_eq:∃code,Try.f49.body=some code/\compile H49 code=c49 :=⟨_,rfl,by kernel_rfl⟩
theorem c49_fn:Try.prog.funcs[49]?=some Try.f49:=by kernel_rfl
theorem c49_rs:Try.f49.results.toList=[.tmp 2]:=by kernel_rfl
theorem c49_ok:fnB Try.prog H49 Try.f49=true:=by kernel_rfl
theorem c49_nt:Try.f49.ntmps=110:=by kernel_rfl
def H50:Hint:=⟨[(6,[4]),(4,[0,1,5,6]),(5,[0,1,5,6]),(2000014,[0,1,5,6]),(3,[0,1,5,6,14]),(1000003,[0,1,5,6]),(2,[0,1,5,6]),(1,[0,1,5]),(0,[0,1])],[]⟩
def c50_r0:List SOp:=[⟨some 4,.assign (.const (.string ⟨#[]⟩)),none⟩]
def c50_r1:List SOp:=[sO 5 (.assign (.const (.slice none 0 0)))]
def c50_r2:List SOp:=[sO 6 (.assign (kI 0))]
def c50_r3:List SOp:=[mV 7 6,mV 8 1,sO 9 (.binOp .lss 3 (tM 7) (tM 8) 3),mV 10 9,⟨some 11,.move (tM 0),some (some 10,true)⟩,⟨some 12,.call ⟨.builtin .len,#[.tmp 11],#[30]⟩,some (some 10,true)⟩,⟨some 13,.binOp .gtr 3 (tM 12) (kI 0) 3,some (some 10,true)⟩,sO 14 (.pick (tM 10) (tM 13) (.const (.bool false)))]
def c50_r5:List SOp:=[mV 17 5,mV 18 0,mV 19 6,mV 20 0,⟨some 21,.call ⟨.builtin .len,#[.tmp 20],#[30]⟩,none⟩,sO 22 (.binOp .rem 3 (tM 19) (tM 21) 3),iX 23 30 18 22,lD 24 3 23,⟨some 25,.call ⟨.value (.func 29),#[(tM 24),(kI 1073741824)],#[3,3]⟩,none⟩,mV 26 6,mV 27 6,sO 28 (.binOp .mul 3 (tM 26) (tM 27) 3),sO 29 (.binOp .quo 3 (tM 28) (kI 3) 3),sO 30 (.binOp .add 3 (tM 25) (tM 29) 3),⟨some 31,.call ⟨.value (.func 29),#[(tM 30),(kI 4)],#[3,3]⟩,none⟩,⟨some 32,.index 9 (.const (.string ⟨#[97,98,99,65]⟩)) (tM 31),none⟩,sO 33 (.buildSlice 25 1 #[(0,(tM 32))]),⟨some 34,.call ⟨.builtin .append,#[.tmp 17,.tmp 33],#[25,25]⟩,none⟩,aS 5 34]
def c50_r4:List SOp:=[mV 15 6,sO 16 (.binOp .add 3 (tM 15) (kI 1) 3),aS 6 16]
def c50_l3:SC:=(.seq (.seq (.reg c50_r3 none (some [0,1,5,6,14])) (.cond (.tmp 14) .skip (.exit 0) (some [0,1,5,6]))) (.seq (.block 1 (.reg c50_r5 none (some [0,1,5,6]))) (.reg c50_r4 none (some [0,1,5,6]))))
def c50_r6:List SOp:=[mV 35 5,sO 36 (.convert 25 9 (tM 35)),aS 4 36]
def c50:SC:=(.seq (.reg c50_r0 none (some [0,1])) (.seq (.reg c50_r1 none (some [0,1,5])) (.seq (.seq (.reg c50_r2 none (some [0,1,5,6])) (.block 0 (.loop c50_l3 (some [0,1,5,6])))) (.seq (.reg c50_r6 none (some [4])) .ret))))
theorem c50_eq:∃code,Try.f50.body=some code/\compile H50 code=c50 :=⟨_,rfl,by kernel_rfl⟩
theorem c50_fn:Try.prog.funcs[50]?=some Try.f50:=by kernel_rfl
theorem c50_rs:Try.f50.results.toList=[.tmp 4]:=by kernel_rfl
theorem c50_ok:fnB Try.prog H50 Try.f50=true:=by kernel_rfl
theorem c50_nt:Try.f50.ntmps=37:=by kernel_rfl
def H52:Hint:=⟨[(23,[4,5]),(22,[6,12,13]),(21,[6,12,13,14]),(2000061,[6,12,13]),(20,[6,12,13,61]),(1000020,[6,12,13]),(19,[6,12,13]),(18,[6,12]),(17,[4,5]),(2000049,[6,11]),(16,[6,11,49]),(15,[1,6,11]),(14,[1,6,30,31,32]),(13,[4,5]),(2000043,[1,6,30,31,32]),(12,[1,6,30,31,32,43]),(11,[1,6,30,31,32]),(10,[1,6,10,30,31,32]),(2000033,[1,6,30,31,32]),(9,[1,6,30,31,32,33]),(1000009,[1,6,30,31,32]),(8,[1,6,30,31,32]),(7,[0,1,6,16,17,18]),(6,[4,5]),(2000028,[0,1,6,16,17,18]),(5,[0,1,6,16,17,18,28]),(4,[0,1,6,8,16,17,18]),(2000019,[0,1,6,16,17,18]),(3,[0,1,6,16,17,18,19]),(1000003,[0,1,6,16,17,18]),(2,[0,1,6,16,17,18]),(1,[0,1,6]),(0,[0,1])],[]⟩
def c52_r0:List SOp:=[sO 4 (.assign (.const (.pointer none))),sO 5 (.assign (kI 0))]
def c52_r1:List SOp:=[⟨some 15,.call ⟨.value (.func 30),#[],#[]⟩,none⟩,aS 6 15]
def c52_r2:List SOp:=[mV 16 0,⟨some 17,.call ⟨.builtin .len,#[.tmp 16],#[38]⟩,none⟩,sO 18 (.move (kI 0))]
def c52_r3:List SOp:=[sO 19 (.binOp .lss 3 (tM 18) (tM 17) 3)]
def c52_r4:List SOp:=[iX 20 38 16 18,lD 21 9 20,aS 8 21]
def c52_r5:List SOp:=[mV 22 8,⟨some 23,.binOp .eql 9 (tM 22) (.const (.string ⟨#[]⟩)) 9,none⟩,mV 24 23,⟨some 25,.move (tM 8),some (some 24,false)⟩,⟨some 26,.call ⟨.builtin .len,#[.tmp 25],#[9]⟩,some (some 24,false)⟩,⟨some 27,.binOp .gtr 3 (tM 26) (kI 16) 3,some (some 24,false)⟩,sO 28 (.pick (tM 24) (.const (.bool true)) (tM 27))]
def c52_r6:List SOp:=[sO 4 (.assign (.const (.pointer none))),sO 5 (.assign (kI 1))]
def c52_r7:List SOp:=[sO 29 (.binOp .add 3 (tM 18) (kI 1) 3),mV 18 29]
def c52_l3:SC:=(.seq (.reg c52_r3 none (some [0,1,6,16,17,18,19])) (.seq (.cond (.tmp 19) .skip (.exit 0) (some [0,1,6,16,17,18])) (.seq (.block 1 (.seq (.reg c52_r4 none (some [0,1,6,8,16,17,18])) (.seq (.reg c52_r5 none (some [0,1,6,16,17,18,28])) (.cond (.tmp 28) (.seq (.reg c52_r6 none (some [4,5])) .ret) .skip (some [0,1,6,16,17,18]))))) (.reg c52_r7 none (some [0,1,6,16,17,18])))))
def c52_r8:List SOp:=[mV 30 0,⟨some 31,.call ⟨.builtin .len,#[.tmp 30],#[38]⟩,none⟩,sO 32 (.move (kI 0))]
def c52_r9:List SOp:=[sO 33 (.binOp .lss 3 (tM 32) (tM 31) 3)]
def c52_r10:List SOp:=[iX 34 38 30 32,lD 35 9 34,aS 10 35]
def c52_r11:List SOp:=[mV 36 6,mV 37 10,⟨some 38,.call ⟨.value (.func 31),#[.tmp 36,.tmp 37],#[23,9]⟩,none⟩]
def c52_r12:List SOp:=[mV 39 6,⟨some 40,.call ⟨.value (.func 32),#[.tmp 39],#[23]⟩,none⟩,mV 41 1,⟨some 42,.call ⟨.builtin .min,#[(tM 41),(kI 4096)],#[3,3]⟩,none⟩,sO 43 (.binOp .gtr 3 (tM 40) (tM 42) 3)]
def c52_r13:List SOp:=[sO 4 (.assign (.const (.pointer none))),sO 5 (.assign (kI 9))]
def c52_r14:List SOp:=[sO 44 (.binOp .add 3 (tM 32) (kI 1) 3),mV 32 44]
def c52_l9:SC:=(.seq (.reg c52_r9 none (some [1,6,30,31,32,33])) (.seq (.cond (.tmp 33) .skip (.exit 2) (some [1,6,30,31,32])) (.seq (.block 3 (.seq (.reg c52_r10 none (some [1,6,10,30,31,32])) (.seq (.reg c52_r11 none (some [1,6,30,31,32])) (.seq (.reg c52_r12 none (some [1,6,30,31,32,43])) (.cond (.tmp 43) (.seq (.reg c52_r13 none (some [4,5])) .ret) .skip (some [1,6,30,31,32])))))) (.reg c52_r14 none (some [1,6,30,31,32])))))
def c52_r15:List SOp:=[mV 45 6,⟨some 46,.call ⟨.value (.func 32),#[.tmp 45],#[23]⟩,none⟩,aS 11 46]
def c52_r16:List SOp:=[mV 47 11,mV 48 1,sO 49 (.binOp .gtr 3 (tM 47) (tM 48) 3)]
def c52_r17:List SOp:=[sO 4 (.assign (.const (.pointer none))),sO 5 (.assign (kI 9))]
def c52_r18:List SOp:=[mV 50 11,sO 51 (.makeSlice 127 (tM 50) (tM 50)),mV 52 11,sO 53 (.makeSlice 30 (tM 52) (tM 52)),mV 54 11,sO 55 (.makeSlice 44 (tM 54) (tM 54)),sO 56 (.build 129 #[(0,(tM 51)),(1,(tM 53)),(2,(tM 55))]),sO 57 (.box 129 (tM 56)),aS 12 57]
def c52_r19:List SOp:=[sO 58 (.buildSlice 30 1 #[(0,(kI 0))]),aS 13 58]
def c52_r20:List SOp:=[mV 59 13,⟨some 60,.call ⟨.builtin .len,#[.tmp 59],#[30]⟩,none⟩,sO 61 (.binOp .gtr 3 (tM 60) (kI 0) 3)]
def c52_r21:List SOp:=[mV 62 13,sO 63 (.indexAddr 30 (tM 62) (kI 0)),lD 64 3 63,aS 14 64]
def c52_r22:List SOp:=[mV 65 13,sO 66 (.slice 30 (tM 65) (some (kI 1)) none none),mV 67 12,mV 68 6,mV 69 14,⟨some 70,.call ⟨.value (.func 100),#[.tmp 67,.tmp 68,.tmp 69],#[57,23,3]⟩,none⟩,⟨some 71,.call ⟨.builtin .append,#[.tmp 66,.tmp 70],#[30,30]⟩,none⟩,aS 13 71]
def c52_l20:SC:=(.seq (.seq (.reg c52_r20 none (some [6,12,13,61])) (.cond (.tmp 61) .skip (.exit 4) (some [6,12,13]))) (.block 5 (.seq (.reg c52_r21 none (some [6,12,13,14])) (.reg c52_r22 none (some [6,12,13])))))
def c52_r23:List SOp:=[mV 72 12,aS 4 72,sO 5 (.assign (kI 0))]
def c52:SC:=(.seq (.reg c52_r0 none (some [0,1])) (.seq (.reg c52_r1 none (some [0,1,6])) (.seq (.seq (.reg c52_r2 none (some [0,1,6,16,17,18])) (.block 0 (.loop c52_l3 (some [0,1,6,16,17,18])))) (.seq (.seq (.reg c52_r8 none (some [1,6,30,31,32])) (.block 2 (.loop c52_l9 (some [1,6,30,31,32])))) (.seq (.reg c52_r15 none (some [1,6,11])) (.seq (.seq (.reg c52_r16 none (some [6,11,49])) (.cond (.tmp 49) (.seq (.reg c52_r17 none (some [4,5])) .ret) .skip (some [6,11]))) (.seq (.reg c52_r18 none (some [6,12])) (.seq (.seq (.reg c52_r19 none (some [6,12,13])) (.block 4 (.loop c52_l20 (some [6,12,13])))) (.seq (.reg c52_r23 none (some [4,5])) .ret)))))))))
theorem c52_eq:∃code,Try.f52.body=some code/\compile H52 code=c52 :=⟨_,rfl,by kernel_rfl⟩
theorem c52_fn:Try.prog.funcs[52]?=some Try.f52:=by kernel_rfl
theorem c52_rs:Try.f52.results.toList=[.tmp 4,.tmp 5]:=by kernel_rfl
theorem c52_ok:fnB Try.prog H52 Try.f52=true:=by kernel_rfl
theorem c52_nt:Try.f52.ntmps=73:=by kernel_rfl
def H53:Hint:=⟨[(3,[6]),(2,[6]),(2000009,[0,1,2]),(1,[0,1,2,9]),(0,[0,1,2])],[]⟩
def c53_r0:List SOp:=[sO 6 (.assign (kI 0))]
def c53_r1:List SOp:=[mV 7 0,mV 8 1,⟨some 9,.call ⟨.value (.func 101),#[.tmp 7,.tmp 8],#[57,3]⟩,none⟩]
def c53_r2:List SOp:=[sO 6 (.assign (kI 0))]
def c53_r3:List SOp:=[mV 10 0,nI 11 10,fD 12 129 11 0,lD 13 127 12,mV 14 1,mV 15 2,iX 16 127 13 14,iX 17 132 16 15,lD 18 131 17,sO 19 (.convert 131 3 (tM 18)),aS 6 19]
def c53:SC:=(.seq (.reg c53_r0 none (some [0,1,2])) (.seq (.seq (.reg c53_r1 none (some [0,1,2,9])) (.cond (.tmp 9) (.seq (.reg c53_r2 none (some [6])) .ret) .skip (some [0,1,2]))) (.seq (.reg c53_r3 none (some [6])) .ret)))
theorem c53_eq:∃code,Try.f53.body=some code/\compile H53 code=c53 :=⟨_,rfl,by kernel_rfl⟩
theorem c53_fn:Try.prog.funcs[53]?=some Try.f53:=by kernel_rfl
theorem c53_rs:Try.f53.results.toList=[.tmp 6]:=by kernel_rfl
theorem c53_ok:fnB Try.prog H53 Try.f53=true:=by kernel_rfl
theorem c53_nt:Try.f53.ntmps=20:=by kernel_rfl
def H54:Hint:=⟨[(3,[4]),(2,[4]),(2000007,[0,1]),(1,[0,1,7]),(0,[0,1])],[]⟩
def c54_r0:List SOp:=[sO 4 (.assign (.const (.slice none 0 0)))]
def c54_r1:List SOp:=[mV 5 0,mV 6 1,⟨some 7,.call ⟨.value (.func 101),#[.tmp 5,.tmp 6],#[57,3]⟩,none⟩]
def c54_r2:List SOp:=[sO 4 (.assign (.const (.slice none 0 0)))]
def c54_r3:List SOp:=[mV 8 0,nI 9 8,fD 10 129 9 2,lD 11 44 10,mV 12 1,iX 13 44 11 12,lD 14 30 13,⟨some 15,.call ⟨.value (.func 93),#[.tmp 14],#[30]⟩,none⟩,aS 4 15]
def c54:SC:=(.seq (.reg c54_r0 none (some [0,1])) (.seq (.seq (.reg c54_r1 none (some [0,1,7])) (.cond (.tmp 7) (.seq (.reg c54_r2 none (some [4])) .ret) .skip (some [0,1]))) (.seq (.reg c54_r3 none (some [4])) .ret)))
theorem c54_eq:∃code,Try.f54.body=some code/\compile H54 code=c54 :=⟨_,rfl,by kernel_rfl⟩
theorem c54_fn:Try.prog.funcs[54]?=some Try.f54:=by kernel_rfl
theorem c54_rs:Try.f54.results.toList=[.tmp 4]:=by kernel_rfl
theorem c54_ok:fnB Try.prog H54 Try.f54=true:=by kernel_rfl
theorem c54_nt:Try.f54.ntmps=16:=by kernel_rfl
def H57:Hint:=⟨[(4,[8]),(3,[0,1,9]),(2,[8]),(2000019,[0,1,2,3]),(1,[0,1,2,3,19]),(0,[0,1,2,3])],[]⟩
def c57_r0:List SOp:=[sO 8 (.assign (.const (.bool false)))]
def c57_r1:List SOp:=[mV 10 3,mV 11 0,⟨some 12,.call ⟨.builtin .len,#[.tmp 11],#[9]⟩,none⟩,sO 13 (.binOp .lss 3 (tM 10) (tM 12) 3),mV 14 13,⟨some 15,.move (tM 3),some (some 14,false)⟩,⟨some 16,.move (tM 2),some (some 14,false)⟩,⟨some 17,.call ⟨.builtin .len,#[.tmp 16],#[9]⟩,some (some 14,false)⟩,⟨some 18,.binOp .gtr 3 (tM 15) (tM 17) 3,some (some 14,false)⟩,sO 19 (.pick (tM 14) (.const (.bool true)) (tM 18))]
def c57_r2:List SOp:=[sO 8 (.assign (.const (.bool false)))]
def c57_r3:List SOp:=[mV 20 2,mV 21 3,mV 22 0,⟨some 23,.call ⟨.builtin .len,#[.tmp 22],#[9]⟩,none⟩,sO 24 (.binOp .sub 3 (tM 21) (tM 23) 3),mV 25 3,sO 26 (.slice 9 (tM 20) (some (tM 24)) (some (tM 25)) none),aS 9 26]
def c57_r4:List SOp:=[mV 27 9,mV 28 0,sO 29 (.binOp .eql 9 (tM 27) (tM 28) 9),mV 30 29,⟨some 31,.move (tM 1),some (some 30,false)⟩,⟨some 32,.move (tM 31),some (some 30,false)⟩,⟨some 33,.move (tM 9),some (some 32,true)⟩,⟨some 34,.call ⟨.value (.func 60),#[.tmp 33],#[9]⟩,some (some 32,true)⟩,⟨some 35,.move (tM 0),some (some 32,true)⟩,⟨some 36,.call ⟨.value (.func 60),#[.tmp 35],#[9]⟩,some (some 32,true)⟩,⟨some 37,.binOp .eql 9 (tM 34) (tM 36) 9,some (some 32,true)⟩,⟨some 38,.pick (tM 32) (tM 37) (.const (.bool false)),some (some 30,false)⟩,sO 39 (.pick (tM 30) (.const (.bool true)) (tM 38)),aS 8 39]
def c57:SC:=(.seq (.reg c57_r0 none (some [0,1,2,3])) (.seq (.seq (.reg c57_r1 none (some [0,1,2,3,19])) (.cond (.tmp 19) (.seq (.reg c57_r2 none (some [8])) .ret) .skip (some [0,1,2,3]))) (.seq (.reg c57_r3 none (some [0,1,9])) (.seq (.reg c57_r4 none (some [8])) .ret))))
theorem c57_eq:∃code,Try.f57.body=some code/\compile H57 code=c57 :=⟨_,rfl,by kernel_rfl⟩
theorem c57_fn:Try.prog.funcs[57]?=some Try.f57:=by kernel_rfl
theorem c57_rs:Try.f57.results.toList=[.tmp 8]:=by kernel_rfl
theorem c57_ok:fnB Try.prog H57 Try.f57=true:=by kernel_rfl
theorem c57_nt:Try.f57.ntmps=40:=by kernel_rfl
def H59:Hint:=⟨[(8,[2]),(7,[3,8,9,10]),(6,[3,8,9,10]),(2000020,[3,8,9,10]),(5,[3,4,5,8,9,10,20]),(4,[3,4,5,8,9,10]),(2000011,[3,8,9,10]),(3,[3,8,9,10,11]),(1000003,[3,8,9,10]),(2,[3,8,9,10]),(1,[3]),(0,[0])],[]⟩
def c59_r0:List SOp:=[⟨some 2,.assign (.const (.string ⟨#[]⟩)),none⟩]
def c59_r1:List SOp:=[mV 6 0,sO 7 (.convert 9 25 (tM 6)),aS 3 7]
def c59_r2:List SOp:=[mV 8 3,⟨some 9,.call ⟨.builtin .len,#[.tmp 8],#[25]⟩,none⟩,sO 10 (.move (kI 0))]
def c59_r3:List SOp:=[sO 11 (.binOp .lss 3 (tM 10) (tM 9) 3)]
def c59_r4:List SOp:=[mV 12 10,iX 13 25 8 10,lD 14 5 13,aS 4 12,aS 5 14]
def c59_r5:List SOp:=[mV 15 5,sO 16 (.binOp .geq 5 (tM 15) (.const (.int .u8 65)) 5),mV 17 16,⟨some 18,.move (tM 5),some (some 17,true)⟩,⟨some 19,.binOp .leq 5 (tM 18) (.const (.int .u8 90)) 5,some (some 17,true)⟩,sO 20 (.pick (tM 17) (tM 19) (.const (.bool false)))]
def c59_r6:List SOp:=[mV 21 3,mV 22 4,mV 23 5,sO 24 (.binOp .sub 5 (tM 23) (.const (.int .u8 65)) 5),sO 25 (.binOp .add 5 (tM 24) (.const (.int .u8 97)) 5),iX 26 25 21 22,⟨none,.store 5 (tM 26) (tM 25),none⟩]
def c59_r7:List SOp:=[sO 27 (.binOp .add 3 (tM 10) (kI 1) 3),mV 10 27]
def c59_l3:SC:=(.seq (.reg c59_r3 none (some [3,8,9,10,11])) (.seq (.cond (.tmp 11) .skip (.exit 0) (some [3,8,9,10])) (.seq (.block 1 (.seq (.reg c59_r4 none (some [3,4,5,8,9,10])) (.seq (.reg c59_r5 none (some [3,4,5,8,9,10,20])) (.cond (.tmp 20) (.reg c59_r6 none (some [3,8,9,10])) .skip (some [3,8,9,10]))))) (.reg c59_r7 none (some [3,8,9,10])))))
def c59_r8:List SOp:=[mV 28 3,sO 29 (.convert 25 9 (tM 28)),aS 2 29]
def c59:SC:=(.seq (.reg c59_r0 none (some [0])) (.seq (.reg c59_r1 none (some [3])) (.seq (.seq (.reg c59_r2 none (some [3,8,9,10])) (.block 0 (.loop c59_l3 (some [3,8,9,10])))) (.seq (.reg c59_r8 none (some [2])) .ret))))
theorem c59_eq:∃code,Try.f59.body=some code/\compile H59 code=c59 :=⟨_,rfl,by kernel_rfl⟩
theorem c59_fn:Try.prog.funcs[59]?=some Try.f59:=by kernel_rfl
theorem c59_rs:Try.f59.results.toList=[.tmp 2]:=by kernel_rfl
theorem c59_ok:fnB Try.prog H59 Try.f59=true:=by kernel_rfl
theorem c59_nt:Try.f59.ntmps=30:=by kernel_rfl
def H60:Hint:=⟨[(9,[2]),(4,[0,3,4]),(8,[0,3,4]),(7,[0,3,4,5]),(2000020,[0,3,4,5]),(6,[0,3,4,5,20]),(5,[0,3,4,5]),(2000009,[0,3,4]),(3,[0,3,4,9]),(1000003,[0,3,4]),(2,[0,3,4]),(1,[0,3]),(0,[0])],[]⟩
def c60_r0:List SOp:=[⟨some 2,.assign (.const (.string ⟨#[]⟩)),none⟩]
def c60_r1:List SOp:=[sO 3 (.assign (.const (.slice none 0 0)))]
def c60_r2:List SOp:=[sO 4 (.assign (kI 0))]
def c60_r3:List SOp:=[mV 6 4,mV 7 0,⟨some 8,.call ⟨.builtin .len,#[.tmp 7],#[9]⟩,none⟩,sO 9 (.binOp .lss 3 (tM 6) (tM 8) 3)]
def c60_r5:List SOp:=[mV 12 0,mV 13 4,sO 14 (.index 9 (tM 12) (tM 13)),aS 5 14]
def c60_r6:List SOp:=[mV 15 5,sO 16 (.binOp .geq 5 (tM 15) (.const (.int .u8 65)) 5),mV 17 16,⟨some 18,.move (tM 5),some (some 17,true)⟩,⟨some 19,.binOp .leq 5 (tM 18) (.const (.int .u8 90)) 5,some (some 17,true)⟩,sO 20 (.pick (tM 17) (tM 19) (.const (.bool false)))]
def c60_r7:List SOp:=[mV 21 5,sO 22 (.binOp .add 5 (tM 21) (.const (.int .u8 32)) 5),aS 5 22]
def c60_r8:List SOp:=[mV 23 3,mV 24 5,sO 25 (.buildSlice 25 1 #[(0,(tM 24))]),⟨some 26,.call ⟨.builtin .append,#[.tmp 23,.tmp 25],#[25,25]⟩,none⟩,aS 3 26]
def c60_r4:List SOp:=[mV 10 4,sO 11 (.binOp .add 3 (tM 10) (kI 1) 3),aS 4 11]
def c60_l3:SC:=(.seq (.seq (.reg c60_r3 none (some [0,3,4,9])) (.cond (.tmp 9) .skip (.exit 0) (some [0,3,4]))) (.seq (.block 1 (.seq (.reg c60_r5 none (some [0,3,4,5])) (.seq (.seq (.reg c60_r6 none (some [0,3,4,5,20])) (.cond (.tmp 20) (.reg c60_r7 none (some [0,3,4,5])) .skip (some [0,3,4,5]))) (.reg c60_r8 none (some [0,3,4]))))) (.reg c60_r4 none (some [0,3,4]))))
def c60_r9:List SOp:=[mV 27 3,sO 28 (.convert 25 9 (tM 27)),aS 2 28]
def c60:SC:=(.seq (.reg c60_r0 none (some [0])) (.seq (.reg c60_r1 none (some [0,3])) (.seq (.seq (.reg c60_r2 none (some [0,3,4])) (.block 0 (.loop c60_l3 (some [0,3,4])))) (.seq (.reg c60_r9 none (some [2])) .ret))))
theorem c60_eq:∃code,Try.f60.body=some code/\compile H60 code=c60 :=⟨_,rfl,by kernel_rfl⟩
theorem c60_fn:Try.prog.funcs[60]?=some Try.f60:=by kernel_rfl
theorem c60_rs:Try.f60.results.toList=[.tmp 2]:=by kernel_rfl
theorem c60_ok:fnB Try.prog H60 Try.f60=true:=by kernel_rfl
theorem c60_nt:Try.f60.ntmps=29:=by kernel_rfl
def H65:Hint:=⟨[(13,[4]),(12,[0,5,52,53,54]),(11,[0,5,52,53,54]),(2000093,[0,5,52,53,54]),(10,[0,5,7,52,53,54,93]),(9,[0,5,7,52,53,54]),(2000055,[0,5,52,53,54]),(8,[0,5,52,53,54,55]),(1000008,[0,5,52,53,54]),(7,[0,5,52,53,54]),(6,[0,5]),(5,[0]),(4,[4]),(2000029,[0,1]),(3,[0,1,29]),(2,[0,1]),(1,[0,1]),(0,[0,1])],[(5,[(4,10),(8,10)])]⟩
def c65_r0:List SOp:=[sO 4 (.assign (.const (.slice none 0 0)))]
def c65_r1:List SOp:=[mV 8 0,mV 9 0,nI 10 9,fD 11 136 10 4,lD 12 3 11,sO 13 (.binOp .rem 3 (tM 12) (kI 16) 3),mV 14 1,nI 15 8,fD 16 136 15 5,iX 17 134 16 13,⟨none,.store 5 (tM 17) (tM 14),none⟩]
def c65_r2:List SOp:=[mV 18 0,nI 19 18,fD 20 136 19 4,lD 21 3 20,sO 22 (.binOp .add 3 (tM 21) (kI 1) 3),nI 23 18,fD 24 136 23 4,⟨none,.store 3 (tM 24) (tM 22),none⟩]
def c65_r3:List SOp:=[mV 25 0,nI 26 25,fD 27 136 26 0,lD 28 57 27,sO 29 (.binOp .eql 57 (tM 28) (.const (.pointer none)) 57)]
def c65_r4:List SOp:=[sO 4 (.assign (.const (.slice none 0 0)))]
def c65_r5:List SOp:=[mV 30 0,mV 31 0,nI 32 31,fD 33 136 32 0,lD 34 57 33,mV 35 0,nI 36 35,fD 37 136 36 3,lD 38 3 37,mV 39 1,⟨some 40,.call ⟨.value (.func 103),#[.tmp 39],#[5]⟩,none⟩,⟨some 41,.call ⟨.value (.func 53),#[.tmp 34,.tmp 38,.tmp 40],#[57,3,5]⟩,none⟩,nI 42 30,fD 43 136 42 3,⟨none,.store 3 (tM 43) (tM 41),none⟩]
def c65_r6:List SOp:=[sO 5 (.assign (.const (.slice none 0 0)))]
def c65_r7:List SOp:=[mV 44 0,nI 45 44,fD 46 136 45 0,lD 47 57 46,mV 48 0,nI 49 48,fD 50 136 49 3,lD 51 3 50,⟨some 52,.call ⟨.value (.func 54),#[.tmp 47,.tmp 51],#[57,3]⟩,none⟩,⟨some 53,.call ⟨.builtin .len,#[.tmp 52],#[30]⟩,none⟩,sO 54 (.move (kI 0))]
def c65_r8:List SOp:=[sO 55 (.binOp .lss 3 (tM 54) (tM 53) 3)]
def c65_r9:List SOp:=[iX 56 30 52 54,lD 57 3 56,aS 7 57]
def c65_r10:List SOp:=[mV 58 7,mV 59 0,nI 60 59,fD 61 136 60 1,lD 62 38 61,⟨some 63,.call ⟨.builtin .len,#[.tmp 62],#[38]⟩,none⟩,sO 64 (.binOp .lss 3 (tM 58) (tM 63) 3),mV 65 64,⟨some 66,.move (tM 7),some (some 65,true)⟩,⟨some 67,.move (tM 0),some (some 65,true)⟩,⟨some 68,.nilCheck (tM 67),some (some 65,true)⟩,⟨some 69,.fieldAddr 136 (tM 68) 2,some (some 65,true)⟩,⟨some 70,.load 68 (tM 69),some (some 65,true)⟩,⟨some 71,.call ⟨.builtin .len,#[.tmp 70],#[68]⟩,some (some 65,true)⟩,⟨some 72,.binOp .lss 3 (tM 66) (tM 71) 3,some (some 65,true)⟩,⟨some 73,.move (tM 72),some (some 65,true)⟩,⟨some 74,.move (tM 0),some (some 73,true)⟩,⟨some 75,.nilCheck (tM 74),some (some 73,true)⟩,⟨some 76,.fieldAddr 136 (tM 75) 2,some (some 73,true)⟩,⟨some 77,.load 68 (tM 76),some (some 73,true)⟩,⟨some 78,.move (tM 7),some (some 73,true)⟩,⟨some 79,.indexAddr 68 (tM 77) (tM 78),some (some 73,true)⟩,⟨some 80,.load 4 (tM 79),some (some 73,true)⟩,⟨some 81,.pick (tM 73) (tM 80) (.const (.bool false)),some (some 65,true)⟩,⟨some 82,.move (tM 81),some (some 65,true)⟩,⟨some 83,.move (tM 0),some (some 82,false)⟩,⟨some 84,.move (tM 0),some (some 82,false)⟩,⟨some 85,.nilCheck (tM 84),some (some 82,false)⟩,⟨some 86,.fieldAddr 136 (tM 85) 1,some (some 82,false)⟩,⟨some 87,.load 38 (tM 86),some (some 82,false)⟩,⟨some 88,.move (tM 7),some (some 82,false)⟩,⟨some 89,.indexAddr 38 (tM 87) (tM 88),some (some 82,false)⟩,⟨some 90,.load 9 (tM 89),some (some 82,false)⟩,⟨some 91,.call ⟨.value (.func 104),#[.tmp 83,.tmp 90],#[69,9]⟩,some (some 82,false)⟩,⟨some 92,.pick (tM 82) (.const (.bool true)) (tM 91),some (some 65,true)⟩,sO 93 (.pick (tM 65) (tM 92) (.const (.bool false)))]
def c65_r11:List SOp:=[mV 94 5,mV 95 7,sO 96 (.buildSlice 30 1 #[(0,(tM 95))]),⟨some 97,.call ⟨.builtin .append,#[.tmp 94,.tmp 96],#[30,30]⟩,none⟩,aS 5 97]
def c65_r12:List SOp:=[sO 98 (.binOp .add 3 (tM 54) (kI 1) 3),mV 54 98]
def c65_l8:SC:=(.seq (.reg c65_r8 none (some [0,5,52,53,54,55])) (.seq (.cond (.tmp 55) .skip (.exit 0) (some [0,5,52,53,54])) (.seq (.block 1 (.seq (.reg c65_r9 none (some [0,5,7,52,53,54])) (.seq (.reg c65_r10 none (some [0,5,7,52,53,54,93])) (.cond (.tmp 93) (.reg c65_r11 none (some [0,5,52,53,54])) .skip (some [0,5,52,53,54]))))) (.reg c65_r12 none (some [0,5,52,53,54])))))
def c65_r13:List SOp:=[mV 99 5,aS 4 99]
def c65:SC:=(.seq (.reg c65_r0 none (some [0,1])) (.seq (.reg c65_r1 none (some [0,1])) (.seq (.reg c65_r2 none (some [0,1])) (.seq (.seq (.reg c65_r3 none (some [0,1,29])) (.cond (.tmp 29) (.seq (.reg c65_r4 none (some [4])) .ret) .skip (some [0,1]))) (.seq (.reg c65_r5 (some [(4,10),(8,10)]) (some [0])) (.seq (.reg c65_r6 none (some [0,5])) (.seq (.seq (.reg c65_r7 none (some [0,5,52,53,54])) (.block 0 (.loop c65_l8 (some [0,5,52,53,54])))) (.seq (.reg c65_r13 none (some [4])) .ret))))))))
theorem c65_eq:∃code,Try.f65.body=some code/\compile H65 code=c65 :=⟨_,rfl,by kernel_rfl⟩
theorem c65_fn:Try.prog.funcs[65]?=some Try.f65:=by kernel_rfl
theorem c65_rs:Try.f65.results.toList=[.tmp 4]:=by kernel_rfl
theorem c65_ok:fnB Try.prog H65 Try.f65=true:=by kernel_rfl
theorem c65_nt:Try.f65.ntmps=100:=by kernel_rfl
def H72:Hint:=⟨[(12,[4]),(11,[5,14,15,16]),(10,[5,14,15,16]),(9,[5,6,7,14,15,16]),(2000050,[5,6,7,14,15,16]),(8,[5,6,7,8,14,15,16,50]),(7,[5,6,7,8,14,15,16]),(6,[5,14,15,16]),(2000022,[5,6,7,14,15,16]),(5,[5,6,7,14,15,16,22]),(4,[5,6,7,14,15,16]),(2000017,[5,14,15,16]),(3,[5,14,15,16,17]),(1000003,[5,14,15,16]),(2,[5,14,15,16]),(1,[0,5]),(0,[0,1])],[(9,[(17,23),(19,23)])]⟩
def c72_r0:List SOp:=[sO 4 (.assign (.const (.pointer none)))]
def c72_r1:List SOp:=[mV 9 1,⟨some 10,.call ⟨.builtin .min,#[(tM 9),(kI 32)],#[3,3]⟩,none⟩,⟨some 11,.call ⟨.builtin .max,#[(kI 1),(tM 10)],#[3,3]⟩,none⟩,sO 12 (.build 144 #[(0,(tM 11))]),sO 13 (.box 144 (tM 12)),aS 5 13]
def c72_r2:List SOp:=[mV 14 0,⟨some 15,.call ⟨.builtin .len,#[.tmp 14],#[42]⟩,none⟩,sO 16 (.move (kI 0))]
def c72_r3:List SOp:=[sO 17 (.binOp .lss 3 (tM 16) (tM 15) 3)]
def c72_r4:List SOp:=[mV 18 16,iX 19 42 14 16,lD 20 52 19,sO 7 (.alloc 52),aS 6 18,⟨none,.store 52 (tM 7) (tM 20),none⟩]
def c72_r5:List SOp:=[fD 21 52 7 2,lD 22 4 21]
def c72_r6:List SOp:=[mV 23 5,mV 24 5,nI 25 24,fD 26 144 25 3,lD 27 142 26,lD 28 52 7,mV 29 6,sO 30 (.build 147 #[(0,(tM 28)),(1,(tM 29))]),sO 31 (.buildSlice 142 1 #[(0,(tM 30))]),⟨some 32,.call ⟨.builtin .append,#[.tmp 27,.tmp 31],#[142,142]⟩,none⟩,nI 33 23,fD 34 144 33 3,⟨none,.store 142 (tM 34) (tM 32),none⟩]
def c72_r7:List SOp:=[mV 35 5,nI 36 35,fD 37 144 36 2,lD 38 141 37,⟨some 39,.call ⟨.builtin .len,#[.tmp 38],#[141]⟩,none⟩,aS 8 39]
def c72_r8:List SOp:=[mV 40 8,sO 41 (.binOp .gtr 3 (tM 40) (kI 0) 3),mV 42 41,⟨some 43,.fieldAddr 52 (tM 7) 5,some (some 42,true)⟩,⟨some 44,.load 4 (tM 43),some (some 42,true)⟩,sO 45 (.pick (tM 42) (tM 44) (.const (.bool false))),mV 46 45,⟨some 47,.fieldAddr 52 (tM 7) 7,some (some 46,true)⟩,⟨some 48,.load 3 (tM 47),some (some 46,true)⟩,⟨some 49,.binOp .gtr 3 (tM 48) (kI 0) 3,some (some 46,true)⟩,sO 50 (.pick (tM 46) (tM 49) (.const (.bool false)))]
def c72_r9:List SOp:=[mV 51 5,nI 52 51,fD 53 144 52 2,lD 54 141 53,mV 55 8,sO 56 (.binOp .sub 3 (tM 55) (kI 1) 3),iX 57 141 54 56,lD 58 148 57,mV 59 5,nI 60 59,fD 61 144 60 2,lD 62 141 61,mV 63 8,sO 64 (.binOp .sub 3 (tM 63) (kI 1) 3),iX 65 141 62 64,lD 66 148 65,fD 67 52 7 6,lD 68 3 67,fD 69 52 7 7,lD 70 3 69,sO 71 (.binOp .add 3 (tM 68) (tM 70) 3),nI 72 58,fD 73 147 72 4,⟨none,.store 4 (tM 73) (.const (.bool false)),none⟩,nI 74 66,fD 75 147 74 3,⟨none,.store 3 (tM 75) (tM 71),none⟩]
def c72_r10:List SOp:=[mV 76 5,mV 77 5,nI 78 77,fD 79 144 78 2,lD 80 141 79,lD 81 52 7,mV 82 6,mV 83 5,nI 84 83,fD 85 144 84 2,lD 86 141 85,⟨some 87,.call ⟨.builtin .len,#[.tmp 86],#[141]⟩,none⟩,sO 88 (.binOp .eql 3 (tM 87) (kI 0) 3),sO 89 (.build 147 #[(0,(tM 81)),(1,(tM 82)),(2,(tM 88)),(4,(.const (.bool true)))]),sO 90 (.box 147 (tM 89)),sO 91 (.buildSlice 141 1 #[(0,(tM 90))]),⟨some 92,.call ⟨.builtin .append,#[.tmp 80,.tmp 91],#[141,141]⟩,none⟩,nI 93 76,fD 94 144 93 2,⟨none,.store 141 (tM 94) (tM 92),none⟩]
def c72_r11:List SOp:=[sO 95 (.binOp .add 3 (tM 16) (kI 1) 3),mV 16 95]
def c72_l3:SC:=(.seq (.reg c72_r3 none (some [5,14,15,16,17])) (.seq (.cond (.tmp 17) .skip (.exit 0) (some [5,14,15,16])) (.seq (.block 1 (.seq (.reg c72_r4 none (some [5,6,7,14,15,16])) (.seq (.seq (.reg c72_r5 none (some [5,6,7,14,15,16,22])) (.cond (.tmp 22) (.seq (.reg c72_r6 none (some [5,14,15,16])) (.exit 1)) .skip (some [5,6,7,14,15,16]))) (.seq (.seq (.reg c72_r7 none (some [5,6,7,8,14,15,16])) (.seq (.reg c72_r8 none (some [5,6,7,8,14,15,16,50])) (.cond (.tmp 50) (.reg c72_r9 (some [(17,23),(19,23)]) (some [5,6,7,14,15,16])) .skip (some [5,6,7,14,15,16])))) (.reg c72_r10 none (some [5,14,15,16])))))) (.reg c72_r11 none (some [5,14,15,16])))))
def c72_r12:List SOp:=[mV 96 5,aS 4 96]
def c72:SC:=(.seq (.reg c72_r0 none (some [0,1])) (.seq (.reg c72_r1 none (some [0,5])) (.seq (.seq (.reg c72_r2 none (some [5,14,15,16])) (.block 0 (.loop c72_l3 (some [5,14,15,16])))) (.seq (.reg c72_r12 none (some [4])) .ret))))
theorem c72_eq:∃code,Try.f72.body=some code/\compile H72 code=c72 :=⟨_,rfl,by kernel_rfl⟩
theorem c72_fn:Try.prog.funcs[72]?=some Try.f72:=by kernel_rfl
theorem c72_rs:Try.f72.results.toList=[.tmp 4]:=by kernel_rfl
theorem c72_ok:fnB Try.prog H72 Try.f72=true:=by kernel_rfl
theorem c72_nt:Try.f72.ntmps=97:=by kernel_rfl
def H73:Hint:=⟨[(24,[4]),(23,[2,5,127,128]),(22,[2,5,127,128]),(21,[2,5,11,127,128]),(2000129,[2,5,127,128]),(20,[2,5,127,128,129]),(1000020,[2,5,127,128]),(19,[2,5,127,128]),(18,[2,5,6,87,88,89]),(17,[2,5,6,87,88,89]),(16,[2,5,6,10,87,88,89]),(15,[2,5,6,9,10,87,88,89]),(2000090,[2,5,6,87,88,89]),(14,[2,5,6,87,88,89,90]),(1000014,[2,5,6,87,88,89]),(13,[2,5,6,87,88,89]),(12,[2,5,6,33,34,35]),(11,[2,5,6,33,34,35]),(2000056,[2,5,6,33,34,35]),(10,[2,5,6,7,8,33,34,35,56]),(9,[2,5,6,7,8,33,34,35]),(8,[2,5,6,7,8,33,34,35]),(2000036,[2,5,6,33,34,35]),(7,[2,5,6,33,34,35,36]),(1000007,[2,5,6,33,34,35]),(6,[2,5,6,33,34,35]),(5,[2,5,6]),(4,[2,5]),(3,[2,3]),(2,[4]),(2000015,[2,3]),(1,[2,3,15]),(0,[2,3])],[(22,[(0,13)])]⟩
def c73_r0:List SOp:=[sO 2 (.box 84 (tM 0)),sO 3 (.box 68 (tM 1)),sO 4 (.assign (.const (.bool false)))]
def c73_r1:List SOp:=[lD 12 84 2,nI 13 12,fD 14 144 13 5,lD 15 4 14]
def c73_r2:List SOp:=[sO 4 (.assign (.const (.bool true)))]
def c73_r3:List SOp:=[lD 16 84 2,nI 17 16,fD 18 144 17 1,lD 19 3 18,sO 20 (.binOp .add 3 (tM 19) (kI 1) 3),nI 21 16,fD 22 144 21 1,⟨none,.store 3 (tM 22) (tM 20),none⟩]
def c73_r4:List SOp:=[sO 23 (.makeFunc (.func 108) #[] #[.tmp 3,.tmp 2]),aS 5 23]
def c73_r5:List SOp:=[lD 24 84 2,nI 25 24,fD 26 144 25 2,lD 27 141 26,⟨some 28,.call ⟨.builtin .len,#[.tmp 27],#[141]⟩,none⟩,sO 29 (.makeSlice 68 (tM 28) (tM 28)),aS 6 29]
def c73_r6:List SOp:=[lD 30 84 2,nI 31 30,fD 32 144 31 2,lD 33 141 32,⟨some 34,.call ⟨.builtin .len,#[.tmp 33],#[141]⟩,none⟩,sO 35 (.move (kI 0))]
def c73_r7:List SOp:=[sO 36 (.binOp .lss 3 (tM 35) (tM 34) 3)]
def c73_r8:List SOp:=[mV 37 35,iX 38 141 33 35,lD 39 148 38,aS 7 37,aS 8 39]
def c73_r9:List SOp:=[mV 40 6,mV 41 7,mV 42 5,mV 43 8,⟨some 44,.call ⟨.value (tM 42),#[.tmp 43],#[148]⟩,none⟩,iX 45 68 40 41,⟨none,.store 4 (tM 45) (tM 44),none⟩]
def c73_r10:List SOp:=[mV 46 6,mV 47 7,iX 48 68 46 47,lD 49 4 48,mV 50 49,⟨some 51,.move (tM 8),some (some 50,true)⟩,⟨some 52,.nilCheck (tM 51),some (some 50,true)⟩,⟨some 53,.fieldAddr 147 (tM 52) 0,some (some 50,true)⟩,⟨some 54,.fieldAddr 52 (tM 53) 5,some (some 50,true)⟩,⟨some 55,.load 4 (tM 54),some (some 50,true)⟩,sO 56 (.pick (tM 50) (tM 55) (.const (.bool false)))]
def c73_r11:List SOp:=[mV 57 6,mV 58 7,mV 59 7,sO 60 (.binOp .gtr 3 (tM 59) (kI 0) 3),mV 61 60,⟨some 62,.move (tM 8),some (some 61,true)⟩,⟨some 63,.load 84 (tM 2),some (some 61,true)⟩,⟨some 64,.nilCheck (tM 63),some (some 61,true)⟩,⟨some 65,.fieldAddr 144 (tM 64) 2,some (some 61,true)⟩,⟨some 66,.load 141 (tM 65),some (some 61,true)⟩,⟨some 67,.move (tM 7),some (some 61,true)⟩,⟨some 68,.binOp .sub 3 (tM 67) (kI 1) 3,some (some 61,true)⟩,⟨some 69,.indexAddr 141 (tM 66) (tM 68),some (some 61,true)⟩,⟨some 70,.load 148 (tM 69),some (some 61,true)⟩,⟨some 71,.move (tM 6),some (some 61,true)⟩,⟨some 72,.move (tM 7),some (some 61,true)⟩,⟨some 73,.binOp .sub 3 (tM 72) (kI 1) 3,some (some 61,true)⟩,⟨some 74,.indexAddr 68 (tM 71) (tM 73),some (some 61,true)⟩,⟨some 75,.load 4 (tM 74),some (some 61,true)⟩,⟨some 76,.load 84 (tM 2),some (some 61,true)⟩,⟨some 77,.nilCheck (tM 76),some (some 61,true)⟩,⟨some 78,.fieldAddr 144 (tM 77) 1,some (some 61,true)⟩,⟨some 79,.load 3 (tM 78),some (some 61,true)⟩,⟨some 80,.call ⟨.value (.func 110),#[.tmp 62,.tmp 70,.tmp 75,.tmp 79],#[148,148,4,3]⟩,some (some 61,true)⟩,sO 81 (.pick (tM 61) (tM 80) (.const (.bool false))),iX 82 68 57 58,⟨none,.store 4 (tM 82) (tM 81),none⟩]
def c73_r12:List SOp:=[sO 83 (.binOp .add 3 (tM 35) (kI 1) 3),mV 35 83]
def c73_l7:SC:=(.seq (.reg c73_r7 none (some [2,5,6,33,34,35,36])) (.seq (.cond (.tmp 36) .skip (.exit 0) (some [2,5,6,33,34,35])) (.seq (.block 1 (.seq (.reg c73_r8 none (some [2,5,6,7,8,33,34,35])) (.seq (.reg c73_r9 none (some [2,5,6,7,8,33,34,35])) (.seq (.reg c73_r10 none (some [2,5,6,7,8,33,34,35,56])) (.cond (.tmp 56) (.reg c73_r11 none (some [2,5,6,33,34,35])) .skip (some [2,5,6,33,34,35])))))) (.reg c73_r12 none (some [2,5,6,33,34,35])))))
def c73_r13:List SOp:=[lD 84 84 2,nI 85 84,fD 86 144 85 2,lD 87 141 86,⟨some 88,.call ⟨.builtin .len,#[.tmp 87],#[141]⟩,none⟩,sO 89 (.move (kI 0))]
def c73_r14:List SOp:=[sO 90 (.binOp .lss 3 (tM 89) (tM 88) 3)]
def c73_r15:List SOp:=[mV 91 89,iX 92 141 87 89,lD 93 148 92,aS 9 91,aS 10 93]
def c73_r16:List SOp:=[mV 94 10,lD 95 84 2,nI 96 95,fD 97 144 96 1,lD 98 3 97,mV 99 6,mV 100 9,iX 101 68 99 100,lD 102 4 101,⟨some 103,.call ⟨.value (.func 111),#[.tmp 94,.tmp 98,.tmp 102],#[148,3,4]⟩,none⟩]
def c73_r17:List SOp:=[lD 104 84 2,lD 105 84 2,nI 106 105,fD 107 144 106 5,lD 108 4 107,mV 109 108,⟨some 110,.move (tM 10),some (some 109,false)⟩,⟨some 111,.nilCheck (tM 110),some (some 109,false)⟩,⟨some 112,.fieldAddr 147 (tM 111) 6,some (some 109,false)⟩,⟨some 113,.load 3 (tM 112),some (some 109,false)⟩,⟨some 114,.load 84 (tM 2),some (some 109,false)⟩,⟨some 115,.nilCheck (tM 114),some (some 109,false)⟩,⟨some 116,.fieldAddr 144 (tM 115) 0,some (some 109,false)⟩,⟨some 117,.load 3 (tM 116),some (some 109,false)⟩,⟨some 118,.binOp .gtr 3 (tM 113) (tM 117) 3,some (some 109,false)⟩,sO 119 (.pick (tM 109) (.const (.bool true)) (tM 118)),nI 120 104,fD 121 144 120 5,⟨none,.store 4 (tM 121) (tM 119),none⟩]
def c73_r18:List SOp:=[sO 122 (.binOp .add 3 (tM 89) (kI 1) 3),mV 89 122]
def c73_l14:SC:=(.seq (.reg c73_r14 none (some [2,5,6,87,88,89,90])) (.seq (.cond (.tmp 90) .skip (.exit 2) (some [2,5,6,87,88,89])) (.seq (.block 3 (.seq (.reg c73_r15 none (some [2,5,6,9,10,87,88,89])) (.seq (.reg c73_r16 none (some [2,5,6,10,87,88,89])) (.reg c73_r17 none (some [2,5,6,87,88,89]))))) (.reg c73_r18 none (some [2,5,6,87,88,89])))))
def c73_r19:List SOp:=[lD 123 84 2,nI 124 123,fD 125 144 124 3,lD 126 142 125,⟨some 127,.call ⟨.builtin .len,#[.tmp 126],#[142]⟩,none⟩,sO 128 (.move (kI 0))]
def c73_r20:List SOp:=[sO 129 (.binOp .lss 3 (tM 128) (tM 127) 3)]
def c73_r21:List SOp:=[mV 130 128,aS 11 130]
def c73_r22:List SOp:=[lD 131 84 2,lD 132 84 2,nI 133 132,fD 134 144 133 4,lD 135 4 134,mV 136 135,⟨some 137,.move (tM 5),some (some 136,false)⟩,⟨some 138,.load 84 (tM 2),some (some 136,false)⟩,⟨some 139,.nilCheck (tM 138),some (some 136,false)⟩,⟨some 140,.fieldAddr 144 (tM 139) 3,some (some 136,false)⟩,⟨some 141,.load 142 (tM 140),some (some 136,false)⟩,⟨some 142,.move (tM 11),some (some 136,false)⟩,⟨some 143,.indexAddr 142 (tM 141) (tM 142),some (some 136,false)⟩,⟨some 144,.call ⟨.value (tM 137),#[.tmp 143],#[148]⟩,some (some 136,false)⟩,sO 145 (.pick (tM 136) (.const (.bool true)) (tM 144)),nI 146 131,fD 147 144 146 4,⟨none,.store 4 (tM 147) (tM 145),none⟩]
def c73_r23:List SOp:=[sO 148 (.binOp .add 3 (tM 128) (kI 1) 3),mV 128 148]
def c73_l20:SC:=(.seq (.reg c73_r20 none (some [2,5,127,128,129])) (.seq (.cond (.tmp 129) .skip (.exit 4) (some [2,5,127,128])) (.seq (.block 5 (.seq (.reg c73_r21 none (some [2,5,11,127,128])) (.reg c73_r22 (some [(0,13)]) (some [2,5,127,128])))) (.reg c73_r23 none (some [2,5,127,128])))))
def c73_r24:List SOp:=[lD 149 84 2,nI 150 149,fD 151 144 150 5,lD 152 4 151,aS 4 152]
def c73:SC:=(.seq (.reg c73_r0 none (some [2,3])) (.seq (.seq (.reg c73_r1 none (some [2,3,15])) (.cond (.tmp 15) (.seq (.reg c73_r2 none (some [4])) .ret) .skip (some [2,3]))) (.seq (.reg c73_r3 none (some [2,3])) (.seq (.reg c73_r4 none (some [2,5])) (.seq (.reg c73_r5 none (some [2,5,6])) (.seq (.seq (.reg c73_r6 none (some [2,5,6,33,34,35])) (.block 0 (.loop c73_l7 (some [2,5,6,33,34,35])))) (.seq (.seq (.reg c73_r13 none (some [2,5,6,87,88,89])) (.block 2 (.loop c73_l14 (some [2,5,6,87,88,89])))) (.seq (.seq (.reg c73_r19 none (some [2,5,127,128])) (.block 4 (.loop c73_l20 (some [2,5,127,128])))) (.seq (.reg c73_r24 none (some [4])) .ret)))))))))
theorem c73_eq:∃code,Try.f73.body=some code/\compile H73 code=c73 :=⟨_,rfl,by kernel_rfl⟩
theorem c73_fn:Try.prog.funcs[73]?=some Try.f73:=by kernel_rfl
theorem c73_rs:Try.f73.results.toList=[.tmp 4]:=by kernel_rfl
theorem c73_ok:fnB Try.prog H73 Try.f73=true:=by kernel_rfl
theorem c73_nt:Try.f73.ntmps=153:=by kernel_rfl
def H74:Hint:=⟨[(7,[2]),(6,[3,15,16,17]),(5,[3,15,16,17]),(4,[3,4,5,15,16,17]),(2000018,[3,15,16,17]),(3,[3,15,16,17,18]),(1000003,[3,15,16,17]),(2,[3,15,16,17]),(1,[0,3]),(0,[0])],[]⟩
def c74_r0:List SOp:=[sO 2 (.assign (.const (.slice none 0 0)))]
def c74_r1:List SOp:=[mV 6 0,nI 7 6,fD 8 144 7 2,lD 9 141 8,⟨some 10,.call ⟨.builtin .len,#[.tmp 9],#[141]⟩,none⟩,sO 11 (.makeSlice 30 (tM 10) (tM 10)),aS 3 11]
def c74_r2:List SOp:=[mV 12 0,nI 13 12,fD 14 144 13 2,lD 15 141 14,⟨some 16,.call ⟨.builtin .len,#[.tmp 15],#[141]⟩,none⟩,sO 17 (.move (kI 0))]
def c74_r3:List SOp:=[sO 18 (.binOp .lss 3 (tM 17) (tM 16) 3)]
def c74_r4:List SOp:=[mV 19 17,iX 20 141 15 17,lD 21 148 20,aS 4 19,aS 5 21]
def c74_r5:List SOp:=[mV 22 3,mV 23 4,mV 24 5,nI 25 24,fD 26 147 25 6,lD 27 3 26,iX 28 30 22 23,⟨none,.store 3 (tM 28) (tM 27),none⟩]
def c74_r6:List SOp:=[sO 29 (.binOp .add 3 (tM 17) (kI 1) 3),mV 17 29]
def c74_l3:SC:=(.seq (.reg c74_r3 none (some [3,15,16,17,18])) (.seq (.cond (.tmp 18) .skip (.exit 0) (some [3,15,16,17])) (.seq (.block 1 (.seq (.reg c74_r4 none (some [3,4,5,15,16,17])) (.reg c74_r5 none (some [3,15,16,17])))) (.reg c74_r6 none (some [3,15,16,17])))))
def c74_r7:List SOp:=[mV 30 3,aS 2 30]
def c74:SC:=(.seq (.reg c74_r0 none (some [0])) (.seq (.reg c74_r1 none (some [0,3])) (.seq (.seq (.reg c74_r2 none (some [3,15,16,17])) (.block 0 (.loop c74_l3 (some [3,15,16,17])))) (.seq (.reg c74_r7 none (some [2])) .ret))))
theorem c74_eq:∃code,Try.f74.body=some code/\compile H74 code=c74 :=⟨_,rfl,by kernel_rfl⟩
theorem c74_fn:Try.prog.funcs[74]?=some Try.f74:=by kernel_rfl
theorem c74_rs:Try.f74.results.toList=[.tmp 2]:=by kernel_rfl
theorem c74_ok:fnB Try.prog H74 Try.f74=true:=by kernel_rfl
theorem c74_nt:Try.f74.ntmps=31:=by kernel_rfl
def H75:Hint:=⟨[(1,[2]),(0,[0])],[]⟩
def c75_r0:List SOp:=[sO 2 (.assign (.const (.bool false)))]
def c75_r1:List SOp:=[mV 3 0,nI 4 3,fD 5 144 4 5,lD 6 4 5,aS 2 6]
def c75:SC:=(.seq (.reg c75_r0 none (some [0])) (.seq (.reg c75_r1 none (some [2])) .ret))
theorem c75_eq:∃code,Try.f75.body=some code/\compile H75 code=c75 :=⟨_,rfl,by kernel_rfl⟩
theorem c75_fn:Try.prog.funcs[75]?=some Try.f75:=by kernel_rfl
theorem c75_rs:Try.f75.results.toList=[.tmp 2]:=by kernel_rfl
theorem c75_ok:fnB Try.prog H75 Try.f75=true:=by kernel_rfl
theorem c75_nt:Try.f75.ntmps=7:=by kernel_rfl
def H76:Hint:=⟨[(7,[2]),(6,[0,8,9,10]),(5,[2]),(2000018,[0,8,9,10]),(4,[0,8,9,10,18]),(3,[0,4,8,9,10]),(2000011,[0,8,9,10]),(2,[0,8,9,10,11]),(1000002,[0,8,9,10]),(1,[0,8,9,10]),(0,[0])],[]⟩
def c76_r0:List SOp:=[sO 2 (.assign (.const (.bool false)))]
def c76_r1:List SOp:=[mV 5 0,nI 6 5,fD 7 144 6 2,lD 8 141 7,⟨some 9,.call ⟨.builtin .len,#[.tmp 8],#[141]⟩,none⟩,sO 10 (.move (kI 0))]
def c76_r2:List SOp:=[sO 11 (.binOp .lss 3 (tM 10) (tM 9) 3)]
def c76_r3:List SOp:=[iX 12 141 8 10,lD 13 148 12,aS 4 13]
def c76_r4:List SOp:=[mV 14 4,nI 15 14,fD 16 147 15 7,lD 17 4 16,sO 18 (.unOp .not 4 (tM 17))]
def c76_r5:List SOp:=[sO 2 (.assign (.const (.bool false)))]
def c76_r6:List SOp:=[sO 19 (.binOp .add 3 (tM 10) (kI 1) 3),mV 10 19]
def c76_l2:SC:=(.seq (.reg c76_r2 none (some [0,8,9,10,11])) (.seq (.cond (.tmp 11) .skip (.exit 0) (some [0,8,9,10])) (.seq (.block 1 (.seq (.reg c76_r3 none (some [0,4,8,9,10])) (.seq (.reg c76_r4 none (some [0,8,9,10,18])) (.cond (.tmp 18) (.seq (.reg c76_r5 none (some [2])) .ret) .skip (some [0,8,9,10]))))) (.reg c76_r6 none (some [0,8,9,10])))))
def c76_r7:List SOp:=[mV 20 0,nI 21 20,fD 22 144 21 4,lD 23 4 22,sO 24 (.unOp .not 4 (tM 23)),aS 2 24]
def c76:SC:=(.seq (.reg c76_r0 none (some [0])) (.seq (.seq (.reg c76_r1 none (some [0,8,9,10])) (.block 0 (.loop c76_l2 (some [0,8,9,10])))) (.seq (.reg c76_r7 none (some [2])) .ret)))
theorem c76_eq:∃code,Try.f76.body=some code/\compile H76 code=c76 :=⟨_,rfl,by kernel_rfl⟩
theorem c76_fn:Try.prog.funcs[76]?=some Try.f76:=by kernel_rfl
theorem c76_rs:Try.f76.results.toList=[.tmp 2]:=by kernel_rfl
theorem c76_ok:fnB Try.prog H76 Try.f76=true:=by kernel_rfl
theorem c76_nt:Try.f76.ntmps=25:=by kernel_rfl
def H78:Hint:=⟨[(1,[4]),(0,[0,1])],[]⟩
def c78_r0:List SOp:=[sO 4 (.assign (.const (.bool false)))]
def c78_r1:List SOp:=[mV 5 0,mV 6 1,sO 7 (.binOp .gtr 3 (tM 5) (tM 6) 3),aS 4 7]
def c78:SC:=(.seq (.reg c78_r0 none (some [0,1])) (.seq (.reg c78_r1 none (some [4])) .ret))
theorem c78_eq:∃code,Try.f78.body=some code/\compile H78 code=c78 :=⟨_,rfl,by kernel_rfl⟩
theorem c78_fn:Try.prog.funcs[78]?=some Try.f78:=by kernel_rfl
theorem c78_rs:Try.f78.results.toList=[.tmp 4]:=by kernel_rfl
theorem c78_ok:fnB Try.prog H78 Try.f78=true:=by kernel_rfl
theorem c78_nt:Try.f78.ntmps=8:=by kernel_rfl
def H79:Hint:=⟨[(6,[0]),(5,[2,3,4,5]),(4,[1,2,3]),(3,[0]),(2000011,[1]),(2,[1,11]),(1,[1]),(0,[])],[]⟩
def c79_r0:List SOp:=[sO 0 (.assign (.const (.bool false)))]
def c79_r1:List SOp:=[sO 6 (.build 107 #[(0,(kI 2)),(9,(kI 7)),(10,(kI 1))]),sO 7 (.buildSlice 89 1 #[(0,(tM 6))]),sO 8 (.buildSlice 30 1 #[(0,(kI 0))]),⟨some 9,.call ⟨.value (.func 81),#[(tM 7),(tM 8),(kI 4)],#[89,30,3]⟩,none⟩,aS 1 9]
def c79_r2:List SOp:=[mV 10 1,sO 11 (.binOp .eql 91 (tM 10) (.const (.pointer none)) 91)]
def c79_r3:List SOp:=[sO 0 (.assign (.const (.bool false)))]
def c79_r4:List SOp:=[mV 13 1,⟨some 14,.call ⟨.value (.func 82),#[.tmp 13],#[91]⟩,none⟩,mV 12 14,sO 15 (.extract (tM 12) 0),sO 16 (.extract (tM 12) 1),aS 2 15,aS 3 16]
def c79_r5:List SOp:=[mV 18 1,⟨some 19,.call ⟨.value (.func 83),#[(tM 18),(.const (.int .u8 97))],#[91,5]⟩,none⟩,mV 17 19,sO 20 (.extract (tM 17) 0),sO 21 (.extract (tM 17) 1),aS 4 20,aS 5 21]
def c79_r6:List SOp:=[mV 22 2,⟨some 23,.call ⟨.builtin .len,#[.tmp 22],#[94]⟩,none⟩,sO 24 (.binOp .eql 3 (tM 23) (kI 1) 3),mV 25 24,⟨some 26,.move (tM 2),some (some 25,true)⟩,⟨some 27,.indexAddr 94 (tM 26) (kI 0),some (some 25,true)⟩,⟨some 28,.fieldAddr 99 (tM 27) 0,some (some 25,true)⟩,⟨some 29,.load 3 (tM 28),some (some 25,true)⟩,⟨some 30,.binOp .eql 3 (tM 29) (kI 7) 3,some (some 25,true)⟩,sO 31 (.pick (tM 25) (tM 30) (.const (.bool false))),mV 32 31,⟨some 33,.move (tM 2),some (some 32,true)⟩,⟨some 34,.indexAddr 94 (tM 33) (kI 0),some (some 32,true)⟩,⟨some 35,.fieldAddr 99 (tM 34) 2,some (some 32,true)⟩,⟨some 36,.load 3 (tM 35),some (some 32,true)⟩,⟨some 37,.binOp .eql 3 (tM 36) (kI 0) 3,some (some 32,true)⟩,sO 38 (.pick (tM 32) (tM 37) (.const (.bool false))),mV 39 38,⟨some 40,.move (tM 3),some (some 39,true)⟩,⟨some 41,.binOp .eql 3 (tM 40) (kI 2) 3,some (some 39,true)⟩,sO 42 (.pick (tM 39) (tM 41) (.const (.bool false))),mV 43 42,⟨some 44,.move (tM 4),some (some 43,true)⟩,⟨some 45,.call ⟨.builtin .len,#[.tmp 44],#[94]⟩,some (some 43,true)⟩,⟨some 46,.binOp .eql 3 (tM 45) (kI 0) 3,some (some 43,true)⟩,sO 47 (.pick (tM 43) (tM 46) (.const (.bool false))),mV 48 47,⟨some 49,.move (tM 5),some (some 48,true)⟩,⟨some 50,.binOp .eql 3 (tM 49) (kI 0) 3,some (some 48,true)⟩,sO 51 (.pick (tM 48) (tM 50) (.const (.bool false))),mV 52 51,⟨some 53,.call ⟨.value (.func 78),#[(kI 4),(kI 3)],#[3,3]⟩,some (some 52,true)⟩,sO 54 (.pick (tM 52) (tM 53) (.const (.bool false))),aS 0 54]
def c79:SC:=(.seq (.reg c79_r0 none (some [])) (.seq (.reg c79_r1 none (some [1])) (.seq (.seq (.reg c79_r2 none (some [1,11])) (.cond (.tmp 11) (.seq (.reg c79_r3 none (some [0])) .ret) .skip (some [1]))) (.seq (.reg c79_r4 none (some [1,2,3])) (.seq (.reg c79_r5 none (some [2,3,4,5])) (.seq (.reg c79_r6 none (some [0])) .ret))))))
theorem c79_eq:∃code,Try.f79.body=some code/\compile H79 code=c79 :=⟨_,rfl,by kernel_rfl⟩
theorem c79_fn:Try.prog.funcs[79]?=some Try.f79:=by kernel_rfl
theorem c79_rs:Try.f79.results.toList=[.tmp 0]:=by kernel_rfl
theorem c79_ok:fnB Try.prog H79 Try.f79=true:=by kernel_rfl
theorem c79_nt:Try.f79.ntmps=55:=by kernel_rfl
def H80:Hint:=⟨[(14,[2]),(4,[0,3,4]),(13,[0,3,4]),(12,[0,3,4,6]),(11,[0,3,4,5,6]),(10,[0,3,4,5,6]),(2000063,[0,3,4,5,6]),(9,[0,3,4,5,6,63]),(8,[0,3,4,5,6]),(2000051,[0,3,4,5,6]),(7,[0,3,4,5,6,51]),(6,[0,3,4,5,6]),(5,[0,3,4,5]),(2000015,[0,3,4]),(3,[0,3,4,15]),(1000003,[0,3,4]),(2,[0,3,4]),(1,[0,3]),(0,[0])],[]⟩
def c80_r0:List SOp:=[sO 2 (.assign (.const (.slice none 0 0)))]
def c80_r1:List SOp:=[sO 3 (.assign (.const (.slice none 0 0)))]
def c80_r2:List SOp:=[sO 4 (.assign (kI 0))]
def c80_r3:List SOp:=[mV 7 4,sO 8 (.binOp .add 3 (tM 7) (kI 3) 3),mV 9 0,⟨some 10,.call ⟨.builtin .len,#[.tmp 9],#[30]⟩,none⟩,sO 11 (.binOp .lss 3 (tM 8) (tM 10) 3),mV 12 11,⟨some 13,.move (tM 4),some (some 12,true)⟩,⟨some 14,.binOp .lss 3 (tM 13) (kI 24) 3,some (some 12,true)⟩,sO 15 (.pick (tM 12) (tM 14) (.const (.bool false)))]
def c80_r5:List SOp:=[mV 18 0,mV 19 4,iX 20 30 18 19,lD 21 3 20,⟨some 22,.call ⟨.value (.func 29),#[(tM 21),(kI 16777216)],#[3,3]⟩,none⟩,aS 5 22]
def c80_r6:List SOp:=[sO 23 (.build 152 #[(0,(kI 1)),(1,(kI 1)),(2,(kI 1)),(3,(kI 1)),(4,(kI 2)),(5,(kI 3)),(6,(kI 4)),(7,(kI 1))]),mV 24 5,sO 25 (.binOp .rem 3 (tM 24) (kI 8) 3),sO 26 (.index 152 (tM 23) (tM 25)),sO 27 (.build 153 #[(0,(kI 6)),(1,(kI 6)),(2,(kI 0)),(3,(kI 17))]),mV 28 5,sO 29 (.binOp .quo 3 (tM 28) (kI 8) 3),sO 30 (.binOp .rem 3 (tM 29) (kI 4) 3),sO 31 (.index 153 (tM 27) (tM 30)),sO 32 (.build 153 #[(0,(kI 0)),(1,(kI 1)),(2,(kI 2)),(3,(kI 0))]),mV 33 5,sO 34 (.binOp .quo 3 (tM 33) (kI 32) 3),sO 35 (.binOp .rem 3 (tM 34) (kI 4) 3),sO 36 (.index 153 (tM 32) (tM 35)),mV 37 5,sO 38 (.binOp .quo 3 (tM 37) (kI 128) 3),sO 39 (.binOp .rem 3 (tM 38) (kI 4) 3),sO 40 (.binOp .eql 3 (tM 39) (kI 0) 3),mV 41 4,sO 42 (.binOp .add 3 (kI 100) (tM 41) 3),mV 43 5,sO 44 (.binOp .quo 3 (tM 43) (kI 512) 3),sO 45 (.binOp .rem 3 (tM 44) (kI 3) 3),sO 46 (.binOp .add 3 (kI 1) (tM 45) 3),sO 47 (.build 107 #[(0,(tM 26)),(1,(tM 31)),(7,(tM 36)),(6,(tM 40)),(9,(tM 42)),(10,(tM 46))]),sO 6 (.alloc 107),⟨none,.store 107 (tM 6) (tM 47),none⟩]
def c80_r7:List SOp:=[mV 48 5,sO 49 (.binOp .quo 3 (tM 48) (kI 1536) 3),sO 50 (.binOp .rem 3 (tM 49) (kI 3) 3),sO 51 (.binOp .eql 3 (tM 50) (kI 0) 3)]
def c80_r8:List SOp:=[mV 52 5,sO 53 (.binOp .quo 3 (tM 52) (kI 4608) 3),sO 54 (.binOp .rem 3 (tM 53) (kI 2) 3),sO 55 (.binOp .add 3 (kI 80) (tM 54) 3),sO 56 (.build 155 #[(0,(kI 80)),(1,(tM 55))]),sO 57 (.buildSlice 103 1 #[(0,(tM 56))]),sO 58 (.build 105 #[(1,(tM 57))]),fD 59 107 6 5,⟨none,.store 105 (tM 59) (tM 58),none⟩]
def c80_r9:List SOp:=[mV 60 5,sO 61 (.binOp .quo 3 (tM 60) (kI 9216) 3),sO 62 (.binOp .rem 3 (tM 61) (kI 4) 3),sO 63 (.binOp .eql 3 (tM 62) (kI 0) 3)]
def c80_r10:List SOp:=[mV 64 5,sO 65 (.binOp .quo 3 (tM 64) (kI 36864) 3),sO 66 (.binOp .rem 3 (tM 65) (kI 2) 3),sO 67 (.binOp .eql 3 (tM 66) (kI 0) 3),mV 68 5,sO 69 (.binOp .quo 3 (tM 68) (kI 73728) 3),sO 70 (.binOp .rem 3 (tM 69) (kI 3) 3),sO 71 (.binOp .add 3 (kI 30) (tM 70) 3),sO 72 (.build 158 #[(0,(.const (.int .u32 167772161))),(1,(tM 71))]),sO 73 (.buildSlice 100 1 #[(0,(tM 72))]),sO 74 (.build 102 #[(0,(tM 67)),(1,(tM 73))]),fD 75 107 6 2,⟨none,.store 102 (tM 75) (tM 74),none⟩]
def c80_r11:List SOp:=[fD 76 107 6 2,lD 77 102 76,⟨some 78,.call ⟨.value (.func 112),#[.tmp 77],#[102]⟩,none⟩,fD 79 107 6 2,⟨none,.store 102 (tM 79) (tM 78),none⟩]
def c80_r12:List SOp:=[mV 80 0,mV 81 4,sO 82 (.binOp .add 3 (tM 81) (kI 1) 3),mV 83 4,sO 84 (.binOp .add 3 (tM 83) (kI 1) 3),mV 85 5,sO 86 (.binOp .quo 3 (tM 85) (kI 221184) 3),sO 87 (.binOp .rem 3 (tM 86) (kI 4) 3),sO 88 (.binOp .add 3 (tM 84) (tM 87) 3),sO 89 (.slice 30 (tM 80) (some (tM 82)) (some (tM 88)) none),⟨some 90,.call ⟨.value (.func 49),#[.tmp 89],#[30]⟩,none⟩,fD 91 107 6 8,⟨none,.store 42 (tM 91) (tM 90),none⟩]
def c80_r13:List SOp:=[mV 92 3,lD 93 107 6,sO 94 (.buildSlice 89 1 #[(0,(tM 93))]),⟨some 95,.call ⟨.builtin .append,#[.tmp 92,.tmp 94],#[89,89]⟩,none⟩,aS 3 95]
def c80_r4:List SOp:=[mV 16 4,sO 17 (.binOp .add 3 (tM 16) (kI 4) 3),aS 4 17]
def c80_l3:SC:=(.seq (.seq (.reg c80_r3 none (some [0,3,4,15])) (.cond (.tmp 15) .skip (.exit 0) (some [0,3,4]))) (.seq (.block 1 (.seq (.reg c80_r5 none (some [0,3,4,5])) (.seq (.reg c80_r6 none (some [0,3,4,5,6])) (.seq (.seq (.reg c80_r7 none (some [0,3,4,5,6,51])) (.cond (.tmp 51) (.reg c80_r8 none (some [0,3,4,5,6])) .skip (some [0,3,4,5,6]))) (.seq (.seq (.reg c80_r9 none (some [0,3,4,5,6,63])) (.cond (.tmp 63) (.reg c80_r10 none (some [0,3,4,5,6])) .skip (some [0,3,4,5,6]))) (.seq (.reg c80_r11 none (some [0,3,4,5,6])) (.seq (.reg c80_r12 none (some [0,3,4,6])) (.reg c80_r13 none (some [0,3,4]))))))))) (.reg c80_r4 none (some [0,3,4]))))
def c80_r14:List SOp:=[mV 96 3,aS 2 96]
def c80:SC:=(.seq (.reg c80_r0 none (some [0])) (.seq (.reg c80_r1 none (some [0,3])) (.seq (.seq (.reg c80_r2 none (some [0,3,4])) (.block 0 (.loop c80_l3 (some [0,3,4])))) (.seq (.reg c80_r14 none (some [2])) .ret))))
theorem c80_eq:∃code,Try.f80.body=some code/\compile H80 code=c80 :=⟨_,rfl,by kernel_rfl⟩
theorem c80_fn:Try.prog.funcs[80]?=some Try.f80:=by kernel_rfl
theorem c80_rs:Try.f80.results.toList=[.tmp 2]:=by kernel_rfl
theorem c80_ok:fnB Try.prog H80 Try.f80=true:=by kernel_rfl
theorem c80_nt:Try.f80.ntmps=97:=by kernel_rfl
def H81:Hint:=⟨[(21,[6]),(20,[7]),(19,[7,8,10,17]),(18,[0,2,7,8,9,10,21,22,23]),(17,[0,2,7,8,9,10,13,21,22,23,69,70,71]),(16,[0,2,7,8,9,10,13,21,22,23,69,70,71]),(15,[0,2,7,8,9,10,13,15,21,22,23,69,70,71]),(2000084,[0,2,7,8,9,10,13,14,15,21,22,23,69,70,71]),(14,[0,2,7,8,9,10,13,14,15,21,22,23,69,70,71,84]),(13,[0,2,7,8,9,10,13,14,15,16,21,22,23,69,70,71]),(12,[0,2,7,8,9,10,13,14,15,21,22,23,69,70,71]),(2000072,[0,2,7,8,9,10,13,21,22,23,69,70,71]),(11,[0,2,7,8,9,10,13,21,22,23,69,70,71,72]),(1000011,[0,2,7,8,9,10,13,21,22,23,69,70,71]),(10,[0,2,7,8,9,10,13,21,22,23,69,70,71]),(9,[0,2,7,8,9,10,12,13,21,22,23]),(8,[0,2,7,8,9,10,12,13,21,22,23]),(2000034,[0,2,7,8,9,10,12,21,22,23]),(7,[0,2,7,8,9,10,12,21,22,23,34]),(6,[0,2,7,8,9,10,12,21,22,23]),(2000024,[0,2,7,8,9,10,21,22,23]),(5,[0,2,7,8,9,10,21,22,23,24]),(1000005,[0,2,7,8,9,10,21,22,23]),(4,[0,2,7,8,9,10,21,22,23]),(3,[0,1,2,7,8,9,10]),(2,[0,1,2,7,8,9]),(1,[0,1,2,7]),(0,[0,1,2])],[(8,[(3,10),(15,10),(16,10)]),(16,[(7,3),(7,4),(13,3),(13,4),(13,8),(13,9),(13,10)])]⟩
def c81_r0:List SOp:=[sO 6 (.assign (.const (.pointer none)))]
def c81_r1:List SOp:=[sO 19 (.build 163 #[]),sO 20 (.box 163 (tM 19)),aS 7 20]
def c81_r2:List SOp:=[sO 8 (.assign (.const (.slice none 0 0))),sO 9 (.assign (.const (.slice none 0 0)))]
def c81_r3:List SOp:=[sO 10 (.assign (.const (.slice none 0 0)))]
def c81_r4:List SOp:=[mV 21 1,⟨some 22,.call ⟨.builtin .len,#[.tmp 21],#[30]⟩,none⟩,sO 23 (.move (kI 0))]
def c81_r5:List SOp:=[sO 24 (.binOp .lss 3 (tM 23) (tM 22) 3)]
def c81_r6:List SOp:=[iX 25 30 21 23,lD 26 3 25,aS 12 26]
def c81_r7:List SOp:=[mV 27 12,sO 28 (.binOp .lss 3 (tM 27) (kI 0) 3),mV 29 28,⟨some 30,.move (tM 12),some (some 29,false)⟩,⟨some 31,.move (tM 0),some (some 29,false)⟩,⟨some 32,.call ⟨.builtin .len,#[.tmp 31],#[89]⟩,some (some 29,false)⟩,⟨some 33,.binOp .geq 3 (tM 30) (tM 32) 3,some (some 29,false)⟩,sO 34 (.pick (tM 29) (.const (.bool true)) (tM 33))]
def c81_r8:List SOp:=[mV 35 0,mV 36 12,iX 37 89 35 36,lD 38 107 37,mV 39 0,mV 40 12,iX 41 89 39 40,fD 42 107 41 8,lD 43 42 42,mV 44 2,⟨some 45,.call ⟨.value (.func 72),#[.tmp 43,.tmp 44],#[42,3]⟩,none⟩,mV 46 0,mV 47 12,iX 48 89 46 47,fD 49 107 48 8,lD 50 42 49,⟨some 51,.call ⟨.builtin .len,#[.tmp 50],#[42]⟩,none⟩,sO 52 (.makeSlice 68 (tM 51) (tM 51)),sO 53 (.build 166 #[(0,(tM 38)),(1,(tM 45)),(2,(tM 52))]),sO 54 (.box 166 (tM 53)),aS 13 54]
def c81_r9:List SOp:=[mV 55 7,mV 56 7,nI 57 56,fD 58 163 57 2,lD 59 161 58,mV 60 13,sO 61 (.buildSlice 161 1 #[(0,(tM 60))]),⟨some 62,.call ⟨.builtin .append,#[.tmp 59,.tmp 61],#[161,161]⟩,none⟩,nI 63 55,fD 64 163 63 2,⟨none,.store 161 (tM 64) (tM 62),none⟩]
def c81_r10:List SOp:=[mV 65 0,mV 66 12,iX 67 89 65 66,fD 68 107 67 8,lD 69 42 68,⟨some 70,.call ⟨.builtin .len,#[.tmp 69],#[42]⟩,none⟩,sO 71 (.move (kI 0))]
def c81_r11:List SOp:=[sO 72 (.binOp .lss 3 (tM 71) (tM 70) 3)]
def c81_r12:List SOp:=[mV 73 71,iX 74 42 69 71,lD 75 52 74,sO 15 (.alloc 52),aS 14 73,⟨none,.store 52 (tM 15) (tM 75),none⟩]
def c81_r13:List SOp:=[fD 76 52 15 0,lD 77 9 76,⟨some 78,.call ⟨.builtin .len,#[.tmp 77],#[9]⟩,none⟩,aS 16 78]
def c81_r14:List SOp:=[mV 79 16,sO 80 (.binOp .eql 3 (tM 79) (kI 0) 3),mV 81 80,⟨some 82,.move (tM 16),some (some 81,false)⟩,⟨some 83,.binOp .gtr 3 (tM 82) (kI 16) 3,some (some 81,false)⟩,sO 84 (.pick (tM 81) (.const (.bool true)) (tM 83))]
def c81_r15:List SOp:=[mV 85 7,mV 86 7,nI 87 86,fD 88 163 87 1,lD 89 160 88,mV 90 13,mV 91 14,sO 92 (.build 168 #[(0,(tM 90)),(1,(tM 91))]),sO 93 (.buildSlice 160 1 #[(0,(tM 92))]),⟨some 94,.call ⟨.builtin .append,#[.tmp 89,.tmp 93],#[160,160]⟩,none⟩,nI 95 85,fD 96 163 95 1,⟨none,.store 160 (tM 96) (tM 94),none⟩]
def c81_r16:List SOp:=[mV 97 8,fD 98 52 15 0,lD 99 9 98,sO 100 (.buildSlice 38 1 #[(0,(tM 99))]),⟨some 101,.call ⟨.builtin .append,#[.tmp 97,.tmp 100],#[38,38]⟩,none⟩,mV 102 9,fD 103 52 15 0,lD 104 9 103,⟨some 105,.call ⟨.value (.func 59),#[.tmp 104],#[9]⟩,none⟩,sO 106 (.buildSlice 38 1 #[(0,(tM 105))]),⟨some 107,.call ⟨.builtin .append,#[.tmp 102,.tmp 106],#[38,38]⟩,none⟩,mV 108 10,fD 109 52 15 1,lD 110 4 109,sO 111 (.buildSlice 68 1 #[(0,(tM 110))]),⟨some 112,.call ⟨.builtin .append,#[.tmp 108,.tmp 111],#[68,68]⟩,none⟩,aS 8 101,aS 9 107,aS 10 112]
def c81_r17:List SOp:=[sO 113 (.binOp .add 3 (tM 71) (kI 1) 3),mV 71 113]
def c81_l11:SC:=(.seq (.reg c81_r11 none (some [0,2,7,8,9,10,13,21,22,23,69,70,71,72])) (.seq (.cond (.tmp 72) .skip (.exit 2) (some [0,2,7,8,9,10,13,21,22,23,69,70,71])) (.seq (.block 3 (.seq (.reg c81_r12 none (some [0,2,7,8,9,10,13,14,15,21,22,23,69,70,71])) (.seq (.seq (.reg c81_r13 none (some [0,2,7,8,9,10,13,14,15,16,21,22,23,69,70,71])) (.seq (.reg c81_r14 none (some [0,2,7,8,9,10,13,14,15,21,22,23,69,70,71,84])) (.cond (.tmp 84) (.exit 3) .skip (some [0,2,7,8,9,10,13,14,15,21,22,23,69,70,71])))) (.seq (.reg c81_r15 none (some [0,2,7,8,9,10,13,15,21,22,23,69,70,71])) (.reg c81_r16 (some [(7,3),(7,4),(13,3),(13,4),(13,8),(13,9),(13,10)]) (some [0,2,7,8,9,10,13,21,22,23,69,70,71])))))) (.reg c81_r17 none (some [0,2,7,8,9,10,13,21,22,23,69,70,71])))))
def c81_r18:List SOp:=[sO 114 (.binOp .add 3 (tM 23) (kI 1) 3),mV 23 114]
def c81_l5:SC:=(.seq (.reg c81_r5 none (some [0,2,7,8,9,10,21,22,23,24])) (.seq (.cond (.tmp 24) .skip (.exit 0) (some [0,2,7,8,9,10,21,22,23])) (.seq (.block 1 (.seq (.reg c81_r6 none (some [0,2,7,8,9,10,12,21,22,23])) (.seq (.seq (.reg c81_r7 none (some [0,2,7,8,9,10,12,21,22,23,34])) (.cond (.tmp 34) (.exit 1) .skip (some [0,2,7,8,9,10,12,21,22,23]))) (.seq (.reg c81_r8 (some [(3,10),(15,10),(16,10)]) (some [0,2,7,8,9,10,12,13,21,22,23])) (.seq (.reg c81_r9 none (some [0,2,7,8,9,10,12,13,21,22,23])) (.seq (.reg c81_r10 none (some [0,2,7,8,9,10,13,21,22,23,69,70,71])) (.block 2 (.loop c81_l11 (some [0,2,7,8,9,10,13,21,22,23,69,70,71]))))))))) (.reg c81_r18 none (some [0,2,7,8,9,10,21,22,23])))))
def c81_r19:List SOp:=[mV 116 9,⟨some 117,.call ⟨.value (.func 52),#[(tM 116),(kI 4096)],#[38,3]⟩,none⟩,mV 115 117,sO 118 (.extract (tM 115) 0),sO 119 (.extract (tM 115) 1),aS 17 118,aS 18 119]
def c81_r20:List SOp:=[mV 120 7,mV 121 17,mV 122 8,mV 123 10,⟨some 124,.call ⟨.value (.func 102),#[.tmp 121,.tmp 122,.tmp 123],#[57,38,68]⟩,none⟩,nI 125 120,fD 126 163 125 0,⟨none,.store 69 (tM 126) (tM 124),none⟩]
def c81_r21:List SOp:=[mV 127 7,aS 6 127]
def c81:SC:=(.seq (.reg c81_r0 none (some [0,1,2])) (.seq (.reg c81_r1 none (some [0,1,2,7])) (.seq (.reg c81_r2 none (some [0,1,2,7,8,9])) (.seq (.reg c81_r3 none (some [0,1,2,7,8,9,10])) (.seq (.seq (.reg c81_r4 none (some [0,2,7,8,9,10,21,22,23])) (.block 0 (.loop c81_l5 (some [0,2,7,8,9,10,21,22,23])))) (.seq (.reg c81_r19 none (some [7,8,10,17])) (.seq (.reg c81_r20 none (some [7])) (.seq (.reg c81_r21 none (some [6])) .ret))))))))
theorem c81_eq:∃code,Try.f81.body=some code/\compile H81 code=c81 :=⟨_,rfl,by kernel_rfl⟩
theorem c81_fn:Try.prog.funcs[81]?=some Try.f81:=by kernel_rfl
theorem c81_rs:Try.f81.results.toList=[.tmp 6]:=by kernel_rfl
theorem c81_ok:fnB Try.prog H81 Try.f81=true:=by kernel_rfl
theorem c81_nt:Try.f81.ntmps=128:=by kernel_rfl
def H82:Hint:=⟨[(2,[2,3]),(1,[4]),(0,[0])],[]⟩
def c82_r0:List SOp:=[sO 2 (.assign (.const (.slice none 0 0))),sO 3 (.assign (kI 0))]
def c82_r1:List SOp:=[mV 5 0,⟨some 6,.call ⟨.value (.func 113),#[(tM 5),(.func 114)],#[91,170]⟩,none⟩,aS 4 6]
def c82_r2:List SOp:=[mV 7 4,mV 8 4,⟨some 9,.call ⟨.value (.func 115),#[.tmp 8],#[94]⟩,none⟩,aS 2 7,aS 3 9]
def c82:SC:=(.seq (.reg c82_r0 none (some [0])) (.seq (.reg c82_r1 none (some [4])) (.seq (.reg c82_r2 none (some [2,3])) .ret)))
theorem c82_eq:∃code,Try.f82.body=some code/\compile H82 code=c82 :=⟨_,rfl,by kernel_rfl⟩
theorem c82_fn:Try.prog.funcs[82]?=some Try.f82:=by kernel_rfl
theorem c82_rs:Try.f82.results.toList=[.tmp 2,.tmp 3]:=by kernel_rfl
theorem c82_ok:fnB Try.prog H82 Try.f82=true:=by kernel_rfl
theorem c82_nt:Try.f82.ntmps=10:=by kernel_rfl
def H83:Hint:=⟨[(16,[4,5]),(15,[0,10,51,52,53]),(14,[0,10,51,52,53]),(13,[0,10,13,51,52,53]),(12,[0,10,12,51,52,53]),(2000054,[0,10,51,52,53]),(11,[0,10,51,52,53,54]),(1000011,[0,10,51,52,53]),(10,[0,10,51,52,53]),(9,[0,6,10]),(8,[0,6,27,28,29]),(7,[0,6,27,28,29]),(6,[0,6,9,27,28,29]),(5,[0,6,8,27,28,29]),(2000030,[0,6,27,28,29]),(4,[0,6,27,28,29,30]),(1000004,[0,6,27,28,29]),(3,[0,6,27,28,29]),(2,[0,6]),(1,[0,1]),(0,[0,1])],[]⟩
def c83_r0:List SOp:=[sO 4 (.assign (.const (.slice none 0 0))),sO 5 (.assign (kI 0))]
def c83_r1:List SOp:=[mV 14 0,nI 15 14,fD 16 163 15 3,lD 17 3 16,sO 18 (.binOp .add 3 (tM 17) (kI 1) 3),nI 19 14,fD 20 163 19 3,⟨none,.store 3 (tM 20) (tM 18),none⟩]
def c83_r2:List SOp:=[mV 21 0,nI 22 21,fD 23 163 22 0,lD 24 69 23,mV 25 1,⟨some 26,.call ⟨.value (.func 65),#[.tmp 24,.tmp 25],#[69,5]⟩,none⟩,aS 6 26]
def c83_r3:List SOp:=[mV 27 6,⟨some 28,.call ⟨.builtin .len,#[.tmp 27],#[30]⟩,none⟩,sO 29 (.move (kI 0))]
def c83_r4:List SOp:=[sO 30 (.binOp .lss 3 (tM 29) (tM 28) 3)]
def c83_r5:List SOp:=[iX 31 30 27 29,lD 32 3 31,aS 8 32]
def c83_r6:List SOp:=[mV 33 0,nI 34 33,fD 35 163 34 1,lD 36 160 35,mV 37 8,iX 38 160 36 37,lD 39 168 38,sO 9 (.alloc 168),⟨none,.store 168 (tM 9) (tM 39),none⟩]
def c83_r7:List SOp:=[fD 40 168 9 0,lD 41 164 40,nI 42 41,fD 43 166 42 2,lD 44 68 43,fD 45 168 9 1,lD 46 3 45,iX 47 68 44 46,⟨none,.store 4 (tM 47) (.const (.bool true)),none⟩]
def c83_r8:List SOp:=[sO 48 (.binOp .add 3 (tM 29) (kI 1) 3),mV 29 48]
def c83_l4:SC:=(.seq (.reg c83_r4 none (some [0,6,27,28,29,30])) (.seq (.cond (.tmp 30) .skip (.exit 0) (some [0,6,27,28,29])) (.seq (.block 1 (.seq (.reg c83_r5 none (some [0,6,8,27,28,29])) (.seq (.reg c83_r6 none (some [0,6,9,27,28,29])) (.reg c83_r7 none (some [0,6,27,28,29]))))) (.reg c83_r8 none (some [0,6,27,28,29])))))
def c83_r9:List SOp:=[mV 49 0,⟨some 50,.call ⟨.value (.func 113),#[(tM 49),(.func 116)],#[91,170]⟩,none⟩,aS 10 50]
def c83_r10:List SOp:=[mV 51 6,⟨some 52,.call ⟨.builtin .len,#[.tmp 51],#[30]⟩,none⟩,sO 53 (.move (kI 0))]
def c83_r11:List SOp:=[sO 54 (.binOp .lss 3 (tM 53) (tM 52) 3)]
def c83_r12:List SOp:=[iX 55 30 51 53,lD 56 3 55,aS 12 56]
def c83_r13:List SOp:=[mV 57 0,nI 58 57,fD 59 163 58 1,lD 60 160 59,mV 61 12,iX 62 160 60 61,lD 63 168 62,sO 13 (.alloc 168),⟨none,.store 168 (tM 13) (tM 63),none⟩]
def c83_r14:List SOp:=[fD 64 168 13 0,lD 65 164 64,nI 66 65,fD 67 166 66 2,lD 68 68 67,fD 69 168 13 1,lD 70 3 69,iX 71 68 68 70,⟨none,.store 4 (tM 71) (.const (.bool false)),none⟩]
def c83_r15:List SOp:=[sO 72 (.binOp .add 3 (tM 53) (kI 1) 3),mV 53 72]
def c83_l11:SC:=(.seq (.reg c83_r11 none (some [0,10,51,52,53,54])) (.seq (.cond (.tmp 54) .skip (.exit 2) (some [0,10,51,52,53])) (.seq (.block 3 (.seq (.reg c83_r12 none (some [0,10,12,51,52,53])) (.seq (.reg c83_r13 none (some [0,10,13,51,52,53])) (.reg c83_r14 none (some [0,10,51,52,53]))))) (.reg c83_r15 none (some [0,10,51,52,53])))))
def c83_r16:List SOp:=[mV 73 10,mV 74 10,⟨some 75,.call ⟨.value (.func 115),#[.tmp 74],#[94]⟩,none⟩,aS 4 73,aS 5 75]
def c83:SC:=(.seq (.reg c83_r0 none (some [0,1])) (.seq (.reg c83_r1 none (some [0,1])) (.seq (.reg c83_r2 none (some [0,6])) (.seq (.seq (.reg c83_r3 none (some [0,6,27,28,29])) (.block 0 (.loop c83_l4 (some [0,6,27,28,29])))) (.seq (.reg c83_r9 none (some [0,6,10])) (.seq (.seq (.reg c83_r10 none (some [0,10,51,52,53])) (.block 2 (.loop c83_l11 (some [0,10,51,52,53])))) (.seq (.reg c83_r16 none (some [4,5])) .ret)))))))
theorem c83_eq:∃code,Try.f83.body=some code/\compile H83 code=c83 :=⟨_,rfl,by kernel_rfl⟩
theorem c83_fn:Try.prog.funcs[83]?=some Try.f83:=by kernel_rfl
theorem c83_rs:Try.f83.results.toList=[.tmp 4,.tmp 5]:=by kernel_rfl
theorem c83_ok:fnB Try.prog H83 Try.f83=true:=by kernel_rfl
theorem c83_nt:Try.f83.ntmps=76:=by kernel_rfl
def H84:Hint:=⟨[(1,[2]),(0,[0])],[]⟩
def c84_r0:List SOp:=[sO 2 (.assign (kI 0))]
def c84_r1:List SOp:=[mV 3 0,nI 4 3,fD 5 163 4 3,lD 6 3 5,aS 2 6]
def c84:SC:=(.seq (.reg c84_r0 none (some [0])) (.seq (.reg c84_r1 none (some [2])) .ret))
theorem c84_eq:∃code,Try.f84.body=some code/\compile H84 code=c84 :=⟨_,rfl,by kernel_rfl⟩
theorem c84_fn:Try.prog.funcs[84]?=some Try.f84:=by kernel_rfl
theorem c84_rs:Try.f84.results.toList=[.tmp 2]:=by kernel_rfl
theorem c84_ok:fnB Try.prog H84 Try.f84=true:=by kernel_rfl
theorem c84_nt:Try.f84.ntmps=7:=by kernel_rfl
def H86:Hint:=⟨[(10,[2]),(4,[0,3,4]),(9,[0,3,4]),(8,[0,3,4,5]),(7,[0,3,4,5]),(6,[0,3,4,5]),(5,[0,3,4,5]),(2000009,[0,3,4]),(3,[0,3,4,9]),(1000003,[0,3,4]),(2,[0,3,4]),(1,[0,3]),(0,[0])],[(6,[(6,3)]),(7,[(6,3)])]⟩
def c86_r0:List SOp:=[sO 2 (.assign (.const (.slice none 0 0)))]
def c86_r1:List SOp:=[sO 3 (.assign (.const (.slice none 0 0)))]
def c86_r2:List SOp:=[sO 4 (.assign (kI 0))]
def c86_r3:List SOp:=[mV 6 4,mV 7 0,⟨some 8,.call ⟨.builtin .len,#[.tmp 7],#[89]⟩,none⟩,sO 9 (.binOp .lss 3 (tM 6) (tM 8) 3)]
def c86_r5:List SOp:=[mV 12 0,mV 13 4,iX 14 89 12 13,lD 15 107 14,sO 5 (.alloc 107),⟨none,.store 107 (tM 5) (tM 15),none⟩]
def c86_r6:List SOp:=[fD 16 107 5 2,fD 17 102 16 1,lD 18 100 17,⟨some 19,.call ⟨.builtin .append,#[(.const (.slice none 0 0)),(tM 18)],#[100,100]⟩,none⟩,fD 20 107 5 4,fD 21 102 20 1,lD 22 100 21,⟨some 23,.call ⟨.builtin .append,#[(.const (.slice none 0 0)),(tM 22)],#[100,100]⟩,none⟩,fD 24 107 5 2,fD 25 102 24 1,⟨none,.store 100 (tM 25) (tM 19),none⟩,fD 26 107 5 4,fD 27 102 26 1,⟨none,.store 100 (tM 27) (tM 23),none⟩]
def c86_r7:List SOp:=[fD 28 107 5 3,fD 29 105 28 1,lD 30 103 29,⟨some 31,.call ⟨.builtin .append,#[(.const (.slice none 0 0)),(tM 30)],#[103,103]⟩,none⟩,fD 32 107 5 5,fD 33 105 32 1,lD 34 103 33,⟨some 35,.call ⟨.builtin .append,#[(.const (.slice none 0 0)),(tM 34)],#[103,103]⟩,none⟩,fD 36 107 5 3,fD 37 105 36 1,⟨none,.store 103 (tM 37) (tM 31),none⟩,fD 38 107 5 5,fD 39 105 38 1,⟨none,.store 103 (tM 39) (tM 35),none⟩]
def c86_r8:List SOp:=[fD 40 107 5 8,lD 41 42 40,⟨some 42,.call ⟨.builtin .append,#[(.const (.slice none 0 0)),(tM 41)],#[42,42]⟩,none⟩,fD 43 107 5 8,⟨none,.store 42 (tM 43) (tM 42),none⟩]
def c86_r9:List SOp:=[mV 44 3,lD 45 107 5,sO 46 (.buildSlice 89 1 #[(0,(tM 45))]),⟨some 47,.call ⟨.builtin .append,#[.tmp 44,.tmp 46],#[89,89]⟩,none⟩,aS 3 47]
def c86_r4:List SOp:=[mV 10 4,sO 11 (.binOp .add 3 (tM 10) (kI 1) 3),aS 4 11]
def c86_l3:SC:=(.seq (.seq (.reg c86_r3 none (some [0,3,4,9])) (.cond (.tmp 9) .skip (.exit 0) (some [0,3,4]))) (.seq (.block 1 (.seq (.reg c86_r5 none (some [0,3,4,5])) (.seq (.reg c86_r6 (some [(6,3)]) (some [0,3,4,5])) (.seq (.reg c86_r7 (some [(6,3)]) (some [0,3,4,5])) (.seq (.reg c86_r8 none (some [0,3,4,5])) (.reg c86_r9 none (some [0,3,4]))))))) (.reg c86_r4 none (some [0,3,4]))))
def c86_r10:List SOp:=[mV 48 3,aS 2 48]
def c86:SC:=(.seq (.reg c86_r0 none (some [0])) (.seq (.reg c86_r1 none (some [0,3])) (.seq (.seq (.reg c86_r2 none (some [0,3,4])) (.block 0 (.loop c86_l3 (some [0,3,4])))) (.seq (.reg c86_r10 none (some [2])) .ret))))
theorem c86_eq:∃code,Try.f86.body=some code/\compile H86 code=c86 :=⟨_,rfl,by kernel_rfl⟩
theorem c86_fn:Try.prog.funcs[86]?=some Try.f86:=by kernel_rfl
theorem c86_rs:Try.f86.results.toList=[.tmp 2]:=by kernel_rfl
theorem c86_ok:fnB Try.prog H86 Try.f86=true:=by kernel_rfl
theorem c86_nt:Try.f86.ntmps=49:=by kernel_rfl
def H87:Hint:=⟨[(8,[6]),(7,[7]),(4,[0,1,7,8]),(6,[0,1,7,8]),(2000033,[0,1,7,8]),(5,[0,1,7,8,33]),(2000017,[0,1,7,8]),(3,[0,1,7,8,17]),(1000003,[0,1,7,8]),(2,[0,1,7,8]),(1,[0,1,7]),(0,[0,1,2])],[(7,[(11,7),(12,7),(12,16)])]⟩
def c87_r0:List SOp:=[sO 6 (.assign (.const (.pointer none)))]
def c87_r1:List SOp:=[mV 9 2,⟨some 10,.call ⟨.builtin .max,#[(tM 9),(kI 1)],#[3,3]⟩,none⟩,⟨some 11,.call ⟨.builtin .min,#[(tM 10),(kI 32)],#[3,3]⟩,none⟩,sO 12 (.build 176 #[(1,(tM 11))]),sO 13 (.box 176 (tM 12)),aS 7 13]
def c87_r2:List SOp:=[sO 8 (.assign (kI 0))]
def c87_r3:List SOp:=[mV 14 8,mV 15 1,⟨some 16,.call ⟨.builtin .len,#[.tmp 15],#[30]⟩,none⟩,sO 17 (.binOp .lss 3 (tM 14) (tM 16) 3)]
def c87_r5:List SOp:=[mV 20 1,mV 21 8,iX 22 30 20 21,lD 23 3 22,sO 24 (.binOp .geq 3 (tM 23) (kI 0) 3),mV 25 24,⟨some 26,.move (tM 1),some (some 25,true)⟩,⟨some 27,.move (tM 8),some (some 25,true)⟩,⟨some 28,.indexAddr 30 (tM 26) (tM 27),some (some 25,true)⟩,⟨some 29,.load 3 (tM 28),some (some 25,true)⟩,⟨some 30,.move (tM 0),some (some 25,true)⟩,⟨some 31,.call ⟨.builtin .len,#[.tmp 30],#[89]⟩,some (some 25,true)⟩,⟨some 32,.binOp .lss 3 (tM 29) (tM 31) 3,some (some 25,true)⟩,sO 33 (.pick (tM 25) (tM 32) (.const (.bool false)))]
def c87_r6:List SOp:=[mV 34 7,mV 35 7,nI 36 35,fD 37 176 36 0,lD 38 89 37,mV 39 0,mV 40 1,mV 41 8,iX 42 30 40 41,lD 43 3 42,iX 44 89 39 43,lD 45 107 44,sO 46 (.buildSlice 89 1 #[(0,(tM 45))]),⟨some 47,.call ⟨.builtin .append,#[.tmp 38,.tmp 46],#[89,89]⟩,none⟩,nI 48 34,fD 49 176 48 0,⟨none,.store 89 (tM 49) (tM 47),none⟩]
def c87_r4:List SOp:=[mV 18 8,sO 19 (.binOp .add 3 (tM 18) (kI 1) 3),aS 8 19]
def c87_l3:SC:=(.seq (.seq (.reg c87_r3 none (some [0,1,7,8,17])) (.cond (.tmp 17) .skip (.exit 0) (some [0,1,7,8]))) (.seq (.block 1 (.seq (.reg c87_r5 none (some [0,1,7,8,33])) (.cond (.tmp 33) (.reg c87_r6 none (some [0,1,7,8])) .skip (some [0,1,7,8])))) (.reg c87_r4 none (some [0,1,7,8]))))
def c87_r7:List SOp:=[mV 50 7,mV 51 7,mV 52 7,nI 53 52,fD 54 176 53 0,lD 55 89 54,⟨some 56,.call ⟨.builtin .len,#[.tmp 55],#[89]⟩,none⟩,sO 57 (.makeSlice 68 (tM 56) (tM 56)),mV 58 7,nI 59 58,fD 60 176 59 0,lD 61 89 60,⟨some 62,.call ⟨.builtin .len,#[.tmp 61],#[89]⟩,none⟩,sO 63 (.makeSlice 68 (tM 62) (tM 62)),nI 64 50,fD 65 176 64 3,⟨none,.store 68 (tM 65) (tM 57),none⟩,nI 66 51,fD 67 176 66 4,⟨none,.store 68 (tM 67) (tM 63),none⟩]
def c87_r8:List SOp:=[mV 68 7,aS 6 68]
def c87:SC:=(.seq (.reg c87_r0 none (some [0,1,2])) (.seq (.reg c87_r1 none (some [0,1,7])) (.seq (.seq (.reg c87_r2 none (some [0,1,7,8])) (.block 0 (.loop c87_l3 (some [0,1,7,8])))) (.seq (.reg c87_r7 (some [(11,7),(12,7),(12,16)]) (some [7])) (.seq (.reg c87_r8 none (some [6])) .ret)))))
theorem c87_eq:∃code,Try.f87.body=some code/\compile H87 code=c87 :=⟨_,rfl,by kernel_rfl⟩
theorem c87_fn:Try.prog.funcs[87]?=some Try.f87:=by kernel_rfl
theorem c87_rs:Try.f87.results.toList=[.tmp 6]:=by kernel_rfl
theorem c87_ok:fnB Try.prog H87 Try.f87=true:=by kernel_rfl
theorem c87_nt:Try.f87.ntmps=69:=by kernel_rfl
def H88:Hint:=⟨[(1,[2,3]),(0,[0])],[]⟩
def c88_r0:List SOp:=[sO 2 (.assign (.const (.slice none 0 0))),sO 3 (.assign (kI 0))]
def c88_r1:List SOp:=[mV 4 0,⟨some 5,.call ⟨.value (.func 118),#[.tmp 4],#[109]⟩,none⟩,sO 6 (.extract (tM 5) 0),sO 7 (.extract (tM 5) 1),aS 2 6,aS 3 7]
def c88:SC:=(.seq (.reg c88_r0 none (some [0])) (.seq (.reg c88_r1 none (some [2,3])) .ret))
theorem c88_eq:∃code,Try.f88.body=some code/\compile H88 code=c88 :=⟨_,rfl,by kernel_rfl⟩
theorem c88_fn:Try.prog.funcs[88]?=some Try.f88:=by kernel_rfl
theorem c88_rs:Try.f88.results.toList=[.tmp 2,.tmp 3]:=by kernel_rfl
theorem c88_ok:fnB Try.prog H88 Try.f88=true:=by kernel_rfl
theorem c88_nt:Try.f88.ntmps=8:=by kernel_rfl
def H89:Hint:=⟨[(8,[4]),(5,[0,1,5]),(7,[4]),(2000066,[0,1,5]),(6,[0,1,5,66]),(2000014,[0,1,5]),(4,[0,1,5,14]),(1000004,[0,1,5]),(3,[0,1,5]),(2,[4]),(2000010,[0,1]),(1,[0,1,10]),(0,[0,1])],[]⟩
def c89_r0:List SOp:=[sO 4 (.assign (.const (.bool false)))]
def c89_r1:List SOp:=[mV 6 0,⟨some 7,.call ⟨.builtin .len,#[.tmp 6],#[94]⟩,none⟩,mV 8 1,⟨some 9,.call ⟨.builtin .len,#[.tmp 8],#[94]⟩,none⟩,sO 10 (.binOp .neq 3 (tM 7) (tM 9) 3)]
def c89_r2:List SOp:=[sO 4 (.assign (.const (.bool false)))]
def c89_r3:List SOp:=[sO 5 (.assign (kI 0))]
def c89_r4:List SOp:=[mV 11 5,mV 12 0,⟨some 13,.call ⟨.builtin .len,#[.tmp 12],#[94]⟩,none⟩,sO 14 (.binOp .lss 3 (tM 11) (tM 13) 3)]
def c89_r6:List SOp:=[mV 17 0,mV 18 5,iX 19 94 17 18,fD 20 99 19 0,lD 21 3 20,mV 22 1,mV 23 5,iX 24 94 22 23,fD 25 99 24 0,lD 26 3 25,sO 27 (.binOp .neq 3 (tM 21) (tM 26) 3),mV 28 27,⟨some 29,.move (tM 0),some (some 28,false)⟩,⟨some 30,.move (tM 5),some (some 28,false)⟩,⟨some 31,.indexAddr 94 (tM 29) (tM 30),some (some 28,false)⟩,⟨some 32,.fieldAddr 99 (tM 31) 1,some (some 28,false)⟩,⟨some 33,.load 3 (tM 32),some (some 28,false)⟩,⟨some 34,.move (tM 1),some (some 28,false)⟩,⟨some 35,.move (tM 5),some (some 28,false)⟩,⟨some 36,.indexAddr 94 (tM 34) (tM 35),some (some 28,false)⟩,⟨some 37,.fieldAddr 99 (tM 36) 1,some (some 28,false)⟩,⟨some 38,.load 3 (tM 37),some (some 28,false)⟩,⟨some 39,.binOp .neq 3 (tM 33) (tM 38) 3,some (some 28,false)⟩,sO 40 (.pick (tM 28) (.const (.bool true)) (tM 39)),mV 41 40,⟨some 42,.move (tM 0),some (some 41,false)⟩,⟨some 43,.move (tM 5),some (some 41,false)⟩,⟨some 44,.indexAddr 94 (tM 42) (tM 43),some (some 41,false)⟩,⟨some 45,.fieldAddr 99 (tM 44) 2,some (some 41,false)⟩,⟨some 46,.load 3 (tM 45),some (some 41,false)⟩,⟨some 47,.move (tM 1),some (some 41,false)⟩,⟨some 48,.move (tM 5),some (some 41,false)⟩,⟨some 49,.indexAddr 94 (tM 47) (tM 48),some (some 41,false)⟩,⟨some 50,.fieldAddr 99 (tM 49) 2,some (some 41,false)⟩,⟨some 51,.load 3 (tM 50),some (some 41,false)⟩,⟨some 52,.binOp .neq 3 (tM 46) (tM 51) 3,some (some 41,false)⟩,sO 53 (.pick (tM 41) (.const (.bool true)) (tM 52)),mV 54 53,⟨some 55,.move (tM 0),some (some 54,false)⟩,⟨some 56,.move (tM 5),some (some 54,false)⟩,⟨some 57,.indexAddr 94 (tM 55) (tM 56),some (some 54,false)⟩,⟨some 58,.fieldAddr 99 (tM 57) 3,some (some 54,false)⟩,⟨some 59,.load 3 (tM 58),some (some 54,false)⟩,⟨some 60,.move (tM 1),some (some 54,false)⟩,⟨some 61,.move (tM 5),some (some 54,false)⟩,⟨some 62,.indexAddr 94 (tM 60) (tM 61),some (some 54,false)⟩,⟨some 63,.fieldAddr 99 (tM 62) 3,some (some 54,false)⟩,⟨some 64,.load 3 (tM 63),some (some 54,false)⟩,⟨some 65,.binOp .neq 3 (tM 59) (tM 64) 3,some (some 54,false)⟩,sO 66 (.pick (tM 54) (.const (.bool true)) (tM 65))]
def c89_r7:List SOp:=[sO 4 (.assign (.const (.bool false)))]
def c89_r5:List SOp:=[mV 15 5,sO 16 (.binOp .add 3 (tM 15) (kI 1) 3),aS 5 16]
def c89_l4:SC:=(.seq (.seq (.reg c89_r4 none (some [0,1,5,14])) (.cond (.tmp 14) .skip (.exit 0) (some [0,1,5]))) (.seq (.block 1 (.seq (.reg c89_r6 none (some [0,1,5,66])) (.cond (.tmp 66) (.seq (.reg c89_r7 none (some [4])) .ret) .skip (some [0,1,5])))) (.reg c89_r5 none (some [0,1,5]))))
def c89_r8:List SOp:=[sO 4 (.assign (.const (.bool true)))]
def c89:SC:=(.seq (.reg c89_r0 none (some [0,1])) (.seq (.seq (.reg c89_r1 none (some [0,1,10])) (.cond (.tmp 10) (.seq (.reg c89_r2 none (some [4])) .ret) .skip (some [0,1]))) (.seq (.seq (.reg c89_r3 none (some [0,1,5])) (.block 0 (.loop c89_l4 (some [0,1,5])))) (.seq (.reg c89_r8 none (some [4])) .ret))))
theorem c89_eq:∃code,Try.f89.body=some code/\compile H89 code=c89 :=⟨_,rfl,by kernel_rfl⟩
theorem c89_fn:Try.prog.funcs[89]?=some Try.f89:=by kernel_rfl
theorem c89_rs:Try.f89.results.toList=[.tmp 4]:=by kernel_rfl
theorem c89_ok:fnB Try.prog H89 Try.f89=true:=by kernel_rfl
theorem c89_nt:Try.f89.ntmps=67:=by kernel_rfl
def H90:Hint:=⟨[(2,[4,5]),(1,[0]),(0,[0,1])],[]⟩
def c90_r0:List SOp:=[sO 4 (.assign (.const (.slice none 0 0))),sO 5 (.assign (kI 0))]
def c90_r1:List SOp:=[mV 6 0,mV 7 0,nI 8 7,fD 9 176 8 2,lD 10 9 9,mV 11 1,sO 12 (.buildSlice 25 1 #[(0,(tM 11))]),sO 13 (.convert 25 9 (tM 12)),sO 14 (.binOp .add 9 (tM 10) (tM 13) 9),nI 15 6,fD 16 176 15 2,⟨none,.store 9 (tM 16) (tM 14),none⟩]
def c90_r2:List SOp:=[mV 17 0,⟨some 18,.call ⟨.value (.func 118),#[.tmp 17],#[109]⟩,none⟩,sO 19 (.extract (tM 18) 0),sO 20 (.extract (tM 18) 1),aS 4 19,aS 5 20]
def c90:SC:=(.seq (.reg c90_r0 none (some [0,1])) (.seq (.reg c90_r1 none (some [0])) (.seq (.reg c90_r2 none (some [4,5])) .ret)))
theorem c90_eq:∃code,Try.f90.body=some code/\compile H90 code=c90 :=⟨_,rfl,by kernel_rfl⟩
theorem c90_fn:Try.prog.funcs[90]?=some Try.f90:=by kernel_rfl
theorem c90_rs:Try.f90.results.toList=[.tmp 4,.tmp 5]:=by kernel_rfl
theorem c90_ok:fnB Try.prog H90 Try.f90=true:=by kernel_rfl
theorem c90_nt:Try.f90.ntmps=21:=by kernel_rfl
def H91:Hint:=⟨[(11,[2]),(4,[0,3,4]),(9,[0,3,4,5,6]),(10,[0,3,4,5,6]),(2000048,[0,3,4,5,6]),(8,[0,3,4,5,6,48]),(1000008,[0,3,4,5,6]),(7,[0,3,4,5,6]),(6,[0,3,4,5]),(2000031,[0,3,4]),(5,[0,3,4,31]),(2000013,[0,3,4]),(3,[0,3,4,13]),(1000003,[0,3,4]),(2,[0,3,4]),(1,[0,3]),(0,[0])],[]⟩
def c91_r0:List SOp:=[sO 2 (.assign (kI 0))]
def c91_r1:List SOp:=[sO 3 (.assign (kI 0))]
def c91_r2:List SOp:=[sO 4 (.assign (kI 0))]
def c91_r3:List SOp:=[mV 7 4,mV 8 0,nI 9 8,fD 10 176 9 0,lD 11 89 10,⟨some 12,.call ⟨.builtin .len,#[.tmp 11],#[89]⟩,none⟩,sO 13 (.binOp .lss 3 (tM 7) (tM 12) 3)]
def c91_r5:List SOp:=[mV 16 0,nI 17 16,fD 18 176 17 4,lD 19 68 18,mV 20 4,iX 21 68 19 20,lD 22 4 21,mV 23 22,⟨some 24,.move (tM 0),some (some 23,false)⟩,⟨some 25,.nilCheck (tM 24),some (some 23,false)⟩,⟨some 26,.fieldAddr 176 (tM 25) 3,some (some 23,false)⟩,⟨some 27,.load 68 (tM 26),some (some 23,false)⟩,⟨some 28,.move (tM 4),some (some 23,false)⟩,⟨some 29,.indexAddr 68 (tM 27) (tM 28),some (some 23,false)⟩,⟨some 30,.load 4 (tM 29),some (some 23,false)⟩,sO 31 (.pick (tM 23) (.const (.bool true)) (tM 30))]
def c91_r6:List SOp:=[mV 32 0,nI 33 32,fD 34 176 33 0,lD 35 89 34,mV 36 4,iX 37 89 35 36,fD 38 107 37 8,lD 39 42 38,mV 40 0,nI 41 40,fD 42 176 41 2,lD 43 9 42,⟨some 44,.call ⟨.value (.func 107),#[.tmp 39,.tmp 43],#[42,9]⟩,none⟩,aS 5 44]
def c91_r7:List SOp:=[sO 6 (.assign (kI 0))]
def c91_r8:List SOp:=[mV 45 6,mV 46 5,⟨some 47,.call ⟨.builtin .len,#[.tmp 46],#[30]⟩,none⟩,sO 48 (.binOp .lss 3 (tM 45) (tM 47) 3)]
def c91_r10:List SOp:=[mV 51 3,mV 52 5,mV 53 6,iX 54 30 52 53,lD 55 3 54,⟨some 56,.call ⟨.builtin .max,#[.tmp 51,.tmp 55],#[3,3]⟩,none⟩,aS 3 56]
def c91_r9:List SOp:=[mV 49 6,sO 50 (.binOp .add 3 (tM 49) (kI 1) 3),aS 6 50]
def c91_l8:SC:=(.seq (.seq (.reg c91_r8 none (some [0,3,4,5,6,48])) (.cond (.tmp 48) .skip (.exit 2) (some [0,3,4,5,6]))) (.seq (.block 3 (.reg c91_r10 none (some [0,3,4,5,6]))) (.reg c91_r9 none (some [0,3,4,5,6]))))
def c91_r4:List SOp:=[mV 14 4,sO 15 (.binOp .add 3 (tM 14) (kI 1) 3),aS 4 15]
def c91_l3:SC:=(.seq (.seq (.reg c91_r3 none (some [0,3,4,13])) (.cond (.tmp 13) .skip (.exit 0) (some [0,3,4]))) (.seq (.block 1 (.seq (.seq (.reg c91_r5 none (some [0,3,4,31])) (.cond (.tmp 31) (.exit 1) .skip (some [0,3,4]))) (.seq (.reg c91_r6 none (some [0,3,4,5])) (.seq (.reg c91_r7 none (some [0,3,4,5,6])) (.block 2 (.loop c91_l8 (some [0,3,4,5,6]))))))) (.reg c91_r4 none (some [0,3,4]))))
def c91_r11:List SOp:=[mV 57 3,aS 2 57]
def c91:SC:=(.seq (.reg c91_r0 none (some [0])) (.seq (.reg c91_r1 none (some [0,3])) (.seq (.seq (.reg c91_r2 none (some [0,3,4])) (.block 0 (.loop c91_l3 (some [0,3,4])))) (.seq (.reg c91_r11 none (some [2])) .ret))))
theorem c91_eq:∃code,Try.f91.body=some code/\compile H91 code=c91 :=⟨_,rfl,by kernel_rfl⟩
theorem c91_fn:Try.prog.funcs[91]?=some Try.f91:=by kernel_rfl
theorem c91_rs:Try.f91.results.toList=[.tmp 2]:=by kernel_rfl
theorem c91_ok:fnB Try.prog H91 Try.f91=true:=by kernel_rfl
theorem c91_nt:Try.f91.ntmps=58:=by kernel_rfl
def H92:Hint:=⟨[(1,[4]),(0,[0,1])],[]⟩
def c92_r0:List SOp:=[sO 4 (.assign (.const (.bool false)))]
def c92_r1:List SOp:=[mV 5 1,sO 6 (.binOp .lss 3 (tM 5) (kI 0) 3),mV 7 6,⟨some 8,.move (tM 1),some (some 7,false)⟩,⟨some 9,.move (tM 0),some (some 7,false)⟩,⟨some 10,.nilCheck (tM 9),some (some 7,false)⟩,⟨some 11,.fieldAddr 116 (tM 10) 1,some (some 7,false)⟩,⟨some 12,.load 114 (tM 11),some (some 7,false)⟩,⟨some 13,.call ⟨.builtin .len,#[.tmp 12],#[114]⟩,some (some 7,false)⟩,⟨some 14,.binOp .geq 3 (tM 8) (tM 13) 3,some (some 7,false)⟩,sO 15 (.pick (tM 7) (.const (.bool true)) (tM 14)),aS 4 15]
def c92:SC:=(.seq (.reg c92_r0 none (some [0,1])) (.seq (.reg c92_r1 none (some [4])) .ret))
theorem c92_eq:∃code,Try.f92.body=some code/\compile H92 code=c92 :=⟨_,rfl,by kernel_rfl⟩
theorem c92_fn:Try.prog.funcs[92]?=some Try.f92:=by kernel_rfl
theorem c92_rs:Try.f92.results.toList=[.tmp 4]:=by kernel_rfl
theorem c92_ok:fnB Try.prog H92 Try.f92=true:=by kernel_rfl
theorem c92_nt:Try.f92.ntmps=16:=by kernel_rfl
def H93:Hint:=⟨[(3,[2]),(2,[2]),(2000004,[0]),(1,[0,4]),(0,[0])],[]⟩
def c93_r0:List SOp:=[sO 2 (.assign (.const (.slice none 0 0)))]
def c93_r1:List SOp:=[mV 3 0,sO 4 (.binOp .eql 30 (tM 3) (.const (.slice none 0 0)) 30)]
def c93_r2:List SOp:=[sO 2 (.assign (.const (.slice none 0 0)))]
def c93_r3:List SOp:=[sO 5 (.buildSlice 30 0 #[]),mV 6 0,⟨some 7,.call ⟨.builtin .append,#[.tmp 5,.tmp 6],#[30,30]⟩,none⟩,aS 2 7]
def c93:SC:=(.seq (.reg c93_r0 none (some [0])) (.seq (.seq (.reg c93_r1 none (some [0,4])) (.cond (.tmp 4) (.seq (.reg c93_r2 none (some [2])) .ret) .skip (some [0]))) (.seq (.reg c93_r3 none (some [2])) .ret)))
theorem c93_eq:∃code,Try.f93.body=some code/\compile H93 code=c93 :=⟨_,rfl,by kernel_rfl⟩
theorem c93_fn:Try.prog.funcs[93]?=some Try.f93:=by kernel_rfl
theorem c93_rs:Try.f93.results.toList=[.tmp 2]:=by kernel_rfl
theorem c93_ok:fnB Try.prog H93 Try.f93=true:=by kernel_rfl
theorem c93_nt:Try.f93.ntmps=8:=by kernel_rfl
def H96:Hint:=⟨[(3,[6]),(2,[6]),(2000014,[2,3]),(1,[2,3,14]),(0,[1,2,3])],[]⟩
def c96_r0:List SOp:=[sO 3 (.box 52 (tM 0)),sO 6 (.assign (.const (.bool false)))]
def c96_r1:List SOp:=[fD 7 52 3 0,lD 8 9 7,fD 9 52 3 1,lD 10 4 9,mV 11 1,mV 12 2,⟨some 13,.call ⟨.value (.func 57),#[.tmp 8,.tmp 10,.tmp 11,.tmp 12],#[9,4,9,3]⟩,none⟩,sO 14 (.unOp .not 4 (tM 13))]
def c96_r2:List SOp:=[sO 6 (.assign (.const (.bool false)))]
def c96_r3:List SOp:=[fD 15 52 3 5,lD 16 4 15,mV 17 16,⟨some 18,.move (tM 2),some (some 17,false)⟩,⟨some 19,.fieldAddr 52 (tM 3) 0,some (some 17,false)⟩,⟨some 20,.load 9 (tM 19),some (some 17,false)⟩,⟨some 21,.call ⟨.builtin .len,#[.tmp 20],#[9]⟩,some (some 17,false)⟩,⟨some 22,.binOp .sub 3 (tM 18) (tM 21) 3,some (some 17,false)⟩,⟨some 23,.fieldAddr 52 (tM 3) 3,some (some 17,false)⟩,⟨some 24,.load 3 (tM 23),some (some 17,false)⟩,⟨some 25,.binOp .geq 3 (tM 22) (tM 24) 3,some (some 17,false)⟩,⟨some 26,.move (tM 25),some (some 17,false)⟩,⟨some 27,.fieldAddr 52 (tM 3) 4,some (some 26,true)⟩,⟨some 28,.load 3 (tM 27),some (some 26,true)⟩,⟨some 29,.binOp .leq 3 (tM 28) (kI 0) 3,some (some 26,true)⟩,⟨some 30,.move (tM 29),some (some 26,true)⟩,⟨some 31,.move (tM 2),some (some 30,false)⟩,⟨some 32,.fieldAddr 52 (tM 3) 3,some (some 30,false)⟩,⟨some 33,.load 3 (tM 32),some (some 30,false)⟩,⟨some 34,.binOp .sub 3 (tM 31) (tM 33) 3,some (some 30,false)⟩,⟨some 35,.fieldAddr 52 (tM 3) 4,some (some 30,false)⟩,⟨some 36,.load 3 (tM 35),some (some 30,false)⟩,⟨some 37,.binOp .leq 3 (tM 34) (tM 36) 3,some (some 30,false)⟩,⟨some 38,.pick (tM 30) (.const (.bool true)) (tM 37),some (some 26,true)⟩,⟨some 39,.pick (tM 26) (tM 38) (.const (.bool false)),some (some 17,false)⟩,sO 40 (.pick (tM 17) (.const (.bool true)) (tM 39)),aS 6 40]
def c96:SC:=(.seq (.reg c96_r0 none (some [1,2,3])) (.seq (.seq (.reg c96_r1 none (some [2,3,14])) (.cond (.tmp 14) (.seq (.reg c96_r2 none (some [6])) .ret) .skip (some [2,3]))) (.seq (.reg c96_r3 none (some [6])) .ret)))
theorem c96_eq:∃code,Try.f96.body=some code/\compile H96 code=c96 :=⟨_,rfl,by kernel_rfl⟩
theorem c96_fn:Try.prog.funcs[96]?=some Try.f96:=by kernel_rfl
theorem c96_rs:Try.f96.results.toList=[.tmp 6]:=by kernel_rfl
theorem c96_ok:fnB Try.prog H96 Try.f96=true:=by kernel_rfl
theorem c96_nt:Try.f96.ntmps=41:=by kernel_rfl
def H97:Hint:=⟨[(1,[6]),(0,[1,2,3])],[]⟩
def c97_r0:List SOp:=[sO 3 (.box 52 (tM 0)),sO 6 (.assign (.const (.bool false)))]
def c97_r1:List SOp:=[mV 7 1,mV 8 2,sO 9 (.binOp .leq 3 (tM 7) (tM 8) 3),mV 10 9,⟨some 11,.move (tM 2),some (some 10,true)⟩,⟨some 12,.fieldAddr 52 (tM 3) 0,some (some 10,true)⟩,⟨some 13,.load 9 (tM 12),some (some 10,true)⟩,⟨some 14,.call ⟨.builtin .len,#[.tmp 13],#[9]⟩,some (some 10,true)⟩,⟨some 15,.binOp .sub 3 (tM 11) (tM 14) 3,some (some 10,true)⟩,⟨some 16,.move (tM 1),some (some 10,true)⟩,⟨some 17,.binOp .sub 3 (tM 15) (tM 16) 3,some (some 10,true)⟩,⟨some 18,.fieldAddr 52 (tM 3) 6,some (some 10,true)⟩,⟨some 19,.load 3 (tM 18),some (some 10,true)⟩,⟨some 20,.binOp .geq 3 (tM 17) (tM 19) 3,some (some 10,true)⟩,sO 21 (.pick (tM 10) (tM 20) (.const (.bool false))),mV 22 21,⟨some 23,.fieldAddr 52 (tM 3) 7,some (some 22,true)⟩,⟨some 24,.load 3 (tM 23),some (some 22,true)⟩,⟨some 25,.binOp .leq 3 (tM 24) (kI 0) 3,some (some 22,true)⟩,⟨some 26,.move (tM 25),some (some 22,true)⟩,⟨some 27,.move (tM 2),some (some 26,false)⟩,⟨some 28,.move (tM 1),some (some 26,false)⟩,⟨some 29,.binOp .sub 3 (tM 27) (tM 28) 3,some (some 26,false)⟩,⟨some 30,.fieldAddr 52 (tM 3) 6,some (some 26,false)⟩,⟨some 31,.load 3 (tM 30),some (some 26,false)⟩,⟨some 32,.binOp .sub 3 (tM 29) (tM 31) 3,some (some 26,false)⟩,⟨some 33,.fieldAddr 52 (tM 3) 7,some (some 26,false)⟩,⟨some 34,.load 3 (tM 33),some (some 26,false)⟩,⟨some 35,.binOp .leq 3 (tM 32) (tM 34) 3,some (some 26,false)⟩,⟨some 36,.pick (tM 26) (.const (.bool true)) (tM 35),some (some 22,true)⟩,sO 37 (.pick (tM 22) (tM 36) (.const (.bool false))),aS 6 37]
def c97:SC:=(.seq (.reg c97_r0 none (some [1,2,3])) (.seq (.reg c97_r1 none (some [6])) .ret))
theorem c97_eq:∃code,Try.f97.body=some code/\compile H97 code=c97 :=⟨_,rfl,by kernel_rfl⟩
theorem c97_fn:Try.prog.funcs[97]?=some Try.f97:=by kernel_rfl
theorem c97_rs:Try.f97.results.toList=[.tmp 6]:=by kernel_rfl
theorem c97_ok:fnB Try.prog H97 Try.f97=true:=by kernel_rfl
theorem c97_nt:Try.f97.ntmps=38:=by kernel_rfl
def H99:Hint:=⟨[(9,[4]),(3,[0,1,5]),(6,[0,1,5,6]),(8,[4]),(2000032,[0,1,5,6]),(7,[0,1,5,6,32]),(2000023,[0,1,5,6]),(5,[0,1,5,6,23]),(1000005,[0,1,5,6]),(4,[0,1,5,6]),(2000010,[0,1,5]),(2,[0,1,5,10]),(1000002,[0,1,5]),(1,[0,1,5]),(0,[0,1])],[]⟩
def c99_r0:List SOp:=[sO 4 (.assign (.const (.bool false)))]
def c99_r1:List SOp:=[sO 5 (.assign (kI 0))]
def c99_r2:List SOp:=[mV 7 5,mV 8 0,⟨some 9,.call ⟨.builtin .len,#[.tmp 8],#[42]⟩,none⟩,sO 10 (.binOp .lss 3 (tM 7) (tM 9) 3)]
def c99_r4:List SOp:=[sO 6 (.assign (kI 0))]
def c99_r5:List SOp:=[mV 13 6,mV 14 1,⟨some 15,.call ⟨.builtin .len,#[.tmp 14],#[9]⟩,none⟩,sO 16 (.binOp .leq 3 (tM 13) (tM 15) 3),mV 17 16,⟨some 18,.move (tM 0),some (some 17,true)⟩,⟨some 19,.move (tM 5),some (some 17,true)⟩,⟨some 20,.indexAddr 42 (tM 18) (tM 19),some (some 17,true)⟩,⟨some 21,.fieldAddr 52 (tM 20) 2,some (some 17,true)⟩,⟨some 22,.load 4 (tM 21),some (some 17,true)⟩,sO 23 (.pick (tM 17) (tM 22) (.const (.bool false)))]
def c99_r7:List SOp:=[mV 26 0,mV 27 5,iX 28 42 26 27,lD 29 52 28,mV 30 1,mV 31 6,⟨some 32,.call ⟨.value (.func 96),#[.tmp 29,.tmp 30,.tmp 31],#[52,9,3]⟩,none⟩]
def c99_r8:List SOp:=[sO 4 (.assign (.const (.bool false)))]
def c99_r6:List SOp:=[mV 24 6,sO 25 (.binOp .add 3 (tM 24) (kI 1) 3),aS 6 25]
def c99_l5:SC:=(.seq (.seq (.reg c99_r5 none (some [0,1,5,6,23])) (.cond (.tmp 23) .skip (.exit 2) (some [0,1,5,6]))) (.seq (.block 3 (.seq (.reg c99_r7 none (some [0,1,5,6,32])) (.cond (.tmp 32) (.seq (.reg c99_r8 none (some [4])) .ret) .skip (some [0,1,5,6])))) (.reg c99_r6 none (some [0,1,5,6]))))
def c99_r3:List SOp:=[mV 11 5,sO 12 (.binOp .add 3 (tM 11) (kI 1) 3),aS 5 12]
def c99_l2:SC:=(.seq (.seq (.reg c99_r2 none (some [0,1,5,10])) (.cond (.tmp 10) .skip (.exit 0) (some [0,1,5]))) (.seq (.block 1 (.seq (.reg c99_r4 none (some [0,1,5,6])) (.block 2 (.loop c99_l5 (some [0,1,5,6]))))) (.reg c99_r3 none (some [0,1,5]))))
def c99_r9:List SOp:=[sO 4 (.assign (.const (.bool true)))]
def c99:SC:=(.seq (.reg c99_r0 none (some [0,1])) (.seq (.seq (.reg c99_r1 none (some [0,1,5])) (.block 0 (.loop c99_l2 (some [0,1,5])))) (.seq (.reg c99_r9 none (some [4])) .ret)))
theorem c99_eq:∃code,Try.f99.body=some code/\compile H99 code=c99 :=⟨_,rfl,by kernel_rfl⟩
theorem c99_fn:Try.prog.funcs[99]?=some Try.f99:=by kernel_rfl
theorem c99_rs:Try.f99.results.toList=[.tmp 4]:=by kernel_rfl
theorem c99_ok:fnB Try.prog H99 Try.f99=true:=by kernel_rfl
theorem c99_nt:Try.f99.ntmps=33:=by kernel_rfl
def H100:Hint:=⟨[(18,[6]),(17,[0,1,2,7,8,69]),(16,[0,1,2,7,8,69]),(15,[0,1,2,7,8,10,69]),(14,[0,1,2,7,8,9,10,69]),(2000083,[0,1,2,7,8,9,10,69]),(13,[0,1,2,7,8,9,10,69,83]),(2000081,[0,1,2,7,8,9,10,69]),(12,[0,1,2,7,8,9,10,69,81]),(11,[0,1,2,7,8,9,10,11,69]),(10,[0,1,2,7,8,9,69]),(2000070,[0,1,2,7,8,69]),(9,[0,1,2,7,8,69,70]),(1000009,[0,1,2,7,8,69]),(8,[0,1,2,7,8,69]),(7,[0,1,2,7,8]),(5,[0,1,2,7]),(4,[0,1,2,7]),(3,[0,1,2,7]),(6,[0,1,2,7]),(2000020,[0,1,2,7]),(2,[0,1,2,7,20]),(1,[0,1,2,7]),(0,[0,1,2])],[(4,[(3,12),(3,15),(3,16)]),(6,[(3,7)])]⟩
def c100_r0:List SOp:=[sO 6 (.assign (.const (.slice none 0 0)))]
def c100_r1:List SOp:=[mV 12 0,nI 13 12,fD 14 129 13 1,lD 15 30 14,mV 16 2,iX 17 30 15 16,lD 18 3 17,aS 7 18]
def c100_r2:List SOp:=[mV 19 2,sO 20 (.binOp .gtr 3 (tM 19) (kI 0) 3)]
def c100_r3:List SOp:=[mV 21 0,nI 22 21,fD 23 129 22 0,lD 24 127 23,mV 25 2,mV 26 0,nI 27 26,fD 28 129 27 0,lD 29 127 28,mV 30 7,iX 31 127 29 30,lD 32 132 31,iX 33 127 24 25,⟨none,.store 132 (tM 33) (tM 32),none⟩]
def c100_r4:List SOp:=[mV 34 0,nI 35 34,fD 36 129 35 2,lD 37 44 36,mV 38 2,mV 39 0,nI 40 39,fD 41 129 40 2,lD 42 44 41,mV 43 7,iX 44 44 42 43,lD 45 30 44,⟨some 46,.call ⟨.value (.func 93),#[.tmp 45],#[30]⟩,none⟩,mV 47 1,mV 48 2,⟨some 49,.call ⟨.value (.func 34),#[.tmp 47,.tmp 48],#[23,3]⟩,none⟩,⟨some 50,.call ⟨.builtin .append,#[.tmp 46,.tmp 49],#[30,30]⟩,none⟩,iX 51 44 37 38,⟨none,.store 30 (tM 51) (tM 50),none⟩]
def c100_r5:List SOp:=[mV 52 0,nI 53 52,fD 54 129 53 2,lD 55 44 54,mV 56 2,iX 57 44 55 56,lD 58 30 57,⟨some 59,.call ⟨.value (.func 120),#[.tmp 58],#[30]⟩,none⟩]
def c100_r6:List SOp:=[mV 60 0,nI 61 60,fD 62 129 61 2,lD 63 44 62,mV 64 2,mV 65 1,mV 66 2,⟨some 67,.call ⟨.value (.func 34),#[.tmp 65,.tmp 66],#[23,3]⟩,none⟩,iX 68 44 63 64,⟨none,.store 30 (tM 68) (tM 67),none⟩]
def c100_r7:List SOp:=[sO 8 (.assign (.const (.slice none 0 0)))]
def c100_r8:List SOp:=[sO 69 (.move (kI 0))]
def c100_r9:List SOp:=[sO 70 (.binOp .lss 3 (tM 69) (kI 256) 3)]
def c100_r10:List SOp:=[mV 71 69,aS 9 71]
def c100_r11:List SOp:=[mV 73 1,mV 74 2,mV 75 9,sO 76 (.convert 3 5 (tM 75)),⟨some 77,.call ⟨.value (.func 33),#[.tmp 73,.tmp 74,.tmp 76],#[23,3,5]⟩,none⟩,mV 72 77,sO 78 (.extract (tM 72) 0),sO 79 (.extract (tM 72) 1),aS 10 78,aS 11 79]
def c100_r12:List SOp:=[mV 80 11,sO 81 (.unOp .not 4 (tM 80))]
def c100_r13:List SOp:=[mV 82 2,sO 83 (.binOp .gtr 3 (tM 82) (kI 0) 3)]
def c100_r14:List SOp:=[mV 84 0,nI 85 84,fD 86 129 85 1,lD 87 30 86,mV 88 10,mV 89 0,nI 90 89,fD 91 129 90 0,lD 92 127 91,mV 93 7,mV 94 9,iX 95 127 92 93,iX 96 132 95 94,lD 97 131 96,sO 98 (.convert 131 3 (tM 97)),iX 99 30 87 88,⟨none,.store 3 (tM 99) (tM 98),none⟩]
def c100_r15:List SOp:=[mV 100 0,nI 101 100,fD 102 129 101 0,lD 103 127 102,mV 104 2,mV 105 9,mV 106 10,sO 107 (.convert 3 131 (tM 106)),iX 108 127 103 104,iX 109 132 108 105,⟨none,.store 131 (tM 109) (tM 107),none⟩]
def c100_r16:List SOp:=[mV 110 8,mV 111 10,sO 112 (.buildSlice 30 1 #[(0,(tM 111))]),⟨some 113,.call ⟨.builtin .append,#[.tmp 110,.tmp 112],#[30,30]⟩,none⟩,aS 8 113]
def c100_r17:List SOp:=[sO 114 (.binOp .add 3 (tM 69) (kI 1) 3),mV 69 114]
def c100_l9:SC:=(.seq (.reg c100_r9 none (some [0,1,2,7,8,69,70])) (.seq (.cond (.tmp 70) .skip (.exit 0) (some [0,1,2,7,8,69])) (.seq (.block 1 (.seq (.reg c100_r10 none (some [0,1,2,7,8,9,69])) (.seq (.reg c100_r11 none (some [0,1,2,7,8,9,10,11,69])) (.seq (.seq (.reg c100_r12 none (some [0,1,2,7,8,9,10,69,81])) (.cond (.tmp 81) (.exit 1) .skip (some [0,1,2,7,8,9,10,69]))) (.seq (.seq (.reg c100_r13 none (some [0,1,2,7,8,9,10,69,83])) (.cond (.tmp 83) (.reg c100_r14 none (some [0,1,2,7,8,9,10,69])) .skip (some [0,1,2,7,8,9,10,69]))) (.seq (.reg c100_r15 none (some [0,1,2,7,8,10,69])) (.reg c100_r16 none (some [0,1,2,7,8,69])))))))) (.reg c100_r17 none (some [0,1,2,7,8,69])))))
def c100_r18:List SOp:=[mV 115 8,aS 6 115]
def c100:SC:=(.seq (.reg c100_r0 none (some [0,1,2])) (.seq (.reg c100_r1 none (some [0,1,2,7])) (.seq (.seq (.reg c100_r2 none (some [0,1,2,7,20])) (.cond (.tmp 20) (.seq (.reg c100_r3 none (some [0,1,2,7])) (.seq (.reg c100_r4 (some [(3,12),(3,15),(3,16)]) (some [0,1,2,7])) (.reg c100_r5 none (some [0,1,2,7])))) (.reg c100_r6 (some [(3,7)]) (some [0,1,2,7])) (some [0,1,2,7]))) (.seq (.reg c100_r7 none (some [0,1,2,7,8])) (.seq (.seq (.reg c100_r8 none (some [0,1,2,7,8,69])) (.block 0 (.loop c100_l9 (some [0,1,2,7,8,69])))) (.seq (.reg c100_r18 none (some [6])) .ret))))))
theorem c100_eq:∃code,Try.f100.body=some code/\compile H100 code=c100 :=⟨_,rfl,by kernel_rfl⟩
theorem c100_fn:Try.prog.funcs[100]?=some Try.f100:=by kernel_rfl
theorem c100_rs:Try.f100.results.toList=[.tmp 6]:=by kernel_rfl
theorem c100_ok:fnB Try.prog H100 Try.f100=true:=by kernel_rfl
theorem c100_nt:Try.f100.ntmps=116:=by kernel_rfl
def H101:Hint:=⟨[(1,[4]),(0,[0,1])],[]⟩
def c101_r0:List SOp:=[sO 4 (.assign (.const (.bool false)))]
def c101_r1:List SOp:=[mV 5 1,sO 6 (.binOp .lss 3 (tM 5) (kI 0) 3),mV 7 6,⟨some 8,.move (tM 1),some (some 7,false)⟩,⟨some 9,.move (tM 0),some (some 7,false)⟩,⟨some 10,.nilCheck (tM 9),some (some 7,false)⟩,⟨some 11,.fieldAddr 129 (tM 10) 0,some (some 7,false)⟩,⟨some 12,.load 127 (tM 11),some (some 7,false)⟩,⟨some 13,.call ⟨.builtin .len,#[.tmp 12],#[127]⟩,some (some 7,false)⟩,⟨some 14,.binOp .geq 3 (tM 8) (tM 13) 3,some (some 7,false)⟩,sO 15 (.pick (tM 7) (.const (.bool true)) (tM 14)),aS 4 15]
def c101:SC:=(.seq (.reg c101_r0 none (some [0,1])) (.seq (.reg c101_r1 none (some [4])) .ret))
theorem c101_eq:∃code,Try.f101.body=some code/\compile H101 code=c101 :=⟨_,rfl,by kernel_rfl⟩
theorem c101_fn:Try.prog.funcs[101]?=some Try.f101:=by kernel_rfl
theorem c101_rs:Try.f101.results.toList=[.tmp 4]:=by kernel_rfl
theorem c101_ok:fnB Try.prog H101 Try.f101=true:=by kernel_rfl
theorem c101_nt:Try.f101.ntmps=16:=by kernel_rfl
def H102:Hint:=⟨[(1,[6]),(0,[0,1,2])],[]⟩
def c102_r0:List SOp:=[sO 6 (.assign (.const (.pointer none)))]
def c102_r1:List SOp:=[mV 7 0,mV 8 1,⟨some 9,.call ⟨.builtin .append,#[(.const (.slice none 0 0)),(tM 8)],#[38,38]⟩,none⟩,mV 10 2,⟨some 11,.call ⟨.builtin .append,#[(.const (.slice none 0 0)),(tM 10)],#[68,68]⟩,none⟩,sO 12 (.build 136 #[(0,(tM 7)),(1,(tM 9)),(2,(tM 11))]),sO 13 (.box 136 (tM 12)),aS 6 13]
def c102:SC:=(.seq (.reg c102_r0 none (some [0,1,2])) (.seq (.reg c102_r1 none (some [6])) .ret))
theorem c102_eq:∃code,Try.f102.body=some code/\compile H102 code=c102 :=⟨_,rfl,by kernel_rfl⟩
theorem c102_fn:Try.prog.funcs[102]?=some Try.f102:=by kernel_rfl
theorem c102_rs:Try.f102.results.toList=[.tmp 6]:=by kernel_rfl
theorem c102_ok:fnB Try.prog H102 Try.f102=true:=by kernel_rfl
theorem c102_nt:Try.f102.ntmps=14:=by kernel_rfl
def H103:Hint:=⟨[(3,[2]),(2,[2]),(2000008,[0]),(1,[0,8]),(0,[0])],[]⟩
def c103_r0:List SOp:=[sO 2 (.assign (.const (.int .u8 0)))]
def c103_r1:List SOp:=[mV 3 0,sO 4 (.binOp .geq 5 (tM 3) (.const (.int .u8 65)) 5),mV 5 4,⟨some 6,.move (tM 0),some (some 5,true)⟩,⟨some 7,.binOp .leq 5 (tM 6) (.const (.int .u8 90)) 5,some (some 5,true)⟩,sO 8 (.pick (tM 5) (tM 7) (.const (.bool false)))]
def c103_r2:List SOp:=[mV 9 0,sO 10 (.binOp .sub 5 (tM 9) (.const (.int .u8 65)) 5),sO 11 (.binOp .add 5 (tM 10) (.const (.int .u8 97)) 5),aS 2 11]
def c103_r3:List SOp:=[mV 12 0,aS 2 12]
def c103:SC:=(.seq (.reg c103_r0 none (some [0])) (.seq (.seq (.reg c103_r1 none (some [0,8])) (.cond (.tmp 8) (.seq (.reg c103_r2 none (some [2])) .ret) .skip (some [0]))) (.seq (.reg c103_r3 none (some [2])) .ret)))
theorem c103_eq:∃code,Try.f103.body=some code/\compile H103 code=c103 :=⟨_,rfl,by kernel_rfl⟩
theorem c103_fn:Try.prog.funcs[103]?=some Try.f103:=by kernel_rfl
theorem c103_rs:Try.f103.results.toList=[.tmp 2]:=by kernel_rfl
theorem c103_ok:fnB Try.prog H103 Try.f103=true:=by kernel_rfl
theorem c103_nt:Try.f103.ntmps=13:=by kernel_rfl
def H104:Hint:=⟨[(7,[4]),(6,[0,1,7,8]),(5,[4]),(2000029,[0,1,7,8]),(4,[0,1,7,8,29]),(3,[0,1,5,7,8]),(2000009,[0,1,7,8]),(2,[0,1,7,8,9]),(1000002,[0,1,7,8]),(1,[0,1,7,8]),(0,[0,1])],[]⟩
def c104_r0:List SOp:=[sO 4 (.assign (.const (.bool false)))]
def c104_r1:List SOp:=[mV 6 1,⟨some 7,.call ⟨.builtin .len,#[.tmp 6],#[9]⟩,none⟩,sO 8 (.move (kI 0))]
def c104_r2:List SOp:=[sO 9 (.binOp .lss 3 (tM 8) (tM 7) 3)]
def c104_r3:List SOp:=[mV 10 8,aS 5 10]
def c104_r4:List SOp:=[mV 11 0,mV 12 0,nI 13 12,fD 14 136 13 4,lD 15 3 14,mV 16 1,⟨some 17,.call ⟨.builtin .len,#[.tmp 16],#[9]⟩,none⟩,sO 18 (.binOp .sub 3 (tM 15) (tM 17) 3),mV 19 5,sO 20 (.binOp .add 3 (tM 18) (tM 19) 3),sO 21 (.binOp .rem 3 (tM 20) (kI 16) 3),nI 22 11,fD 23 136 22 5,iX 24 134 23 21,lD 25 5 24,mV 26 1,mV 27 5,sO 28 (.index 9 (tM 26) (tM 27)),sO 29 (.binOp .neq 5 (tM 25) (tM 28) 5)]
def c104_r5:List SOp:=[sO 4 (.assign (.const (.bool false)))]
def c104_r6:List SOp:=[sO 30 (.binOp .add 3 (tM 8) (kI 1) 3),mV 8 30]
def c104_l2:SC:=(.seq (.reg c104_r2 none (some [0,1,7,8,9])) (.seq (.cond (.tmp 9) .skip (.exit 0) (some [0,1,7,8])) (.seq (.block 1 (.seq (.reg c104_r3 none (some [0,1,5,7,8])) (.seq (.reg c104_r4 none (some [0,1,7,8,29])) (.cond (.tmp 29) (.seq (.reg c104_r5 none (some [4])) .ret) .skip (some [0,1,7,8]))))) (.reg c104_r6 none (some [0,1,7,8])))))
def c104_r7:List SOp:=[sO 4 (.assign (.const (.bool true)))]
def c104:SC:=(.seq (.reg c104_r0 none (some [0,1])) (.seq (.seq (.reg c104_r1 none (some [0,1,7,8])) (.block 0 (.loop c104_l2 (some [0,1,7,8])))) (.seq (.reg c104_r7 none (some [4])) .ret)))
theorem c104_eq:∃code,Try.f104.body=some code/\compile H104 code=c104 :=⟨_,rfl,by kernel_rfl⟩
theorem c104_fn:Try.prog.funcs[104]?=some Try.f104:=by kernel_rfl
theorem c104_rs:Try.f104.results.toList=[.tmp 4]:=by kernel_rfl
theorem c104_ok:fnB Try.prog H104 Try.f104=true:=by kernel_rfl
theorem c104_nt:Try.f104.ntmps=31:=by kernel_rfl
def H106:Hint:=⟨[(7,[6]),(4,[1,7,8]),(6,[6]),(2000023,[1,7,8]),(5,[1,7,8,23]),(2000015,[1,7,8]),(3,[1,7,8,15]),(1000003,[1,7,8]),(2,[1,7,8]),(1,[1,7]),(0,[0,1,2])],[]⟩
def c106_r0:List SOp:=[sO 6 (.assign (.const (.bool false)))]
def c106_r1:List SOp:=[mV 9 0,mV 10 2,⟨some 11,.call ⟨.value (.func 107),#[.tmp 9,.tmp 10],#[42,9]⟩,none⟩,aS 7 11]
def c106_r2:List SOp:=[sO 8 (.assign (kI 0))]
def c106_r3:List SOp:=[mV 12 8,mV 13 7,⟨some 14,.call ⟨.builtin .len,#[.tmp 13],#[30]⟩,none⟩,sO 15 (.binOp .lss 3 (tM 12) (tM 14) 3)]
def c106_r5:List SOp:=[mV 18 7,mV 19 8,iX 20 30 18 19,lD 21 3 20,mV 22 1,sO 23 (.binOp .gtr 3 (tM 21) (tM 22) 3)]
def c106_r6:List SOp:=[sO 6 (.assign (.const (.bool true)))]
def c106_r4:List SOp:=[mV 16 8,sO 17 (.binOp .add 3 (tM 16) (kI 1) 3),aS 8 17]
def c106_l3:SC:=(.seq (.seq (.reg c106_r3 none (some [1,7,8,15])) (.cond (.tmp 15) .skip (.exit 0) (some [1,7,8]))) (.seq (.block 1 (.seq (.reg c106_r5 none (some [1,7,8,23])) (.cond (.tmp 23) (.seq (.reg c106_r6 none (some [6])) .ret) .skip (some [1,7,8])))) (.reg c106_r4 none (some [1,7,8]))))
def c106_r7:List SOp:=[sO 6 (.assign (.const (.bool false)))]
def c106:SC:=(.seq (.reg c106_r0 none (some [0,1,2])) (.seq (.reg c106_r1 none (some [1,7])) (.seq (.seq (.reg c106_r2 none (some [1,7,8])) (.block 0 (.loop c106_l3 (some [1,7,8])))) (.seq (.reg c106_r7 none (some [6])) .ret))))
theorem c106_eq:∃code,Try.f106.body=some code/\compile H106 code=c106 :=⟨_,rfl,by kernel_rfl⟩
theorem c106_fn:Try.prog.funcs[106]?=some Try.f106:=by kernel_rfl
theorem c106_rs:Try.f106.results.toList=[.tmp 6]:=by kernel_rfl
theorem c106_ok:fnB Try.prog H106 Try.f106=true:=by kernel_rfl
theorem c106_nt:Try.f106.ntmps=24:=by kernel_rfl
def H107:Hint:=⟨[(18,[4]),(5,[0,1,5,6,7]),(17,[0,1,5,6,7]),(14,[0,1,5,6,7,8,9,10,11]),(16,[0,1,5,6,7,8,9,10,11]),(2000078,[0,1,5,6,7,8,9,10,11]),(15,[0,1,5,6,7,8,9,10,11,78]),(2000057,[0,1,5,6,7,8,9,10,11]),(13,[0,1,5,6,7,8,9,10,11,57]),(1000013,[0,1,5,6,7,8,9,10,11]),(12,[0,1,5,6,7,8,9,10,11]),(11,[0,1,5,6,7,8,9,10]),(2000053,[0,1,5,6,7,10]),(10,[0,1,5,6,7,8,9,10,53]),(9,[0,1,5,6,7,8,9,10]),(8,[0,1,5,6,7,8,9]),(7,[0,1,5,6,7,8]),(2000025,[0,1,5,6,7]),(6,[0,1,5,6,7,25]),(2000018,[0,1,5,6,7]),(4,[0,1,5,6,7,18]),(1000004,[0,1,5,6,7]),(3,[0,1,5,6,7]),(2,[0,1,5,6]),(1,[0,1,5]),(0,[0,1])],[]⟩
def c107_r0:List SOp:=[sO 4 (.assign (.const (.slice none 0 0)))]
def c107_r1:List SOp:=[mV 12 0,mV 13 1,⟨some 14,.call ⟨.value (.func 44),#[.tmp 12,.tmp 13],#[42,9]⟩,none⟩,aS 5 14]
def c107_r2:List SOp:=[sO 6 (.assign (.const (.slice none 0 0)))]
def c107_r3:List SOp:=[sO 7 (.assign (kI 0))]
def c107_r4:List SOp:=[mV 15 7,mV 16 0,⟨some 17,.call ⟨.builtin .len,#[.tmp 16],#[42]⟩,none⟩,sO 18 (.binOp .lss 3 (tM 15) (tM 17) 3)]
def c107_r6:List SOp:=[mV 21 0,mV 22 7,iX 23 42 21 22,fD 24 52 23 2,lD 25 4 24]
def c107_r7:List SOp:=[mV 26 5,mV 27 6,⟨some 28,.call ⟨.builtin .len,#[.tmp 27],#[30]⟩,none⟩,iX 29 44 26 28,lD 30 30 29,aS 8 30]
def c107_r8:List SOp:=[mV 31 0,mV 32 7,⟨some 33,.call ⟨.value (.func 121),#[.tmp 31,.tmp 32],#[42,3]⟩,none⟩,aS 9 33]
def c107_r9:List SOp:=[mV 34 8,⟨some 35,.call ⟨.builtin .len,#[.tmp 34],#[30]⟩,none⟩,⟨some 36,.call ⟨.builtin .min,#[(tM 35),(kI 1)],#[3,3]⟩,none⟩,aS 10 36]
def c107_r10:List SOp:=[mV 37 9,sO 38 (.binOp .geq 3 (tM 37) (kI 0) 3),mV 39 38,⟨some 40,.move (tM 0),some (some 39,true)⟩,⟨some 41,.move (tM 9),some (some 39,true)⟩,⟨some 42,.indexAddr 42 (tM 40) (tM 41),some (some 39,true)⟩,⟨some 43,.fieldAddr 52 (tM 42) 5,some (some 39,true)⟩,⟨some 44,.load 4 (tM 43),some (some 39,true)⟩,sO 45 (.pick (tM 39) (tM 44) (.const (.bool false))),mV 46 45,⟨some 47,.move (tM 0),some (some 46,true)⟩,⟨some 48,.move (tM 9),some (some 46,true)⟩,⟨some 49,.indexAddr 42 (tM 47) (tM 48),some (some 46,true)⟩,⟨some 50,.fieldAddr 52 (tM 49) 7,some (some 46,true)⟩,⟨some 51,.load 3 (tM 50),some (some 46,true)⟩,⟨some 52,.binOp .gtr 3 (tM 51) (kI 0) 3,some (some 46,true)⟩,sO 53 (.pick (tM 46) (tM 52) (.const (.bool false)))]
def c107_r11:List SOp:=[sO 10 (.assign (kI 0))]
def c107_r12:List SOp:=[sO 11 (.assign (kI 0))]
def c107_r13:List SOp:=[mV 54 11,mV 55 8,⟨some 56,.call ⟨.builtin .len,#[.tmp 55],#[30]⟩,none⟩,sO 57 (.binOp .lss 3 (tM 54) (tM 56) 3)]
def c107_r15:List SOp:=[mV 60 8,mV 61 11,iX 62 30 60 61,lD 63 3 62,mV 64 0,mV 65 9,iX 66 42 64 65,fD 67 52 66 6,lD 68 3 67,sO 69 (.binOp .add 3 (tM 63) (tM 68) 3),mV 70 0,mV 71 9,iX 72 42 70 71,fD 73 52 72 7,lD 74 3 73,sO 75 (.binOp .add 3 (tM 69) (tM 74) 3),mV 76 1,⟨some 77,.call ⟨.builtin .len,#[.tmp 76],#[9]⟩,none⟩,sO 78 (.binOp .gtr 3 (tM 75) (tM 77) 3)]
def c107_r16:List SOp:=[mV 79 10,sO 80 (.binOp .add 3 (tM 79) (kI 1) 3),aS 10 80]
def c107_r14:List SOp:=[mV 58 11,sO 59 (.binOp .add 3 (tM 58) (kI 1) 3),aS 11 59]
def c107_l13:SC:=(.seq (.seq (.reg c107_r13 none (some [0,1,5,6,7,8,9,10,11,57])) (.cond (.tmp 57) .skip (.exit 2) (some [0,1,5,6,7,8,9,10,11]))) (.seq (.block 3 (.seq (.reg c107_r15 none (some [0,1,5,6,7,8,9,10,11,78])) (.cond (.tmp 78) (.reg c107_r16 none (some [0,1,5,6,7,8,9,10,11])) .skip (some [0,1,5,6,7,8,9,10,11])))) (.reg c107_r14 none (some [0,1,5,6,7,8,9,10,11]))))
def c107_r17:List SOp:=[mV 81 6,mV 82 10,sO 83 (.buildSlice 30 1 #[(0,(tM 82))]),⟨some 84,.call ⟨.builtin .append,#[.tmp 81,.tmp 83],#[30,30]⟩,none⟩,aS 6 84]
def c107_r5:List SOp:=[mV 19 7,sO 20 (.binOp .add 3 (tM 19) (kI 1) 3),aS 7 20]
def c107_l4:SC:=(.seq (.seq (.reg c107_r4 none (some [0,1,5,6,7,18])) (.cond (.tmp 18) .skip (.exit 0) (some [0,1,5,6,7]))) (.seq (.block 1 (.seq (.seq (.reg c107_r6 none (some [0,1,5,6,7,25])) (.cond (.tmp 25) (.exit 1) .skip (some [0,1,5,6,7]))) (.seq (.reg c107_r7 none (some [0,1,5,6,7,8])) (.seq (.reg c107_r8 none (some [0,1,5,6,7,8,9])) (.seq (.reg c107_r9 none (some [0,1,5,6,7,8,9,10])) (.seq (.seq (.reg c107_r10 none (some [0,1,5,6,7,8,9,10,53])) (.cond (.tmp 53) (.seq (.reg c107_r11 none (some [0,1,5,6,7,8,9,10])) (.seq (.reg c107_r12 none (some [0,1,5,6,7,8,9,10,11])) (.block 2 (.loop c107_l13 (some [0,1,5,6,7,8,9,10,11]))))) .skip (some [0,1,5,6,7,10]))) (.reg c107_r17 none (some [0,1,5,6,7])))))))) (.reg c107_r5 none (some [0,1,5,6,7]))))
def c107_r18:List SOp:=[mV 85 6,aS 4 85]
def c107:SC:=(.seq (.reg c107_r0 none (some [0,1])) (.seq (.reg c107_r1 none (some [0,1,5])) (.seq (.reg c107_r2 none (some [0,1,5,6])) (.seq (.seq (.reg c107_r3 none (some [0,1,5,6,7])) (.block 0 (.loop c107_l4 (some [0,1,5,6,7])))) (.seq (.reg c107_r18 none (some [4])) .ret)))))
theorem c107_eq:∃code,Try.f107.body=some code/\compile H107 code=c107 :=⟨_,rfl,by kernel_rfl⟩
theorem c107_fn:Try.prog.funcs[107]?=some Try.f107:=by kernel_rfl
theorem c107_rs:Try.f107.results.toList=[.tmp 4]:=by kernel_rfl
theorem c107_ok:fnB Try.prog H107 Try.f107=true:=by kernel_rfl
theorem c107_nt:Try.f107.ntmps=86:=by kernel_rfl
def H108:Hint:=⟨[(1,[4]),(0,[0,1,2])],[]⟩
def c108_r0:List SOp:=[sO 4 (.assign (.const (.bool false)))]
def c108_r1:List SOp:=[mV 5 0,nI 6 5,fD 7 147 6 1,lD 8 3 7,lD 9 68 1,⟨some 10,.call ⟨.builtin .len,#[.tmp 9],#[68]⟩,none⟩,sO 11 (.binOp .lss 3 (tM 8) (tM 10) 3),mV 12 11,⟨some 13,.load 68 (tM 1),some (some 12,true)⟩,⟨some 14,.move (tM 0),some (some 12,true)⟩,⟨some 15,.nilCheck (tM 14),some (some 12,true)⟩,⟨some 16,.fieldAddr 147 (tM 15) 1,some (some 12,true)⟩,⟨some 17,.load 3 (tM 16),some (some 12,true)⟩,⟨some 18,.indexAddr 68 (tM 13) (tM 17),some (some 12,true)⟩,⟨some 19,.load 4 (tM 18),some (some 12,true)⟩,sO 20 (.pick (tM 12) (tM 19) (.const (.bool false))),mV 21 20,⟨some 22,.move (tM 0),some (some 21,true)⟩,⟨some 23,.nilCheck (tM 22),some (some 21,true)⟩,⟨some 24,.fieldAddr 147 (tM 23) 0,some (some 21,true)⟩,⟨some 25,.load 52 (tM 24),some (some 21,true)⟩,⟨some 26,.load 84 (tM 2),some (some 21,true)⟩,⟨some 27,.nilCheck (tM 26),some (some 21,true)⟩,⟨some 28,.fieldAddr 144 (tM 27) 1,some (some 21,true)⟩,⟨some 29,.load 3 (tM 28),some (some 21,true)⟩,⟨some 30,.call ⟨.value (.func 109),#[.tmp 25,.tmp 29],#[52,3]⟩,some (some 21,true)⟩,sO 31 (.pick (tM 21) (tM 30) (.const (.bool false))),aS 4 31]
def c108:SC:=(.seq (.reg c108_r0 none (some [0,1,2])) (.seq (.reg c108_r1 none (some [4])) .ret))
theorem c108_eq:∃code,Try.f108.body=some code/\compile H108 code=c108 :=⟨_,rfl,by kernel_rfl⟩
theorem c108_fn:Try.prog.funcs[108]?=some Try.f108:=by kernel_rfl
theorem c108_rs:Try.f108.results.toList=[.tmp 4]:=by kernel_rfl
theorem c108_ok:fnB Try.prog H108 Try.f108=true:=by kernel_rfl
theorem c108_nt:Try.f108.ntmps=32:=by kernel_rfl
def H109:Hint:=⟨[(1,[4]),(0,[1,2])],[]⟩
def c109_r0:List SOp:=[sO 2 (.box 52 (tM 0)),sO 4 (.assign (.const (.bool false)))]
def c109_r1:List SOp:=[fD 5 52 2 5,lD 6 4 5,mV 7 6,⟨some 8,.move (tM 1),some (some 7,false)⟩,⟨some 9,.fieldAddr 52 (tM 2) 0,some (some 7,false)⟩,⟨some 10,.load 9 (tM 9),some (some 7,false)⟩,⟨some 11,.call ⟨.builtin .len,#[.tmp 10],#[9]⟩,some (some 7,false)⟩,⟨some 12,.binOp .sub 3 (tM 8) (tM 11) 3,some (some 7,false)⟩,⟨some 13,.fieldAddr 52 (tM 2) 3,some (some 7,false)⟩,⟨some 14,.load 3 (tM 13),some (some 7,false)⟩,⟨some 15,.binOp .geq 3 (tM 12) (tM 14) 3,some (some 7,false)⟩,⟨some 16,.move (tM 15),some (some 7,false)⟩,⟨some 17,.fieldAddr 52 (tM 2) 4,some (some 16,true)⟩,⟨some 18,.load 3 (tM 17),some (some 16,true)⟩,⟨some 19,.binOp .leq 3 (tM 18) (kI 0) 3,some (some 16,true)⟩,⟨some 20,.move (tM 19),some (some 16,true)⟩,⟨some 21,.move (tM 1),some (some 20,false)⟩,⟨some 22,.fieldAddr 52 (tM 2) 3,some (some 20,false)⟩,⟨some 23,.load 3 (tM 22),some (some 20,false)⟩,⟨some 24,.fieldAddr 52 (tM 2) 4,some (some 20,false)⟩,⟨some 25,.load 3 (tM 24),some (some 20,false)⟩,⟨some 26,.binOp .add 3 (tM 23) (tM 25) 3,some (some 20,false)⟩,⟨some 27,.binOp .leq 3 (tM 21) (tM 26) 3,some (some 20,false)⟩,⟨some 28,.pick (tM 20) (.const (.bool true)) (tM 27),some (some 16,true)⟩,⟨some 29,.pick (tM 16) (tM 28) (.const (.bool false)),some (some 7,false)⟩,sO 30 (.pick (tM 7) (.const (.bool true)) (tM 29)),aS 4 30]
def c109:SC:=(.seq (.reg c109_r0 none (some [1,2])) (.seq (.reg c109_r1 none (some [4])) .ret))
theorem c109_eq:∃code,Try.f109.body=some code/\compile H109 code=c109 :=⟨_,rfl,by kernel_rfl⟩
theorem c109_fn:Try.prog.funcs[109]?=some Try.f109:=by kernel_rfl
theorem c109_rs:Try.f109.results.toList=[.tmp 4]:=by kernel_rfl
theorem c109_ok:fnB Try.prog H109 Try.f109=true:=by kernel_rfl
theorem c109_nt:Try.f109.ntmps=31:=by kernel_rfl
def H110:Hint:=⟨[(8,[8]),(5,[0,2,3,9]),(7,[8]),(2000031,[0,2,3,9]),(6,[0,2,3,9,31]),(2000017,[0,2,3,9]),(4,[0,2,3,9,17]),(1000004,[0,2,3,9]),(3,[0,2,3,9]),(2,[8]),(2000011,[0,1,2,3]),(1,[0,1,2,3,11]),(0,[0,1,2,3])],[]⟩
def c110_r0:List SOp:=[sO 8 (.assign (.const (.bool false)))]
def c110_r1:List SOp:=[mV 10 1,sO 11 (.binOp .eql 148 (tM 10) (.const (.pointer none)) 148)]
def c110_r2:List SOp:=[sO 8 (.assign (.const (.bool false)))]
def c110_r3:List SOp:=[mV 12 1,nI 13 12,fD 14 147 13 5,lD 15 145 14,aS 9 15]
def c110_r4:List SOp:=[mV 16 9,sO 17 (.binOp .neq 145 (tM 16) (.const (.pointer none)) 145)]
def c110_r6:List SOp:=[mV 22 0,nI 23 22,fD 24 147 23 0,lD 25 52 24,mV 26 3,mV 27 9,nI 28 27,fD 29 181 28 0,lD 30 3 29,⟨some 31,.call ⟨.value (.func 122),#[.tmp 25,.tmp 26,.tmp 30],#[52,3,3]⟩,none⟩]
def c110_r7:List SOp:=[sO 8 (.assign (.const (.bool true)))]
def c110_r5:List SOp:=[mV 18 9,nI 19 18,fD 20 181 19 1,lD 21 145 20,aS 9 21]
def c110_l4:SC:=(.seq (.seq (.reg c110_r4 none (some [0,2,3,9,17])) (.cond (.tmp 17) .skip (.exit 0) (some [0,2,3,9]))) (.seq (.block 1 (.seq (.reg c110_r6 none (some [0,2,3,9,31])) (.cond (.tmp 31) (.seq (.reg c110_r7 none (some [8])) .ret) .skip (some [0,2,3,9])))) (.reg c110_r5 none (some [0,2,3,9]))))
def c110_r8:List SOp:=[mV 32 2,mV 33 32,⟨some 34,.move (tM 0),some (some 33,true)⟩,⟨some 35,.nilCheck (tM 34),some (some 33,true)⟩,⟨some 36,.fieldAddr 147 (tM 35) 0,some (some 33,true)⟩,⟨some 37,.load 52 (tM 36),some (some 33,true)⟩,⟨some 38,.move (tM 3),some (some 33,true)⟩,⟨some 39,.move (tM 3),some (some 33,true)⟩,⟨some 40,.call ⟨.value (.func 122),#[.tmp 37,.tmp 38,.tmp 39],#[52,3,3]⟩,some (some 33,true)⟩,sO 41 (.pick (tM 33) (tM 40) (.const (.bool false))),aS 8 41]
def c110:SC:=(.seq (.reg c110_r0 none (some [0,1,2,3])) (.seq (.seq (.reg c110_r1 none (some [0,1,2,3,11])) (.cond (.tmp 11) (.seq (.reg c110_r2 none (some [8])) .ret) .skip (some [0,1,2,3]))) (.seq (.seq (.reg c110_r3 none (some [0,2,3,9])) (.block 0 (.loop c110_l4 (some [0,2,3,9])))) (.seq (.reg c110_r8 none (some [8])) .ret))))
theorem c110_eq:∃code,Try.f110.body=some code/\compile H110 code=c110 :=⟨_,rfl,by kernel_rfl⟩
theorem c110_fn:Try.prog.funcs[110]?=some Try.f110:=by kernel_rfl
theorem c110_rs:Try.f110.results.toList=[.tmp 8]:=by kernel_rfl
theorem c110_ok:fnB Try.prog H110 Try.f110=true:=by kernel_rfl
theorem c110_nt:Try.f110.ntmps=42:=by kernel_rfl
def H111:Hint:=⟨[(13,[]),(12,[0]),(2000091,[]),(11,[0,1,6,91]),(9,[0,1,2,6]),(8,[0,1,2,6]),(10,[0,1,2,6]),(2000060,[0,1,2,6]),(7,[0,1,2,6,60]),(2000047,[0,1,2,6]),(6,[0,1,2,6,47]),(1000006,[0,1,2,6]),(5,[0,1,2,6]),(4,[0,1,2,6]),(3,[]),(2000028,[]),(2,[0,1,28]),(2000020,[0,1,2]),(1,[0,1,2,20]),(0,[0,1,2])],[]⟩
def c111_r0:List SOp:=[mV 7 0,mV 8 0,nI 9 8,fD 10 147 9 7,lD 11 4 10,mV 12 11,⟨some 13,.move (tM 2),some (some 12,false)⟩,sO 14 (.pick (tM 12) (.const (.bool true)) (tM 13)),nI 15 7,fD 16 147 15 7,⟨none,.store 4 (tM 16) (tM 14),none⟩]
def c111_r1:List SOp:=[mV 17 0,nI 18 17,fD 19 147 18 4,lD 20 4 19]
def c111_r2:List SOp:=[mV 21 2,mV 22 21,⟨some 23,.move (tM 0),some (some 22,true)⟩,⟨some 24,.nilCheck (tM 23),some (some 22,true)⟩,⟨some 25,.fieldAddr 147 (tM 24) 5,some (some 22,true)⟩,⟨some 26,.load 145 (tM 25),some (some 22,true)⟩,⟨some 27,.binOp .eql 145 (tM 26) (.const (.pointer none)) 145,some (some 22,true)⟩,sO 28 (.pick (tM 22) (tM 27) (.const (.bool false)))]
def c111_r3:List SOp:=[mV 29 0,mV 30 0,mV 31 1,sO 32 (.build 181 #[(0,(tM 31))]),sO 33 (.box 181 (tM 32)),nI 34 29,fD 35 147 34 5,⟨none,.store 145 (tM 35) (tM 33),none⟩,nI 36 30,fD 37 147 36 6,⟨none,.store 3 (tM 37) (kI 1),none⟩]
def c111_r4:List SOp:=[mV 38 0,nI 39 38,fD 40 147 39 5,aS 6 40]
def c111_r5:List SOp:=[mV 41 0,nI 42 41,fD 43 147 42 6,⟨none,.store 3 (tM 43) (kI 0),none⟩]
def c111_r6:List SOp:=[mV 44 6,nI 45 44,lD 46 145 45,sO 47 (.binOp .neq 145 (tM 46) (.const (.pointer none)) 145)]
def c111_r7:List SOp:=[mV 48 6,nI 49 48,lD 50 145 49,nI 51 50,fD 52 181 51 0,lD 53 3 52,mV 54 0,nI 55 54,fD 56 147 55 3,lD 57 3 56,sO 58 (.binOp .add 3 (tM 53) (tM 57) 3),mV 59 1,sO 60 (.binOp .gtr 3 (tM 58) (tM 59) 3)]
def c111_r8:List SOp:=[mV 61 6,nI 62 61,lD 63 145 62,nI 64 63,fD 65 181 64 1,aS 6 65]
def c111_r9:List SOp:=[mV 66 0,nI 67 66,fD 68 147 67 6,lD 69 3 68,sO 70 (.binOp .add 3 (tM 69) (kI 1) 3),nI 71 66,fD 72 147 71 6,⟨none,.store 3 (tM 72) (tM 70),none⟩]
def c111_r10:List SOp:=[mV 73 6,mV 74 6,nI 75 74,lD 76 145 75,nI 77 76,fD 78 181 77 1,lD 79 145 78,nI 80 73,⟨none,.store 145 (tM 80) (tM 79),none⟩]
def c111_l6:SC:=(.seq (.seq (.reg c111_r6 none (some [0,1,2,6,47])) (.cond (.tmp 47) .skip (.exit 0) (some [0,1,2,6]))) (.block 1 (.seq (.reg c111_r7 none (some [0,1,2,6,60])) (.cond (.tmp 60) (.seq (.reg c111_r8 none (some [0,1,2,6])) (.reg c111_r9 none (some [0,1,2,6]))) (.reg c111_r10 none (some [0,1,2,6])) (some [0,1,2,6])))))
def c111_r11:List SOp:=[mV 81 2,mV 82 81,⟨some 83,.move (tM 1),some (some 82,true)⟩,⟨some 84,.move (tM 0),some (some 82,true)⟩,⟨some 85,.nilCheck (tM 84),some (some 82,true)⟩,⟨some 86,.fieldAddr 147 (tM 85) 3,some (some 82,true)⟩,⟨some 87,.load 3 (tM 86),some (some 82,true)⟩,⟨some 88,.binOp .add 3 (tM 83) (tM 87) 3,some (some 82,true)⟩,⟨some 89,.move (tM 1),some (some 82,true)⟩,⟨some 90,.binOp .gtr 3 (tM 88) (tM 89) 3,some (some 82,true)⟩,sO 91 (.pick (tM 82) (tM 90) (.const (.bool false)))]
def c111_r12:List SOp:=[mV 92 6,mV 93 1,sO 94 (.build 181 #[(0,(tM 93))]),sO 95 (.box 181 (tM 94)),nI 96 92,⟨none,.store 145 (tM 96) (tM 95),none⟩]
def c111_r13:List SOp:=[mV 97 0,nI 98 97,fD 99 147 98 6,lD 100 3 99,sO 101 (.binOp .add 3 (tM 100) (kI 1) 3),nI 102 97,fD 103 147 102 6,⟨none,.store 3 (tM 103) (tM 101),none⟩]
def c111:SC:=(.seq (.reg c111_r0 none (some [0,1,2])) (.seq (.seq (.reg c111_r1 none (some [0,1,2,20])) (.cond (.tmp 20) (.seq (.seq (.reg c111_r2 none (some [0,1,28])) (.cond (.tmp 28) (.reg c111_r3 none (some [])) .skip (some []))) .ret) .skip (some [0,1,2]))) (.seq (.reg c111_r4 none (some [0,1,2,6])) (.seq (.reg c111_r5 none (some [0,1,2,6])) (.seq (.block 0 (.loop c111_l6 (some [0,1,2,6]))) (.seq (.reg c111_r11 none (some [0,1,6,91])) (.cond (.tmp 91) (.seq (.reg c111_r12 none (some [0])) (.reg c111_r13 none (some []))) .skip (some []))))))))
theorem c111_eq:∃code,Try.f111.body=some code/\compile H111 code=c111 :=⟨_,rfl,by kernel_rfl⟩
theorem c111_fn:Try.prog.funcs[111]?=some Try.f111:=by kernel_rfl
theorem c111_rs:Try.f111.results.toList=[]:=by kernel_rfl
theorem c111_ok:fnB Try.prog H111 Try.f111=true:=by kernel_rfl
theorem c111_nt:Try.f111.ntmps=104:=by kernel_rfl
def H112:Hint:=⟨[(15,[2]),(6,[1,2,3,4]),(14,[1,2,3,4]),(2000082,[1,2,3,4]),(13,[1,2,3,4,82]),(10,[1,2,3,4,5,6]),(12,[1,2,3,4,5,6]),(11,[1,2,3,4,5,6,7]),(2000026,[1,2,3,4,5,6]),(9,[1,2,3,4,5,6,26]),(1000009,[1,2,3,4,5,6]),(8,[1,2,3,4,5,6]),(7,[1,2,3,4,5]),(2000019,[1,2,3,4]),(5,[1,2,3,4,19]),(1000005,[1,2,3,4]),(4,[1,2,3,4]),(3,[1,2,3]),(2,[2]),(2000010,[1,2]),(1,[1,2,10]),(0,[1,2])],[(14,[(1,14),(3,14),(7,14),(17,14),(21,14)])]⟩
def c112_r0:List SOp:=[sO 1 (.box 102 (tM 0)),sO 2 (.alloc 102)]
def c112_r1:List SOp:=[lD 8 102 1,⟨some 9,.call ⟨.value (.func 123),#[.tmp 8],#[102]⟩,none⟩,sO 10 (.unOp .not 4 (tM 9))]
def c112_r2:List SOp:=[sO 11 (.build 102 #[]),⟨none,.store 102 (tM 2) (tM 11),none⟩]
def c112_r3:List SOp:=[fD 12 102 1 0,lD 13 4 12,sO 14 (.build 102 #[(0,(tM 13))]),sO 3 (.alloc 102),⟨none,.store 102 (tM 3) (tM 14),none⟩]
def c112_r4:List SOp:=[sO 4 (.assign (kI 0))]
def c112_r5:List SOp:=[mV 15 4,fD 16 102 1 1,lD 17 100 16,⟨some 18,.call ⟨.builtin .len,#[.tmp 17],#[100]⟩,none⟩,sO 19 (.binOp .lss 3 (tM 15) (tM 18) 3)]
def c112_r7:List SOp:=[sO 5 (.assign (.const (.bool false)))]
def c112_r8:List SOp:=[sO 6 (.assign (kI 0))]
def c112_r9:List SOp:=[mV 22 6,fD 23 102 1 1,lD 24 100 23,⟨some 25,.call ⟨.builtin .len,#[.tmp 24],#[100]⟩,none⟩,sO 26 (.binOp .lss 3 (tM 22) (tM 25) 3)]
def c112_r11:List SOp:=[fD 29 102 1 1,lD 30 100 29,mV 31 4,iX 32 100 30 31,lD 33 158 32,fD 34 102 1 1,lD 35 100 34,mV 36 6,iX 37 100 35 36,lD 38 158 37,⟨some 39,.call ⟨.value (.func 124),#[.tmp 33,.tmp 38],#[158,158]⟩,none⟩,mV 40 39,⟨some 41,.fieldAddr 102 (tM 1) 1,some (some 40,true)⟩,⟨some 42,.load 100 (tM 41),some (some 40,true)⟩,⟨some 43,.move (tM 6),some (some 40,true)⟩,⟨some 44,.indexAddr 100 (tM 42) (tM 43),some (some 40,true)⟩,⟨some 45,.load 158 (tM 44),some (some 40,true)⟩,⟨some 46,.fieldAddr 102 (tM 1) 1,some (some 40,true)⟩,⟨some 47,.load 100 (tM 46),some (some 40,true)⟩,⟨some 48,.move (tM 4),some (some 40,true)⟩,⟨some 49,.indexAddr 100 (tM 47) (tM 48),some (some 40,true)⟩,⟨some 50,.load 158 (tM 49),some (some 40,true)⟩,⟨some 51,.call ⟨.value (.func 124),#[.tmp 45,.tmp 50],#[158,158]⟩,some (some 40,true)⟩,sO 52 (.pick (tM 40) (tM 51) (.const (.bool false))),aS 7 52]
def c112_r12:List SOp:=[mV 53 5,mV 54 53,⟨some 55,.move (tM 6),some (some 54,false)⟩,⟨some 56,.move (tM 4),some (some 54,false)⟩,⟨some 57,.binOp .neq 3 (tM 55) (tM 56) 3,some (some 54,false)⟩,⟨some 58,.move (tM 57),some (some 54,false)⟩,⟨some 59,.fieldAddr 102 (tM 1) 1,some (some 58,true)⟩,⟨some 60,.load 100 (tM 59),some (some 58,true)⟩,⟨some 61,.move (tM 6),some (some 58,true)⟩,⟨some 62,.indexAddr 100 (tM 60) (tM 61),some (some 58,true)⟩,⟨some 63,.load 158 (tM 62),some (some 58,true)⟩,⟨some 64,.fieldAddr 102 (tM 1) 1,some (some 58,true)⟩,⟨some 65,.load 100 (tM 64),some (some 58,true)⟩,⟨some 66,.move (tM 4),some (some 58,true)⟩,⟨some 67,.indexAddr 100 (tM 65) (tM 66),some (some 58,true)⟩,⟨some 68,.load 158 (tM 67),some (some 58,true)⟩,⟨some 69,.call ⟨.value (.func 124),#[.tmp 63,.tmp 68],#[158,158]⟩,some (some 58,true)⟩,⟨some 70,.pick (tM 58) (tM 69) (.const (.bool false)),some (some 54,false)⟩,⟨some 71,.move (tM 70),some (some 54,false)⟩,⟨some 72,.move (tM 7),some (some 71,true)⟩,⟨some 73,.unOp .not 4 (tM 72),some (some 71,true)⟩,⟨some 74,.move (tM 73),some (some 71,true)⟩,⟨some 75,.move (tM 6),some (some 74,false)⟩,⟨some 76,.move (tM 4),some (some 74,false)⟩,⟨some 77,.binOp .lss 3 (tM 75) (tM 76) 3,some (some 74,false)⟩,⟨some 78,.pick (tM 74) (.const (.bool true)) (tM 77),some (some 71,true)⟩,⟨some 79,.pick (tM 71) (tM 78) (.const (.bool false)),some (some 54,false)⟩,sO 80 (.pick (tM 54) (.const (.bool true)) (tM 79)),aS 5 80]
def c112_r10:List SOp:=[mV 27 6,sO 28 (.binOp .add 3 (tM 27) (kI 1) 3),aS 6 28]
def c112_l9:SC:=(.seq (.seq (.reg c112_r9 none (some [1,2,3,4,5,6,26])) (.cond (.tmp 26) .skip (.exit 2) (some [1,2,3,4,5,6]))) (.seq (.block 3 (.seq (.reg c112_r11 none (some [1,2,3,4,5,6,7])) (.reg c112_r12 none (some [1,2,3,4,5,6])))) (.reg c112_r10 none (some [1,2,3,4,5,6]))))
def c112_r13:List SOp:=[mV 81 5,sO 82 (.unOp .not 4 (tM 81))]
def c112_r14:List SOp:=[fD 83 102 3 1,lD 84 100 83,fD 85 102 1 1,lD 86 100 85,mV 87 4,iX 88 100 86 87,fD 89 158 88 0,lD 90 156 89,fD 91 102 1 1,lD 92 100 91,mV 93 4,iX 94 100 92 93,fD 95 158 94 1,lD 96 3 95,⟨some 97,.call ⟨.value (.func 125),#[.tmp 96],#[3]⟩,none⟩,sO 98 (.binOp .and 156 (tM 90) (tM 97) 156),fD 99 102 1 1,lD 100 100 99,mV 101 4,iX 102 100 100 101,fD 103 158 102 1,lD 104 3 103,sO 105 (.build 158 #[(0,(tM 98)),(1,(tM 104))]),sO 106 (.buildSlice 100 1 #[(0,(tM 105))]),⟨some 107,.call ⟨.builtin .append,#[.tmp 84,.tmp 106],#[100,100]⟩,none⟩,fD 108 102 3 1,⟨none,.store 100 (tM 108) (tM 107),none⟩]
def c112_r6:List SOp:=[mV 20 4,sO 21 (.binOp .add 3 (tM 20) (kI 1) 3),aS 4 21]
def c112_l5:SC:=(.seq (.seq (.reg c112_r5 none (some [1,2,3,4,19])) (.cond (.tmp 19) .skip (.exit 0) (some [1,2,3,4]))) (.seq (.block 1 (.seq (.reg c112_r7 none (some [1,2,3,4,5])) (.seq (.seq (.reg c112_r8 none (some [1,2,3,4,5,6])) (.block 2 (.loop c112_l9 (some [1,2,3,4,5,6])))) (.seq (.reg c112_r13 none (some [1,2,3,4,82])) (.cond (.tmp 82) (.reg c112_r14 (some [(1,14),(3,14),(7,14),(17,14),(21,14)]) (some [1,2,3,4])) .skip (some [1,2,3,4])))))) (.reg c112_r6 none (some [1,2,3,4]))))
def c112_r15:List SOp:=[lD 109 102 3,⟨none,.store 102 (tM 2) (tM 109),none⟩]
def c112:SC:=(.seq (.reg c112_r0 none (some [1,2])) (.seq (.seq (.reg c112_r1 none (some [1,2,10])) (.cond (.tmp 10) (.seq (.reg c112_r2 none (some [2])) .ret) .skip (some [1,2]))) (.seq (.reg c112_r3 none (some [1,2,3])) (.seq (.seq (.reg c112_r4 none (some [1,2,3,4])) (.block 0 (.loop c112_l5 (some [1,2,3,4])))) (.seq (.reg c112_r15 none (some [2])) .ret)))))
theorem c112_eq:∃code,Try.f112.body=some code/\compile H112 code=c112 :=⟨_,rfl,by kernel_rfl⟩
theorem c112_fn:Try.prog.funcs[112]?=some Try.f112:=by kernel_rfl
theorem c112_rs:Try.f112.results.toList=[.cell 2 102]:=by kernel_rfl
theorem c112_ok:fnB Try.prog H112 Try.f112=true:=by kernel_rfl
theorem c112_nt:Try.f112.ntmps=110:=by kernel_rfl
def H114:Hint:=⟨[(1,[2]),(0,[0])],[]⟩
def c114_r0:List SOp:=[sO 2 (.assign (.const (.bool false)))]
def c114_r1:List SOp:=[mV 3 0,nI 4 3,fD 5 166 4 1,lD 6 84 5,⟨some 7,.call ⟨.value (.func 76),#[.tmp 6],#[84]⟩,none⟩,aS 2 7]
def c114:SC:=(.seq (.reg c114_r0 none (some [0])) (.seq (.reg c114_r1 none (some [2])) .ret))
theorem c114_eq:∃code,Try.f114.body=some code/\compile H114 code=c114 :=⟨_,rfl,by kernel_rfl⟩
theorem c114_fn:Try.prog.funcs[114]?=some Try.f114:=by kernel_rfl
theorem c114_rs:Try.f114.results.toList=[.tmp 2]:=by kernel_rfl
theorem c114_ok:fnB Try.prog H114 Try.f114=true:=by kernel_rfl
theorem c114_nt:Try.f114.ntmps=8:=by kernel_rfl
def H115:Hint:=⟨[(8,[2]),(7,[3,6,7,8]),(6,[3,6,7,8]),(2000015,[3,6,7,8]),(5,[3,5,6,7,8,15]),(4,[3,5,6,7,8]),(2000009,[3,6,7,8]),(3,[3,6,7,8,9]),(1000003,[3,6,7,8]),(2,[3,6,7,8]),(1,[0,3]),(0,[0])],[]⟩
def c115_r0:List SOp:=[sO 2 (.assign (kI 0))]
def c115_r1:List SOp:=[sO 3 (.assign (kI 0))]
def c115_r2:List SOp:=[mV 6 0,⟨some 7,.call ⟨.builtin .len,#[.tmp 6],#[94]⟩,none⟩,sO 8 (.move (kI 0))]
def c115_r3:List SOp:=[sO 9 (.binOp .lss 3 (tM 8) (tM 7) 3)]
def c115_r4:List SOp:=[iX 10 94 6 8,lD 11 99 10,sO 5 (.alloc 99),⟨none,.store 99 (tM 5) (tM 11),none⟩]
def c115_r5:List SOp:=[fD 12 99 5 3,lD 13 3 12,mV 14 3,⟨some 15,.call ⟨.value (.func 78),#[.tmp 13,.tmp 14],#[3,3]⟩,none⟩]
def c115_r6:List SOp:=[fD 16 99 5 3,lD 17 3 16,aS 3 17]
def c115_r7:List SOp:=[sO 18 (.binOp .add 3 (tM 8) (kI 1) 3),mV 8 18]
def c115_l3:SC:=(.seq (.reg c115_r3 none (some [3,6,7,8,9])) (.seq (.cond (.tmp 9) .skip (.exit 0) (some [3,6,7,8])) (.seq (.block 1 (.seq (.reg c115_r4 none (some [3,5,6,7,8])) (.seq (.reg c115_r5 none (some [3,5,6,7,8,15])) (.cond (.tmp 15) (.reg c115_r6 none (some [3,6,7,8])) .skip (some [3,6,7,8]))))) (.reg c115_r7 none (some [3,6,7,8])))))
def c115_r8:List SOp:=[mV 19 3,aS 2 19]
def c115:SC:=(.seq (.reg c115_r0 none (some [0])) (.seq (.reg c115_r1 none (some [0,3])) (.seq (.seq (.reg c115_r2 none (some [3,6,7,8])) (.block 0 (.loop c115_l3 (some [3,6,7,8])))) (.seq (.reg c115_r8 none (some [2])) .ret))))
theorem c115_eq:∃code,Try.f115.body=some code/\compile H115 code=c115 :=⟨_,rfl,by kernel_rfl⟩
theorem c115_fn:Try.prog.funcs[115]?=some Try.f115:=by kernel_rfl
theorem c115_rs:Try.f115.results.toList=[.tmp 2]:=by kernel_rfl
theorem c115_ok:fnB Try.prog H115 Try.f115=true:=by kernel_rfl
theorem c115_nt:Try.f115.ntmps=20:=by kernel_rfl
def H116:Hint:=⟨[(2,[2]),(1,[0]),(0,[0])],[]⟩
def c116_r0:List SOp:=[sO 2 (.assign (.const (.bool false)))]
def c116_r1:List SOp:=[mV 3 0,nI 4 3,fD 5 166 4 1,lD 6 84 5,mV 7 0,nI 8 7,fD 9 166 8 2,lD 10 68 9,⟨some 11,.call ⟨.value (.func 73),#[.tmp 6,.tmp 10],#[84,68]⟩,none⟩]
def c116_r2:List SOp:=[mV 12 0,nI 13 12,fD 14 166 13 1,lD 15 84 14,⟨some 16,.call ⟨.value (.func 76),#[.tmp 15],#[84]⟩,none⟩,aS 2 16]
def c116:SC:=(.seq (.reg c116_r0 none (some [0])) (.seq (.reg c116_r1 none (some [0])) (.seq (.reg c116_r2 none (some [2])) .ret)))
theorem c116_eq:∃code,Try.f116.body=some code/\compile H116 code=c116 :=⟨_,rfl,by kernel_rfl⟩
theorem c116_fn:Try.prog.funcs[116]?=some Try.f116:=by kernel_rfl
theorem c116_rs:Try.f116.results.toList=[.tmp 2]:=by kernel_rfl
theorem c116_ok:fnB Try.prog H116 Try.f116=true:=by kernel_rfl
theorem c116_nt:Try.f116.ntmps=17:=by kernel_rfl
def H117:Hint:=⟨[(1,[2]),(0,[1])],[]⟩
def c117_r0:List SOp:=[sO 1 (.box 91 (tM 0)),sO 2 (.assign (.const .nilFunc))]
def c117_r1:List SOp:=[sO 3 (.makeFunc (.func 126) #[] #[.tmp 1]),aS 2 3]
def c117:SC:=(.seq (.reg c117_r0 none (some [1])) (.seq (.reg c117_r1 none (some [2])) .ret))
theorem c117_eq:∃code,Try.f117.body=some code/\compile H117 code=c117 :=⟨_,rfl,by kernel_rfl⟩
theorem c117_fn:Try.prog.funcs[117]?=some Try.f117:=by kernel_rfl
theorem c117_rs:Try.f117.results.toList=[.tmp 2]:=by kernel_rfl
theorem c117_ok:fnB Try.prog H117 Try.f117=true:=by kernel_rfl
theorem c117_nt:Try.f117.ntmps=4:=by kernel_rfl
end Go.AM
