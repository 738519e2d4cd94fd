/-
  What the law VerdictPlays stands on,part 1.
-/
import Derived.Test.YtamidpfdiijjgaaPV27G
import Derived.Test.YtamidpfdiijjgaaPV27T
import Derived.Below
import Derived.ProofKit
import Derived.OpenShut
import Derived.SliceStrings
import Derived.Test.YtamidpfdiijjgaaP27AMb
import Derived.RangeFuncRecord
import Derived.Test.YtamidpfdiijjgaaProg
namespace Go.AM
open Go Go.Proofs Go.RowKit
set_option linter.unusedVariables false
set_option linter.unusedSimpArgs false
set_option maxRecDepth 100000
theorem call29{args:List AV}{h:Heap}{R:AV->Heap->Prop}(hn:args.length<=15)(hw:Wt Try.prog (D cfg) c29 ⟨argsEnv 0 args,h⟩ (Ends Try.prog [.tmp 4] R)):∃r h',D cfg 29 args h=some (r,h')/\R r h':=
 let ⟨_,hb,hk⟩:=c29_eq
 W.calls (c:=cfg) rfl c29_fn hb hk c29_rs (by rw[c29_nt];exact hn) hw
theorem call30{args:List AV}{h:Heap}{R:AV->Heap->Prop}(hn:args.length<=7)(hw:Wt Try.prog (D cfg) c30 ⟨argsEnv 0 args,h⟩ (Ends Try.prog [.tmp 0] R)):∃r h',D cfg 30 args h=some (r,h')/\R r h':=
 let ⟨_,hb,hk⟩:=c30_eq
 W.calls (c:=cfg) rfl c30_fn hb hk c30_rs (by rw[c30_nt];exact hn) hw
theorem call31{args:List AV}{h:Heap}{R:AV->Heap->Prop}(hn:args.length<=116)(hw:Wt Try.prog (D cfg) c31 ⟨argsEnv 0 args,h⟩ (Ends Try.prog [.tmp 4] R)):∃r h',D cfg 31 args h=some (r,h')/\R r h':=
 let ⟨_,hb,hk⟩:=c31_eq
 W.calls (c:=cfg) rfl c31_fn hb hk c31_rs (by rw[c31_nt];exact hn) hw
theorem call32{args:List AV}{h:Heap}{R:AV->Heap->Prop}(hn:args.length<=8)(hw:Wt Try.prog (D cfg) c32 ⟨argsEnv 0 args,h⟩ (Ends Try.prog [.tmp 2] R)):∃r h',D cfg 32 args h=some (r,h')/\R r h':=
 let ⟨_,hb,hk⟩:=c32_eq
 W.calls (c:=cfg) rfl c32_fn hb hk c32_rs (by rw[c32_nt];exact hn) hw
theorem call33{args:List AV}{h:Heap}{R:AV->Heap->Prop}(hn:args.length<=23)(hw:Wt Try.prog (D cfg) c33 ⟨argsEnv 0 args,h⟩ (Ends Try.prog [.tmp 6,.tmp 7] R)):∃r h',D cfg 33 args h=some (r,h')/\R r h':=
 let ⟨_,hb,hk⟩:=c33_eq
 W.calls (c:=cfg) rfl c33_fn hb hk c33_rs (by rw[c33_nt];exact hn) hw
theorem call34{args:List AV}{h:Heap}{R:AV->Heap->Prop}(hn:args.length<=16)(hw:Wt Try.prog (D cfg) c34 ⟨argsEnv 0 args,h⟩ (Ends Try.prog [.tmp 4] R)):∃r h',D cfg 34 args h=some (r,h')/\R r h':=
 let ⟨_,hb,hk⟩:=c34_eq
 W.calls (c:=cfg) rfl c34_fn hb hk c34_rs (by rw[c34_nt];exact hn) hw
theorem call44{args:List AV}{h:Heap}{R:AV->Heap->Prop}(hn:args.length<=91)(hw:Wt Try.prog (D cfg) c44 ⟨argsEnv 0 args,h⟩ (Ends Try.prog [.tmp 4] R)):∃r h',D cfg 44 args h=some (r,h')/\R r h':=
 let ⟨_,hb,hk⟩:=c44_eq
 W.calls (c:=cfg) rfl c44_fn hb hk c44_rs (by rw[c44_nt];exact hn) hw
theorem call48{args:List AV}{h:Heap}{R:AV->Heap->Prop}(hn:args.length<=25)(hw:Wt Try.prog (D cfg) c48 ⟨argsEnv 0 args,h⟩ (Ends Try.prog [.tmp 4] R)):∃r h',D cfg 48 args h=some (r,h')/\R r h':=
 let ⟨_,hb,hk⟩:=c48_eq
 W.calls (c:=cfg) rfl c48_fn hb hk c48_rs (by rw[c48_nt];exact hn) hw
theorem call49{args:List AV}{h:Heap}{R:AV->Heap->Prop}(hn:args.length<=110)(hw:Wt Try.prog (D cfg) c49 ⟨argsEnv 0 args,h⟩ (Ends Try.prog [.tmp 2] R)):∃r h',D cfg 49 args h=some (r,h')/\R r h':=
 let ⟨_,hb,hk⟩:=c49_eq
 W.calls (c:=cfg) rfl c49_fn hb hk c49_rs (by rw[c49_nt];exact hn) hw
theorem call50{args:List AV}{h:Heap}{R:AV->Heap->Prop}(hn:args.length<=37)(hw:Wt Try.prog (D cfg) c50 ⟨argsEnv 0 args,h⟩ (Ends Try.prog [.tmp 4] R)):∃r h',D cfg 50 args h=some (r,h')/\R r h':=
 let ⟨_,hb,hk⟩:=c50_eq
 W.calls (c:=cfg) rfl c50_fn hb hk c50_rs (by rw[c50_nt];exact hn) hw
theorem call52{args:List AV}{h:Heap}{R:AV->Heap->Prop}(hn:args.length<=73)(hw:Wt Try.prog (D cfg) c52 ⟨argsEnv 0 args,h⟩ (Ends Try.prog [.tmp 4,.tmp 5] R)):∃r h',D cfg 52 args h=some (r,h')/\R r h':=
 let ⟨_,hb,hk⟩:=c52_eq
 W.calls (c:=cfg) rfl c52_fn hb hk c52_rs (by rw[c52_nt];exact hn) hw
theorem call53{args:List AV}{h:Heap}{R:AV->Heap->Prop}(hn:args.length<=20)(hw:Wt Try.prog (D cfg) c53 ⟨argsEnv 0 args,h⟩ (Ends Try.prog [.tmp 6] R)):∃r h',D cfg 53 args h=some (r,h')/\R r h':=
 let ⟨_,hb,hk⟩:=c53_eq
 W.calls (c:=cfg) rfl c53_fn hb hk c53_rs (by rw[c53_nt];exact hn) hw
theorem call54{args:List AV}{h:Heap}{R:AV->Heap->Prop}(hn:args.length<=16)(hw:Wt Try.prog (D cfg) c54 ⟨argsEnv 0 args,h⟩ (Ends Try.prog [.tmp 4] R)):∃r h',D cfg 54 args h=some (r,h')/\R r h':=
 let ⟨_,hb,hk⟩:=c54_eq
 W.calls (c:=cfg) rfl c54_fn hb hk c54_rs (by rw[c54_nt];exact hn) hw
theorem call57{args:List AV}{h:Heap}{R:AV->Heap->Prop}(hn:args.length<=40)(hw:Wt Try.prog (D cfg) c57 ⟨argsEnv 0 args,h⟩ (Ends Try.prog [.tmp 8] R)):∃r h',D cfg 57 args h=some (r,h')/\R r h':=
 let ⟨_,hb,hk⟩:=c57_eq
 W.calls (c:=cfg) rfl c57_fn hb hk c57_rs (by rw[c57_nt];exact hn) hw
theorem call59{args:List AV}{h:Heap}{R:AV->Heap->Prop}(hn:args.length<=30)(hw:Wt Try.prog (D cfg) c59 ⟨argsEnv 0 args,h⟩ (Ends Try.prog [.tmp 2] R)):∃r h',D cfg 59 args h=some (r,h')/\R r h':=
 let ⟨_,hb,hk⟩:=c59_eq
 W.calls (c:=cfg) rfl c59_fn hb hk c59_rs (by rw[c59_nt];exact hn) hw
theorem call60{args:List AV}{h:Heap}{R:AV->Heap->Prop}(hn:args.length<=29)(hw:Wt Try.prog (D cfg) c60 ⟨argsEnv 0 args,h⟩ (Ends Try.prog [.tmp 2] R)):∃r h',D cfg 60 args h=some (r,h')/\R r h':=
 let ⟨_,hb,hk⟩:=c60_eq
 W.calls (c:=cfg) rfl c60_fn hb hk c60_rs (by rw[c60_nt];exact hn) hw
theorem call65{args:List AV}{h:Heap}{R:AV->Heap->Prop}(hn:args.length<=100)(hw:Wt Try.prog (D cfg) c65 ⟨argsEnv 0 args,h⟩ (Ends Try.prog [.tmp 4] R)):∃r h',D cfg 65 args h=some (r,h')/\R r h':=
 let ⟨_,hb,hk⟩:=c65_eq
 W.calls (c:=cfg) rfl c65_fn hb hk c65_rs (by rw[c65_nt];exact hn) hw
theorem call72{args:List AV}{h:Heap}{R:AV->Heap->Prop}(hn:args.length<=97)(hw:Wt Try.prog (D cfg) c72 ⟨argsEnv 0 args,h⟩ (Ends Try.prog [.tmp 4] R)):∃r h',D cfg 72 args h=some (r,h')/\R r h':=
 let ⟨_,hb,hk⟩:=c72_eq
 W.calls (c:=cfg) rfl c72_fn hb hk c72_rs (by rw[c72_nt];exact hn) hw
theorem call73{args:List AV}{h:Heap}{R:AV->Heap->Prop}(hn:args.length<=153)(hw:Wt Try.prog (D cfg) c73 ⟨argsEnv 0 args,h⟩ (Ends Try.prog [.tmp 4] R)):∃r h',D cfg 73 args h=some (r,h')/\R r h':=
 let ⟨_,hb,hk⟩:=c73_eq
 W.calls (c:=cfg) rfl c73_fn hb hk c73_rs (by rw[c73_nt];exact hn) hw
theorem call74{args:List AV}{h:Heap}{R:AV->Heap->Prop}(hn:args.length<=31)(hw:Wt Try.prog (D cfg) c74 ⟨argsEnv 0 args,h⟩ (Ends Try.prog [.tmp 2] R)):∃r h',D cfg 74 args h=some (r,h')/\R r h':=
 let ⟨_,hb,hk⟩:=c74_eq
 W.calls (c:=cfg) rfl c74_fn hb hk c74_rs (by rw[c74_nt];exact hn) hw
theorem call75{args:List AV}{h:Heap}{R:AV->Heap->Prop}(hn:args.length<=7)(hw:Wt Try.prog (D cfg) c75 ⟨argsEnv 0 args,h⟩ (Ends Try.prog [.tmp 2] R)):∃r h',D cfg 75 args h=some (r,h')/\R r h':=
 let ⟨_,hb,hk⟩:=c75_eq
 W.calls (c:=cfg) rfl c75_fn hb hk c75_rs (by rw[c75_nt];exact hn) hw
theorem call76{args:List AV}{h:Heap}{R:AV->Heap->Prop}(hn:args.length<=25)(hw:Wt Try.prog (D cfg) c76 ⟨argsEnv 0 args,h⟩ (Ends Try.prog [.tmp 2] R)):∃r h',D cfg 76 args h=some (r,h')/\R r h':=
 let ⟨_,hb,hk⟩:=c76_eq
 W.calls (c:=cfg) rfl c76_fn hb hk c76_rs (by rw[c76_nt];exact hn) hw
theorem call78{args:List AV}{h:Heap}{R:AV->Heap->Prop}(hn:args.length<=8)(hw:Wt Try.prog (D cfg) c78 ⟨argsEnv 0 args,h⟩ (Ends Try.prog [.tmp 4] R)):∃r h',D cfg 78 args h=some (r,h')/\R r h':=
 let ⟨_,hb,hk⟩:=c78_eq
 W.calls (c:=cfg) rfl c78_fn hb hk c78_rs (by rw[c78_nt];exact hn) hw
theorem call80{args:List AV}{h:Heap}{R:AV->Heap->Prop}(hn:args.length<=97)(hw:Wt Try.prog (D cfg) c80 ⟨argsEnv 0 args,h⟩ (Ends Try.prog [.tmp 2] R)):∃r h',D cfg 80 args h=some (r,h')/\R r h':=
 let ⟨_,hb,hk⟩:=c80_eq
 W.calls (c:=cfg) rfl c80_fn hb hk c80_rs (by rw[c80_nt];exact hn) hw
theorem call81{args:List AV}{h:Heap}{R:AV->Heap->Prop}(hn:args.length<=128)(hw:Wt Try.prog (D cfg) c81 ⟨argsEnv 0 args,h⟩ (Ends Try.prog [.tmp 6] R)):∃r h',D cfg 81 args h=some (r,h')/\R r h':=
 let ⟨_,hb,hk⟩:=c81_eq
 W.calls (c:=cfg) rfl c81_fn hb hk c81_rs (by rw[c81_nt];exact hn) hw
theorem call84{args:List AV}{h:Heap}{R:AV->Heap->Prop}(hn:args.length<=7)(hw:Wt Try.prog (D cfg) c84 ⟨argsEnv 0 args,h⟩ (Ends Try.prog [.tmp 2] R)):∃r h',D cfg 84 args h=some (r,h')/\R r h':=
 let ⟨_,hb,hk⟩:=c84_eq
 W.calls (c:=cfg) rfl c84_fn hb hk c84_rs (by rw[c84_nt];exact hn) hw
theorem call86{args:List AV}{h:Heap}{R:AV->Heap->Prop}(hn:args.length<=49)(hw:Wt Try.prog (D cfg) c86 ⟨argsEnv 0 args,h⟩ (Ends Try.prog [.tmp 2] R)):∃r h',D cfg 86 args h=some (r,h')/\R r h':=
 let ⟨_,hb,hk⟩:=c86_eq
 W.calls (c:=cfg) rfl c86_fn hb hk c86_rs (by rw[c86_nt];exact hn) hw
theorem call87{args:List AV}{h:Heap}{R:AV->Heap->Prop}(hn:args.length<=69)(hw:Wt Try.prog (D cfg) c87 ⟨argsEnv 0 args,h⟩ (Ends Try.prog [.tmp 6] R)):∃r h',D cfg 87 args h=some (r,h')/\R r h':=
 let ⟨_,hb,hk⟩:=c87_eq
 W.calls (c:=cfg) rfl c87_fn hb hk c87_rs (by rw[c87_nt];exact hn) hw
theorem call88{args:List AV}{h:Heap}{R:AV->Heap->Prop}(hn:args.length<=8)(hw:Wt Try.prog (D cfg) c88 ⟨argsEnv 0 args,h⟩ (Ends Try.prog [.tmp 2,.tmp 3] R)):∃r h',D cfg 88 args h=some (r,h')/\R r h':=
 let ⟨_,hb,hk⟩:=c88_eq
 W.calls (c:=cfg) rfl c88_fn hb hk c88_rs (by rw[c88_nt];exact hn) hw
theorem call89{args:List AV}{h:Heap}{R:AV->Heap->Prop}(hn:args.length<=67)(hw:Wt Try.prog (D cfg) c89 ⟨argsEnv 0 args,h⟩ (Ends Try.prog [.tmp 4] R)):∃r h',D cfg 89 args h=some (r,h')/\R r h':=
 let ⟨_,hb,hk⟩:=c89_eq
 W.calls (c:=cfg) rfl c89_fn hb hk c89_rs (by rw[c89_nt];exact hn) hw
theorem call90{args:List AV}{h:Heap}{R:AV->Heap->Prop}(hn:args.length<=21)(hw:Wt Try.prog (D cfg) c90 ⟨argsEnv 0 args,h⟩ (Ends Try.prog [.tmp 4,.tmp 5] R)):∃r h',D cfg 90 args h=some (r,h')/\R r h':=
 let ⟨_,hb,hk⟩:=c90_eq
 W.calls (c:=cfg) rfl c90_fn hb hk c90_rs (by rw[c90_nt];exact hn) hw
theorem call91{args:List AV}{h:Heap}{R:AV->Heap->Prop}(hn:args.length<=58)(hw:Wt Try.prog (D cfg) c91 ⟨argsEnv 0 args,h⟩ (Ends Try.prog [.tmp 2] R)):∃r h',D cfg 91 args h=some (r,h')/\R r h':=
 let ⟨_,hb,hk⟩:=c91_eq
 W.calls (c:=cfg) rfl c91_fn hb hk c91_rs (by rw[c91_nt];exact hn) hw
theorem call92{args:List AV}{h:Heap}{R:AV->Heap->Prop}(hn:args.length<=16)(hw:Wt Try.prog (D cfg) c92 ⟨argsEnv 0 args,h⟩ (Ends Try.prog [.tmp 4] R)):∃r h',D cfg 92 args h=some (r,h')/\R r h':=
 let ⟨_,hb,hk⟩:=c92_eq
 W.calls (c:=cfg) rfl c92_fn hb hk c92_rs (by rw[c92_nt];exact hn) hw
theorem call93{args:List AV}{h:Heap}{R:AV->Heap->Prop}(hn:args.length<=8)(hw:Wt Try.prog (D cfg) c93 ⟨argsEnv 0 args,h⟩ (Ends Try.prog [.tmp 2] R)):∃r h',D cfg 93 args h=some (r,h')/\R r h':=
 let ⟨_,hb,hk⟩:=c93_eq
 W.calls (c:=cfg) rfl c93_fn hb hk c93_rs (by rw[c93_nt];exact hn) hw
theorem call96{args:List AV}{h:Heap}{R:AV->Heap->Prop}(hn:args.length<=41)(hw:Wt Try.prog (D cfg) c96 ⟨argsEnv 0 args,h⟩ (Ends Try.prog [.tmp 6] R)):∃r h',D cfg 96 args h=some (r,h')/\R r h':=
 let ⟨_,hb,hk⟩:=c96_eq
 W.calls (c:=cfg) rfl c96_fn hb hk c96_rs (by rw[c96_nt];exact hn) hw
theorem call97{args:List AV}{h:Heap}{R:AV->Heap->Prop}(hn:args.length<=38)(hw:Wt Try.prog (D cfg) c97 ⟨argsEnv 0 args,h⟩ (Ends Try.prog [.tmp 6] R)):∃r h',D cfg 97 args h=some (r,h')/\R r h':=
 let ⟨_,hb,hk⟩:=c97_eq
 W.calls (c:=cfg) rfl c97_fn hb hk c97_rs (by rw[c97_nt];exact hn) hw
theorem call99{args:List AV}{h:Heap}{R:AV->Heap->Prop}(hn:args.length<=33)(hw:Wt Try.prog (D cfg) c99 ⟨argsEnv 0 args,h⟩ (Ends Try.prog [.tmp 4] R)):∃r h',D cfg 99 args h=some (r,h')/\R r h':=
 let ⟨_,hb,hk⟩:=c99_eq
 W.calls (c:=cfg) rfl c99_fn hb hk c99_rs (by rw[c99_nt];exact hn) hw
theorem call100{args:List AV}{h:Heap}{R:AV->Heap->Prop}(hn:args.length<=116)(hw:Wt Try.prog (D cfg) c100 ⟨argsEnv 0 args,h⟩ (Ends Try.prog [.tmp 6] R)):∃r h',D cfg 100 args h=some (r,h')/\R r h':=
 let ⟨_,hb,hk⟩:=c100_eq
 W.calls (c:=cfg) rfl c100_fn hb hk c100_rs (by rw[c100_nt];exact hn) hw
theorem call101{args:List AV}{h:Heap}{R:AV->Heap->Prop}(hn:args.length<=16)(hw:Wt Try.prog (D cfg) c101 ⟨argsEnv 0 args,h⟩ (Ends Try.prog [.tmp 4] R)):∃r h',D cfg 101 args h=some (r,h')/\R r h':=
 let ⟨_,hb,hk⟩:=c101_eq
 W.calls (c:=cfg) rfl c101_fn hb hk c101_rs (by rw[c101_nt];exact hn) hw
theorem call102{args:List AV}{h:Heap}{R:AV->Heap->Prop}(hn:args.length<=14)(hw:Wt Try.prog (D cfg) c102 ⟨argsEnv 0 args,h⟩ (Ends Try.prog [.tmp 6] R)):∃r h',D cfg 102 args h=some (r,h')/\R r h':=
 let ⟨_,hb,hk⟩:=c102_eq
 W.calls (c:=cfg) rfl c102_fn hb hk c102_rs (by rw[c102_nt];exact hn) hw
theorem call103{args:List AV}{h:Heap}{R:AV->Heap->Prop}(hn:args.length<=13)(hw:Wt Try.prog (D cfg) c103 ⟨argsEnv 0 args,h⟩ (Ends Try.prog [.tmp 2] R)):∃r h',D cfg 103 args h=some (r,h')/\R r h':=
 let ⟨_,hb,hk⟩:=c103_eq
 W.calls (c:=cfg) rfl c103_fn hb hk c103_rs (by rw[c103_nt];exact hn) hw
theorem call104{args:List AV}{h:Heap}{R:AV->Heap->Prop}(hn:args.length<=31)(hw:Wt Try.prog (D cfg) c104 ⟨argsEnv 0 args,h⟩ (Ends Try.prog [.tmp 4] R)):∃r h',D cfg 104 args h=some (r,h')/\R r h':=
 let ⟨_,hb,hk⟩:=c104_eq
 W.calls (c:=cfg) rfl c104_fn hb hk c104_rs (by rw[c104_nt];exact hn) hw
theorem call106{args:List AV}{h:Heap}{R:AV->Heap->Prop}(hn:args.length<=24)(hw:Wt Try.prog (D cfg) c106 ⟨argsEnv 0 args,h⟩ (Ends Try.prog [.tmp 6] R)):∃r h',D cfg 106 args h=some (r,h')/\R r h':=
 let ⟨_,hb,hk⟩:=c106_eq
 W.calls (c:=cfg) rfl c106_fn hb hk c106_rs (by rw[c106_nt];exact hn) hw
theorem call107{args:List AV}{h:Heap}{R:AV->Heap->Prop}(hn:args.length<=86)(hw:Wt Try.prog (D cfg) c107 ⟨argsEnv 0 args,h⟩ (Ends Try.prog [.tmp 4] R)):∃r h',D cfg 107 args h=some (r,h')/\R r h':=
 let ⟨_,hb,hk⟩:=c107_eq
 W.calls (c:=cfg) rfl c107_fn hb hk c107_rs (by rw[c107_nt];exact hn) hw
theorem call108{args:List AV}{h:Heap}{R:AV->Heap->Prop}(hn:args.length<=32)(hw:Wt Try.prog (D cfg) c108 ⟨argsEnv 0 args,h⟩ (Ends Try.prog [.tmp 4] R)):∃r h',D cfg 108 args h=some (r,h')/\R r h':=
 let ⟨_,hb,hk⟩:=c108_eq
 W.calls (c:=cfg) rfl c108_fn hb hk c108_rs (by rw[c108_nt];exact hn) hw
theorem call109{args:List AV}{h:Heap}{R:AV->Heap->Prop}(hn:args.length<=31)(hw:Wt Try.prog (D cfg) c109 ⟨argsEnv 0 args,h⟩ (Ends Try.prog [.tmp 4] R)):∃r h',D cfg 109 args h=some (r,h')/\R r h':=
 let ⟨_,hb,hk⟩:=c109_eq
 W.calls (c:=cfg) rfl c109_fn hb hk c109_rs (by rw[c109_nt];exact hn) hw
theorem call110{args:List AV}{h:Heap}{R:AV->Heap->Prop}(hn:args.length<=42)(hw:Wt Try.prog (D cfg) c110 ⟨argsEnv 0 args,h⟩ (Ends Try.prog [.tmp 8] R)):∃r h',D cfg 110 args h=some (r,h')/\R r h':=
 let ⟨_,hb,hk⟩:=c110_eq
 W.calls (c:=cfg) rfl c110_fn hb hk c110_rs (by rw[c110_nt];exact hn) hw
theorem call111{args:List AV}{h:Heap}{R:AV->Heap->Prop}(hn:args.length<=104)(hw:Wt Try.prog (D cfg) c111 ⟨argsEnv 0 args,h⟩ (Ends Try.prog [] R)):∃r h',D cfg 111 args h=some (r,h')/\R r h':=
 let ⟨_,hb,hk⟩:=c111_eq
 W.calls (c:=cfg) rfl c111_fn hb hk c111_rs (by rw[c111_nt];exact hn) hw
theorem call112{args:List AV}{h:Heap}{R:AV->Heap->Prop}(hn:args.length<=110)(hw:Wt Try.prog (D cfg) c112 ⟨argsEnv 0 args,h⟩ (Ends Try.prog [.cell 2 102] R)):∃r h',D cfg 112 args h=some (r,h')/\R r h':=
 let ⟨_,hb,hk⟩:=c112_eq
 W.calls (c:=cfg) rfl c112_fn hb hk c112_rs (by rw[c112_nt];exact hn) hw
theorem call114{args:List AV}{h:Heap}{R:AV->Heap->Prop}(hn:args.length<=8)(hw:Wt Try.prog (D cfg) c114 ⟨argsEnv 0 args,h⟩ (Ends Try.prog [.tmp 2] R)):∃r h',D cfg 114 args h=some (r,h')/\R r h':=
 let ⟨_,hb,hk⟩:=c114_eq
 W.calls (c:=cfg) rfl c114_fn hb hk c114_rs (by rw[c114_nt];exact hn) hw
theorem call115{args:List AV}{h:Heap}{R:AV->Heap->Prop}(hn:args.length<=20)(hw:Wt Try.prog (D cfg) c115 ⟨argsEnv 0 args,h⟩ (Ends Try.prog [.tmp 2] R)):∃r h',D cfg 115 args h=some (r,h')/\R r h':=
 let ⟨_,hb,hk⟩:=c115_eq
 W.calls (c:=cfg) rfl c115_fn hb hk c115_rs (by rw[c115_nt];exact hn) hw
theorem call116{args:List AV}{h:Heap}{R:AV->Heap->Prop}(hn:args.length<=17)(hw:Wt Try.prog (D cfg) c116 ⟨argsEnv 0 args,h⟩ (Ends Try.prog [.tmp 2] R)):∃r h',D cfg 116 args h=some (r,h')/\R r h':=
 let ⟨_,hb,hk⟩:=c116_eq
 W.calls (c:=cfg) rfl c116_fn hb hk c116_rs (by rw[c116_nt];exact hn) hw
theorem call117{args:List AV}{h:Heap}{R:AV->Heap->Prop}(hn:args.length<=4)(hw:Wt Try.prog (D cfg) c117 ⟨argsEnv 0 args,h⟩ (Ends Try.prog [.tmp 2] R)):∃r h',D cfg 117 args h=some (r,h')/\R r h':=
 let ⟨_,hb,hk⟩:=c117_eq
 W.calls (c:=cfg) rfl c117_fn hb hk c117_rs (by rw[c117_nt];exact hn) hw
theorem call118{args:List AV}{h:Heap}{R:AV->Heap->Prop}(hn:args.length<=125)(hw:Wt Try.prog (D cfg) c118 ⟨argsEnv 0 args,h⟩ (Ends Try.prog [.tmp 2,.tmp 3] R)):∃r h',D cfg 118 args h=some (r,h')/\R r h':=
 let ⟨_,hb,hk⟩:=c118_eq
 W.calls (c:=cfg) rfl c118_fn hb hk c118_rs (by rw[c118_nt];exact hn) hw
theorem call121{args:List AV}{h:Heap}{R:AV->Heap->Prop}(hn:args.length<=21)(hw:Wt Try.prog (D cfg) c121 ⟨argsEnv 0 args,h⟩ (Ends Try.prog [.tmp 4] R)):∃r h',D cfg 121 args h=some (r,h')/\R r h':=
 let ⟨_,hb,hk⟩:=c121_eq
 W.calls (c:=cfg) rfl c121_fn hb hk c121_rs (by rw[c121_nt];exact hn) hw
theorem call122{args:List AV}{h:Heap}{R:AV->Heap->Prop}(hn:args.length<=32)(hw:Wt Try.prog (D cfg) c122 ⟨argsEnv 0 args,h⟩ (Ends Try.prog [.tmp 6] R)):∃r h',D cfg 122 args h=some (r,h')/\R r h':=
 let ⟨_,hb,hk⟩:=c122_eq
 W.calls (c:=cfg) rfl c122_fn hb hk c122_rs (by rw[c122_nt];exact hn) hw
theorem call123{args:List AV}{h:Heap}{R:AV->Heap->Prop}(hn:args.length<=31)(hw:Wt Try.prog (D cfg) c123 ⟨argsEnv 0 args,h⟩ (Ends Try.prog [.tmp 2] R)):∃r h',D cfg 123 args h=some (r,h')/\R r h':=
 let ⟨_,hb,hk⟩:=c123_eq
 W.calls (c:=cfg) rfl c123_fn hb hk c123_rs (by rw[c123_nt];exact hn) hw
theorem call124{args:List AV}{h:Heap}{R:AV->Heap->Prop}(hn:args.length<=16)(hw:Wt Try.prog (D cfg) c124 ⟨argsEnv 0 args,h⟩ (Ends Try.prog [.tmp 4] R)):∃r h',D cfg 124 args h=some (r,h')/\R r h':=
 let ⟨_,hb,hk⟩:=c124_eq
 W.calls (c:=cfg) rfl c124_fn hb hk c124_rs (by rw[c124_nt];exact hn) hw
theorem call125{args:List AV}{h:Heap}{R:AV->Heap->Prop}(hn:args.length<=9)(hw:Wt Try.prog (D cfg) c125 ⟨argsEnv 0 args,h⟩ (Ends Try.prog [.tmp 2] R)):∃r h',D cfg 125 args h=some (r,h')/\R r h':=
 let ⟨_,hb,hk⟩:=c125_eq
 W.calls (c:=cfg) rfl c125_fn hb hk c125_rs (by rw[c125_nt];exact hn) hw
theorem call130{args:List AV}{h:Heap}{R:AV->Heap->Prop}(hn:args.length<=14)(hw:Wt Try.prog (D cfg) c130 ⟨argsEnv 0 args,h⟩ (Ends Try.prog [.tmp 4] R)):∃r h',D cfg 130 args h=some (r,h')/\R r h':=
 let ⟨_,hb,hk⟩:=c130_eq
 W.calls (c:=cfg) rfl c130_fn hb hk c130_rs (by rw[c130_nt];exact hn) hw
theorem D_eq{f:FuncId}{args:List AV}{h:Heap}{r₀:AV}{h₀:Heap}(hx:∃r h',D cfg f args h=some (r,h')/\(r=r₀/\h'=h₀)):D cfg f args h=some (r₀,h₀):=by
 obtain⟨r,h',h1,rfl,rfl⟩:=hx
 exact h1
theorem lt_of_at{h:Heap}{b:Nat}{o:AObj}(hb:h[b]?=some o):b<h.length:=(List.getElem?_eq_some_iff.1 hb).1
def Only(fp:Nat->Prop)(h h':Heap):Prop:=h.length<=h'.length/\∀b,b<h.length->¬fp b->h'[b]?=h[b]?
theorem Only.refl{fp:Nat->Prop}{h:Heap}:Only fp h h:=⟨Nat.le_refl _,fun _ _ _=>rfl⟩
theorem Only.trans{fp:Nat->Prop}{h h' h'':Heap}(a:Only fp h h')(b:Only fp h' h''):Only fp h h'':=
 ⟨Nat.le_trans a.1 b.1,fun c hc hn=>by rw[b.2 c (Nat.lt_of_lt_of_le hc a.1) hn,a.2 c hc hn]⟩
theorem Only.mono{fp fp':Nat->Prop}{h h':Heap}(a:Only fp h h')(hs:∀b,b<h.length->fp b->fp' b):Only fp' h h':=
 ⟨a.1,fun c hc hn=>a.2 c hc fun hm=>hn (hs c hc hm)⟩
theorem Only.at{fp:Nat->Prop}{h h':Heap}(a:Only fp h h'){b:Nat}{o:AObj}(hb:h[b]?=some o)(hn:¬fp b):h'[b]?=some o:=by
 rw[a.2 b (lt_of_at hb) hn,hb]
theorem Only.app{fp:Nat->Prop}{h l:Heap}:Only fp h (h++l):=⟨by simp,fun b hb _=>List.getElem?_append_left hb⟩
theorem Only.set{fp:Nat->Prop}{h:Heap}{b:Nat}{o:AObj}(hb:fp b):Only fp h (h.set b o):=
 ⟨by simp,fun c hc hn=>by rw[List.getElem?_set_ne];intro e;subst e;exact hn hb⟩
def ekey(s b:Int):AV:=.agg [.int .i64 s,.int .u8 b]
theorem keq_ekey{s b s' b':Int}:keq (ekey s b) (ekey s' b')=some (decide (s=s'/\b=b')):=by
 simp only[ekey,keq,ikeys,ikey,if_true]
 by_cases h1:s=s'<;>by_cases h2:b=b'<;>simp[h1,h2]
def EKeys(es:List (AV×AV×Nat)):Prop:=∀x∈es,∃s b,x.1=ekey s b
theorem mfind_mput{s b s' b':Int}{v:AV}{c:Nat}:∀{es:List (AV×AV×Nat)},EKeys es ->
  mfind (ekey s b) (mput (ekey s' b') v c es)=if s=s'/\b=b' then some v else mfind (ekey s b) es
 |[],_=>by
  simp only[mput,mfind,keq_ekey]
  by_cases h:s=s'/\b=b'<;>simp[h]
 |(k,w,n)::r,hk=>by
  obtain⟨s₁,b₁,hk₁⟩:=hk (k,w,n) (List.mem_cons_self ..)
  simp only at hk₁
  subst hk₁
  have ih:=mfind_mput (s:=s) (b:=b) (s':=s') (b':=b') (v:=v) (c:=c) fun x hx=>hk x (List.mem_cons_of_mem _ hx)
  simp only[mput,keq_ekey]
  by_cases h1:s'=s₁/\b'=b₁
  . obtain⟨rfl,rfl⟩:=h1
    simp only[and_self,decide_true,if_true,mfind,keq_ekey]
    by_cases h:s=s'/\b=b'<;>simp[h]
  . have h1':¬(some (decide (s'=s₁/\b'=b₁))=some true):=by simp[h1]
    rw[if_neg h1']
    simp only[mfind,keq_ekey]
    rw[ih]
    by_cases h2:s=s₁/\b=b₁
    . obtain⟨rfl,rfl⟩:=h2
      have:¬(s=s'/\b=b'):=fun h=>h1 ⟨h.1.symm,h.2.symm⟩
      simp[this]
    . simp[h2]
theorem EKeys.put{s b:Int}{v:AV}{c:Nat}:∀{es:List (AV×AV×Nat)},EKeys es->EKeys (mput (ekey s b) v c es)
 |[],_=>by
  intro x hx
  simp[mput] at hx
  subst hx
  exact⟨s,b,rfl⟩
 |(k,w,n)::r,hk=>by
  intro x hx
  simp only[mput] at hx
  split at hx
  . rcases List.mem_cons.1 hx with rfl|hx
    . exact⟨s,b,rfl⟩
    . exact hk x (List.mem_cons_of_mem _ hx)
  . rcases List.mem_cons.1 hx with rfl|hx
    . exact hk _ (List.mem_cons_self ..)
    . exact EKeys.put (fun y hy=>hk y (List.mem_cons_of_mem _ hy)) x hx
section
structure TM where
 up:List (Int×Int)
 ends:List (List Int)
 deep:List Int
 n:Int
structure TB where
 t:Nat
 m:Nat
 u:Nat
 e:Nat
 d:Nat
 eb:List Nat
def pairCells(l:List (Int×Int)):List AV:=l.flatMap fun p=>[.int .i64 p.1,.int .u8 p.2]
def intCells(l:List Int):List AV:=l.map (.int .i64)
def intSl(b:Nat)(l:List Int):AV:=if l=[] then .sl none 0 0 else .sl (some ⟨b,0,l.length⟩) l.length l.length
def childIn(s b:Int):List (Int×Int)->Nat->Option Nat
 |[],_=>none
 |(s',b')::r,i=>if s'=s/\b'=b then some i else childIn s b r (i+1)
def TM.child(T:TM)(s b:Int):Option Nat:=childIn s b T.up.tail 1
def TM.size(T:TM):Nat:=T.up.length
structure TrieAt (h:Heap) (B:TB) (T:TM):Prop where
 hdr:h[B.t]?=some (.cells [.map (some B.m),.sl (some ⟨B.u,0,2*T.size⟩) T.size T.size,.sl (some ⟨B.e,0,T.size⟩) T.size T.size,.sl (some ⟨B.d,0,T.size⟩) T.size T.size,.int .i64 T.n] 116 false)
 map:∃es c,h[B.m]?=some (.map 113 es c)/\EKeys es/\∀s b,mfind (ekey s b) es=(T.child s b).map fun i=>.int .i64 i
 ups:h[B.u]?=some (.cells (pairCells T.up) 118 true)
 ends:h[B.e]?=some (.cells (List.zipWith intSl B.eb T.ends) 30 true)
 deep:h[B.d]?=some (.cells (intCells T.deep) 3 true)
 inner:∀(i:Nat) (l:List Int) (b:Nat),T.ends[i]?=some l->B.eb[i]?=some b->l≠[]->h[b]?=some (.cells (intCells l) 3 true)/\b∉[B.t,B.m,B.u,B.e,B.d]
 apart:∀(i j:Nat) (l l':List Int) (b b':Nat),T.ends[i]?=some l->T.ends[j]?=some l'->l≠[]->l'≠[]->B.eb[i]?=some b->B.eb[j]?=some b'->b=b'->i=j
 nodup:[B.t,B.m,B.u,B.e,B.d].Nodup
 lenE:T.ends.length=T.size
 lenD:T.deep.length=T.size
 lenB:B.eb.length=T.size
 pos:0<T.size
 small:T.size<=1000000
def TB.foot(B:TB)(T:TM)(b:Nat):Prop:=b∈[B.t,B.m,B.u,B.e,B.d]\/∃(i:Nat) (l:List Int),T.ends[i]?=some l/\l≠[]/\B.eb[i]?=some b
abbrev TB.ptr(B:TB):AV:=.ptr (some ⟨B.t,0,5⟩)
theorem TrieAt.keep{h h':Heap}{B:TB}{T:TM}{fp:Nat->Prop}(H:TrieAt h B T)(ho:Only fp h h')(hf:∀b,B.foot T b->¬fp b):TrieAt h' B T:=by
 have f5:∀b,b∈[B.t,B.m,B.u,B.e,B.d]->¬fp b:=fun b hb=>hf b (.inl hb)
 obtain⟨es,c,h1,h2,h3⟩:=H.map
 refine⟨ho.at H.hdr (f5 _ (by simp)),⟨es,c,ho.at h1 (f5 _ (by simp)),h2,h3⟩,ho.at H.ups (f5 _ (by simp)),ho.at H.ends (f5 _ (by simp)),ho.at H.deep (f5 _ (by simp)),?_,H.apart,H.nodup,H.lenE,H.lenD,H.lenB,H.pos,H.small⟩
 intro i l b hl hb hne
 obtain⟨h4,h5⟩:=H.inner i l b hl hb hne
 exact⟨ho.at h4 (hf b (.inr ⟨i,l,hl,hne,hb⟩)),h5⟩
theorem TrieAt.app{h l:Heap}{B:TB}{T:TM}(H:TrieAt h B T):TrieAt (h++l) B T:=H.keep (fp:=fun _=>False) .app fun _ _=>id
theorem mk_map{ev:Ev}{L:Look}{n:Nat}:aop Try.prog ev L n (.makeMap 113 none)=some (.map (some n),.new (.map 113 [] 0)):=op_makeMap tk_113 (by simp)
def T0:TM:=⟨[(0,0)],[[]],[0],0⟩
theorem trie_new{h:Heap}:∃B h',D cfg 30 [] h=some (B.ptr,h')/\TrieAt h' B T0/\Only (fun _=>False) h h'/\(∀b,B.foot T0 b->h.length<=b):=by
 have key:D cfg 30 [] h=some (.ptr (some ⟨h.length+4,0,5⟩),h++[.map 113 [] 0,.cells [.int .i64 0,.int .u8 0] 118 true,.cells [.sl none 0 0] 30 true,.cells [.int .i64 0] 3 true,
  .cells [.map (some h.length),.sl (some ⟨h.length+1,0,2⟩) 1 1,.sl (some ⟨h.length+2,0,1⟩) 1 1,.sl (some ⟨h.length+3,0,1⟩) 1 1,.int .i64 0] 116 false]):=by
  refine D_eq (call30 (R:=fun r h'=>r=_/\h'=_) (by simp) ?_)
  simp[c30,c30_r0,c30_r1,mk_map,amakeSlice,zeros,abuild,afill,splice]
 refine⟨⟨h.length+4,h.length,h.length+1,h.length+2,h.length+3,[0]⟩,_,key,?_,.app,?_⟩
 . refine⟨?_,⟨[],0,?_,fun x hx=>by simp at hx,fun s b=>by simp[mfind,TM.child,T0,childIn]⟩,?_,?_,?_,?_,?_,?_,rfl,rfl,rfl,by decide,by decide⟩
   . simp only[at_new];rfl
   . simp only[at_new0];rfl
   . simp only[at_new];rfl
   . simp only[at_new];simp[T0,intSl]
   . simp only[at_new];rfl
   . intro i l b hl hb hne
     cases i with
     |zero=>simp[T0] at hl;exact absurd hl hne
     |succ i=>simp[T0] at hl
   . intro i j l l' b b' hl hl' hne
     cases i with
     |zero=>simp[T0] at hl;exact absurd hl hne
     |succ i=>simp[T0] at hl
   . simp
 . rintro b (hb|⟨i,l,hl,hne,_⟩)
   . simp at hb;omega
   . cases i with
     |zero=>simp[T0] at hl;exact absurd hl hne
     |succ i=>simp[T0] at hl
section
variable {h:Heap} {B:TB} {T:TM}
theorem trie_states(H:TrieAt h B T):D cfg 32 [B.ptr] h=some (.int .i64 T.size,h):=by
 refine D_eq (call32 (R:=fun r h'=>r=_/\h'=_) (by simp) ?_)
 have h1:=H.hdr
 simp[c32,c32_r0,c32_r1,TB.ptr,fieldA,aload,row,h1,len1,alen]
theorem trie_none(H:TrieAt h B T){s:Int}:D cfg 92 [B.ptr,.int .i64 s] h=some (.bool (decide (s<0\/(T.size:Int)<=s)),h):=by
 refine D_eq (call92 (R:=fun r h'=>r=_/\h'=_) (by simp) ?_)
 have h1:=H.hdr
 by_cases hs:s<0
 . simp[c92,c92_r0,c92_r1,fieldA,aload,row,h1,len1,alen,hs]
 . simp[c92,c92_r0,c92_r1,fieldA,aload,row,h1,len1,alen,hs]
theorem intCells_len{l:List Int}:(intCells l).length=l.length:=by simp[intCells]
@[simp] theorem intCells_get {l:List Int} {i:Nat} (h:i<(intCells l).length):(intCells l)[i]=.int .i64 (l[i]'(by simpa[intCells] using h)):=by simp[intCells]
theorem intCells_at{l:List Int}{i:Nat}:(intCells l)[i]?=(l[i]?).map (.int .i64):=by simp[intCells]
theorem build_edge{s b:Int}:abuild Try.prog 118 [(0,.int .i64 s),(1,.int .u8 b)]=some (ekey s b):=by
 simp[abuild,afill,ekey]
theorem look_edge{L:Look}{m:Nat}{es:List (AV×AV×Nat)}{c:Nat}(hm:L m=some (.map 113 es c)){s b:Int}:
  alookup Try.prog L 113 (.map (some m)) (ekey s b) true=some (match mfind (ekey s b) es with|some v=>.tup [v,.bool true]|none=>.tup [.int .i64 0,.bool false]):=by
 have hs:shapeOf (ekey s b)=some (.many [.int .i64,.int .u8]):=by simp[ekey,shapeOf,kks,kkOfV]
 simp only[alookup,tk_113,hm,hs,kshape_118]
 cases mfind (ekey s b) es<;>simp
theorem trie_child(H:TrieAt h B T){s b:Int}:D cfg 33 [B.ptr,.int .i64 s,.int .u8 b] h =
  some (.tup [.int .i64 (((T.child s b).getD 0:Nat):Int),.bool (T.child s b).isSome],h):=by
 refine D_eq (call33 (R:=fun r h'=>r=_/\h'=_) (by simp) ?_)
 have h1:=H.hdr
 obtain⟨es,c,h2,h3,h4⟩:=H.map
 have h5:=look_edge (L:=look h) (s:=s) (b:=b) (show look h B.m=_ from h2)
 rw[h4] at h5
 cases hc:T.child s b with
 |none=>
  simp only[hc,Option.map_none] at h5
  simp[c33,c33_r0,c33_r1,c33_r2,fieldA,aload,row,h1,build_edge,h5,extractV]
 |some i=>
  simp only[hc,Option.map_some] at h5
  simp[c33,c33_r0,c33_r1,c33_r2,fieldA,aload,row,h1,build_edge,h5,extractV]
theorem pairCells_len{l:List (Int×Int)}:(pairCells l).length=2*l.length:=by
 induction l with
 |nil=>rfl
 |cons x xs ih=>simp[pairCells] at ih ⊢;omega
theorem take_all{l:List Int}:(intCells l).take l.length=intCells l:=by rw[<-intCells_len (l:=l),List.take_length]
theorem room_of{n k:Nat}(h:n<=1000000)(hk:k<=64):n*k<=roomMax:=by
 have:=Nat.mul_le_mul h hk
 simp only[roomMax]
 omega
theorem clone_run{h:Heap}{b:Nat}{l:List Int}(hb:l≠[]->h[b]?=some (.cells (intCells l) 3 true))(hl:l.length<=9000000000000):
  D cfg 93 [intSl b l] h=some (intSl h.length l,if l=[] then h else h++[.cells (intCells l) 3 true]):=by
 refine D_eq (call93 (R:=fun r h'=>r=_/\h'=_) (by simp) ?_)
 by_cases hl0:l=[]
 . simp[c93,c93_r0,c93_r1,c93_r2,c93_r3,intSl,hl0]
 . have h1:=hb hl0
   have hb':=lt_of_at h1
   have hlen:l.length≠0:=by simpa using hl0
   have hr:l.length*8<=roomMax:=by simp only[roomMax];omega
   have hl6:l.length<=9223372036854775807:=by omega
   simp[c93,c93_r0,c93_r1,c93_r2,c93_r3,intSl,hl0,abuildSlice,afill,zeros,append2,aappend,srcCells,slCells,row,at_old hb',h1,intCells_len,hlen,aappendE,hr,hl6,take_all]
theorem TrieAt.endsLen(H:TrieAt h B T):(List.zipWith intSl B.eb T.ends).length=T.size:=by
 have h1:=H.lenE
 have h2:=H.lenB
 simp[h1,h2]
theorem trie_ends(H:TrieAt h B T)(hsm:∀l∈T.ends,l.length<=9000000000000){s:Int}:∃b h',D cfg 34 [B.ptr,.int .i64 s] h=some (intSl b (if s<0 then [] else (T.ends[s.toNat]?).getD []),h')/\Only (fun _=>False) h h' /\
  ((if s<0 then [] else (T.ends[s.toNat]?).getD [])≠[]->b=h.length/\h'[b]?=some (.cells (intCells (if s<0 then [] else (T.ends[s.toNat]?).getD [])) 3 true)):=by
 have h1:=H.hdr
 have h2:=H.ends
 have hl:=H.endsLen
 by_cases hs:s<0\/(T.size:Int)<=s
 . have e:(if s<0 then [] else (T.ends[s.toNat]?).getD [])=[]:=by
    split
    . rfl
    . rw[List.getElem?_eq_none (by have:=H.lenE;omega)];rfl
   rw[e]
   refine⟨0,h,D_eq (call34 (R:=fun r h'=>r=_/\h'=_) (by simp) ?_),.refl,fun h=>absurd rfl h⟩
   simp[c34,c34_r0,c34_r1,c34_r2,c34_r3,trie_none H,hs,intSl]
 . have hs0:0<=s:=by omega
   have hs1:s<T.size:=by omega
   have hlE:s.toNat<T.ends.length:=by have:=H.lenE;omega
   have hlB:s.toNat<B.eb.length:=by have:=H.lenB;omega
   have hlt:s.toNat<T.size:=by omega
   have hns:¬s<0:=by omega
   have e:(if s<0 then [] else (T.ends[s.toNat]?).getD [])=T.ends[s.toNat]:=by rw[if_neg hns,List.getElem?_eq_getElem hlE];rfl
   rw[e]
   have hin:T.ends[s.toNat]≠[]->h[B.eb[s.toNat]]?=some (.cells (intCells T.ends[s.toNat]) 3 true):=fun hne=>(H.inner s.toNat T.ends[s.toNat] B.eb[s.toNat] (by simp[hlE]) (by simp[hlB]) hne).1
   have hc:=clone_run (b:=B.eb[s.toNat]) (l:=T.ends[s.toNat]) hin (hsm _ (List.getElem_mem hlE))
   have hcell:(List.zipWith intSl B.eb T.ends)[s.toNat]?=some (intSl B.eb[s.toNat] T.ends[s.toNat]):=by
    simp[List.getElem?_zipWith,List.getElem?_eq_getElem hlE,List.getElem?_eq_getElem hlB]
   refine⟨h.length,if T.ends[s.toNat]=[] then h else h++[.cells (intCells T.ends[s.toNat]) 3 true],D_eq (call34 (R:=fun r h'=>r=_/\h'=_) (by simp) ?_),?_,fun hne=>⟨rfl,?_⟩⟩
   . simp[c34,c34_r0,c34_r1,c34_r2,c34_r3,trie_none H,hs,fieldA,aload,row,h1,h2,aindexAddr,hs0,hs1,hl,hlt,hcell,hc]
     by_cases hne:T.ends[s.toNat]=[]<;>simp[intSl,hne]
   . split
     . exact .refl
     . exact .app
   . rw[if_neg hne];simp
end
end
theorem at_app{h:Heap}{x:AObj}{b:Nat}:(h++[x])[b]?=if b=h.length then some x else h[b]?:=by
 by_cases hb:b=h.length
 . subst hb;simp
 . rw[if_neg hb]
   by_cases hl:b<h.length
   . exact List.getElem?_append_left hl
   . rw[List.getElem?_eq_none (by simp;omega),List.getElem?_eq_none (by omega)]
theorem at_put{h:Heap}{c b:Nat}{o:AObj}:(h.set c o)[b]?=if c=b then (h[b]?).map (fun _=>o) else h[b]?:=by
 rw[List.getElem?_set]
 split
 . rename_i e
   subst e
   by_cases hl:c<h.length<;>simp[hl]
 . rfl
@[simp] theorem byteCells_get {l:List UInt8} {i:Nat} (h:i<(byteCells l).length):(byteCells l)[i]=.int .u8 ((l[i]'(by simpa[byteCells] using h)).toNat:Int):=by simp[byteCells]
theorem bne_dec{a b:Nat}:(a != b)=!decide (a=b):=by by_cases h:a=b<;>simp[h]
theorem off_end{h:Heap}{b:Nat}(hb:b<h.length):(b=h.length↔False)/\(h.length=b↔False)/\(∀k,b=h.length+k↔False)/\(∀k,h.length+k=b↔False)/\(∀k j,b=h.length+k+j↔False)/\(∀k j,h.length+k+j=b↔False) /\
  (∀k j l,b=h.length+k+j+l↔False)/\(∀k j l,h.length+k+j+l=b↔False)/\(∀l:Heap,(h++l)[b]?=h[b]?):=by
 refine⟨?_,?_,fun k=>?_,fun k=>?_,fun k j=>?_,fun k j=>?_,fun k j l=>?_,fun k j l=>?_,fun l=>List.getElem?_append_left hb⟩<;>exact⟨fun e=>by omega,False.elim⟩
abbrev addEnv(B:TB)(bp k:Nat)(st i:Int):Env:=[(0,B.ptr),(5,.int .i64 st),(16,.sl (some ⟨bp,0,k⟩) k k),(17,.int .i64 k),(18,.int .i64 i)]
theorem add_old{h:Heap}{B:TB}{T:TM}(H:TrieAt h B T){p:List UInt8}{bp:Nat}(hp:h[bp]?=some (.cells (byteCells p) 5 true)){st:Int}{i:Nat}(hi:i<p.length)(hk:p.length<=1000){c:Nat}
  (hc:T.child st p[i].toNat=some c) {Q:AExit->St->Prop} (hq:Q .normal ⟨addEnv B bp p.length c (i+1:Nat),h++[.cells [.int .i64 st,.int .u8 p[i].toNat] 118 false]⟩):
  Wt Try.prog (D cfg) c31_l3 ⟨addEnv B bp p.length st i,h⟩ Q:=by
 have h1:=H.hdr
 obtain⟨es,cl,h2,h3,h4⟩:=H.map
 have hbl:(byteCells p).length=p.length:=by simp[byteCells]
 have hb:(byteCells p)[i]?=some (.int .u8 p[i].toNat):=by simp[byteCells,hi]
 have hw:IntKind.wrap .i64 ((i:Int)+1)=(i:Int)+1:=wrap_i64 (by omega) (by omega)
 have hm:=off_end (lt_of_at h2)
 have ht:=off_end (lt_of_at h1)
 have h5:=h4 st p[i].toNat
 rw[hc] at h5
 have h6:∀L:Look,L B.m=some (.map 113 es cl)->alookup Try.prog L 113 (.map (some B.m)) (ekey st p[i].toNat) true=some (.tup [.int .i64 c,.bool true]):=fun L hL=>by
  rw[look_edge hL,h5];rfl
 have h7:=h6 (look (h++[.cells [.int .i64 st,.int .u8 p[i].toNat] 118 false])) (by simp[look_at,at_app,hm,h2])
 simp only[ekey] at h7
 simp[c31_l3,c31_r3,c31_r4,c31_r5,c31_r6,c31_r7,c31_r11,c31_r12,hi,aindexAddr,aload,row,hp,hbl,hb,build_edge,astore,splice,at_app,fieldA,hm,ht,h1,ekey,h7,extractV,hw]
 simpa using hq
def TM.grow(T:TM)(st b:Int):TM:=⟨T.up++[(st,b)],T.ends++[[]],T.deep++[(T.deep[st.toNat]?).getD 0+1],T.n⟩
def TB.grow(B:TB):TB:={ B with eb:=B.eb++[0] }
theorem childIn_app{s b st b₀:Int}:∀{l:List (Int×Int)} {i:Nat},childIn s b (l++[(st,b₀)]) i=match childIn s b l i with
  |some j=>some j
  |none=>if st=s/\b₀=b then some (i+l.length) else none
 |[],i=>by simp[childIn]
 |(s',b')::r,i=>by
  simp only[List.cons_append,childIn]
  split
  . rfl
  . rw[childIn_app]
    simp only[List.length_cons]
    rw[show i+1+r.length=i+(r.length+1) by omega]
theorem TM.child_grow(T:TM)(hp:0<T.size){st b₀:Int}(hn:T.child st b₀=none)(s b:Int):(T.grow st b₀).child s b=if s=st/\b=b₀ then some T.size else T.child s b:=by
 have ht:(T.up++[(st,b₀)]).tail=T.up.tail++[(st,b₀)]:=by
  cases h:T.up with
  |nil=>simp[TM.size,h] at hp
  |cons x xs=>rfl
 have hl:1+T.up.tail.length=T.size:=by simp[TM.size] at hp ⊢;omega
 simp only[TM.child,TM.grow,ht,childIn_app,hl]
 by_cases h:s=st/\b=b₀
 . obtain⟨rfl,rfl⟩:=h
   simp only[TM.child] at hn
   simp[hn]
 . have h':¬(st=s/\b₀=b):=fun e=>h ⟨e.1.symm,e.2.symm⟩
   rw[if_neg h,if_neg h']
   cases childIn s b T.up.tail 1<;>rfl
theorem grown_at{B:TB}{T:TM}{st b₀:Int}{n:Nat}(h1:T.ends.length=n)(h2:B.eb.length=n){i:Nat}{l:List Int}{b:Nat}(hl:(T.grow st b₀).ends[i]?=some l)(hb:B.grow.eb[i]?=some b)(hne:l≠[]):
  T.ends[i]?=some l/\B.eb[i]?=some b:=by
 simp only[TM.grow,TB.grow,List.getElem?_append] at hl hb
 by_cases hi:i<n
 . rw[if_pos (by omega)] at hl hb
   exact⟨hl,hb⟩
 . rw[if_neg (by omega)] at hl
   cases hk:i-T.ends.length with
   |zero=>rw[hk] at hl;simp at hl;exact absurd hl hne
   |succ k=>rw[hk] at hl;simp at hl
theorem add_new{h:Heap}{B:TB}{T:TM}(H:TrieAt h B T){p:List UInt8}{bp:Nat}(hp:h[bp]?=some (.cells (byteCells p) 5 true)){st:Int}{i:Nat}(hi:i<p.length)(hk:p.length<=1000)
  (hst:0<=st/\st<T.size) (hsz:T.size<1000000) (hdp:∀d∈T.deep,0<=d/\d<=1000000)
  (hc:T.child st p[i].toNat=none) {Q:AExit->St->Prop} (hq:∀h',(∀b,b≠B.t->b≠B.m->b≠B.u->b≠B.e->b≠B.d->b<h.length->h'[b]?=h[b]?)->h.length<=h'.length->TrieAt h' B.grow (T.grow st p[i].toNat) ->
   Q .normal ⟨addEnv B bp p.length T.size (i+1:Nat),h'⟩):
  Wt Try.prog (D cfg) c31_l3 ⟨addEnv B bp p.length st i,h⟩ Q:=by
 have h1:=H.hdr
 obtain⟨es,cl,h2,h3,h4⟩:=H.map
 have hbl:(byteCells p).length=p.length:=by simp[byteCells]
 have hw:IntKind.wrap .i64 ((i:Int)+1)=(i:Int)+1:=wrap_i64 (by omega) (by omega)
 have hm:=off_end (lt_of_at h2)
 have ht:=off_end (lt_of_at h1)
 have hu:=off_end (lt_of_at H.ups)
 have he:=off_end (lt_of_at H.ends)
 have hd:=off_end (lt_of_at H.deep)
 have hnd:=H.nodup
 simp at hnd
 obtain⟨⟨n1,n2,n3,n4⟩,⟨n5,n6,n7⟩,⟨n8,n9⟩,n10⟩:=hnd
 have hu1:=H.ups
 have he1:=H.ends
 have hd1:=H.deep
 have h5:=h4 st p[i].toNat
 rw[hc] at h5
 simp only[Option.map_none] at h5
 have h6:∀L:Look,L B.m=some (.map 113 es cl)->alookup Try.prog L 113 (.map (some B.m)) (ekey st p[i].toNat) true=some (.tup [.int .i64 0,.bool false]):=fun L hL=>by
  rw[look_edge hL,h5]
 have h7:=h6 (look (h++[.cells [.int .i64 st,.int .u8 p[i].toNat] 118 false])) (by simp[look_at,at_app,hm,h2])
 simp only[ekey] at h7
 have hsh:shapeOf (ekey st p[i].toNat)=some (.many [.int .i64,.int .u8]):=by simp[ekey,shapeOf,kks,kkOfV]
 have h8:∀(L:Look) (v:AV),L B.m=some (.map 113 es cl)->amapUpdate Try.prog L 113 (.map (some B.m)) (ekey st p[i].toNat) v=some (.set B.m (.map 113 (mput (ekey st p[i].toNat) v cl es) (cl+1))):=fun L v hL=>by
  simp[amapUpdate,hL,hsh,h5]
 have h9:=fun v=>h8 (look (h++[.cells [.int .i64 st,.int .u8 p[i].toNat] 118 false])) v (by simp[look_at,at_app,hm,h2])
 simp only[ekey] at h9
 simp[c31_l3,c31_r3,c31_r4,c31_r5,c31_r6,c31_r7,c31_r8,c31_r9,hi,aindexAddr,aload,row,hp,hbl,build_edge,astore,splice,at_app,fieldA,hm,ht,h1,ekey,h7,extractV,hw,len1,alen,h9]
 have hlu:(pairCells T.up).length=2*T.size:=pairCells_len
 have hle:=H.endsLen
 have hld:(intCells T.deep).length=T.size:=by rw[intCells_len,H.lenD]
 have hldd:=H.lenD
 have hst1:st.toNat<T.size:=by omega
 have hst2:st.toNat<T.deep.length:=by omega
 have hr1:=room_of (n:=T.size+1) (k:=16) (by omega) (by decide)
 have hr2:=room_of (n:=T.size+1) (k:=24) (by omega) (by decide)
 have hr3:=room_of (n:=T.size+1) (k:=8) (by omega) (by decide)
 have hl6:T.size+1<=9223372036854775807:=by omega
 have hmul:T.size*2=2*T.size:=by omega
 have hn:¬(T.size+1<=T.size):=by omega
 have ta1:List.take (2*T.size) (pairCells T.up)=pairCells T.up:=by rw[<-hlu,List.take_length]
 have ta2:List.take T.size (List.zipWith intSl B.eb T.ends)=List.zipWith intSl B.eb T.ends:=by rw[<-hle,List.take_length]
 have ta3:List.take T.size (intCells T.deep)=intCells T.deep:=by rw[<-hld,List.take_length]
 have hdw:IntKind.wrap .i64 (T.deep[st.toNat]+1)=T.deep[st.toNat]+1:=by
  have:=hdp _ (List.getElem_mem hst2)
  exact wrap_i64 (by omega) (by omega)
 have m1:=Ne.symm n1
 have m2:=Ne.symm n2
 have m3:=Ne.symm n3
 have m4:=Ne.symm n4
 have m5:=Ne.symm n5
 have m6:=Ne.symm n6
 have m7:=Ne.symm n7
 have m8:=Ne.symm n8
 have m9:=Ne.symm n9
 have m10:=Ne.symm n10
 simp[c31_r10,at_put,at_app,hm,ht,hu,he,hd,n1,n2,n3,n4,n5,n6,n7,n8,n9,n10,m1,m2,m3,m4,m5,m6,m7,m8,m9,m10,h1,hu1,he1,hd1,aload,row,fieldA,abuildSlice,afill,zeros,splice,append2,aappend,srcCells,slCells,
  aappendE,hlu,hle,hld,hldd,hst,hst1,hst2,hr1,hr2,hr3,hl6,hmul,aindexAddr,astore,hn,ta1,ta2,ta3,hdw,bne_dec,c31_r11,c31_r12,hw]
 refine hq _ ?_ (by simp;omega) ?_
 . intro b b1 b2 b3 b4 b5 hb
   have c1:=Ne.symm b1
   have c2:=Ne.symm b2
   have c3:=Ne.symm b3
   have c4:=Ne.symm b4
   have c5:=Ne.symm b5
   have hoff:=off_end hb
   simp[at_put,at_app,hoff,c1,c2,c3,c4,c5]
 . have hsz':(T.grow st p[i].toNat).size=T.size+1:=by simp[TM.grow,TM.size]
   refine⟨?_,?_,?_,?_,?_,?_,?_,?_,?_,?_,?_,?_,?_⟩
   . rw[hsz']
     simp[TB.grow,TM.grow,at_put,at_app,hm,ht,hu,he,hd,n1,n2,n3,n4,n5,n6,n7,n8,n9,n10,m1,m2,m3,m4,m5,m6,m7,m8,m9,m10,h1]
     omega
   . refine⟨mput (ekey st p[i].toNat) (.int .i64 T.size) cl es,cl+1,?_,h3.put,fun s b=>?_⟩
     . simp[TB.grow,at_put,at_app,hm,ht,hu,he,hd,n1,n2,n3,n4,n5,n6,n7,n8,n9,n10,m1,m2,m3,m4,m5,m6,m7,m8,m9,m10,h2,ekey]
     . rw[mfind_mput h3,h4,T.child_grow H.pos hc]
       split<;>rfl
   . simp[TB.grow,TM.grow,at_put,at_app,hm,ht,hu,he,hd,n1,n2,n3,n4,n5,n6,n7,n8,n9,n10,m1,m2,m3,m4,m5,m6,m7,m8,m9,m10,hu1,pairCells]
   . simp[TB.grow,TM.grow,at_put,at_app,hm,ht,hu,he,hd,n1,n2,n3,n4,n5,n6,n7,n8,n9,n10,m1,m2,m3,m4,m5,m6,m7,m8,m9,m10,he1]
     rw[List.zipWith_append (by rw[H.lenB,H.lenE])]
     simp[intSl]
   . simp[TB.grow,TM.grow,at_put,at_app,hm,ht,hu,he,hd,n1,n2,n3,n4,n5,n6,n7,n8,n9,n10,m1,m2,m3,m4,m5,m6,m7,m8,m9,m10,hd1,intCells,List.getElem?_eq_getElem hst2]
   . intro j l b hl hb hne
     obtain⟨hj1,hj2⟩:=grown_at H.lenE H.lenB hl hb hne
     obtain⟨h10,h11⟩:=H.inner j l b hj1 hj2 hne
     refine⟨?_,h11⟩
     simp at h11
     obtain⟨b1,b2,b3,b4,b5⟩:=h11
     have c1:=Ne.symm b1
     have c2:=Ne.symm b2
     have c3:=Ne.symm b3
     have c4:=Ne.symm b4
     have c5:=Ne.symm b5
     have hoff:=off_end (lt_of_at h10)
     simp[at_put,at_app,hoff,c1,c2,c3,c4,c5,h10]
   . intro j k l l' b b' hl hl' hne hne' hb hb' e
     obtain⟨a1,a2⟩:=grown_at H.lenE H.lenB hl hb hne
     obtain⟨a3,a4⟩:=grown_at H.lenE H.lenB hl' hb' hne'
     exact H.apart j k l l' b b' a1 a3 hne hne' a2 a4 e
   . exact H.nodup
   . rw[hsz'];simp[TM.grow,H.lenE]
   . rw[hsz'];simp[TM.grow,H.lenD]
   . rw[hsz'];simp[TB.grow,H.lenB]
   . rw[hsz'];omega
   . rw[hsz'];omega
def TM.run(T:TM)(st:Int):List UInt8->TM×Int
 |[]=>(T,st)
 |b::r=>match T.child st b.toNat with
  |some c=>T.run c r
  |none=>(T.grow st b.toNat).run T.size r
def TM.deepOK(T:TM):Prop:=∀d∈T.deep,0<=d/\d<T.size
theorem TM.grow_size{T:TM}{st b:Int}:(T.grow st b).size=T.size+1:=by simp[TM.grow,TM.size]
theorem TM.deepOK.grow{T:TM}(h:T.deepOK){st b:Int}(hl:st.toNat<T.deep.length):(T.grow st b).deepOK:=by
 intro d hd
 rw[TM.grow_size]
 simp[TM.grow] at hd
 rcases hd with hd|hd
 . have:=h d hd;omega
 . rw[List.getElem?_eq_getElem hl] at hd
   have:=h _ (List.getElem_mem hl)
   simp at hd
   omega
theorem childIn_lt{s b:Int}:∀{l:List (Int×Int)} {i j:Nat},childIn s b l i=some j->i<=j/\j<i+l.length
 |[],i,j,h=>by simp[childIn] at h
 |(s',b')::r,i,j,h=>by
  simp only[childIn] at h
  split at h
  . simp at h;subst h;simp
  . have:=childIn_lt h
    simp;omega
theorem TM.child_lt{T:TM}{s b:Int}{c:Nat}(h:T.child s b=some c):0<c/\c<T.size:=by
 have:=childIn_lt h
 simp[TM.size] at this ⊢
 omega
def TB.like(B B':TB):Prop:=B'.t=B.t/\B'.m=B.m/\B'.u=B.u/\B'.e=B.e/\B'.d=B.d
structure AddI (h₀:Heap) (B₀:TB) (T₀:TM) (p:List UInt8) (bp:Nat) (i:Nat) (B:TB) (T:TM) (st:Int) (h:Heap):Prop where
 trie:TrieAt h B T
 like:B₀.like B
 le:i<=p.length
 run:T.run st (p.drop i)=T₀.run 0 p
 st:0<=st/\st<T.size
 size:T.size+(p.length-i)<=1000000
 deep:T.deepOK
 only:Only (fun b=>b∈[B₀.t,B₀.m,B₀.u,B₀.e,B₀.d]) h₀ h
 bytes:h[bp]?=some (.cells (byteCells p) 5 true)
 n:T.n=T₀.n
 foots:∀b,B.foot T b->B₀.foot T₀ b
 lens:∀l∈T.ends,l.length<=9000000000000
theorem TB.foot_grow{h:Heap}{B:TB}{T:TM}(H:TrieAt h B T){st b₀:Int}{b:Nat}(hb:B.grow.foot (T.grow st b₀) b):B.foot T b:=by
 rcases hb with hb|⟨i,l,hl,hne,hb⟩
 . exact .inl hb
 . obtain⟨h1,h2⟩:=grown_at H.lenE H.lenB hl hb hne
   exact .inr ⟨i,l,h1,hne,h2⟩
theorem add_loop{h₀:Heap}{B₀:TB}{T₀:TM}{p:List UInt8}{bp:Nat}(hk:p.length<=1000)(hbp:bp∉[B₀.t,B₀.m,B₀.u,B₀.e,B₀.d])(hI:AddI h₀ B₀ T₀ p bp 0 B₀ T₀ 0 h₀){Q:AExit->St->Prop}
  (hq:∀B T st h,AddI h₀ B₀ T₀ p bp p.length B T st h->Q (.exit 0) ⟨addEnv B bp p.length st p.length++[(19,.bool false)],h⟩):
  Wt Try.prog (D cfg) (.loop c31_l3 (some [0,5,16,17,18])) ⟨addEnv B₀ bp p.length 0 0,h₀⟩ Q:=by
 refine Wt.loop (fun m s=>∃i B T st h,m=p.length-i/\s=⟨addEnv B bp p.length st i,h⟩/\AddI h₀ B₀ T₀ p bp i B T st h) (m:=p.length) ⟨0,B₀,T₀,0,h₀,rfl,rfl,hI⟩ ?_
 rintro m s ⟨i,B,T,st,h,rfl,rfl,hI⟩
 have hcut:cut (some [0,5,16,17,18]) (addEnv B bp p.length st i)=addEnv B bp p.length st i:=by simp
 simp only[hcut]
 by_cases hi:i<p.length
 . have hdrop:p.drop i=p[i]::p.drop (i+1):=List.drop_eq_getElem_cons hi
   have hrun:=hI.run
   rw[hdrop] at hrun
   simp only[TM.run] at hrun
   have hlen:=hI.trie.lenD
   cases hc:T.child st p[i].toNat with
   |some c=>
    rw[hc] at hrun
    have hcl:=TM.child_lt hc
    refine add_old hI.trie hI.bytes hi hk hc ?_
    refine⟨p.length-(i+1),by omega,i+1,B,T,c,_,rfl,rfl,?_⟩
    exact⟨hI.trie.app,hI.like,hi,hrun,by omega,by have:=hI.size;omega,hI.deep,hI.only.trans .app,by rw[List.getElem?_append_left (lt_of_at hI.bytes)];exact hI.bytes,hI.n,hI.foots,hI.lens⟩
   |none=>
    rw[hc] at hrun
    have hs:=hI.size
    have hst:=hI.st
    refine add_new hI.trie hI.bytes hi hk hI.st (by omega) (fun d hd=>by have:=hI.deep d hd;omega) hc fun h' hoth hle htr=>?_
    obtain⟨e1,e2,e3,e4,e5⟩:=hI.like
    refine⟨p.length-(i+1),by omega,i+1,B.grow,T.grow st p[i].toNat,T.size,h',rfl,rfl,?_⟩
    have hb:=hbp
    simp at hb
    refine⟨htr,⟨e1,e2,e3,e4,e5⟩,hi,hrun,?_,?_,hI.deep.grow (by omega),hI.only.trans ⟨hle,fun b hb hn=>?_⟩,?_,hI.n,fun b hb=>hI.foots b (TB.foot_grow hI.trie hb),fun l hl=>?_⟩
    . rw[TM.grow_size];omega
    . rw[TM.grow_size];omega
    . simp at hn
      exact hoth b (by rw[e1];exact hn.1) (by rw[e2];exact hn.2.1) (by rw[e3];exact hn.2.2.1) (by rw[e4];exact hn.2.2.2.1) (by rw[e5];exact hn.2.2.2.2) hb
    . rw[hoth bp (by rw[e1];exact hb.1) (by rw[e2];exact hb.2.1) (by rw[e3];exact hb.2.2.1) (by rw[e4];exact hb.2.2.2.1) (by rw[e5];exact hb.2.2.2.2) (lt_of_at hI.bytes)]
      exact hI.bytes
    . simp[TM.grow] at hl
      rcases hl with hl|rfl
      . exact hI.lens l hl
      . simp
 . have hie:i=p.length:=by have:=hI.le;omega
   subst hie
   have:=hq B T st h hI
   simp[c31_l3,c31_r3]
   simpa using this
def TM.note(T:TM)(st:Int):TM:={ T with ends:=T.ends.set st.toNat ((T.ends[st.toNat]?).getD []++[T.n]),n:=T.n+1 }
def TM.add(T:TM)(p:List UInt8):TM:=(T.run 0 (p.take 16)).1.note (T.run 0 (p.take 16)).2
theorem lt_of_foot{h:Heap}{B:TB}{T:TM}(H:TrieAt h B T){b:Nat}(hb:B.foot T b):b<h.length:=by
 rcases hb with hb|⟨i,l,hl,hne,hb⟩
 . simp at hb
   obtain⟨es,c,hm,_⟩:=H.map
   rcases hb with rfl|rfl|rfl|rfl|rfl
   . exact lt_of_at H.hdr
   . exact lt_of_at hm
   . exact lt_of_at H.ups
   . exact lt_of_at H.ends
   . exact lt_of_at H.deep
 . exact lt_of_at (H.inner i l b hl hb hne).1
theorem zip_set{eb:List Nat}{ends:List (List Int)}{k b':Nat}{l:List Int}(h1:k<ends.length)(h2:k<eb.length):(List.zipWith intSl eb ends).set k (intSl b' l)=List.zipWith intSl (eb.set k b') (ends.set k l):=by
 apply List.ext_getElem?
 intro i
 by_cases hi:i=k
 . subst hi
   rw[List.getElem?_set_self (by simp;omega)]
   simp[List.getElem?_zipWith,h1,h2]
 . rw[List.getElem?_set_ne (Ne.symm hi),List.getElem?_zipWith,List.getElem?_zipWith,List.getElem?_set_ne (Ne.symm hi),List.getElem?_set_ne (Ne.symm hi)]
theorem note_at{h h':Heap}{B:TB}{T:TM}(H:TrieAt h B T){st:Int}{l:List Int}{b':Nat}(hst:0<=st/\st<T.size)(hl:T.ends[st.toNat]?=some l)(hlen:h.length<=h'.length)
  (hb':h.length<=b'\/(l≠[]/\B.eb[st.toNat]?=some b'))
  (h1:h'[B.t]?=some (.cells [.map (some B.m),.sl (some ⟨B.u,0,2*T.size⟩) T.size T.size,.sl (some ⟨B.e,0,T.size⟩) T.size T.size,.sl (some ⟨B.d,0,T.size⟩) T.size T.size,.int .i64 (T.n+1)] 116 false))
  (h2:h'[B.e]?=some (.cells ((List.zipWith intSl B.eb T.ends).set st.toNat (intSl b' (l++[T.n]))) 30 true)) (h3:h'[b']?=some (.cells (intCells (l++[T.n])) 3 true))
  (h4:∀b,b<h.length->b≠B.t->b≠B.e->b≠b'->h'[b]?=h[b]?):
  TrieAt h' { B with eb:=B.eb.set st.toNat b' } (T.note st)/\Only (B.foot T) h h'/\∀b,TB.foot { B with eb:=B.eb.set st.toNat b' } (T.note st) b->B.foot T b\/h.length<=b:=by
 have hE:=H.lenE
 have hB:=H.lenB
 have hlE:st.toNat<T.ends.length:=by omega
 have hlB:st.toNat<B.eb.length:=by omega
 have hne:l++[T.n]≠[]:=by simp
 have hlt:=fun b (hb:B.foot T b)=>lt_of_foot H hb
 have hno:b'∉[B.t,B.m,B.u,B.e,B.d]:=by
  rcases hb' with hb|⟨hl0,hb⟩
  . intro hm;have:=hlt b' (.inl hm);omega
  . exact (H.inner _ l b' hl hb hl0).2
 have hno':=hno
 simp at hno'
 obtain⟨o1,o2,o3,o4,o5⟩:=hno'
 have hnd:=H.nodup
 simp at hnd
 obtain⟨⟨n1,n2,n3,n4⟩,⟨n5,n6,n7⟩,⟨n8,n9⟩,n10⟩:=hnd
 have hends:(T.note st).ends=T.ends.set st.toNat (l++[T.n]):=by simp[TM.note,hl]
 have old:∀(k:Nat) (l':List Int) (b:Nat),k≠st.toNat->T.ends[k]?=some l'->B.eb[k]?=some b->l'≠[]->b≠b':=by
  intro k l' b hk hl' hbk hne' e
  subst e
  rcases hb' with hb|⟨hl0,hb⟩
  . have:=hlt b (.inr ⟨k,l',hl',hne',hbk⟩);omega
  . exact hk (H.apart k st.toNat l' l b b hl' hl hne' hl0 hbk hb rfl)
 have at':∀(k:Nat) (l':List Int) (b:Nat),(T.note st).ends[k]?=some l'->(B.eb.set st.toNat b')[k]?=some b->(k=st.toNat/\l'=l++[T.n]/\b=b')\/(k≠st.toNat/\T.ends[k]?=some l'/\B.eb[k]?=some b):=by
  intro k l' b h5 h6
  rw[hends] at h5
  by_cases hk:k=st.toNat
  . subst hk
    rw[List.getElem?_set_self hlE] at h5
    rw[List.getElem?_set_self hlB] at h6
    simp at h5 h6
    exact .inl ⟨rfl,h5.symm,h6.symm⟩
  . rw[List.getElem?_set_ne (Ne.symm hk)] at h5 h6
    exact .inr ⟨hk,h5,h6⟩
 obtain⟨es,c,m1,m2,m3⟩:=H.map
 refine⟨⟨h1,⟨es,c,?_,m2,m3⟩,?_,?_,?_,?_,?_,H.nodup,?_,H.lenD,?_,H.pos,H.small⟩,⟨hlen,fun b hb hn=>?_⟩,?_⟩
 . rw[h4 B.m (hlt _ (.inl (by simp))) (Ne.symm n1) n6 (Ne.symm o2)];exact m1
 . rw[h4 B.u (hlt _ (.inl (by simp))) (Ne.symm n2) n8 (Ne.symm o3)];exact H.ups
 . rw[h2,hends,zip_set hlE hlB]
 . rw[h4 B.d (hlt _ (.inl (by simp))) (Ne.symm n4) (Ne.symm n10) (Ne.symm o5)];exact H.deep
 . intro k l' b h5 h6 hne'
   rcases at' k l' b h5 h6 with⟨rfl,rfl,rfl⟩|⟨hk,h7,h8⟩
   . exact⟨h3,hno⟩
   . obtain⟨h9,h10⟩:=H.inner k l' b h7 h8 hne'
     refine⟨?_,h10⟩
     simp at h10
     rw[h4 b (lt_of_at h9) h10.1 h10.2.2.2.1 (old k l' b hk h7 h8 hne')]
     exact h9
 . intro k j l' l'' b b'' h5 h6 hne' hne'' h7 h8 e
   rcases at' k l' b h5 h7 with⟨rfl,rfl,rfl⟩|⟨hk,h9,h10⟩
   . rcases at' j l'' b'' h6 h8 with⟨rfl,rfl,rfl⟩|⟨hj,h11,h12⟩
     . rfl
     . exact absurd e.symm (old j l'' b'' hj h11 h12 hne'')
   . rcases at' j l'' b'' h6 h8 with⟨rfl,rfl,rfl⟩|⟨hj,h11,h12⟩
     . exact absurd e (old k l' b hk h9 h10 hne')
     . exact H.apart k j l' l'' b b'' h9 h11 hne' hne'' h10 h12 e
 . rw[hends];simp[hE];rfl
 . simp[hB];rfl
 . refine h4 b hb (fun e=>hn (.inl (by simp[e]))) (fun e=>hn (.inl (by simp[e]))) fun e=>?_
   subst e
   rcases hb' with hb2|⟨hl0,hb2⟩
   . omega
   . exact hn (.inr ⟨_,l,hl,hl0,hb2⟩)
 . rintro b (hb|⟨k,l',h5,hne',h6⟩)
   . exact .inl (.inl hb)
   . rcases at' k l' b h5 h6 with⟨rfl,rfl,rfl⟩|⟨hk,h7,h8⟩
     . rcases hb' with hb2|⟨hl0,hb2⟩
       . exact .inr hb2
       . exact .inl (.inr ⟨_,l,hl,hl0,hb2⟩)
     . exact .inl (.inr ⟨k,l',h7,hne',h8⟩)
theorem intSl_nil{b:Nat}:intSl b []=.sl none 0 0:=by simp[intSl]
theorem add_tail_nil{h:Heap}{B:TB}{T:TM}(H:TrieAt h B T){st:Int}(hst:0<=st/\st<T.size)(hn:0<=T.n/\T.n<=9000000000000)(hl:T.ends[st.toNat]?=some []){ρ:Env}(h0:ρ.get 0=some B.ptr)(h5:ρ.get 5=some (.int .i64 st))
  {R:AV->Heap->Prop} (hR:∀h' B',B'.t=B.t->TrieAt h' B' (T.note st)->Only (B.foot T) h h'->(∀b,B'.foot (T.note st) b->B.foot T b\/h.length<=b)->R (.int .i64 T.n) h'):
  Wt Try.prog (D cfg) (.seq (.reg c31_r13 (some [(3,17)]) (some [0])) (.seq (.reg c31_r14 none (some [0])) (.seq (.reg c31_r15 none (some [4])) .ret))) ⟨ρ,h⟩ (Ends Try.prog [.tmp 4] R):=by
 have h1:=H.hdr
 have he1:=H.ends
 have ht:=off_end (lt_of_at h1)
 have he:=off_end (lt_of_at he1)
 have hnd:=H.nodup
 simp at hnd
 obtain⟨⟨n1,n2,n3,n4⟩,⟨n5,n6,n7⟩,⟨n8,n9⟩,n10⟩:=hnd
 have m3:=Ne.symm n3
 have hle:=H.endsLen
 have hst1:st.toNat<T.size:=by omega
 have hlE:st.toNat<T.ends.length:=by have:=H.lenE;omega
 have hlB:st.toNat<B.eb.length:=by have:=H.lenB;omega
 have hl':T.ends[st.toNat]=[]:=by rw[List.getElem?_eq_getElem hlE] at hl;simpa using hl
 have hcell:(List.zipWith intSl B.eb T.ends)[st.toNat]?=some (.sl none 0 0):=by
  simp[List.getElem?_zipWith,List.getElem?_eq_getElem hlE,List.getElem?_eq_getElem hlB,hl',intSl]
 have fin:∀h':Heap,h.length<=h'.length->h'[B.t]?=some (.cells [.map (some B.m),.sl (some ⟨B.u,0,2*T.size⟩) T.size T.size,.sl (some ⟨B.e,0,T.size⟩) T.size T.size,.sl (some ⟨B.d,0,T.size⟩) T.size T.size,.int .i64 (T.n+1)] 116 false) ->
   h'[B.e]?=some (.cells ((List.zipWith intSl B.eb T.ends).set st.toNat (intSl (h.length+1) ([]++[T.n]))) 30 true)->h'[h.length+1]?=some (.cells (intCells ([]++[T.n])) 3 true) ->
   (∀b,b<h.length->b≠B.t->b≠B.e->b≠h.length+1->h'[b]?=h[b]?)->R (.int .i64 T.n) h':=fun h' g0 g1 g2 g3 g4=>
  let ⟨a1,a2,a3⟩:=note_at H hst hl g0 (.inl (by omega)) g1 g2 g3 g4
  hR h' { B with eb:=B.eb.set st.toNat (h.length+1) } rfl a1 a2 a3
 have hw:IntKind.wrap .i64 (T.n+1)=T.n+1:=wrap_i64 (by omega) (by omega)
 have hst1':st.toNat+1<=T.size:=hst1
 have hw':IntKind.wrap .i64 T.n=T.n:=wrap_i64 (by omega) (by omega)
 simp[c31_r13,c31_r14,c31_r15,h0,h5,aload,row,fieldA,h1,he1,hle,aindexAddr,hst,hst1,hcell,abuildSlice,afill,zeros,append2,aappend,srcCells,slCells,aappendE,at_app,at_put,ht,he,n3,m3,astore,bne_dec,roomMax,hw,hw',hl',intSl_nil,hst1']
 refine fin _ ?_ ?_ ?_ ?_ ?_
 . simp
 . simp[at_put,ht,h1,m3,n3]
 . simp[at_put,he,he1,m3,n3,intSl]
 . simp[at_put,ht,he,List.getElem?_append,intCells]
 . intro b hb b1 b2 b3
   have hoff:=off_end hb
   simp[at_put,hoff,Ne.symm b1,Ne.symm b2]
theorem add_tail_cons{h:Heap}{B:TB}{T:TM}(H:TrieAt h B T){st:Int}(hst:0<=st/\st<T.size)(hn:0<=T.n/\T.n<=9000000000000){l:List Int}(hl:T.ends[st.toNat]?=some l)(hl0:l≠[])(hll:l.length<=9000000000000){ρ:Env}(h0:ρ.get 0=some B.ptr)(h5:ρ.get 5=some (.int .i64 st))
  {R:AV->Heap->Prop} (hR:∀h' B',B'.t=B.t->TrieAt h' B' (T.note st)->Only (B.foot T) h h'->(∀b,B'.foot (T.note st) b->B.foot T b\/h.length<=b)->R (.int .i64 T.n) h'):
  Wt Try.prog (D cfg) (.seq (.reg c31_r13 (some [(3,17)]) (some [0])) (.seq (.reg c31_r14 none (some [0])) (.seq (.reg c31_r15 none (some [4])) .ret))) ⟨ρ,h⟩ (Ends Try.prog [.tmp 4] R):=by
 have h1:=H.hdr
 have he1:=H.ends
 have ht:=off_end (lt_of_at h1)
 have he:=off_end (lt_of_at he1)
 have hnd:=H.nodup
 simp at hnd
 obtain⟨⟨n1,n2,n3,n4⟩,⟨n5,n6,n7⟩,⟨n8,n9⟩,n10⟩:=hnd
 have m3:=Ne.symm n3
 have hle:=H.endsLen
 have hst1:st.toNat<T.size:=by omega
 have hlE:st.toNat<T.ends.length:=by have:=H.lenE;omega
 have hlB:st.toNat<B.eb.length:=by have:=H.lenB;omega
 have hl':T.ends[st.toNat]=l:=by rw[List.getElem?_eq_getElem hlE] at hl;simpa using hl
 obtain⟨hin,hnot⟩:=H.inner st.toNat l B.eb[st.toNat] hl (by simp[hlB]) hl0
 simp at hnot
 obtain⟨o1,o2,o3,o4,o5⟩:=hnot
 have p1:=Ne.symm o1
 have p4:=Ne.symm o4
 have hb:=off_end (lt_of_at hin)
 have hsl:∀b,intSl b l=.sl (some ⟨b,0,l.length⟩) l.length l.length:=fun b=>by simp[intSl,hl0]
 have hnn:¬(l.length+1<=l.length):=by omega
 have hr:(l.length+1)*8<=140737488355328:=by omega
 have hl6:l.length+1<=9223372036854775807:=by omega
 have fin:∀h':Heap,h.length<=h'.length->h'[B.t]?=some (.cells [.map (some B.m),.sl (some ⟨B.u,0,2*T.size⟩) T.size T.size,.sl (some ⟨B.e,0,T.size⟩) T.size T.size,.sl (some ⟨B.d,0,T.size⟩) T.size T.size,.int .i64 (T.n+1)] 116 false) ->
   h'[B.e]?=some (.cells ((List.zipWith intSl B.eb T.ends).set st.toNat (intSl B.eb[st.toNat] (l++[T.n]))) 30 true)->h'[B.eb[st.toNat]]?=some (.cells (intCells (l++[T.n])) 3 true) ->
   (∀b,b<h.length->b≠B.t->b≠B.e->b≠B.eb[st.toNat]->h'[b]?=h[b]?)->R (.int .i64 T.n) h':=fun h' g0 g1 g2 g3 g4=>
  let ⟨a1,a2,a3⟩:=note_at H hst hl g0 (.inr ⟨hl0,by simp[hlB]⟩) g1 g2 g3 g4
  hR h' { B with eb:=B.eb.set st.toNat B.eb[st.toNat] } rfl a1 a2 a3
 have hw:IntKind.wrap .i64 (T.n+1)=T.n+1:=wrap_i64 (by omega) (by omega)
 have hst1':st.toNat+1<=T.size:=hst1
 have hw':IntKind.wrap .i64 T.n=T.n:=wrap_i64 (by omega) (by omega)
 simp[c31_r13,c31_r14,c31_r15,h0,h5,aload,row,fieldA,h1,he1,hle,aindexAddr,hst,hst1,abuildSlice,afill,zeros,append2,aappend,srcCells,slCells,aappendE,at_app,at_put,ht,he,n3,m3,astore,bne_dec,roomMax,hw,hw',hl',hst1',hsl,hin,hb,o1,o2,o3,o4,o5,p1,p4,hnn,hr,hl6,intCells_len,take_all,hl0]
 refine fin _ ?_ ?_ ?_ ?_ ?_
 . simp
 . simp[at_put,ht,h1,m3,n3,hb,o1,o4,p1,p4]
 . simp[at_put,he,he1,m3,n3,hb,o1,o4,p1,p4,intSl]
 . simp[at_put,hb,o1,o4,p1,p4,hin,intCells]
 . intro b hb' b1 b2 b3
   have hoff:=off_end hb'
   simp[at_put,hoff,Ne.symm b1,Ne.symm b2,Ne.symm b3]
theorem trie_add{h:Heap}{B:TB}{T:TM}(H:TrieAt h B T)(hd:T.deepOK)(hs:T.size<=900000)(hn:0<=T.n/\T.n<=9000000000000)(hE:∀l∈T.ends,l.length<=9000000000000){p:List UInt8}(hp:p.length<=9223372036854775807):
  ∃B' h',D cfg 31 [B.ptr,.str p] h=some (.int .i64 T.n,h')/\B'.t=B.t/\TrieAt h' B' (T.add p)/\(T.add p).deepOK/\Only (B.foot T) h h'/\(∀b,B'.foot (T.add p) b->B.foot T b\/h.length<=b):=by
 have key:∃r h',D cfg 31 [B.ptr,.str p] h=some (r,h')/\(r=.int .i64 T.n/\∃B',B'.t=B.t/\TrieAt h' B' (T.add p)/\(T.add p).deepOK/\Only (B.foot T) h h'/\(∀b,B'.foot (T.add p) b->B.foot T b\/h.length<=b)):=by
  refine call31 (R:=fun r h'=>r=.int .i64 T.n/\∃B',B'.t=B.t/\TrieAt h' B' (T.add p)/\(T.add p).deepOK/\Only (B.foot T) h h'/\(∀b,B'.foot (T.add p) b->B.foot T b\/h.length<=b)) (args:=[B.ptr,.str p]) (h:=h) (by simp) ?_
  obtain⟨q,hq⟩:∃q,q=p.take 16:=⟨_,rfl⟩
  have hq1:q.length<=p.length:=by rw[hq];simp;omega
  have hq2:q.length<=16:=by rw[hq];simp;omega
  have hmin:(if (16:Int)<(p.length:Int) then (16:Int) else (p.length:Int))=(q.length:Int):=by
   rw[hq];simp;split<;>omega
  have htake:p.take q.length=q:=by
   rw[hq];simp
  have hq3:(0:Int)<=(q.length:Int)/\(q.length:Int)<=(p.length:Int):=by omega
  simp[c31,c31_r0,c31_r1,c31_r2,len1,alen,amin,amin1,aslice,bound,aconv,hmin,htake,hq1,hq3]
  have hfoot:=fun b hb=>lt_of_foot H (b:=b) hb
  have hI:AddI (h++[.cells (byteCells q) 5 true]) B T q h.length 0 B T 0 (h++[.cells (byteCells q) 5 true]):=
   ⟨H.app,⟨rfl,rfl,rfl,rfl,rfl⟩,Nat.zero_le _,rfl,⟨by omega,by have:=H.pos;omega⟩,by omega,hd,.refl,by simp[at_app],rfl,fun b hb=>hb,hE⟩
  refine add_loop (by omega) (fun hm=>absurd (hfoot _ (.inl hm)) (by omega)) hI fun B2 T2 st2 h2 hI2=>?_
  rw[inBlock_same,andThen_normal]
  have hrun:=hI2.run
  rw[List.drop_length] at hrun
  simp only[TM.run] at hrun
  have hadd:T.add p=T2.note st2:=by simp only[TM.add,<-hq,<-hrun]
  have hst2:=hI2.st
  have hlE2:st2.toNat<T2.ends.length:=by have:=hI2.trie.lenE;omega
  obtain⟨l,hl⟩:∃l,T2.ends[st2.toNat]?=some l:=⟨_,List.getElem?_eq_getElem hlE2⟩
  have hfin:∀h' B',B'.t=B2.t->TrieAt h' B' (T2.note st2)->Only (B2.foot T2) h2 h'->(∀b,B'.foot (T2.note st2) b->B2.foot T2 b\/h2.length<=b)->(fun r h'=>r=AV.int .i64 T.n/\∃B',B'.t=B.t/\TrieAt h' B' (T.add p)/\(T.add p).deepOK/\Only (B.foot T) h h'/\(∀b,B'.foot (T.add p) b->B.foot T b\/h.length<=b)) (.int .i64 T2.n) h':=by
   intro h' B' e1 e2 e3 e4
   have hlen:h.length<=h2.length:=by have:=hI2.only.1;simp at this;omega
   have ho:Only (B.foot T) h h':=(Only.app.trans (hI2.only.mono fun b _ hb=>.inl hb)).trans (e3.mono fun b _ hb=>hI2.foots b hb)
   refine⟨by rw[hI2.n],B',by rw[e1];exact hI2.like.1,by rw[hadd];exact e2,?_,ho,fun b hb=>?_⟩
   . rw[hadd]
     exact hI2.deep
   . rw[hadd] at hb
     rcases e4 b hb with hb|hb
     . exact .inl (hI2.foots b hb)
     . exact .inr (by omega)
  have hn2:0<=T2.n/\T2.n<=9000000000000:=by rw[hI2.n];exact hn
  by_cases hl0:l=[]
  . subst hl0
    exact add_tail_nil hI2.trie hst2 hn2 hl (by simp) (by simp) hfin
  . exact add_tail_cons hI2.trie hst2 hn2 hl hl0 (hI2.lens l (List.mem_of_getElem? hl)) (by simp) (by simp) hfin
 obtain⟨r,h',h1,rfl,B',h2⟩:=key
 exact⟨B',h',h1,h2⟩
abbrev Txt:=List UInt8
def addFrom(X:List Txt)(x:Txt):Txt->List Txt
 |[]=>X
 |b::r=>addFrom (if x++[b]∈X then X else X++[x++[b]]) (x++[b]) r
theorem addFrom_len{r:Txt}{X:List Txt}{x:Txt}:X.length<=(addFrom X x r).length/\(addFrom X x r).length<=X.length+r.length:=by
 induction r generalizing X x with
 |nil=>simp[addFrom]
 |cons c r ih=>
  simp only[addFrom]
  by_cases hm:x++[c]∈X
  . have:=ih (X:=X) (x:=x++[c])
    simp[hm] at *
    omega
  . have:=ih (X:=X++[x++[c]]) (x:=x++[c])
    simp[hm] at *
    omega
def places(p:Txt):List Txt->Nat->List Int
 |[],_=>[]
 |x::r,i=>if x=p then (i:Int)::places p r (i+1) else places p r (i+1)
structure TModel (T:TM) (X ps:List Txt):Prop where
 nodup:X.Nodup
 zero:X[0]?=some []
 len:T.up.length=X.length
 up:∀(s:Nat) (x:Txt),X[s]?=some x->x≠[]->∃(q:Nat) (y:Txt) (b:UInt8),T.up[s]?=some ((q:Int),(b.toNat:Int))/\q<s/\X[q]?=some y/\x=y++[b]
 deep:T.deep=X.map fun x=>(x.length:Int)
 ends:T.ends=X.map fun x=>places x ps 0
 n:T.n=ps.length
 sub:∀p∈ps,p∈X
theorem TModel.pos{T:TM}{X ps:List Txt}(M:TModel T X ps):0<X.length:=by
 have:=M.zero
 cases h:X with
 |nil=>rw[h] at this;simp at this
 |cons x xs=>simp
theorem idx_unique{X:List Txt}(hn:X.Nodup){i j:Nat}{x:Txt}(hi:X[i]?=some x)(hj:X[j]?=some x):i=j:=by
 obtain⟨h1,h3⟩:=List.getElem?_eq_some_iff.1 hi
 obtain⟨h2,h4⟩:=List.getElem?_eq_some_iff.1 hj
 have key:=List.pairwise_iff_getElem.1 hn
 rcases Nat.lt_trichotomy i j with h|h|h
 . exact absurd (h3.trans h4.symm) (key i j h1 h2 h)
 . exact h
 . exact absurd (h4.trans h3.symm) (key j i h2 h1 h)
theorem childIn_some{s b:Int}:∀{l:List (Int×Int)} {i j:Nat},childIn s b l i=some j->∃k,j=i+k/\l[k]?=some (s,b)
 |[],i,j,h=>by simp[childIn] at h
 |(s',b')::r,i,j,h=>by
  simp only[childIn] at h
  split at h
  . rename_i e
    obtain⟨rfl,rfl⟩:=e
    simp at h
    exact⟨0,by omega,rfl⟩
  . obtain⟨k,hk,hl⟩:=childIn_some h
    exact⟨k+1,by omega,by simpa using hl⟩
theorem childIn_none{s b:Int}:∀{l:List (Int×Int)} {i k:Nat},childIn s b l i=none->l[k]?≠some (s,b)
 |[],i,k,_=>by simp
 |(s',b')::r,i,k,h=>by
  simp only[childIn] at h
  split at h
  . simp at h
  . rename_i e
    cases k with
    |zero=>intro hc;simp at hc;exact e hc
    |succ k=>simpa using childIn_none h (k:=k)
theorem tail_at{α:Type}{l:List α}{k:Nat}:l.tail[k]?=l[k+1]?:=by cases l<;>simp
theorem TModel.child{T:TM}{X ps:List Txt}(M:TModel T X ps){s:Nat}{x:Txt}(hs:X[s]?=some x){b:UInt8}{c:Nat}:T.child s b.toNat=some c↔X[c]?=some (x++[b]):=by
 have key:∀k,T.up.tail[k]?=some ((s:Int),(b.toNat:Int))->X[k+1]?=some (x++[b]):=by
  intro k hk
  rw[tail_at] at hk
  have hl:k+1<X.length:=by
   have:=(List.getElem?_eq_some_iff.1 hk).1
   have:=M.len
   omega
  have hx:=List.getElem?_eq_getElem hl
  have hne:X[k+1]≠[]:=by
   intro e
   rw[e] at hx
   have:=idx_unique M.nodup hx M.zero
   omega
  obtain⟨q,y,b',h1,h2,h3,h4⟩:=M.up (k+1) X[k+1] hx hne
  rw[hk] at h1
  simp at h1
  obtain⟨e1,e2⟩:=h1
  have e1':s=q:=by omega
  have e2':b=b':=UInt8.toNat_inj.1 (by omega)
  subst e1'
  subst e2'
  rw[hs] at h3
  simp at h3
  subst h3
  rw[hx,h4]
 constructor
 . intro h
   obtain⟨k,rfl,hk⟩:=childIn_some h
   rw[Nat.add_comm]
   exact key k hk
 . intro h
   have hc0:c≠0:=by
    rintro rfl
    rw[M.zero] at h
    simp at h
   obtain⟨q,y,b',h1,h2,h3,h4⟩:=M.up c _ h (by simp)
   obtain⟨e1,e2⟩:=List.append_inj' h4 rfl
   simp at e2
   subst e1
   subst e2
   have hq:=idx_unique M.nodup hs h3
   subst hq
   cases hr:T.child s b.toNat with
   |some c'=>
    obtain⟨k,rfl,hk⟩:=childIn_some hr
    have:=key k hk
    rw[Nat.add_comm] at this
    rw[idx_unique M.nodup h this]
   |none=>
    have:=childIn_none hr (k:=c-1)
    rw[tail_at,Nat.sub_add_cancel (by omega)] at this
    exact absurd h1 this
theorem TModel.child_none{T:TM}{X ps:List Txt}(M:TModel T X ps){s:Nat}{x:Txt}(hs:X[s]?=some x){b:UInt8}:T.child s b.toNat=none↔x++[b]∉X:=by
 constructor
 . intro h hm
   obtain⟨c,hc⟩:=List.getElem?_of_mem hm
   rw[(M.child hs).2 hc] at h
   simp at h
 . intro h
   cases hr:T.child s b.toNat with
   |none=>rfl
   |some c=>exact absurd (List.mem_of_getElem? ((M.child hs).1 hr)) h
theorem places_none{p:Txt}:∀{l:List Txt} {i:Nat},p∉l->places p l i=[]
 |[],i,_=>rfl
 |x::r,i,h=>by
  simp at h
  simp only[places]
  rw[if_neg (Ne.symm h.1),places_none h.2]
theorem places_app{p q:Txt}:∀{l:List Txt} {i:Nat},places p (l++[q]) i=if q=p then places p l i++[((i+l.length:Nat):Int)] else places p l i
 |[],i=>by simp[places]
 |x::r,i=>by
  simp only[List.cons_append,places,places_app (l:=r),List.length_cons]
  rw[show i+1+r.length=i+(r.length+1) by omega]
  split<;>split<;>simp
theorem TModel.grow{T:TM}{X ps:List Txt}(M:TModel T X ps){s:Nat}{x:Txt}(hs:X[s]?=some x){b:UInt8}(hno:x++[b]∉X):TModel (T.grow s b.toNat) (X++[x++[b]]) ps:=by
 have hsl:=(List.getElem?_eq_some_iff.1 hs).1
 refine⟨?_,?_,?_,?_,?_,?_,M.n,fun p hp=>List.mem_append_left _ (M.sub p hp)⟩
 . rw[List.nodup_append]
   exact⟨M.nodup,by simp,fun a ha b' hb'=>by simp at hb';subst hb';intro e;subst e;exact hno ha⟩
 . rw[List.getElem?_append_left M.pos];exact M.zero
 . simp[TM.grow,M.len]
 . intro t y hy hne
   by_cases ht:t<X.length
   . rw[List.getElem?_append_left ht] at hy
     obtain⟨q,z,b',h1,h2,h3,h4⟩:=M.up t y hy hne
     refine⟨q,z,b',?_,h2,?_,h4⟩
     . simp only[TM.grow]
       rw[List.getElem?_append_left (by rw[M.len];exact ht)]
       exact h1
     . rw[List.getElem?_append_left (by omega)];exact h3
   . have ht':t=X.length:=by
      have:=(List.getElem?_eq_some_iff.1 hy).1
      simp at this
      omega
     subst ht'
     simp at hy
     refine⟨s,x,b,?_,hsl,by rw[List.getElem?_append_left hsl];exact hs,hy.symm⟩
     simp only[TM.grow]
     rw[<-M.len]
     simp
 . simp only[TM.grow,M.deep]
   simp[hs]
 . simp only[TM.grow,M.ends,List.map_append,List.map_cons,List.map_nil]
   rw[places_none fun hm=>hno (M.sub _ hm)]
theorem TModel.run{T:TM}{X ps:List Txt}{s:Nat}{x:Txt}(M:TModel T X ps)(hs:X[s]?=some x):∀r:Txt,∃s':Nat,TModel (T.run s r).1 (addFrom X x r) ps/\(T.run s r).2=s'/\(addFrom X x r)[s']?=some (x++r)
 |[]=>⟨s,M,rfl,by simpa[addFrom] using hs⟩
 |b::r=>by
  simp only[TM.run,addFrom]
  by_cases hm:x++[b]∈X
  . obtain⟨c,hc⟩:=List.getElem?_of_mem hm
    rw[(M.child hs).2 hc]
    simp only[hm,if_true]
    obtain⟨s',h1,h2,h3⟩:=TModel.run M hc r
    exact⟨s',h1,h2,by rw[h3];simp⟩
  . rw[(M.child_none hs).2 hm]
    simp only[hm,if_false]
    have hg:=M.grow hs hm
    have hsz:(T.size:Int)=((X.length:Nat):Int):=by simp[TM.size,M.len]
    rw[show T.size=X.length from M.len]
    obtain⟨s',h1,h2,h3⟩:=TModel.run (s:=X.length) (x:=x++[b]) hg (by simp) r
    exact⟨s',h1,h2,by rw[h3];simp⟩
theorem TModel.note{T:TM}{X ps:List Txt}{s:Nat}{p:Txt}(M:TModel T X ps)(hs:X[s]?=some p):TModel (T.note s) X (ps++[p]):=by
 have hsl:=(List.getElem?_eq_some_iff.1 hs).1
 refine⟨M.nodup,M.zero,M.len,M.up,M.deep,?_,by simp[TM.note,M.n],fun q hq=>?_⟩
 . simp only[TM.note,M.ends,M.n]
   apply List.ext_getElem?
   intro i
   simp only[Int.toNat_natCast,List.getElem?_map,hs,Option.map_some,Option.getD_some]
   by_cases hi:i=s
   . subst hi
     rw[List.getElem?_set_self (by simpa using hsl),hs]
     simp[places_app]
   . rw[List.getElem?_set_ne (Ne.symm hi),List.getElem?_map]
     cases hx:X[i]? with
     |none=>rfl
     |some x=>
      have:p≠x:=fun e=>hi (idx_unique M.nodup (e▸hx) hs)
      simp[places_app,this]
 . simp at hq
   rcases hq with hq|rfl
   . exact M.sub q hq
   . exact List.mem_of_getElem? hs
theorem TModel.add{T:TM}{X ps:List Txt}(M:TModel T X ps)(p:Txt):TModel (T.add p) (addFrom X [] (p.take 16)) (ps++[p.take 16]):=by
 obtain⟨s',h1,h2,h3⟩:=M.run (s:=0) (x:=[]) M.zero (p.take 16)
 simp only[TM.add]
 rw[show ((0:Int))=((0:Nat):Int) from rfl,h2]
 exact h1.note (by simpa using h3)
theorem T0_model:TModel T0 [[]] []:=by
 refine⟨by simp,rfl,rfl,fun s x hs hne=>?_,rfl,rfl,rfl,by simp⟩
 cases s with
 |zero=>simp at hs;exact absurd hs hne
 |succ s=>simp at hs
section
theorem tmod_fix{v n:Int}(hn:0<n):(if v.tmod n<0 then v.tmod n+n else v.tmod n)=v % n:=by
 have h1:0<=v % n:=Int.emod_nonneg _ (by omega)
 have h2:v % n<n:=Int.emod_lt_of_pos _ hn
 have h3:v.tmod n=v % n\/v.tmod n=v % n-n:=by
  rw[Int.tmod_eq_emod]
  split
  . simp
  . right;rw[Int.natAbs_of_nonneg (by omega)]
 have h4:v.tmod n=v % n-n->v.tmod n<0:=by omega
 split<;>rcases h3 with h|h
 . omega
 . omega
 . omega
 . omega
theorem place_run{h:Heap}{v n:Int}(hn:0<n)(hs:n<=4611686018427387904):D cfg 29 [.int .i64 v,.int .i64 n] h=some (.int .i64 (v % n),h):=by
 refine D_eq (call29 (R:=fun r h'=>r=_/\h'=_) (by simp) ?_)
 have hn0:n≠0:=by omega
 have h1:0<=v % n:=Int.emod_nonneg _ (by omega)
 have h2:v % n<n:=Int.emod_lt_of_pos _ hn
 have h3:=tmod_fix (v:=v) hn
 have h4:n+v.tmod n=v.tmod n+n:=by omega
 by_cases hv:v.tmod n<0
 . have hw:IntKind.wrap .i64 (v.tmod n+n)=v.tmod n+n:=by rw[if_pos hv] at h3;exact wrap_i64 (by omega) (by omega)
   rw[if_pos hv] at h3
   rw[<-h3]
   simp[abin_rem,c29,c29_r0,c29_r1,c29_r2,c29_r3,c29_r4,hn0,hv,hw]
 . rw[if_neg hv] at h3
   rw[<-h3]
   simp[abin_rem,c29,c29_r0,c29_r1,c29_r2,c29_r3,c29_r4,hn0,hv]
structure TrX (h:Heap) (B:TB) (T:TM) (X ps:List Txt):Prop where
 at_:TrieAt h B T
 deep:T.deepOK
 model:TModel T X ps
theorem TrX.size{h:Heap}{B:TB}{T:TM}{X ps:List Txt}(H:TrX h B T X ps):T.size=X.length:=H.model.len
theorem TrX.keep{h h':Heap}{B:TB}{T:TM}{X ps:List Txt}{fp:Nat->Prop}(H:TrX h B T X ps)(ho:Only fp h h')(hf:∀b,B.foot T b->¬fp b):TrX h' B T X ps:=⟨H.at_.keep ho hf,H.deep,H.model⟩
theorem TrX.same{h h':Heap}{B:TB}{T:TM}{X ps:List Txt}(H:TrX h B T X ps)(ho:Only (fun _=>False) h h'):TrX h' B T X ps:=H.keep ho fun _ _=>id
theorem places_len{p:Txt}:∀{l:List Txt} {i:Nat},(places p l i).length<=l.length
 |[],i=>by simp[places]
 |x::r,i=>by
  simp only[places]
  have:=places_len (p:=p) (l:=r) (i:=i+1)
  split<;>simp<;>omega
theorem tr_new{h:Heap}:∃B h',D cfg 30 [] h=some (B.ptr,h')/\TrX h' B T0 [[]] []/\Only (fun _=>False) h h'/\(∀b,B.foot T0 b->h.length<=b):=by
 obtain⟨B,h',h1,h2,h3,h4⟩:=trie_new (h:=h)
 exact⟨B,h',h1,⟨h2,by simp[TM.deepOK,T0,TM.size],T0_model⟩,h3,h4⟩
theorem TrX.lens{h:Heap}{B:TB}{T:TM}{X ps:List Txt}(H:TrX h B T X ps)(hp:ps.length<=9000000000000):∀l∈T.ends,l.length<=9000000000000:=by
 intro l hl
 rw[H.model.ends] at hl
 simp at hl
 obtain⟨x,_,rfl⟩:=hl
 have:=places_len (p:=x) (l:=ps) (i:=0)
 omega
theorem tr_addB{h:Heap}{B:TB}{T:TM}{X ps:List Txt}(H:TrX h B T X ps)(hX:X.length<=100000)(hp:ps.length<=9000000000000){p:List UInt8}(hpl:p.length<=9223372036854775807):
  ∃B' T' h',D cfg 31 [B.ptr,.str p] h=some (.int .i64 ps.length,h')/\B'.ptr=B.ptr/\TrX h' B' T' (addFrom X [] (p.take 16)) (ps++[p.take 16])/\Only (B.foot T) h h'/\(∀b,B'.foot T' b->B.foot T b\/h.length<=b):=by
 have h1:=H.size
 have hn:=H.model.n
 obtain⟨B',h',h2,h3,h4,h5,h6,h7⟩:=trie_add H.at_ H.deep (by omega) (by omega) (fun l hl=>by have:=H.lens hp l hl;omega) hpl
 refine⟨B',_,h',by rw[<-hn];exact h2,by simp[TB.ptr,h3],⟨h4,h5,H.model.add p⟩,h6,h7⟩
section
variable {h:Heap} {B:TB} {T:TM} {X ps:List Txt} (H:TrX h B T X ps)
include H
theorem tr_states:D cfg 32 [B.ptr] h=some (.int .i64 X.length,h):=by rw[trie_states H.at_,H.size]
theorem tr_child{s:Nat}{x:Txt}(hs:X[s]?=some x){b:UInt8}{c:Nat}(hc:X[c]?=some (x++[b])):D cfg 33 [B.ptr,.int .i64 s,.int .u8 b.toNat] h=some (.tup [.int .i64 c,.bool true],h):=by
 rw[trie_child H.at_,(H.model.child hs).2 hc]
 rfl
theorem tr_child_none{s:Nat}{x:Txt}(hs:X[s]?=some x){b:UInt8}(hc:x++[b]∉X):D cfg 33 [B.ptr,.int .i64 s,.int .u8 b.toNat] h=some (.tup [.int .i64 0,.bool false],h):=by
 rw[trie_child H.at_,(H.model.child_none hs).2 hc]
 rfl
theorem tr_endsB(hp:ps.length<=9000000000000){s:Nat}{x:Txt}(hs:X[s]?=some x):∃b h',D cfg 34 [B.ptr,.int .i64 s] h=some (intSl b (places x ps 0),h')/\Only (fun _=>False) h h' /\
  (places x ps 0≠[]->b=h.length/\h'[b]?=some (.cells (intCells (places x ps 0)) 3 true)):=by
 obtain⟨b,h',h1,h2,h3⟩:=trie_ends H.at_ (fun l hl=>by have:=H.lens hp l hl;omega) (s:=s)
 have e:(if (s:Int)<0 then [] else (T.ends[(s:Int).toNat]?).getD [])=places x ps 0:=by
  rw[if_neg (by omega),H.model.ends]
  simp[hs]
 rw[e] at h1 h3
 exact⟨b,h',h1,h2,h3⟩
end
theorem mixed_D{fs:List FuncId}{F:CallF}{f:FuncId}(hf:fs.contains f=false){args:List AV}{h:Heap}:mixed fs F f args h=F f args h:=by
 simp only[mixed,hf]
 rfl
end
theorem law_end{P:Program}{F:CallF}(hm:P.follows .mixedOrders=true)(hF:CallOK P F){f:FuncId}{fn:Func}{code:Code}{k:SC}{rs:List ResultVar}(hf:P.funcs[f]?=some fn)(hb:fn.body=some code){H:Hint}(hB:fnB P H fn=true)(hk:compile H code=k)(hrs:fn.results.toList=rs)
  {args:List AV} (hn:args.length<=fn.ntmps) {h:Heap} (hw:Wt P F k ⟨argsEnv 0 args,h⟩ (Ends P rs fun r _=>r=.bool true))
  {ι:Inj} {w:World} {cargs:List Value} (hr:HR P ι w w.heap.size (look h)) (hfr:∀n,Fresh ι h.length n) (ha:L2 (V ι) args cargs):
  Calls P f cargs.toArray w fun e w'=>e=.returned (.bool true)/\Below w.heap.size w w':=by
 obtain⟨r,h',h1,h2,h3⟩:=W.top (R:=fun r _=>r=.bool true) hm hF hf hb hB hk hn (W.mono hw fun e s' h=>Ends_fin hrs h)
 subst h1
 refine (h3 ι w w.heap.size cargs hr (hfr _) ha).mono ?_
 rintro e w' ⟨ι',u,rfl,hv,hst,_⟩
 refine⟨?_,hst.os,hst.tape,hst.output,hst.size,hst.below hr⟩
 cases u<;>simp[V,Va,Vc,Vp] at hv
 rw[hv]
def Sl1(h:Heap)(v:AV)(xs:List AV):Prop:=
 (v=.sl none 0 0/\xs=[])\/∃b o g c cs,v=.sl (some ⟨b,o,g⟩) xs.length c/\row (look h) ⟨b,o,g⟩=some cs/\(cs.drop o).take xs.length=xs
def elp(v:AV)(i:Nat):AV:=match v with
 |.sl (some a) _ _=>.ptr (some { a with off:=a.off+i })
 |_=>.nili
theorem Sl1.len{h:Heap}{v:AV}{xs:List AV}(H:Sl1 h v xs){t e:TypeId}(ht:tk Try.prog t=.slice e){L:Look}:alen Try.prog L t v=some (.int .i64 xs.length):=by
 rcases H with⟨rfl,rfl⟩|⟨b,o,g,c,cs,rfl,_,_⟩<;>simp[alen,ht]
theorem Sl1.at{h:Heap}{v:AV}{xs:List AV}(H:Sl1 h v xs){t e:TypeId}(ht:tk Try.prog t=.slice e)(he:tsz Try.prog e=1){i:Nat}(hi:i<xs.length):aindexAddr Try.prog t v (.int .i64 i)=some (elp v i):=by
 rcases H with⟨rfl,rfl⟩|⟨b,o,g,c,cs,rfl,_,_⟩
 . simp at hi
 . have:(i:Int)<xs.length:=by omega
   simp[aindexAddr,ht,he,this,elp,hi]
theorem Sl1.load{h:Heap}{v:AV}{xs:List AV}(H:Sl1 h v xs){e:TypeId}(he:agk (tk Try.prog e)=some false){i:Nat}(hi:i<xs.length):aload Try.prog (look h) e (elp v i)=some xs[i]:=by
 rcases H with⟨rfl,rfl⟩|⟨b,o,g,c,cs,rfl,h1,h2⟩
 . simp at hi
 . simp only[elp,aload]
   have h3:row (look h) { b:=b,off:=o+i,gen:=g }=some cs:=h1
   rw[h3,he]
   have h4:xs[i]?=some xs[i]:=List.getElem?_eq_getElem hi
   have h5:((cs.drop o).take xs.length)[i]?=xs[i]?:=by rw[h2]
   rw[h4,List.getElem?_take,if_pos hi,List.getElem?_drop] at h5
   exact h5
theorem row_only{h h':Heap}{fp:Nat->Prop}{a:AA}{cs:List AV}(ho:Only fp h h')(hr:row (look h) a=some cs)(hn:¬fp a.b):row (look h') a=some cs:=by
 simp only[row] at hr ⊢
 cases hb:h[a.b]? with
 |none=>simp[look_at,hb] at hr
 |some o=>
  rw[look_at,hb] at hr
  rw[look_at,ho.at hb hn]
  exact hr
def slB(v:AV):Option Nat:=match v with
 |.sl (some a) _ _=>some a.b
 |_=>none
theorem Sl1.keep{h h':Heap}{v:AV}{xs:List AV}{fp:Nat->Prop}(H:Sl1 h v xs)(ho:Only fp h h')(hf:∀b,slB v=some b->¬fp b):Sl1 h' v xs:=by
 rcases H with⟨rfl,rfl⟩|⟨b,o,g,c,cs,rfl,h1,h2⟩
 . exact .inl ⟨rfl,rfl⟩
 . exact .inr ⟨b,o,g,c,cs,rfl,row_only ho h1 (hf b rfl),h2⟩
theorem Sl1.same{h h':Heap}{v:AV}{xs:List AV}(H:Sl1 h v xs)(ho:Only (fun _=>False) h h'):Sl1 h' v xs:=H.keep ho fun _ _=>id
theorem Sl1.nil{h:Heap}:Sl1 h (.sl none 0 0) []:=.inl ⟨rfl,rfl⟩
theorem Sl1.cells{h:Heap}{b:Nat}{e:TypeId}{s:Bool}{xs:List AV}(hb:h[b]?=some (.cells xs e s)):Sl1 h (.sl (some ⟨b,0,xs.length⟩) xs.length xs.length) xs:=
 .inr ⟨b,0,xs.length,xs.length,xs,rfl,by simp[row,hb],by simp⟩
theorem Sl1.ints{h:Heap}{b:Nat}{l:List Int}(hb:l≠[]->h[b]?=some (.cells (intCells l) 3 true)):Sl1 h (intSl b l) (intCells l):=by
 unfold intSl
 split
 . rename_i e;subst e;exact .nil
 . rename_i e
   have:=Sl1.cells (hb e)
   rw[intCells_len] at this
   exact this
abbrev InRow:=Addr×List AV
def rowsI(rows:List InRow):Inj:=fun b g=>match rows[b]? with
 |some r=>if g=r.2.length then some ⟨r.1.block,0,r.1.off,0⟩ else none
 |none=>none
def rowsH(rows:List InRow):Heap:=rows.map fun r=>.ro r.2
def RowOK(w:World)(r:InRow):Prop:=∀i x,r.2[i]?=some x->∃v,w.cell? (r.1.add i)=some v/\∀ι,Vc ι x v
theorem cell_spot{w:World}{a:Addr}{v:Value}(h:w.cell? a=some v):a.spot=none/\a.block<w.heap.size:=by
 unfold World.cell? at h
 split at h
 . rename_i hb
   constructor
   . cases hs:a.spot with
     |none=>rfl
     |some x=>rw[hs] at h;simp at h
   . rcases Nat.lt_or_ge a.block w.heap.size with h1|h1
     . exact h1
     . rw[Array.getElem?_eq_none h1] at hb;simp at hb
 . simp at h
theorem RowOK.at{w:World}{r:InRow}(h:RowOK w r){i:Nat}{x:AV}(hx:r.2[i]?=some x):∃v,w.cell? (Loc.at ⟨r.1.block,0,r.1.off,0⟩ i)=some v/\(∀ι,Vc ι x v)/\r.1.spot=none/\r.1.block<w.heap.size:=by
 have h0:0<r.2.length:=by have:=(List.getElem?_eq_some_iff.1 hx).1;omega
 obtain⟨v0,h1,_⟩:=h 0 _ (List.getElem?_eq_getElem h0)
 obtain⟨h2,h3⟩:=cell_spot h1
 simp only[Addr.add,if_true] at h2 h3
 obtain⟨v,h4,h5⟩:=h i x hx
 refine⟨v,?_,h5,h2,h3⟩
 rw[<-h4]
 congr 1
 unfold Loc.at Addr.add
 by_cases hi:i=0
 . subst hi
   simp
   cases hr:r.1
   rw[hr] at h2
   simp at h2
   simp[h2]
 . simp[hi];omega
theorem rows_HR{P:Program}{w:World}{rows:List InRow}(h:∀r∈rows,RowOK w r):HR P (rowsI rows) w w.heap.size (look (rowsH rows)):=by
 have key:∀b o,look (rowsH rows) b=some o->∃r,rows[b]?=some r/\o=.ro r.2:=by
  intro b o hb
  simp only[look,rowsH,List.getElem?_map] at hb
  cases hr:rows[b]? with
  |none=>rw[hr] at hb;simp at hb
  |some r=>rw[hr] at hb;simp at hb;exact⟨r,rfl,hb.symm⟩
 refine⟨fun b o hb=>?_,fun b b' o o' l l' hb _ _ _ ho=>?_,fun b o hb g l hl=>?_,Nat.le_refl _,fun b cs l hb hl hne=>?_⟩
 . obtain⟨r,hr,rfl⟩:=key b o hb
   refine⟨⟨r.1.block,0,r.1.off,0⟩,?_,⟨rfl,rfl,fun i x hx=>?_⟩,fun ho=>by simp[AObj.own] at ho⟩
   . simp[rowsI,hr,AObj.gen]
   . obtain⟨v,h1,h2,_⟩:=(h r (List.mem_of_getElem? hr)).at hx
     exact⟨v,h1,h2 _⟩
 . obtain⟨r,hr,rfl⟩:=key b o hb
   simp[AObj.own] at ho
 . obtain⟨r,hr,rfl⟩:=key b o hb
   simp only[rowsI,hr] at hl
   split at hl
   . rename_i e;simp[AObj.gen,e]
   . simp at hl
 . obtain⟨r,hr,he⟩:=key b _ hb
   simp at he
   subst he
   simp only[rowsI,hr,if_true] at hl
   simp at hl
   subst hl
   have h0:0<r.2.length:=List.length_pos_iff.2 hne
   obtain⟨v,_,_,_,h1⟩:=(h r (List.mem_of_getElem? hr)).at (List.getElem?_eq_getElem h0)
   exact h1
theorem rows_fresh{rows:List InRow}{n:Nat}:Fresh (rowsI rows) (rowsH rows).length n:=by
 intro b g h1 _
 simp only[rowsH,List.length_map] at h1
 simp only[rowsI]
 rw[List.getElem?_eq_none h1]
def SliceIn(w:World)(k:Nat)(a:Option Addr)(len cap:Nat)(xs:List AV):Prop:=
 (a=none/\len=0/\cap=0/\xs=[])\/∃x,a=some x/\len<=cap/\cap<=maxLen/\xs.length=cap*k/\RowOK w (x,xs)
def inRow(a:Option Addr)(xs:List AV):InRow:=(a.getD ⟨0,0,none⟩,xs)
def inSl(b:Nat)(a:Option Addr)(len cap:Nat)(xs:List AV):AV:=match a with
 |none=>.sl none 0 0
 |some _=>.sl (some ⟨b,0,xs.length⟩) len cap
theorem SliceIn.row{w:World}{k:Nat}{a:Option Addr}{len cap:Nat}{xs:List AV}(h:SliceIn w k a len cap xs):RowOK w (inRow a xs):=by
 rcases h with⟨rfl,_,_,rfl⟩|⟨x,rfl,_,_,_,h⟩
 . intro i x hx;simp[inRow] at hx
 . exact h
theorem SliceIn.val{w:World}{k:Nat}(hk:0<k){a:Option Addr}{len cap:Nat}{xs:List AV}(h:SliceIn w k a len cap xs){rows:List InRow}{b:Nat}(hb:rows[b]?=some (inRow a xs)):
  V (rowsI rows) (inSl b a len cap xs) (.slice a len cap):=by
 rcases h with⟨rfl,rfl,rfl,rfl⟩|⟨x,rfl,h1,h2,h3,h4⟩
 . simp[inSl,V,Va,Vc,Vp]
 . simp only[inSl,V,Va,Vc,Vp]
   refine⟨trivial,h1,⟨x.block,0,x.off,0⟩,?_,Nat.zero_le _,rfl,fun hc=>?_⟩
   . simp[rowsI,hb,inRow]
   . have h0:0<xs.length:=by rw[h3];exact Nat.mul_pos hc hk
     obtain⟨v,_,_,hs,_⟩:=h4.at (r:=(x,xs)) (List.getElem?_eq_getElem h0)
     unfold Loc.at
     cases x
     simp at hs
     simp[hs]
theorem SliceIn.reads{w:World}{a:Option Addr}{len cap:Nat}{xs:List AV}(h:SliceIn w 1 a len cap xs){rows:List InRow}{b:Nat}(hb:rows[b]?=some (inRow a xs)):
  Sl1 (rowsH rows) (inSl b a len cap xs) (xs.take len):=by
 rcases h with⟨rfl,rfl,rfl,rfl⟩|⟨x,rfl,h1,h2,h3,h4⟩
 . exact .inl ⟨rfl,rfl⟩
 . have hl:(xs.take len).length=len:=by simp;omega
   refine .inr ⟨b,0,xs.length,cap,xs,?_,?_,?_⟩
   . rw[hl];rfl
   . simp[AM.row,look_at,rowsH,hb,inRow]
   . rw[hl];simp
theorem slB_inSl{b:Nat}{a:Option Addr}{len cap:Nat}{xs:List AV}:∀c,slB (inSl b a len cap xs)=some c->c=b:=by
 intro c h
 cases a<;>simp[inSl,slB] at h
 exact h.symm
def strCells(l:List Txt):List AV:=l.map .str
theorem strCells_len{l:List Txt}:(strCells l).length=l.length:=by simp[strCells]
@[simp] theorem strCells_get {l:List Txt} {i:Nat} (h:i<(strCells l).length):(strCells l)[i]=.str (l[i]'(by simpa[strCells] using h)):=by simp[strCells]
def txt(l:List Txt)(i:Nat):Txt:=(l[i]?).getD []
theorem txt_eq{l:List Txt}{i:Nat}(h:i<l.length):l[i]=txt l i:=by simp[txt,List.getElem?_eq_getElem h]
section
open Go.ChangeShapes Go.WideShapes
theorem in_ints{H:Type}{enc:TypeId×Value->H}{P:Program}{w:World}{t e:TypeId}{k:IntKind}(ht:P.underlying t=some (.slice e))(he:P.underlying e=some (.int k))(hc:P.cellsOf e=1){a:Option Addr}{len cap:Nat}{d:DataW H}{ps:List MemPlace}
  (h:DataW.Trod enc P w 0 (fun _=>true) true t (.slice a len cap) d ps):∃zs:List Int,SliceIn w 1 a len cap (zs.map (.int k))/\∀n∈zs,(Lit.int k n).wf=true:=by
 obtain⟨fuel,hf⟩:=h
 rcases open_ints ht he hc hf with⟨hcs,_⟩|⟨x,l,c,zs,hcs,_,hl,hm,hz,_,hcell,hwz⟩
 . simp[Value.cells] at hcs
   obtain⟨rfl,rfl,rfl⟩:=hcs
   exact⟨[],.inl ⟨rfl,rfl,rfl,rfl⟩,by simp⟩
 . simp[Value.cells] at hcs
   obtain⟨rfl,rfl,rfl⟩:=hcs
   refine⟨zs,.inr ⟨_,rfl,hl,hm,by simpa using hz,?_⟩,hwz⟩
   intro i y hy
   simp at hy
   obtain⟨n,hn,rfl⟩:=hy
   have hi:=(List.getElem?_eq_some_iff.1 hn).1
   refine⟨_,hcell i hi,fun ι=>?_⟩
   rw[List.getD_eq_getElem?_getD,hn]
   simp[Vc,Vp]
end
section
variable {P:Program} {ι ι':Inj} {w w' w₀:World} {B N:Nat} {L L' L₀:Look} {ι₀:Inj}
theorem HR.turn(h:HR P ι w B L)(hs:w.heap.size<=w'.heap.size)(hk:∀c,Held ι L c->w'.heap[c]?=w.heap[c]?)(hb:∀c,c<B->w'.heap[c]?=w.heap[c]?):HR P ι w' B L:=by
 refine⟨fun b o hL=>?_,h.inj,h.past,Nat.le_trans h.base hs,h.roB⟩
 obtain⟨l,h1,h2,h3⟩:=h.obj b o hL
 refine⟨l,h1,h2.keep (.refl ι) fun hne=>?_,fun ho=>⟨(h3 ho).1,Nat.lt_of_lt_of_le (h3 ho).2 hs⟩⟩
 cases ho:o.own with
 |true=>exact hk _ ⟨b,o,l,hL,ho,h1,rfl⟩
 |false=>
  cases o<;>simp[AObj.own] at ho
  case ro cs=>exact hb _ (h.roB b cs l hL h1 (by rintro rfl;exact hne rfl))
theorem Step.turn(S:Step P ι₀ w₀ B L₀ ι w L)(hr₀:HR P ι₀ w₀ B L₀)(hs:w.heap.size<=w'.heap.size)(hk:∀c,Held ι L c->w'.heap[c]?=w.heap[c]?)(hb:∀c,c<w₀.heap.size->w'.heap[c]?=w.heap[c]?)
  (ho:w'.os=w.os) (ht:w'.tape=w.tape) (hu:w'.output=w.output):Step P ι₀ w₀ B L₀ ι w' L:=
 ⟨S.ext,S.hr.turn hs hk fun c hc=>hb c (Nat.lt_of_lt_of_le hc hr₀.base),Nat.le_trans S.size hs,fun c hc hn=>by rw[hb c hc,S.keep c hc hn],S.held,by rw[ho,S.os],by rw[ht,S.tape],by rw[hu,S.output]⟩
theorem Held.bound{c:Nat}(h:Held ι L c)(hr:HR P ι w B L):c<w.heap.size:=by
 obtain⟨b,o,l,hL,ho,hl,rfl⟩:=h
 obtain⟨l',h1,_,h3⟩:=hr.obj b o hL
 rw[hl] at h1;cases h1
 exact (h3 ho).2
theorem Step.put(S:Step P ι₀ w₀ B L₀ ι w L)(hr₀:HR P ι₀ w₀ B L₀){l:Nat}{o:Obj}(hl:¬Held ι L l)(hlo:w₀.heap.size<=l):Step P ι₀ w₀ B L₀ ι (w.putObj l o) L:=
 S.turn hr₀ (by simp) (fun c hc=>World.putObj_heap_other (fun e=>hl (e▸hc))) (fun c hc=>World.putObj_heap_other (by omega)) rfl rfl rfl
theorem Step.alloc(S:Step P ι₀ w₀ B L₀ ι w L)(hr₀:HR P ι₀ w₀ B L₀){o:Obj}:Step P ι₀ w₀ B L₀ ι (w.alloc o) L:=by
 have hsz:(w.alloc o).heap.size=w.heap.size+1:=World.size_alloc w o
 have hsame:∀c,c<w.heap.size->(w.alloc o).heap[c]?=w.heap[c]?:=fun c hc=>by
  show (w.heap.push o)[c]?=_
  rw[Array.getElem?_push,if_neg (by omega)]
 exact S.turn hr₀ (by omega) (fun c hc=>hsame c (hc.bound S.hr)) (fun c hc=>hsame c (Nat.lt_of_lt_of_le hc S.size)) rfl rfl rfl
structure Rec (w₀:World) (ι:Inj) (w:World) (L:Look) (l D:Nat) (r:Loop):Prop where
 loop:w.heap[l]?=some (.loop r)
 dfr:w.heap[D]?=some (.deferred (some []))
 nl:¬Held ι L l
 nd:¬Held ι L D
 ne:l≠D
 lo:w₀.heap.size<=l
 ld:w₀.heap.size<=D
variable {l D:Nat} {r:Loop}
theorem lt_heap{c:Nat}{o:Obj}(h:w.heap[c]?=some o):c<w.heap.size:=(Array.getElem?_eq_some_iff.1 h).1
theorem Rec.step(R:Rec w₀ ι w L l D r)(S:Step P ι w B L ι' w' L'):Rec w₀ ι' w' L' l D r:=by
 have h1:=lt_heap R.loop
 have h2:=lt_heap R.dfr
 exact⟨by rw[S.keep l h1 R.nl];exact R.loop,by rw[S.keep D h2 R.nd];exact R.dfr,fun h=>(S.held l h).elim R.nl (fun e=>by omega),fun h=>(S.held D h).elim R.nd (fun e=>by omega),R.ne,R.lo,R.ld⟩
theorem Rec.put(R:Rec w₀ ι w L l D r)(r':Loop):Rec w₀ ι (w.putObj l (.loop r')) L l D r':=
 ⟨World.putObj_heap_same (lt_heap R.loop),by rw[World.putObj_heap_other (Ne.symm R.ne)];exact R.dfr,R.nl,R.nd,R.ne,R.lo,R.ld⟩
open Classical in
noncomputable def Aw(P:Program)(F:CallF)(k:SC)(s:St):Out:=
 if hx:∃r n,∀n',n<=n'->scode P F n' k s=some r then some hx.choose else none
variable {F:CallF}
theorem Aw_of{k:SC}{s:St}{r:AExit×St}{n:Nat}(h:∀n',n<=n'->scode P F n' k s=some r):Aw P F k s=some r:=by
 have hx:∃r n,∀n',n<=n'->scode P F n' k s=some r:=⟨r,n,h⟩
 unfold Aw
 rw[dif_pos hx]
 obtain⟨m,hm⟩:=hx.choose_spec
 have h1:=h (max n m) (Nat.le_max_left ..)
 have h2:=hm (max n m) (Nat.le_max_right ..)
 rw[h1] at h2
 exact h2.symm
theorem Aw_spec{k:SC}{s:St}{r:AExit×St}(h:Aw P F k s=some r):∃n,scode P F n k s=some r:=by
 unfold Aw at h
 split at h
 . rename_i hx
   obtain⟨m,hm⟩:=hx.choose_spec
   simp at h
   rw[h] at hm
   exact⟨m,hm m (Nat.le_refl _)⟩
 . simp at h
theorem Aw_W{k:SC}{s:St}{Q:AExit->St->Prop}(h:W P F k s Q):∃e s',Aw P F k s=some (e,s')/\Q e s':=
 let ⟨n,e,s',h1,h2⟩:=h
 ⟨e,s',Aw_of h1,h2⟩
theorem Aw_does(hm:P.follows .mixedOrders=true)(hF:CallOK P F){H:Hint}{c:Code}(hc:codeB P H N c=true){k:SC}(hk:compile H c=k){s s':St}{e:AExit}(h:Aw P F k s=some (e,s'))(dl:List Deferred)(fr:Option Nat):
  Does dl fr P N c s e s':=by
 obtain⟨n,hn⟩:=Aw_spec h
 subst hk
 rw[<-acode_compile] at hn
 exact acode_does hm hF c hc s e s' hn
abbrev markD(D:Nat):Deferred:={ target:=.collected D,args:=#[] }
def DoesM(P:Program)(N:Nat)(c:Code)(s:St)(e:AExit)(s':St):Prop:=
 s.h.length<=s'.h.length/\∀(ι:Inj) (w:World) (B:Nat) (a:Act) (Q:Exit->Act->World->Prop),Regs [] ι s.ρ a N->HR P ι w B (look s.h)->Fresh ι s.h.length s'.h.length ->
  (∀ι' a' w' D,Regs [markD D] ι' s'.ρ a' N->Step P ι w B (look s.h) ι' w' (look s'.h)->Lays ι ι' s'.h.length->w'.heap[D]?=some (.deferred (some []))->¬Held ι' (look s'.h) D->w.heap.size<=D->Q (exitOf e) a' w')->c.wpIn (FR none) 0 P Q a w
theorem DoesM.seqR{x y:Code}{s s₁ s':St}{e:AExit}(hx:Does [] none P N x s .normal s₁)(hy:DoesM P N y s₁ e s'):DoesM P N (.seq x y) s e s':=by
 obtain⟨h1,h2⟩:=hx
 obtain⟨h3,h4⟩:=hy
 refine⟨Nat.le_trans h1 h3,fun ι w B a Q hreg hr hfr hk=>wpIn_seq ?_⟩
 refine h2 ι w B a _ hreg hr (hfr.sub h3) fun ι' a' w' hreg' hst hla=>?_
 exact h4 ι' w' B a' Q hreg' hst.hr (hfr.next h1 hla) fun ι'' a'' w'' D g1 g2 g3 g4 g5 g6=>hk ι'' a'' w'' D g1 (hst.trans g2) (hla.trans g3 h3) g4 g5 (Nat.le_trans hst.size g6)
theorem DoesM.seqL{x y:Code}{s s₁ s':St}{e:AExit}(hx:DoesM P N x s .normal s₁)(hy:∀dl,Does dl none P N y s₁ e s'):DoesM P N (.seq x y) s e s':=by
 obtain⟨h1,h2⟩:=hx
 have h3:=(hy []).1
 refine⟨Nat.le_trans h1 h3,fun ι w B a Q hreg hr hfr hk=>wpIn_seq ?_⟩
 refine h2 ι w B a _ hreg hr (hfr.sub h3) fun ι' a' w' D hreg' hst hla g4 g5 g6=>?_
 refine (hy [markD D]).2 ι' w' B a' Q hreg' hst.hr (hfr.next h1 hla) fun ι'' a'' w'' q1 q2 q3=>?_
 refine hk ι'' a'' w'' D q1 (hst.trans q2) (hla.trans q3 h3) (by rw[q2.keep D (lt_heap g4) g5];exact g4) (fun h=>(q2.held D h).elim g5 fun e=>?_) g6
 have:=lt_heap g4
 omega
theorem DoesM.block{id:Nat}{x:Code}{s s':St}(hx:DoesM P N x s .normal s'):DoesM P N (.block id x) s .normal s':=
 ⟨hx.1,fun ι w B a Q hreg hr hfr hk=>wpIn_block (hx.2 ι w B a _ hreg hr hfr fun ι' a' w' D g1 g2 g3 g4 g5 g6=>hk ι' a' w' D g1 g2 g3 g4 g5 g6)⟩
noncomputable def preRun(P:Program)(F:CallF):List SC->St->Option St
 |[],s=>some s
 |k::ks,s=>match Aw P F k s with
  |some (.normal,s₁)=>preRun P F ks s₁
  |_=>none
theorem wp_aops_k{dl:List Deferred}{fr:Option Nat}(hF:CallOK P F){ops:Array Oper}{Q:Exit->Act->World->Prop}{rest:List Nat}(hd:∀(i:Nat) (o:Oper) (t:Nat),ops[i]?=some o->o.dst=some t->t<N):
  ∀(os:List Oper) (k:Nat) (ι:Inj) (w:World) (a:Act) (s s':St),(∀i o,os[i]?=some o->ops[k+i]?=some o) ->
   aops P F (slimL ops os) s=some s'->Regs dl ι s.ρ a N->HR P ι w B (look s.h)->Fresh ι s.h.length s'.h.length ->
   (∀ι' a' w',Regs dl ι' s'.ρ a' N->Step P ι w B (look s.h) ι' w' (look s'.h)->Lays ι ι' s'.h.length->wpOpsIn (FR fr) 0 P ops Q rest a' w') ->
   wpOpsIn (FR fr) 0 P ops Q (List.range' k os.length++rest) a w
 |[],k,ι,w,a,s,s',hos,h,hreg,hr,hfr,hk=>by
  simp[slimL,aops] at h;subst h
  exact hk ι a w hreg (.refl hr) .refl
 |o::os,k,ι,w,a,s,s',hos,h,hreg,hr,hfr,hk=>by
  have ho:ops[k]?=some o:=by simpa using hos 0 o rfl
  have hos':∀i o',os[i]?=some o'->ops[k+1+i]?=some o':=fun i o' hi=>by
   have:=hos (i+1) o' (by simpa using hi)
   rwa[show k+(i+1)=k+1+i by omega] at this
  simp only[slimL,aops] at h
  simp only[List.length_cons,List.range'_succ,List.cons_append,wpOpsIn,ho]
  have hsd:(slim ops o).dst=o.dst:=rfl
  have hso:(slim ops o).op=o.op:=rfl
  split at h
  . rename_i hw
    rw[wanted_of hw fun _ _ t _ _=>hreg.get t,if_pos rfl]
    split at h
    . rename_i v h1 hst
      rw[hso] at hst
      have hl1:=astep_length hF hst
      have hl2:=aops_length hF h
      simp only at hl2
      refine wp_astep hF hst hreg hr (hfr.sub hl2) ?_
      intro ι' w' u hv hstep hla
      refine wp_aops_k hF hd os (k+1) ι' w' _ ⟨s.ρ.put o.dst v,h1⟩ s' hos' h ((hreg.mono hstep.ext).put (fun t ht=>hd k o t ho ht) hv) hstep.hr (hfr.next hl1 hla) ?_
      intro ι'' a' w'' hreg' hstep' hla'
      exact hk ι'' a' w'' hreg' (hstep.trans hstep') (hla.trans hla' hl2)
    . simp at h
  . rename_i hw
    rw[wanted_of hw fun _ _ t _ _=>hreg.get t,if_neg (by simp)]
    exact⟨fun _ _=>trivial,wp_aops_k hF hd os (k+1) ι w _ ⟨s.ρ.put o.dst (.tup []),s.h⟩ s' hos' h (hreg.put (fun t ht=>hd k o t ho ht) (V.undef ι)) hr hfr hk⟩
  . simp at h
structure It where
 r0:List SOp
 r1:List SOp
 r2:List SOp
 ra:List SOp
 rb:List SOp
 r4:List SOp
noncomputable def rounds(P:Program)(F:CallF)(I:It)(asg bdy:SC)(ρ₁:Env)(p l:Nat):Nat->St->Option St
 |0,_=>none
 |m+1,s=>
  match aops P F I.r1 s with
  |none=>none
  |some s1=>match s1.ρ.get 11 with
   |some (.bool false)=>some s1
   |some (.bool true)=>match aops P F I.r2 s1 with
    |none=>none
    |some s2=>match aops P F I.ra s2 with
     |none=>none
     |some s3=>
      match (match s3.ρ.get 19 with
       |some (.bool true)=>match s3.ρ.get 20,s3.ρ.get 21 with
        |some (.fn (.yield l') []),some v=>if l'≠l then none else match Aw P F asg ⟨ρ₁.put (some p) v,s3.h⟩ with
         |some (.normal,t1)=>match Aw P F bdy t1 with
          |some (.normal,t2)=>some (AV.bool true,t2.h)
          |_=>none
         |_=>none
        |_,_=>none
       |some (.bool false)=>some (AV.tup [],s3.h)
       |_=>none) with
      |none=>none
      |some (x,h')=>match aops P F I.rb ⟨s3.ρ.put (some 22) x,h'⟩ with
       |none=>none
       |some s4=>match s4.ρ.get 24 with
        |some (.bool false)=>match aops P F I.r4 s4 with
         |some s5=>rounds P F I asg bdy ρ₁ p l m ⟨cut (some [0,8,9,10]) s5.ρ,s5.h⟩
         |none=>none
        |_=>none
   |_=>none
end
section
variable {P:Program} {ι ι':Inj} {w w' w₀:World} {B N:Nat} {L L' L₀:Look} {ι₀:Inj} {F:CallF} {l D:Nat} {r:Loop}
theorem Regs.cut{dl:List Deferred}{ρ:Env}{a:Act}{ks:Option (List Nat)}(h:Regs dl ι ρ a N):Regs dl ι (cut ks ρ) a N:=by
 cases ks with
 |none=>exact h
 |some ks=>exact⟨h.size,fun t v hv=>h.get t v (pick_get hv),h.defers⟩
structure ItOK (P:Program) (I:It) (f:FuncId) (fn:Func) (o0 o1 o2 o3 o4:Array Oper) (o8:Oper) (ts:Array TypeId):Prop where
 func:P.funcs[f]?=some fn
 named : (fn.name == "runtime.NumGoroutine") = false
 body:fn.body=some (.seq (.region 0 o0 false) (.block 0 (.loop (.seq (.region 1 o1 false) (.seq (.cond (.tmp 11) .skip (.exit 0)) (.seq (.block 1 (.seq (.region 2 o2 false) (.seq (.region 3 o3 false) (.cond (.tmp 24) .ret .skip)))) (.region 4 o4 false)))))))
 res:fn.results=#[]
 nt:fn.ntmps=26
 s0:slimL o0 o0.toList=I.r0
 s1:slimL o1 o1.toList=I.r1
 s2:slimL o2 o2.toList=I.r2
 s4:slimL o4 o4.toList=I.r4
 sa:slimL o3 (o3.toList.take 8)=I.ra
 sb:slimL o3 (o3.toList.drop 9)=I.rb
 sz:o3.toList.length=11
 d0:dstB 26 o0.toList=true
 d1:dstB 26 o1.toList=true
 d2:dstB 26 o2.toList=true
 d3:dstB 26 o3.toList=true
 d4:dstB 26 o4.toList=true
 at8:o3.toList[8]?=some o8
 op8:o8.op=.call ⟨.value (.tmp 20),#[.tmp 21],ts⟩
 dst8:o8.dst=some 22
 g8:(slim o3 o8).guard=some (some 19,true)
theorem Does.ops{dl:List Deferred}{fr:Option Nat}(hF:CallOK P F){id:Nat}{ops:Array Oper}(hd:dstB N ops.toList=true){os:List SOp}(ho:slimL ops ops.toList=os){s s':St}(h:aops P F os s=some s'):
  Does dl fr P N (.region id ops false) s .normal s':=by
 subst ho
 refine⟨aops_length hF h,fun ι w B a Q hreg hr hfr hk=>wpIn_region ?_⟩
 have:=wp_aops (fr:=fr) hF (Q:=Q) (fun i o t ho=>dstB_spec hd i o t (by simpa using ho)) ops.toList 0 ι w a s s' (fun i o hi=>by simpa using hi) h hreg hr hfr hk
 simpa[List.range_eq_range'] using this
variable {I:It} {f:FuncId} {fn:Func} {o0 o1 o2 o3 o4:Array Oper} {o8:Oper} {ts:Array TypeId}
theorem round_ok(hm:P.follows .mixedOrders=true)(hF:CallOK P F){fe:FuncId}{tm:Array Value}{p:Nat}{ca cb:Code}{H:Hint}(hca:codeB P H N ca=true)(hcb:codeB P H N cb=true){asg bdy:SC}(ka:compile H ca=asg)(kb:compile H cb=bdy)
  (hp:p<N) {ρ₁:Env} {h:Heap} {v:AV} {u:Value} {t1 t2:St} (h1:Aw P F asg ⟨ρ₁.put (some p) v,h⟩=some (.normal,t1)) (h2:Aw P F bdy t1=some (.normal,t2))
  (hr₀:HR P ι₀ w₀ B L₀) (hl:l≠D) (hv:V ι v u) (hS:Step P ι₀ w₀ B L₀ ι w (look h)) (hR:Rec w₀ ι w (look h) l D { state:=.ready,pending:=none,fn:=fe,tmps:=tm,params:=#[p],assign:=ca,body:=cb,defers:=D })
  (hg:Regs [] ι ρ₁ ⟨tm,[]⟩ N) (hfr:Fresh ι h.length t2.h.length) {K:Value->World->Prop}
  (hk:∀ι' w',Ext ι ι'->Step P ι₀ w₀ B L₀ ι' w' (look t2.h)->Rec w₀ ι' w' (look t2.h) l D { state:=.ready,pending:=none,fn:=fe,tmps:=tm,params:=#[p],assign:=ca,body:=cb,defers:=D }->Lays ι ι' t2.h.length->K (.bool true) w'):
  RoundIn (FR none) 0 P l fe (tm.setIfInBounds p u) ca cb w fun
   |.returned v,w''=>K v w''
   |_,_=>False:=by
 obtain⟨l1,d1⟩:=Aw_does hm hF hca ka h1 [] (some l)
 obtain⟨l2,d2⟩:=Aw_does hm hF hcb kb h2 [] (some l)
 refine roundIn_of_wpIn (F:=FR none) trivial ?_
 have g0:Regs [] ι (ρ₁.put (some p) v) { tmps:=tm.setIfInBounds p u,defers:=[] } N:=hg.put (fun t ht=>by cases ht;exact hp) hv
 refine d1 ι w B _ _ g0 hS.hr (hfr.sub l2) fun ι1 a1 w1 g1 q1 y1=>?_
 have S1:=hS.trans q1
 have R1:=hR.step q1
 refine⟨_,run_beginRound R1.loop rfl,?_⟩
 have S2:=S1.put hr₀ (o:=.loop { state:=.busy,pending:=none,fn:=fe,tmps:=tm,params:=#[p],assign:=ca,body:=cb,defers:=D }) R1.nl R1.lo
 have R2:=R1.put { state:=.busy,pending:=none,fn:=fe,tmps:=tm,params:=#[p],assign:=ca,body:=cb,defers:=D }
 refine d2 ι1 _ B a1 _ g1 S2.hr (hfr.next l1 y1) fun ι2 a2 w2 g2 q2 y2=>?_
 have S3:=S2.trans q2
 have R3:=R2.step q2
 refine⟨_,_,run_endRound none R3.loop,?_⟩
 exact hk ι2 _ (q1.ext.trans q2.ext) (S3.put hr₀ R3.nl R3.lo) (R3.put _) (y1.trans y2 l2)
abbrev itC(o1 o2 o3 o4:Array Oper):Code:=(.seq (.region 1 o1 false) (.seq (.cond (.tmp 11) .skip (.exit 0)) (.seq (.block 1 (.seq (.region 2 o2 false) (.seq (.region 3 o3 false) (.cond (.tmp 24) .ret .skip)))) (.region 4 o4 false))))
abbrev qC(P:Program)(o1 o2 o3 o4:Array Oper)(Q:Exit->Act->World->Prop)(m:Nat):Exit->Act->World->Prop:=
 Exit.inBlock 1 (Exit.then ((Code.region 4 o4 false).wpIn (FR none) 0 P (Exit.then (Code.roundsIn (FR none) 0 P (itC o1 o2 o3 o4) Q m) Q)) (Exit.then (Code.roundsIn (FR none) 0 P (itC o1 o2 o3 o4) Q m) Q))
theorem rounds_ok(hm:P.follows .mixedOrders=true)(hF:CallOK P F)(OK:ItOK P I f fn o0 o1 o2 o3 o4 o8 ts){fe:FuncId}{tm:Array Value}{p:Nat}{ca cb:Code}{H:Hint}(hca:codeB P H N ca=true)(hcb:codeB P H N cb=true){asg bdy:SC}(ka:compile H ca=asg)(kb:compile H cb=bdy)
  (hp:p<N) {ρ₁:Env} (hr₀:HR P ι₀ w₀ B L₀):
  ∀(m:Nat) (s sE:St),rounds P F I asg bdy ρ₁ p l m s=some sE->s.h.length<=sE.h.length /\
   ∀(ι:Inj) (w:World) (a:Act) (Q:Exit->Act->World->Prop),Regs [] ι s.ρ a 26->Step P ι₀ w₀ B L₀ ι w (look s.h) ->
    Rec w₀ ι w (look s.h) l D { state:=.ready,pending:=none,fn:=fe,tmps:=tm,params:=#[p],assign:=ca,body:=cb,defers:=D }->Regs [] ι ρ₁ ⟨tm,[]⟩ N->Fresh ι s.h.length sE.h.length ->
    (∀ι' a' w',Regs [] ι' sE.ρ a' 26->Step P ι₀ w₀ B L₀ ι' w' (look sE.h)->Rec w₀ ι' w' (look sE.h) l D { state:=.ready,pending:=none,fn:=fe,tmps:=tm,params:=#[p],assign:=ca,body:=cb,defers:=D }->Ext ι ι'->Lays ι ι' sE.h.length->Q (.exit 0) a' w') ->
    Code.roundsIn (FR none) 0 P (itC o1 o2 o3 o4) Q m a w
 |0,s,sE,h=>by simp[rounds] at h
 |m+1,s,sE,h=>by
  unfold rounds at h
  split at h
  . simp at h
  rename_i s1 hs1
  obtain⟨l1,d1⟩:=Does.ops (id:=1) (dl:=[]) (fr:=none) hF OK.d1 OK.s1 hs1
  split at h
  ·
   rename_i h11
   simp at h;subst h
   refine⟨l1,fun ι w a Q hreg S R hg hfr hk=>?_⟩
   rw[roundsIn_succ]
   refine wpIn_seq ?_
   refine d1 ι w B a _ hreg S.hr hfr fun ι1 a1 w1 g1 q1 y1=>?_
   refine wpIn_seq (wpIn_cond_false (g1.eval (.tmp 11) _ h11).bool_inv (wpIn_exit ?_))
   exact hk ι1 a1 w1 g1 (S.trans q1) (R.step q1) q1.ext y1
  . rename_i h11
    split at h
    . simp at h
    rename_i s2 hs2
    obtain⟨l2,d2⟩:=Does.ops (id:=2) (dl:=[]) (fr:=none) hF OK.d2 OK.s2 hs2
    split at h
    . simp at h
    rename_i s3 hs3
    have l3:=aops_length hF hs3
    split at h
    . simp at h
    rename_i x h' hx
    split at h
    . simp at h
    rename_i s4 hs4
    have l4:=aops_length hF hs4
    split at h
    . rename_i h24
      split at h
      . rename_i s5 hs5
        obtain⟨l5,d5⟩:=Does.ops (id:=4) (dl:=[]) (fr:=none) hF OK.d4 OK.s4 hs5
        obtain⟨l6,d6⟩:=rounds_ok hm hF OK hca hcb ka kb hp hr₀ m _ sE h
        simp only at l4 l6
        have l34:s3.h.length<=h'.length:=by
         split at hx
         . split at hx
           . split at hx
             . simp at hx
             . split at hx
               . rename_i t1 ht1
                 split at hx
                 . rename_i t2 ht2
                   simp at hx
                   obtain⟨rfl,rfl⟩:=hx
                   exact Nat.le_trans (Aw_does hm hF hca ka ht1 [] none).1 (Aw_does hm hF hcb kb ht2 [] none).1
                 . simp at hx
               . simp at hx
           . simp at hx
         . simp at hx
           obtain⟨rfl,rfl⟩:=hx
           exact Nat.le_refl _
         . simp at hx
        refine⟨by omega,fun ι w a Q hreg S R hg hfr hk=>?_⟩
        rw[roundsIn_succ]
        refine wpIn_seq ?_
        refine d1 ι w B a _ hreg S.hr (hfr.sub (by omega)) fun ι1 a1 w1 g1 q1 y1=>?_
        have S1:=S.trans q1
        have R1:=R.step q1
        have f1:=hfr.next l1 y1
        refine wpIn_seq (wpIn_cond_true (g1.eval (.tmp 11) _ h11).bool_inv (wpIn_skip ?_))
        refine wpIn_seq (wpIn_block (wpIn_seq ?_))
        refine d2 ι1 w1 B a1 _ g1 S1.hr (f1.sub (by omega)) fun ι2 a2 w2 g2 q2 y2=>?_
        have S2:=S1.trans q2
        have R2:=R1.step q2
        have f2:=f1.next l2 y2
        refine wpIn_seq (wpIn_region ?_)
        have hsz:o3.size=11:=by have:=OK.sz;simpa using this
        have hrange:List.range o3.size=List.range' 0 (o3.toList.take 8).length++(8::List.range' 9 (o3.toList.drop 9).length):=by
         have e1:(o3.toList.take 8).length=8:=by simp[hsz]
         have e2:(o3.toList.drop 9).length=2:=by simp[hsz]
         rw[e1,e2,hsz];rfl
        rw[hrange]
        have hd3:∀(i:Nat) (o:Oper) (t:Nat),o3[i]?=some o->o.dst=some t->t<26:=fun i o t ho=>dstB_spec (os:=o3.toList) OK.d3 i o t (by simpa using ho)
        have hs3':aops P F (slimL o3 (o3.toList.take 8)) s2=some s3:=by rw[OK.sa];exact hs3
        refine wp_aops_k hF hd3 (o3.toList.take 8) 0 ι2 w2 a2 s2 s3 (fun i o hi=>?_) hs3' g2 S2.hr (f2.sub (by omega)) fun ι3 a3 w3 g3 q3 y3=>?_
        . rw[List.getElem?_take] at hi
          split at hi
          . simpa using hi
          . simp at hi
        have S3:=S2.trans q3
        have R3:=R2.step q3
        have f3:=f2.next l3 y3
        have hg3:=((hg.mono q1.ext).mono q2.ext).mono q3.ext
        have ho8:o3[8]?=some o8:=by simpa using OK.at8
        simp only[wpOpsIn,ho8]
        have rest:∀ι4 a4 w4,Ext ι3 ι4->Regs [] ι4 (s3.ρ.put (some 22) x) a4 26->Step P ι₀ w₀ B L₀ ι4 w4 (look h')->Rec w₀ ι4 w4 (look h') l D { state:=.ready,pending:=none,fn:=fe,tmps:=tm,params:=#[p],assign:=ca,body:=cb,defers:=D }->Lays ι3 ι4 h'.length ->
          wpOpsIn (FR none) 0 P o3 (Exit.then ((Code.cond (.tmp 24) .ret .skip).wpIn (FR none) 0 P (qC P o1 o2 o3 o4 Q m))
           (qC P o1 o2 o3 o4 Q m)) (List.range' 9 (o3.toList.drop 9).length) a4 w4:=by
         intro ι4 a4 w4 x4 g4 S4 R4 y4
         have f4:=f3.next (by simpa using l34) y4
         have hs4':aops P F (slimL o3 (o3.toList.drop 9)) ⟨s3.ρ.put (some 22) x,h'⟩=some s4:=by rw[OK.sb];exact hs4
         have:=wp_aops_k (fr:=none) (rest:=[]) (dl:=[]) hF (Q:=Exit.then ((Code.cond (.tmp 24) .ret .skip).wpIn (FR none) 0 P (qC P o1 o2 o3 o4 Q m))
           (qC P o1 o2 o3 o4 Q m))
          hd3 (o3.toList.drop 9) 9 ι4 w4 a4 ⟨s3.ρ.put (some 22) x,h'⟩ s4 (fun i o hi=>by rw[List.getElem?_drop] at hi;simpa using hi) hs4' g4 S4.hr (f4.sub (by omega)) (fun ι5 a5 w5 g5 q5 y5=>by
           show (Code.cond (.tmp 24) .ret .skip).wpIn (FR none) 0 P _ a5 w5
           refine wpIn_cond_false (g5.eval (.tmp 24) _ h24).bool_inv (wpIn_skip ?_)
           show (Code.region 4 o4 false).wpIn (FR none) 0 P _ a5 w5
           have S5:=S4.trans q5
           have R5:=R4.step q5
           have f5:=f4.next l4 y5
           refine d5 ι5 w5 B a5 _ g5 S5.hr (f5.sub (by omega)) fun ι6 a6 w6 g6 q6 y6=>?_
           have f6:=f5.next l5 y6
           refine d6 ι6 w6 a6 Q (Regs.cut (ks:=some [0,8,9,10]) g6) (S5.trans q6) (R5.step q6) ((((hg3.mono x4).mono q5.ext).mono q6.ext)) f6 fun ι7 a7 w7 g7 S7 R7 x7 y7=>?_
           refine hk ι7 a7 w7 g7 S7 R7 ?_ ?_
           . exact ((((((q1.ext.trans q2.ext).trans q3.ext).trans x4).trans q5.ext).trans q6.ext).trans x7)
           . have z1:=y1.trans y2 l2
             have z2:=z1.trans y3 l3
             have z3:=z2.trans y4 l34
             have z4:=z3.trans y5 l4
             have z5:=z4.trans y6 l5
             exact z5.trans y7 l6)
         simpa using this
        split at hx
        . rename_i h19
          have hw:awanted s3.ρ (slim o3 o8)=some true:=by simp[awanted,OK.g8,h19]
          rw[wanted_of hw fun _ _ t _ _=>g3.get t,if_pos rfl]
          split at hx
          . rename_i l' v h20 h21
            split at hx
            . simp at hx
            rename_i hll
            have hll':l'=l:=by simpa using hll
            subst hll'
            split at hx
            . rename_i t1 ht1
              split at hx
              . rename_i t2 ht2
                simp at hx
                obtain⟨rfl,rfl⟩:=hx
                have e20:=g3.eval (.tmp 20) _ h20
                obtain⟨cs,e20,hcs⟩:=e20.fn_inv
                have hcs0:cs=#[]:=by
                 have:=hcs.length
                 simp at this
                 exact Array.eq_empty_of_size_eq_zero this.symm
                subst hcs0
                have e21:=g3.eval (.tmp 21) v h21
                refine wpIn_op (fun c hd=>by rw[OK.op8] at hd;cases hd) ?_
                have hrun:(execOp a3.eval o8).run P w3=.ok (.round l' fe (tm.setIfInBounds p (a3.eval (.tmp 21))) ca cb) w3:=by
                 obtain⟨dst,op,type,pos,after,guard⟩:=o8
                 have:=OK.op8
                 simp only at this
                 subst this
                 have hy:=run_yield (P:=P) (args:=#[a3.eval (.tmp 21)]) R3.loop (by rfl)
                 simp only[execOp,resolve,e20,Deferred.ofValue,Sem.run_bind,Sem.run_pure,Result.andThen_ok,invoke]
                 simpa using hy
                rw[hrun]
                rw[Oper.uponIn_round]
                refine⟨by simp,?_⟩
                have l2':=(Aw_does hm hF hca ka ht1 [] none).1
                have l3':=(Aw_does hm hF hcb kb ht2 [] none).1
                simp only at l2'
                refine RoundIn.mono (round_ok hm hF hca hcb ka kb hp ht1 ht2 hr₀ R3.ne e21 S3 R3 hg3 (f3.sub (by omega)) (K:=fun v w''=>wpOpsIn (FR none) 0 P o3 (Exit.then ((Code.cond (.tmp 24) .ret .skip).wpIn (FR none) 0 P (qC P o1 o2 o3 o4 Q m)) (qC P o1 o2 o3 o4 Q m)) (List.range' 9 (o3.toList.drop 9).length) (a3.put o8.dst v) w'') fun ι4 w4 x4 S4 R4 y4=>?_) fun e w' he=>?_
                . rw[OK.dst8]
                  exact rest ι4 _ w4 x4 ((g3.mono x4).put (fun t ht=>by cases ht;omega) (by simp[V,Va,Vc,Vp])) S4 R4 y4
                . cases e with
                  |returned v=>exact he
                  |panicked c=>exact he.elim
                  |outgrown=>exact he.elim
              . simp at hx
            . simp at hx
          . simp at hx
        . rename_i h19
          simp at hx
          obtain⟨rfl,rfl⟩:=hx
          have hw:awanted s3.ρ (slim o3 o8)=some false:=by simp[awanted,OK.g8,h19]
          rw[wanted_of hw fun _ _ t _ _=>g3.get t,if_neg (by simp)]
          refine⟨fun _ _=>trivial,?_⟩
          rw[OK.dst8]
          exact rest ι3 _ w3 (.refl _) (g3.put (fun t ht=>by cases ht;omega) (V.undef ι3)) S3 R3 .refl
        . simp at hx
      . simp at h
    . simp at h
  . simp at h
end
section
variable {P:Program} {N:Nat} {F:CallF} {I:It} {f:FuncId} {fn:Func} {o0 o1 o2 o3 o4:Array Oper} {o8:Oper} {ts:Array TypeId}
noncomputable def rangeRun(P:Program)(F:CallF)(I:It)(f:FuncId)(asg bdy:SC)(g p l:Nat)(s:St):Option Heap:=
 match s.ρ.get g with
 |some (.fn (.func f') [cap])=>if f'≠f then none else
  match aops P F I.r0 ⟨argsEnv 0 [.fn (.yield l) [],cap],s.h⟩ with
  |some s0=>match s0.ρ.get 9 with
   |some (.int .i64 n)=>match rounds P F I asg bdy s.ρ p l (n.toNat+1) ⟨cut (some [0,8,9,10]) s0.ρ,s0.h⟩ with
    |some sE=>some sE.h
    |none=>none
   |_=>none
  |none=>none
 |_=>none
theorem range_does(hm:P.follows .mixedOrders=true)(hF:CallOK P F)(OK:ItOK P I f fn o0 o1 o2 o3 o4 o8 ts){g p:Nat}{ca cb:Code}{H:Hint}(hca:codeB P H N ca=true)(hcb:codeB P H N cb=true){asg bdy:SC}(ka:compile H ca=asg)(kb:compile H cb=bdy)
  (hp:p<N) {s:St} {h':Heap} (hrun:∀l,rangeRun P F I f asg bdy g p l s=some h'):DoesM P N (.rangeFunc (.tmp g) #[p] ca cb) s .normal ⟨s.ρ,h'⟩:=by
 have open':∀l,∃cap s0 n sE,s.ρ.get g=some (.fn (.func f) [cap])/\aops P F I.r0 ⟨argsEnv 0 [.fn (.yield l) [],cap],s.h⟩=some s0/\s0.ρ.get 9=some (.int .i64 n) /\
   rounds P F I asg bdy s.ρ p l (n.toNat+1) ⟨cut (some [0,8,9,10]) s0.ρ,s0.h⟩=some sE/\sE.h=h':=by
  intro l
  have h:=hrun l
  unfold rangeRun at h
  split at h
  . rename_i f' cap hg
    split at h
    . simp at h
    rename_i hf
    have hf:f'=f:=by simpa using hf
    subst hf
    split at h
    . rename_i s0 hs0
      split at h
      . rename_i n hn
        split at h
        . rename_i sE hsE
          exact⟨cap,s0,n,sE,hg,hs0,hn,hsE,by simpa using h⟩
        . simp at h
      . simp at h
    . simp at h
  . simp at h
 have len:s.h.length<=h'.length:=by
  obtain⟨cap,s0,n,sE,_,h0,_,h2,rfl⟩:=open' 0
  have e1:=aops_length hF h0
  have e2:=(rounds_ok (N:=N) (D:=0) (w₀:=default) (ι₀:=fun _ _=>none) (B:=(default:World).heap.size) (L₀:=look []) (fe:=0) (tm:=#[]) hm hF OK hca hcb ka kb hp (.empty P default) _ _ _ h2).1
  exact Nat.le_trans e1 e2
 refine⟨len,fun ι w B a Q hreg hr hfr hk=>?_⟩
 obtain⟨cap,s0,n,sE,hg,hs0,hn,hsE,hh⟩:=open' (w.heap.size+1)
 have hev:=hreg.eval (.tmp g) _ hg
 obtain⟨cs,hev,hcs⟩:=hev.fn_inv
 refine wpIn_rangeFunc fun fid _=>?_
 obtain⟨rec,hrec⟩:∃rec:Loop,rec={ state:=.ready,pending:=none,fn:=fid,tmps:=a.tmps,params:=#[p],assign:=ca,body:=cb,defers:=w.heap.size }:=⟨_,rfl⟩
 have hsz:(w.alloc (.deferred (some []))).heap.size=w.heap.size+1:=World.size_alloc ..
 obtain⟨w1,hw1⟩:∃w1,w1=(w.alloc (.deferred (some []))).alloc (.loop rec):=⟨_,rfl⟩
 have S1:Step P ι w B (look s.h) ι w1 (look s.h):=by rw[hw1];exact ((Step.refl hr).alloc hr).alloc hr
 have R1:Rec w ι w1 (look s.h) (w.heap.size+1) w.heap.size rec:=by
  refine⟨?_,?_,fun h=>?_,fun h=>?_,by omega,by omega,by omega⟩
  . rw[hw1,<-hsz];exact World.alloc_heap_new _ _
  . rw[hw1]
    show ((w.heap.push _).push _)[w.heap.size]?=_
    rw[Array.getElem?_push,if_neg (by simp),Array.getElem?_push,if_pos rfl]
  . have:=h.bound hr;omega
  . have:=h.bound hr;omega
 have hgr:Regs [] ι s.ρ ⟨a.tmps,[]⟩ N:=⟨hreg.size,hreg.get,rfl⟩
 refine⟨w.heap.size+1,[markD w.heap.size],w1,{ target:=.fn (.func f) cs,args:=#[.func (.yield (w.heap.size+1)) #[] #[]] },w1,f,([Value.func (.yield (w.heap.size+1)) #[] #[]]++cs.toList).toArray,w1,?_,?_,fun _ _=>trivial,?_,by simp,?_⟩
 . rw[hw1,hrec];exact run_enterLoop_outer ..
 . show (Deferred.ofValue (a.eval (.tmp g)) _).run P w1=_
   rw[hev]
   simp[Deferred.ofValue,Act.eval]
 . have hargs:(#[Value.func (.yield (w.heap.size+1)) #[] #[]]++cs)=([Value.func (.yield (w.heap.size+1)) #[] #[]]++cs.toList).toArray:=by apply Array.ext';simp
   rw[<-hargs]
   exact run_callFunc OK.func (by rw[OK.body];rfl) OK.named _ _
 refine callsIn_of_wp OK.func OK.body trivial ?_
 obtain⟨l0,d0⟩:=Does.ops (id:=0) (dl:=[]) (fr:=none) hF OK.d0 OK.s0 hs0
 obtain⟨l1,dr⟩:=rounds_ok (l:=w.heap.size+1) (D:=w.heap.size) (fe:=fid) (tm:=a.tmps) hm hF OK hca hcb ka kb hp hr _ _ _ hsE
 simp only at l0 l1
 have hfr':Fresh ι s.h.length sE.h.length:=by rw[hh];exact hfr
 have hlen:=hcs.length
 simp at hlen
 have V1:L2 (V ι) [.fn (.yield (w.heap.size+1)) [],cap] ([Value.func (.yield (w.heap.size+1)) #[] #[]]++cs.toList):=by
  refine⟨by simp[V,Va,Vc,L2],hcs.mono fun _ _ h=>.of_Vp h⟩
 refine wpIn_seq ?_
 refine d0 ι w1 B _ _ ⟨?_,fun t v hv=>?_,rfl⟩ S1.hr (hfr'.sub l1) fun ι2 a2 w2 g2 q2 y2=>?_
 . simp[OK.nt,<-hlen]
 . obtain⟨_,hv⟩:=argsEnv_get hv
   obtain⟨u,hu,hc⟩:=V1.get _ v hv
   refine⟨u,?_,hc⟩
   simp only[Nat.sub_zero] at hu
   rw[Array.getElem?_append_left (by
    have:=(List.getElem?_eq_some_iff.1 hu).1
    simp at this ⊢
    omega)]
   rw[List.getElem?_toArray]
   exact hu
 refine wpIn_block (wpIn_loop_rounds (n.toNat+1) ?_)
 rw[hrec] at R1
 refine dr ι2 w2 a2 _ (Regs.cut (ks:=some [0,8,9,10]) g2) (S1.trans q2) (R1.step q2) (hgr.mono q2.ext) (hfr'.next l0 y2) fun ι3 a3 w3 g3 S3 R3 x3 y3=>?_
 show a3.defers=[]/\_
 refine⟨g3.defers,.tuple #[],?_,?_⟩
 . rw[results_eq,OK.res]
   simp
 . refine⟨_,_,run_endLoop R3.loop (by simp),?_⟩
   have Rx:=R3.put { state:=.exhausted,pending:=none,fn:=fid,tmps:=a.tmps,params:=#[p],assign:=ca,body:=cb,defers:=w.heap.size }
   have Sx:=S3.put hr (o:=.loop { state:=.exhausted,pending:=none,fn:=fid,tmps:=a.tmps,params:=#[p],assign:=ca,body:=cb,defers:=w.heap.size }) R3.nl R3.lo
   rw[hh] at Sx Rx
   refine hk ι3 _ _ w.heap.size ⟨hreg.size,(hreg.mono (q2.ext.trans x3)).get,?_⟩ Sx ?_ Rx.dfr Rx.nd (Nat.le_refl _)
   . simp[hreg.defers]
   . have:=y2.trans y3 l1
     rw[hh] at this
     exact this
theorem rf_calls{code:Code}(hfn:P.funcs[f]?=some fn)(hb:fn.body=some code){args:List AV}{h:Heap}{e:AExit}{s':St}(hn:args.length<=fn.ntmps)(hd:DoesM P fn.ntmps code ⟨argsEnv 0 args,h⟩ e s')(he:e=.normal\/e=.ret)
  {vs:List AV} (hvs:aresultL P s' fn.results.toList=some vs) (hall:vs.all AV.notTup=true):
  h.length<=s'.h.length/\∀(ι:Inj) (w:World) (B:Nat) (cargs:List Value),HR P ι w B (look h)->Fresh ι h.length s'.h.length->L2 (V ι) args cargs ->
   Calls P f cargs.toArray w fun e w'=>∃ι' u,e=.returned u/\V ι' (pack vs) u/\Step P ι w B (look h) ι' w' (look s'.h)/\Lays ι ι' s'.h.length:=by
 obtain⟨h1,h2⟩:=hd
 refine⟨h1,fun ι w B cargs hr hfr hargs=>(callsIn_wide (n:=0)).1 (callsIn_of_wp_marks hfn hb trivial ?_)⟩
 have hlen:=hargs.length
 refine h2 ι w B _ _ ⟨by simp;omega,fun t v hv=>?_,rfl⟩ hr hfr fun ι' a' w' D hreg hst hla hD hnD hlD=>?_
 . obtain⟨_,hv⟩:=argsEnv_get hv
   obtain⟨u,hu,hc⟩:=hargs.get _ v hv
   refine⟨u,?_,hc⟩
   simp only[Nat.sub_zero] at hu
   rw[Array.getElem?_append_left (by simp;exact (List.getElem?_eq_some_iff.1 hu).1)]
   simpa using hu
 . have S2:=hst.put hr (o:=.deferred none) hnD hlD
   obtain⟨us,hus,hl⟩:=run_resultL hreg S2.hr hvs
   have hres:∃u,(results fn a'.tmps).run P (w'.putObj D (.deferred none))=.ok u (w'.putObj D (.deferred none))/\V ι' (pack vs) u:=by
    rw[results_eq,Array.mapM_eq_mapM_toList]
    have hva:L2 (Va ι') vs us:=L2.of_get hl.length fun i x hx=>by
     obtain⟨u,hu,hv⟩:=hl.get i x hx
     have:=List.all_eq_true.1 hall x (List.mem_of_getElem? hx)
     exact⟨u,hu,hv.to_Va fun ts ht=>by subst ht;simp[AV.notTup] at this⟩
    clear hvs hall
    simp only[Sem.run_bind,Sem.run_map,Sem.run_pure,hus,Result.andThen_ok]
    match vs,us,hl,hva with
    |[],[],_,_=>exact⟨_,rfl,trivial⟩
    |[v],[u],hl,_=>exact⟨_,rfl,hl.1⟩
    |v1::v2::vs,u1::u2::us,_,hva=>exact⟨.tuple (u1::u2::us).toArray,by simp,hva⟩
   obtain⟨u,hu,hv⟩:=hres
   have fin:LeavesInM (FR none) 0 P fn a'.tmps (fun e w'=>∃ι' u,e=.returned u/\V ι' (pack vs) u/\Step P ι w B (look h) ι' w' (look s'.h)/\Lays ι ι' s'.h.length) a'.defers .returning w':=by
    rw[hreg.defers]
    exact⟨by simp,.inl ⟨D,_,rfl,run_takeDeferred hD,u,hu,ι',u,rfl,hv,S2,hla⟩⟩
   rcases he with rfl|rfl<;>exact fin
end
def H85:Hint:=⟨[(9,[2]),(8,[3,14,15,16]),(7,[3,14,15,16]),(6,[3,6,14,15,16]),(2000017,[3,14,15,16]),(5,[3,14,15,16,17]),(1000005,[3,14,15,16]),(4,[3,14,15,16]),(3,[3,4]),(2,[3,8]),(1,[0,3]),(0,[0])],[]⟩
def c85_r0:List SOp:=[
 ⟨(some 2),.assign (.const (.int .i64 0)),none⟩]
def c85_p0:SC:=(.reg c85_r0 none (some [0]))
def c85_r1:List SOp:=[
 ⟨(some 3),.alloc 3,none⟩,
 ⟨none,.store 3 (.tmp 3) (.const (.int .i64 0)),none⟩]
def c85_p1:SC:=(.reg c85_r1 none (some [0,3]))
def c85_r2:List SOp:=[
 ⟨(some 7),.move (.tmp 0),none⟩,
 ⟨(some 8),.call ⟨.value (.func 117),#[(.tmp 7)],#[91]⟩,none⟩]
def c85_p2:SC:=(.reg c85_r2 none (some [3,8]))
def c85_r3:List SOp:=[
 ⟨(some 4),.assign (.tmp 9),none⟩]
def c85_ca:SC:=(.reg c85_r3 none (some [3,4]))
def c85_r4:List SOp:=[
 ⟨(some 10),.move (.tmp 4),none⟩,
 ⟨(some 11),.nilCheck (.tmp 10),none⟩,
 ⟨(some 12),.fieldAddr 166 (.tmp 11) 1,none⟩,
 ⟨(some 13),.load 84 (.tmp 12),none⟩,
 ⟨(some 14),.call ⟨.value (.func 74),#[(.tmp 13)],#[84]⟩,none⟩,
 ⟨(some 15),.call ⟨.builtin .len,#[(.tmp 14)],#[30]⟩,none⟩,
 ⟨(some 16),.move (.const (.int .i64 0)),none⟩]
def c85_r5:List SOp:=[
 ⟨(some 17),.binOp .lss 3 (.tmp 16) (.tmp 15) 3,none⟩]
def c85_r6:List SOp:=[
 ⟨(some 18),.indexAddr 30 (.tmp 14) (.tmp 16),none⟩,
 ⟨(some 19),.load 3 (.tmp 18),none⟩,
 ⟨(some 6),.assign (.tmp 19),none⟩]
def c85_r7:List SOp:=[
 ⟨(some 20),.load 3 (.tmp 3),none⟩,
 ⟨(some 21),.move (.tmp 6),none⟩,
 ⟨(some 22),.call ⟨.builtin .max,#[(.tmp 20),(.tmp 21)],#[3,3]⟩,none⟩,
 ⟨none,.store 3 (.tmp 3) (.tmp 22),none⟩]
def c85_r8:List SOp:=[
 ⟨(some 23),.binOp .add 3 (.tmp 16) (.const (.int .i64 1)) 3,none⟩,
 ⟨(some 16),.move (.tmp 23),none⟩]
def c85_l5:SC:=(.seq (.reg c85_r5 none (some [3,14,15,16,17])) (.seq (.cond (.tmp 17) .skip (.exit 2) (some [3,14,15,16])) (.seq (.block 3 (.seq (.reg c85_r6 none (some [3,6,14,15,16])) (.reg c85_r7 none (some [3,14,15,16])))) (.reg c85_r8 none (some [3,14,15,16])))))
def c85_cb:SC:=(.block 1 (.seq (.reg c85_r4 none (some [3,14,15,16])) (.block 2 (.loop c85_l5 (some [3,14,15,16])))))
def c85_r9:List SOp:=[
 ⟨(some 24),.load 3 (.tmp 3),none⟩,
 ⟨(some 2),.assign (.tmp 24),none⟩]
def c85_s0:SC:=(.seq (.reg c85_r9 none (some [2])) .ret)
theorem c85_rf:∃p0 p1 p2 ca cb s0,Try.f85.body=some (.seq p0 (.seq p1 (.seq (.seq p2 (.block 0 (.rangeFunc (.tmp 8) #[9] ca cb))) s0))) /\
 codeB Try.prog H85 25 p0=true/\compile H85 p0=c85_p0 /\
 codeB Try.prog H85 25 p1=true/\compile H85 p1=c85_p1 /\
 codeB Try.prog H85 25 p2=true/\compile H85 p2=c85_p2 /\
 codeB Try.prog H85 25 ca=true/\compile H85 ca=c85_ca /\
 codeB Try.prog H85 25 cb=true/\compile H85 cb=c85_cb /\
 codeB Try.prog H85 25 s0=true/\compile H85 s0=c85_s0:=
 ⟨_,_,_,_,_,_,rfl,by kernel_rfl,by kernel_rfl,by kernel_rfl,by kernel_rfl,by kernel_rfl,by kernel_rfl,by kernel_rfl,by kernel_rfl,by kernel_rfl,by kernel_rfl,by kernel_rfl,by kernel_rfl⟩
theorem c85_fn:Try.prog.funcs[85]?=some Try.f85:=by kernel_rfl
theorem c85_rs:Try.f85.results.toList=[.tmp 2]:=by kernel_rfl
theorem c85_nt:Try.f85.ntmps=25:=by kernel_rfl
def H113:Hint:=⟨[(12,[4]),(11,[5]),(2000043,[5]),(10,[2,5,43]),(9,[]),(2000039,[]),(8,[6,7,39]),(7,[6,7]),(6,[2,5,6,7]),(2000013,[6,7]),(5,[2,5,6,7,13]),(4,[2,3,5,6,7]),(3,[2,3,5,6,9]),(2,[2,3,5,6]),(1,[2,3,5]),(0,[2,3])],[]⟩
def c113_r0:List SOp:=[
 ⟨(some 2),.box 91 (.tmp 0),none⟩,
 ⟨(some 3),.box 170 (.tmp 1),none⟩,
 ⟨(some 4),.assign (.const (.slice none 0 0)),none⟩]
def c113_p0:SC:=(.reg c113_r0 none (some [2,3]))
def c113_r1:List SOp:=[
 ⟨(some 5),.alloc 94,none⟩]
def c113_p1:SC:=(.reg c113_r1 none (some [2,3,5]))
def c113_r2:List SOp:=[
 ⟨(some 6),.alloc 4,none⟩,
 ⟨none,.store 4 (.tmp 6) (.const (.bool false)),none⟩]
def c113_p2:SC:=(.reg c113_r2 none (some [2,3,5,6]))
def c113_r3:List SOp:=[
 ⟨(some 8),.load 91 (.tmp 2),none⟩,
 ⟨(some 9),.call ⟨.value (.func 117),#[(.tmp 8)],#[91]⟩,none⟩]
def c113_p3:SC:=(.reg c113_r3 none (some [2,3,5,6,9]))
def c113_r4:List SOp:=[
 ⟨(some 7),.assign (.tmp 10),none⟩]
def c113_ca:SC:=(.reg c113_r4 none (some [2,3,5,6,7]))
def c113_r5:List SOp:=[
 ⟨(some 11),.load 170 (.tmp 3),none⟩,
 ⟨(some 12),.move (.tmp 7),none⟩,
 ⟨(some 13),.call ⟨.value (.tmp 11),#[(.tmp 12)],#[164]⟩,none⟩]
def c113_r6:List SOp:=[
 ⟨(some 14),.move (.tmp 7),none⟩,
 ⟨(some 15),.nilCheck (.tmp 14),none⟩,
 ⟨(some 16),.fieldAddr 166 (.tmp 15) 3,none⟩,
 ⟨none,.store 4 (.tmp 16) (.const (.bool true)),none⟩]
def c113_r7:List SOp:=[
 ⟨(some 17),.load 94 (.tmp 5),none⟩,
 ⟨(some 18),.move (.tmp 7),none⟩,
 ⟨(some 19),.nilCheck (.tmp 18),none⟩,
 ⟨(some 20),.fieldAddr 166 (.tmp 19) 0,none⟩,
 ⟨(some 21),.fieldAddr 107 (.tmp 20) 9,none⟩,
 ⟨(some 22),.load 3 (.tmp 21),none⟩,
 ⟨(some 23),.load 91 (.tmp 2),none⟩,
 ⟨(some 24),.nilCheck (.tmp 23),none⟩,
 ⟨(some 25),.fieldAddr 163 (.tmp 24) 3,none⟩,
 ⟨(some 26),.load 3 (.tmp 25),none⟩,
 ⟨(some 27),.move (.tmp 7),none⟩,
 ⟨(some 28),.nilCheck (.tmp 27),none⟩,
 ⟨(some 29),.fieldAddr 166 (.tmp 28) 0,none⟩,
 ⟨(some 30),.fieldAddr 107 (.tmp 29) 0,none⟩,
 ⟨(some 31),.load 3 (.tmp 30),none⟩,
 ⟨(some 32),.build 99 #[(0,(.tmp 22)),(2,(.tmp 26)),(3,(.tmp 31))],none⟩,
 ⟨(some 33),.buildSlice 94 1 #[(0,(.tmp 32))],none⟩,
 ⟨(some 34),.call ⟨.builtin .append,#[(.tmp 17),(.tmp 33)],#[94,94]⟩,none⟩,
 ⟨none,.store 94 (.tmp 5) (.tmp 34),none⟩]
def c113_r8:List SOp:=[
 ⟨(some 35),.move (.tmp 7),none⟩,
 ⟨(some 36),.nilCheck (.tmp 35),none⟩,
 ⟨(some 37),.fieldAddr 166 (.tmp 36) 1,none⟩,
 ⟨(some 38),.load 84 (.tmp 37),none⟩,
 ⟨(some 39),.call ⟨.value (.func 75),#[(.tmp 38)],#[84]⟩,none⟩]
def c113_r9:List SOp:=[
 ⟨(some 40),.move (.tmp 7),none⟩,
 ⟨(some 41),.nilCheck (.tmp 40),none⟩,
 ⟨(some 42),.fieldAddr 166 (.tmp 41) 3,none⟩,
 ⟨none,.store 4 (.tmp 42) (.const (.bool true)),none⟩,
 ⟨none,.store 4 (.tmp 6) (.const (.bool true)),none⟩]
def c113_cb:SC:=(.block 1 (.seq (.seq (.reg c113_r5 none (some [2,5,6,7,13])) (.cond (.tmp 13) (.seq (.reg c113_r6 none (some [2,5,6,7])) (.reg c113_r7 none (some [6,7]))) .skip (some [6,7]))) (.seq (.reg c113_r8 none (some [6,7,39])) (.cond (.tmp 39) (.reg c113_r9 none (some [])) .skip (some [])))))
def c113_r10:List SOp:=[
 ⟨(some 43),.load 4 (.tmp 6),none⟩]
def c113_r11:List SOp:=[
 ⟨(some 44),.load 94 (.tmp 5),none⟩,
 ⟨(some 45),.load 91 (.tmp 2),none⟩,
 ⟨(some 46),.nilCheck (.tmp 45),none⟩,
 ⟨(some 47),.fieldAddr 163 (.tmp 46) 3,none⟩,
 ⟨(some 48),.load 3 (.tmp 47),none⟩,
 ⟨(some 49),.build 99 #[(2,(.tmp 48)),(3,(.const (.int .i64 4)))],none⟩,
 ⟨(some 50),.buildSlice 94 1 #[(0,(.tmp 49))],none⟩,
 ⟨(some 51),.call ⟨.builtin .append,#[(.tmp 44),(.tmp 50)],#[94,94]⟩,none⟩,
 ⟨none,.store 94 (.tmp 5) (.tmp 51),none⟩]
def c113_r12:List SOp:=[
 ⟨(some 52),.load 94 (.tmp 5),none⟩,
 ⟨(some 4),.assign (.tmp 52),none⟩]
def c113_s0:SC:=(.seq (.seq (.reg c113_r10 none (some [2,5,43])) (.cond (.tmp 43) (.reg c113_r11 none (some [5])) .skip (some [5]))) (.seq (.reg c113_r12 none (some [4])) .ret))
theorem c113_rf:∃p0 p1 p2 p3 ca cb s0,Try.f113.body=some (.seq p0 (.seq p1 (.seq p2 (.seq (.seq p3 (.block 0 (.rangeFunc (.tmp 9) #[10] ca cb))) s0)))) /\
 codeB Try.prog H113 53 p0=true/\compile H113 p0=c113_p0 /\
 codeB Try.prog H113 53 p1=true/\compile H113 p1=c113_p1 /\
 codeB Try.prog H113 53 p2=true/\compile H113 p2=c113_p2 /\
 codeB Try.prog H113 53 p3=true/\compile H113 p3=c113_p3 /\
 codeB Try.prog H113 53 ca=true/\compile H113 ca=c113_ca /\
 codeB Try.prog H113 53 cb=true/\compile H113 cb=c113_cb /\
 codeB Try.prog H113 53 s0=true/\compile H113 s0=c113_s0:=
 ⟨_,_,_,_,_,_,_,rfl,by kernel_rfl,by kernel_rfl,by kernel_rfl,by kernel_rfl,by kernel_rfl,by kernel_rfl,by kernel_rfl,by kernel_rfl,by kernel_rfl,by kernel_rfl,by kernel_rfl,by kernel_rfl,by kernel_rfl,by kernel_rfl⟩
theorem c113_fn:Try.prog.funcs[113]?=some Try.f113:=by kernel_rfl
theorem c113_rs:Try.f113.results.toList=[.tmp 4]:=by kernel_rfl
theorem c113_nt:Try.f113.ntmps=53:=by kernel_rfl
section
def it126:It:=⟨c126_r0,c126_r1,c126_r2,c126_r3.take 8,c126_r3.drop 9,c126_r4⟩
theorem it126_ok:∃o0 o1 o2 o3 o4 o8 ts,ItOK Try.prog it126 126 Try.f126 o0 o1 o2 o3 o4 o8 ts:=
 ⟨_,_,_,_,_,_,_,{ func:=c126_fn,named:=by kernel_rfl,body:=rfl,res:=by kernel_rfl,nt:=by kernel_rfl,s0:=by kernel_rfl,s1:=by kernel_rfl,s2:=by kernel_rfl,s4:=by kernel_rfl,sa:=by kernel_rfl,sb:=by kernel_rfl,sz:=by kernel_rfl,d0:=by kernel_rfl,d1:=by kernel_rfl,d2:=by kernel_rfl,d3:=by kernel_rfl,d4:=by kernel_rfl,at8:=rfl,op8:=rfl,dst8:=by kernel_rfl,g8:=by kernel_rfl }⟩
open Classical in
noncomputable def rfExt(P:Program)(F:CallF)(I:It)(f:FuncId)(pre:List SC)(g p:Nat)(asg bdy suf:SC)(fn:Func)(args:List AV)(h:Heap):Option (AV×Heap):=
 if args.length<=fn.ntmps then
  match preRun P F pre ⟨argsEnv 0 args,h⟩ with
  |some s1=>if hx:∃h2,∀l,rangeRun P F I f asg bdy g p l s1=some h2 then afinish P fn (Aw P F suf ⟨s1.ρ,hx.choose⟩) else none
  |none=>none
 else none
section
variable {P:Program} {F:CallF} {I:It} {f:FuncId} {pre:List SC} {g p:Nat} {asg bdy suf:SC} {fn:Func} {args:List AV} {h:Heap}
theorem rfExt_of(hn:args.length<=fn.ntmps){s1:St}(h1:preRun P F pre ⟨argsEnv 0 args,h⟩=some s1){h2:Heap}(hr:∀l,rangeRun P F I f asg bdy g p l s1=some h2){r:AV×Heap}(h3:afinish P fn (Aw P F suf ⟨s1.ρ,h2⟩)=some r):
  rfExt P F I f pre g p asg bdy suf fn args h=some r:=by
 have hx:∃h2,∀l,rangeRun P F I f asg bdy g p l s1=some h2:=⟨h2,hr⟩
 have he:hx.choose=h2:=by
  have:=hx.choose_spec 0
  rw[hr 0] at this
  simpa using this.symm
 unfold rfExt
 rw[if_pos hn,h1]
 simp only
 rw[dif_pos hx,he,h3]
theorem rfExt_inv{r:AV×Heap}(hr:rfExt P F I f pre g p asg bdy suf fn args h=some r):args.length<=fn.ntmps/\∃s1 h2 e s3 vs,preRun P F pre ⟨argsEnv 0 args,h⟩=some s1/\(∀l,rangeRun P F I f asg bdy g p l s1=some h2) /\
  Aw P F suf ⟨s1.ρ,h2⟩=some (e,s3)/\(e=.normal\/e=.ret)/\aresultL P s3 fn.results.toList=some vs/\vs.all AV.notTup=true/\r=(pack vs,s3.h):=by
 unfold rfExt at hr
 split at hr
 . rename_i hn
   split at hr
   . rename_i s1 hs1
     split at hr
     . rename_i hx
       refine⟨hn,s1,hx.choose,?_⟩
       unfold afinish at hr
       split at hr
       . rename_i s' hs'
         split at hr
         . rename_i vs hvs
           split at hr
           . rename_i hall
             simp at hr
             exact⟨_,_,vs,hs1,hx.choose_spec,hs',.inl rfl,hvs,hall,hr.symm⟩
           . simp at hr
         . simp at hr
       . rename_i s' hs'
         split at hr
         . rename_i vs hvs
           split at hr
           . rename_i hall
             simp at hr
             exact⟨_,_,vs,hs1,hx.choose_spec,hs',.inr rfl,hvs,hall,hr.symm⟩
           . simp at hr
         . simp at hr
       . simp at hr
     . simp at hr
   . simp at hr
 . simp at hr
end
theorem preRun_cons{P:Program}{F:CallF}{k:SC}{ks:List SC}{s s':St}(h:preRun P F (k::ks) s=some s'):∃s1,Aw P F k s=some (.normal,s1)/\preRun P F ks s1=some s':=by
 unfold preRun at h
 split at h
 . rename_i s1 hs1
   exact⟨s1,hs1,h⟩
 . simp at h
theorem preRun_nil{P:Program}{F:CallF}{s s':St}(h:preRun P F [] s=some s'):s=s':=by simpa[preRun] using h
noncomputable def ext85:List AV->Heap->Option (AV×Heap):=rfExt Try.prog (D cfg) it126 126 [c85_p0,c85_p1,c85_p2] 8 9 c85_ca c85_cb c85_s0 Try.f85
noncomputable def ext113:List AV->Heap->Option (AV×Heap):=rfExt Try.prog (D cfg) it126 126 [c113_p0,c113_p1,c113_p2,c113_p3] 9 10 c113_ca c113_cb c113_s0 Try.f113
def ExtOK(P:Program)(f:FuncId)(g:List AV->Heap->Option (AV×Heap)):Prop:=∀args h r h',g args h=some (r,h') ->
  (∃ fn, P.funcs[f]? = some fn ∧ fn.body.isSome = true ∧ (fn.name == "runtime.NumGoroutine") = false) ∧ h.length ≤ h'.length ∧
  ∀(ι:Inj) (w:World) (B:Nat) (cargs:List Value),HR P ι w B (look h)->Fresh ι h.length h'.length->L2 (V ι) args cargs ->
   Calls P f cargs.toArray w fun e w'=>∃ι' u,e=.returned u/\V ι' r u/\Step P ι w B (look h) ι' w' (look h')/\Lays ι ι' h'.length
theorem ext85_ok:ExtOK Try.prog 85 ext85:=by
 intro args h r h' hr
 obtain⟨hn,s1,h2,e,s3,vs,hp,hrun,hs,he,hvs,hall,hr⟩:=rfExt_inv hr
 obtain⟨rfl,rfl⟩:r=pack vs/\h'=s3.h:=by simpa using hr
 obtain⟨q0,a0,hp⟩:=preRun_cons hp
 obtain⟨q1,a1,hp⟩:=preRun_cons hp
 obtain⟨q2,a2,hp⟩:=preRun_cons hp
 obtain rfl:=preRun_nil hp
 obtain⟨p0,p1,p2,ca,cb,s0,hb,b0,k0,b1,k1,b2,k2,ba,ka,bb,kb,bs,ks⟩:=c85_rf
 obtain⟨o0,o1,o2,o3,o4,o8,ts,OK⟩:=it126_ok
 have hm:Try.prog.follows .mixedOrders=true:=by kernel_rfl
 have hF:CallOK Try.prog (D cfg):=D_ok cfg_ok
 refine⟨⟨_,c85_fn,by rw[hb];rfl,by kernel_rfl⟩,?_⟩
 refine rf_calls (fn:=Try.f85) c85_fn hb hn ?_ he hvs hall
 rw[c85_nt]
 exact (Aw_does hm hF b0 k0 a0 [] none).elim fun _ _=>DoesM.seqR (Aw_does hm hF b0 k0 a0 [] none) (DoesM.seqR (Aw_does hm hF b1 k1 a1 [] none) (DoesM.seqL (DoesM.seqR (Aw_does hm hF b2 k2 a2 [] none) (DoesM.block (range_does hm hF OK ba bb ka kb (by decide) hrun))) fun dl=>Aw_does hm hF bs ks hs dl none))
theorem ext113_ok:ExtOK Try.prog 113 ext113:=by
 intro args h r h' hr
 obtain⟨hn,s1,h2,e,s3,vs,hp,hrun,hs,he,hvs,hall,hr⟩:=rfExt_inv hr
 obtain⟨rfl,rfl⟩:r=pack vs/\h'=s3.h:=by simpa using hr
 obtain⟨q0,a0,hp⟩:=preRun_cons hp
 obtain⟨q1,a1,hp⟩:=preRun_cons hp
 obtain⟨q2,a2,hp⟩:=preRun_cons hp
 obtain⟨q3,a3,hp⟩:=preRun_cons hp
 obtain rfl:=preRun_nil hp
 obtain⟨p0,p1,p2,p3,ca,cb,s0,hb,b0,k0,b1,k1,b2,k2,b3,k3,ba,ka,bb,kb,bs,ks⟩:=c113_rf
 obtain⟨o0,o1,o2,o3,o4,o8,ts,OK⟩:=it126_ok
 have hm:Try.prog.follows .mixedOrders=true:=by kernel_rfl
 have hF:CallOK Try.prog (D cfg):=D_ok cfg_ok
 refine⟨⟨_,c113_fn,by rw[hb];rfl,by kernel_rfl⟩,?_⟩
 refine rf_calls (fn:=Try.f113) c113_fn hb hn ?_ he hvs hall
 rw[c113_nt]
 exact DoesM.seqR (Aw_does hm hF b0 k0 a0 [] none) (DoesM.seqR (Aw_does hm hF b1 k1 a1 [] none) (DoesM.seqR (Aw_does hm hF b2 k2 a2 [] none) (DoesM.seqL (DoesM.seqR (Aw_does hm hF b3 k3 a3 [] none) (DoesM.block (range_does hm hF OK ba bb ka kb (by decide) hrun))) fun dl=>Aw_does hm hF bs ks hs dl none)))
noncomputable def cfg1:Cfg:={ P:=Try.prog,hint:=hintT,ext:=fun f=>if f=85 then some ext85 else if f=113 then some ext113 else extT f }
theorem cfg1_ok:CfgOK cfg1 where
 mixed:=cfg_ok.mixed
 own:=fun f fn hx hf=>cfg_ok.own f fn (by
  simp only[cfg1] at hx
  split at hx
  . cases hx
  . split at hx
    . cases hx
    . exact hx) hf
 ext:=fun f g hx args h r h' hr=>by
  simp only[cfg1] at hx
  split at hx
  . rename_i e
    cases hx;subst e
    exact ext85_ok args h r h' hr
  . split at hx
    . rename_i e
      cases hx;subst e
      exact ext113_ok args h r h' hr
    . exact cfg_ok.ext f g hx args h r h' hr
theorem lift_n:∀n f args h r,acall cfg n f args h=some r->acall cfg1 n f args h=some r
 |0,f,args,h,r,hr=>by simp[acall] at hr
 |n+1,f,args,h,r,hr=>by
  have n85:cfg.ext 85=some fun _ _=>none:=by rfl
  have n113:cfg.ext 113=some fun _ _=>none:=by rfl
  have hne:f≠85/\f≠113:=by
   constructor
   . rintro rfl
     simp only[acall,n85] at hr
     cases hr
   . rintro rfl
     simp only[acall,n113] at hr
     cases hr
  have hext:cfg1.ext f=cfg.ext f:=by
   show (if f=85 then some ext85 else if f=113 then some ext113 else extT f)=extT f
   rw[if_neg hne.1,if_neg hne.2]
  unfold acall at hr
  unfold acall
  rw[hext]
  split at hr
  . exact hr
  . split at hr
    . rename_i fn hfn
      have hfn':cfg1.P.funcs[f]?=some fn:=hfn
      simp only[hfn']
      split at hr
      . rename_i code hb
        split at hr
        . rename_i hn
          simp only[if_pos hn]
          obtain⟨x,hx⟩:=afinish_some hr
          obtain⟨m,hm⟩:=acode_ev (F:=acall cfg n) (G:=fun _=>acall cfg1 n) (n:=n) (fun g a h r hg=>⟨0,fun _ _=>lift_n n g a h r hg⟩) code _ x hx
          have:=hm m (Nat.le_refl _) n (Nat.le_refl _)
          show afinish Try.prog fn (acode Try.prog (acall cfg1 n) (hintT f) n code ⟨argsEnv 0 args,h⟩)=some r
          have e:acode Try.prog (acall cfg1 n) (hintT f) n code ⟨argsEnv 0 args,h⟩=some x:=this
          rw[e,<-hx]
          exact hr
        . simp at hr
      . simp at hr
    . simp at hr
theorem lift{f:FuncId}{args:List AV}{h:Heap}{r:AV×Heap}(hr:D cfg f args h=some r):D cfg1 f args h=some r:=
 let ⟨n,hn⟩:=D_spec hr
 D_of (lift_n n f args h r hn)
end
def begs(ps:List Txt):List Txt:=ps.foldl (fun X p=>addFrom X [] p) [[]]
theorem begs_snoc{ps:List Txt}{p:Txt}:begs (ps++[p])=addFrom (begs ps) [] p:=by simp[begs]
def bufSl(b n:Nat)(xs:List AV):AV:=if n=0 then .sl none 0 0 else .sl (some ⟨b,0,xs.length⟩) n n
theorem bufSl_zero{b:Nat}{xs:List AV}:bufSl b 0 xs=.sl none 0 0:=by simp[bufSl]
theorem append_buf{t e k:Nat}(ht:tk Try.prog t=.slice e)(hk:tsz Try.prog e=k)(hk0:0<k)(hz:zeroOK Try.prog e=true)(hby:Try.prog.bytesOf e<=100){h:Heap}{b n:Nat}{xs ys:List AV}(hys:ys.length=k)(hxs:xs.length=n*k)
  (hb:n≠0->h[b]?=some (.cells xs e true)) (hn:n<=1000000):
  ∃δ h',append2 Try.prog (look (h++[AObj.cells ys e true])) (h.length+1) t t [bufSl b n xs,.sl (some ⟨h.length,0,k⟩) 1 1]=some (bufSl (if n=0 then h.length+1 else b) (n+1) (xs++ys),δ)/\Heap.apply (h++[AObj.cells ys e true]) δ=h' /\
   h'[if n=0 then h.length+1 else b]?=some (.cells (xs++ys) e true)/\Only (fun c=>c=b/\n≠0) h h':=by
 have hsrc:srcCells Try.prog (look (h++[AObj.cells ys e true])) e (.sl (some ⟨h.length,0,k⟩) 1 1)=some (1,ys):=by
  simp[srcCells,slCells,row,hk,hys]
  exact List.take_of_length_le (by omega)
 have hroom:∀m,m<=1000001->m*Try.prog.bytesOf e<=roomMax:=fun m hm=>by
  have:=Nat.mul_le_mul hm hby
  simp only[roomMax]
  omega
 by_cases hn0:n=0
 . subst hn0
   have hxs0:xs=[]:=List.length_eq_zero_iff.1 (by simpa using hxs)
   subst hxs0
   refine⟨.new (.cells ys e true),h++[AObj.cells ys e true]++[AObj.cells ys e true],?_,rfl,?_,?_⟩
   . have h1:=hroom 1 (by omega)
     simp only[append2,aappend,ht,hk,hsrc,hk0,if_true,bufSl,aappendE]
     simp at h1
     simp[h1,hz]
   . simp
   . rw[List.append_assoc];exact .app
 . have hb1:=hb hn0
   have hlt:=lt_of_at hb1
   have hb2:(h++[AObj.cells ys e true])[b]?=some (.cells xs e true):=by rw[List.getElem?_append_left hlt];exact hb1
   rw[if_neg hn0]
   refine⟨.set b (.cells (xs++ys) e true),(h++[AObj.cells ys e true]).set b (.cells (xs++ys) e true),?_,rfl,?_,?_⟩
   . have h1:=hroom (n+1) (by omega)
     have h2:¬(n+1<=n):=by omega
     have h3:n+1<=9223372036854775807:=by omega
     have h4:xs.take (n*k)=xs:=List.take_of_length_le (by omega)
     simp only[append2,aappend,ht,hk,hsrc,hk0,if_true,bufSl,hn0,if_false,aappendE,look_at,hb2]
     simp[h1,hz,h2,h3,hxs,h4]
   . rw[List.getElem?_set_self (by simp;omega)]
   . exact Only.app.trans (.set ⟨rfl,hn0⟩)
theorem Only.fresh{h₀ h h':Heap}{fp:Nat->Prop}(a:Only (fun _=>False) h₀ h)(b:Only fp h h')(hf:∀c,fp c->h₀.length<=c):Only (fun _=>False) h₀ h':=
 ⟨Nat.le_trans a.1 b.1,fun c hc _=>by rw[b.2 c (Nat.lt_of_lt_of_le hc a.1) (fun hm=>by have:=hf c hm;omega),a.2 c hc id]⟩
theorem Sl1.buf{h:Heap}{b:Nat}{e:TypeId}{s:Bool}{xs:List AV}(hb:xs.length≠0->h[b]?=some (.cells xs e s)):Sl1 h (bufSl b xs.length xs) xs:=by
 by_cases hx:xs.length=0
 . have:xs=[]:=List.length_eq_zero_iff.1 hx
   subst this
   rw[List.length_nil,bufSl_zero]
   exact .nil
 . unfold bufSl
   rw[if_neg hx]
   exact .cells (hb hx)
theorem intSl_buf{b:Nat}{l:List Int}:intSl b l=bufSl b l.length (intCells l):=by
 unfold intSl bufSl
 by_cases hl:l=[]
 . subst hl;rfl
 . have:l.length≠0:=fun e=>hl (List.length_eq_zero_iff.1 e)
   rw[if_neg hl,if_neg this,intCells_len]
theorem append_int{h:Heap}{b:Nat}{l:List Int}{x:Int}(hb:l≠[]->h[b]?=some (.cells (intCells l) 3 true))(hn:l.length<=1000000):
  ∃δ h',append2 Try.prog (look (h++[AObj.cells [.int .i64 x] 3 true])) (h.length+1) 30 30 [intSl b l,.sl (some ⟨h.length,0,1⟩) 1 1]=some (intSl (if l=[] then h.length+1 else b) (l++[x]),δ)/\Heap.apply (h++[AObj.cells [.int .i64 x] 3 true]) δ=h' /\
   h'[if l=[] then h.length+1 else b]?=some (.cells (intCells (l++[x])) 3 true)/\Only (fun c=>c=b/\l≠[]) h h':=by
 have hne:l.length≠0↔l≠[]:=by rw[ne_eq,List.length_eq_zero_iff]
 have hz:(if l.length=0 then h.length+1 else b)=if l=[] then h.length+1 else b:=by
  by_cases hl:l=[]
  . subst hl;rfl
  . rw[if_neg hl,if_neg (hne.2 hl)]
 obtain⟨δ,h',h1,h2,h3,h4⟩:=append_buf (t:=30) (e:=3) (k:=1) (by simp) (by simp) (by decide) (by simp) (by simp) (h:=h) (b:=b) (n:=l.length) (xs:=intCells l) (ys:=[.int .i64 x]) (by simp) (by simp[intCells]) (fun e=>hb (hne.1 e)) hn
 have e:intCells l++[AV.int .i64 x]=intCells (l++[x]):=by simp[intCells]
 rw[e,hz] at h1 h3
 refine⟨δ,h',?_,h2,h3,h4.mono fun c _ e=>⟨e.1,hne.1 e.2⟩⟩
 rw[intSl_buf,h1,intSl_buf]
 simp
def lowB(b:UInt8):UInt8:=if 65<=b.toNat/\b.toNat<=90 then UInt8.ofNat (b.toNat+32) else b
def fold(s:Txt):Txt:=s.map lowB
theorem fold_len{s:Txt}:(fold s).length=s.length:=by simp[fold]
theorem byteCells_len{l:List UInt8}:(byteCells l).length=l.length:=by simp[byteCells]
def foldTo(s:Txt)(i:Nat):Txt:=(s.take i).map lowB++s.drop i
theorem foldTo_len{s:Txt}{i:Nat}:(foldTo s i).length=s.length:=by simp[foldTo];omega
theorem foldTo_at{s:Txt}{i:Nat}(h:i<s.length):(foldTo s i)[i]?=some s[i]:=by
 unfold foldTo
 rw[List.getElem?_append_right (by simp;omega)]
 simp
 rw[Nat.min_eq_left (by omega)]
 simp[List.getElem?_eq_getElem h]
theorem foldTo_step{s:Txt}{i:Nat}(h:i<s.length):foldTo s (i+1)=(foldTo s i).set i (lowB s[i]):=by
 unfold foldTo
 have hl:((s.take i).map lowB).length=i:=by simp;omega
 rw[List.take_succ_eq_append_getElem h,List.map_append,List.set_append_right _ _ (by omega),hl,Nat.sub_self,List.drop_eq_getElem_cons h]
 simp only[List.map_cons,List.map_nil,List.append_assoc,List.singleton_append,List.set_cons_zero]
theorem foldTo_same{s:Txt}{i:Nat}(h:i<s.length)(hb:lowB s[i]=s[i]):foldTo s (i+1)=foldTo s i:=by
 rw[foldTo_step h,hb]
 apply List.ext_getElem?
 intro j
 by_cases hj:j=i
 . subst hj
   rw[List.getElem?_set_self (by rw[foldTo_len];exact h),foldTo_at h]
 . rw[List.getElem?_set_ne (Ne.symm hj)]
theorem byteCells_set{s:Txt}{i:Nat}{b:UInt8}:(byteCells s).set i (.int .u8 b.toNat)=byteCells (s.set i b):=by
 simp[byteCells,List.map_set]
theorem cellBytes_all{l:List UInt8}:cellBytes (byteCells l)=some l:=by
 induction l with
 |nil=>rfl
 |cons c l ih=>
  simp only[byteCells,List.map_cons,cellBytes] at ih ⊢
  rw[ih]
  simp
abbrev byteSl(b n:Nat):AV:=.sl (some ⟨b,0,n⟩) n n
def In59(h₀:Heap)(s:Txt)(m:Nat)(st:St):Prop:=∃i h,m=s.length-i/\i<=s.length/\st=⟨[(3,byteSl h₀.length s.length),(8,byteSl h₀.length s.length),(9,.int .i64 s.length),(10,.int .i64 (i:Nat))],h⟩ /\
 h[h₀.length]?=some (.cells (byteCells (foldTo s i)) 5 true)/\Only (fun _=>False) h₀ h
theorem fold_auto{h:Heap}{s:Txt}(hs:s.length<=9223372036854775800):∃h',D cfg 59 [.str s] h=some (.str (fold s),h')/\Only (fun _=>False) h h':=by
 have key:∃r h',D cfg 59 [.str s] h=some (r,h')/\(r=.str (fold s)/\Only (fun _=>False) h h'):=by
  refine call59 (R:=fun r h'=>r=.str (fold s)/\Only (fun _=>False) h h') (args:=[.str s]) (h:=h) (by simp) ?_
  simp[c59,c59_r0,c59_r1,c59_r2,aconv,len1,alen]
  refine Wt.loop (In59 h s) (m:=s.length) ⟨0,h++[.cells (byteCells s) 5 true],rfl,Nat.zero_le _,rfl,by simp[foldTo],.app⟩ ?_
  rintro m st ⟨i,h1,rfl,hi,rfl,hb,ho⟩
  have hcut:cut (some [3,8,9,10]) [(3,byteSl h.length s.length),(8,byteSl h.length s.length),(9,.int .i64 (s.length:Nat)),(10,.int .i64 (i:Nat))]=[(3,byteSl h.length s.length),(8,byteSl h.length s.length),(9,.int .i64 s.length),(10,.int .i64 (i:Nat))]:=by simp
  simp only[hcut]
  have hbl:(byteCells (foldTo s i)).length=s.length:=by rw[byteCells_len,foldTo_len]
  by_cases his:i<s.length
  . have his':(i:Int)<s.length:=by omega
    have hwr:IntKind.wrap .i64 ((i:Int)+1)=i+1:=wrap_i64 (by omega) (by omega)
    have hcell:(byteCells (foldTo s i))[i]?=some (.int .u8 s[i].toNat):=by
     simp only[byteCells,List.getElem?_map,foldTo_at his]
     rfl
    have hu:=s[i].toNat_lt
    have hget:∀hlt,(foldTo s i)[i]'hlt=s[i]:=fun hlt=>by
     have:=foldTo_at his
     rw[List.getElem?_eq_getElem hlt] at this
     simpa using this
    by_cases hup:65<=s[i].toNat/\s[i].toNat<=90
    . have hw1:IntKind.wrap .u8 ((s[i].toNat:Int)-65)=s[i].toNat-65:=wrap_u8 (by omega) (by omega)
      have hw2:IntKind.wrap .u8 ((s[i].toNat:Int)-65+97)=s[i].toNat+32:=by rw[wrap_u8 (by omega) (by omega)];omega
      have hset:((byteCells (foldTo s i)).set i (.int .u8 ((s[i].toNat:Int)+32)))=byteCells (foldTo s (i+1)):=by
       rw[foldTo_step his,<-byteCells_set]
       congr 2
       simp only[lowB,if_pos hup]
       simp
       omega
      have hu1:(65:Int)<=s[i].toNat:=by omega
      have hu2:(s[i].toNat:Int)<=90:=by omega
      have hne:∀x,((byteCells (foldTo s i)).set i x).length=s.length:=by intro x;simp[hbl]
      have hnext:In59 h s (s.length-(i+1)) ⟨[(3,byteSl h.length s.length),(8,byteSl h.length s.length),(9,.int .i64 s.length),(10,.int .i64 (i+1:Nat))],h1.set h.length (.cells (byteCells (foldTo s (i+1))) 5 true)⟩:=by
       have hl:=lt_of_at hb
       refine⟨i+1,_,rfl,his,rfl,by rw[List.getElem?_set_self hl],⟨by simp;exact ho.1,fun c hc hn=>?_⟩⟩
       rw[List.getElem?_set_ne (by omega)]
       exact ho.2 c hc hn
      have hil:i+1<=s.length:=his
      simp[c59_l3,c59_r3,c59_r4,c59_r5,c59_r6,c59_r7,his,his',aindexAddr,aload,AM.row,hb,hbl,hcell,hget,hu1,hu2,hup,hw1,hw2,astore,hset,hwr,hil]
      exact⟨s.length-(i+1),by omega,by simpa using hnext⟩
    . have hlow:lowB s[i]=s[i]:=by simp only[lowB,if_neg hup]
      have hnext:In59 h s (s.length-(i+1)) ⟨[(3,byteSl h.length s.length),(8,byteSl h.length s.length),(9,.int .i64 s.length),(10,.int .i64 (i+1:Nat))],h1⟩:=
       ⟨i+1,_,rfl,his,rfl,by rw[foldTo_same his hlow];exact hb,ho⟩
      by_cases h65:65<=s[i].toNat
      . have h90:¬(s[i].toNat<=90):=fun h=>hup ⟨h65,h⟩
        have hu1:(65:Int)<=s[i].toNat:=by omega
        have hu2:¬((s[i].toNat:Int)<=90):=by omega
        simp[c59_l3,c59_r3,c59_r4,c59_r5,c59_r6,c59_r7,his,his',aindexAddr,aload,AM.row,hb,hbl,hcell,hget,hu1,hu2,h65,h90,hwr]
        exact⟨s.length-(i+1),by omega,by simpa using hnext⟩
      . have hu1:¬((65:Int)<=s[i].toNat):=by omega
        simp[c59_l3,c59_r3,c59_r4,c59_r5,c59_r6,c59_r7,his,his',aindexAddr,aload,AM.row,hb,hbl,hcell,hget,hu1,h65,hwr]
        exact⟨s.length-(i+1),by omega,by simpa using hnext⟩
  . have:i=s.length:=by omega
    subst this
    have hfull:foldTo s s.length=fold s:=by simp[foldTo,fold]
    rw[hfull] at hb hbl
    have ht:List.take s.length (byteCells (fold s))=byteCells (fold s):=List.take_of_length_le (by omega)
    simp[c59_l3,c59_r3,c59_r8,aconv,slCells,AM.row,hb,hbl,ht,cellBytes_all]
    exact ho
 obtain⟨r,h',h1,rfl,h2⟩:=key
 exact⟨h',h1,h2⟩
structure Cont where
 bytes:Txt
 nocase:Bool
 not:Bool
 offset:Int
 depth:Int
 rel:Bool
 distance:Int
 within:Int
abbrev contCell(c:Cont):List AV:=[.str c.bytes,.bool c.nocase,.bool c.not,.int .i64 c.offset,.int .i64 c.depth,.bool c.rel,.int .i64 c.distance,.int .i64 c.within]
abbrev Cont.av(c:Cont):AV:=.agg (contCell c)
structure Cont.small (c:Cont):Prop where
 b:c.bytes.length<=1000000
 o:-1000000<=c.offset/\c.offset<=1000000
 d:-1000000<=c.depth/\c.depth<=1000000
 di:-1000000<=c.distance/\c.distance<=1000000
 w:-1000000<=c.within/\c.within<=1000000
def patAt(p:Txt)(nc:Bool)(s:Txt)(e:Nat):Bool:=
 decide (p.length<=e)&&decide (e<=s.length)&&(decide ((s.drop (e-p.length)).take p.length=p) || (nc&&decide (fold ((s.drop (e-p.length)).take p.length)=fold p)))
def placed(c:Cont)(e:Nat):Bool:=c.rel || (decide (c.offset<=(e:Int)-c.bytes.length)&&(decide (c.depth<=0) || decide ((e:Int)<=c.offset+c.depth)))
def endsAt(c:Cont)(s:Txt)(e:Nat):Bool:=patAt c.bytes c.nocase s e&&placed c e
def followsB(c:Cont)(p e:Int):Bool:=decide (p<=e)&&decide (p+c.distance<=e-c.bytes.length)&&(decide (c.within<=0) || decide (e<=p+c.distance+c.within))
theorem append_byte{h:Heap}{b:Nat}{l:Txt}{x:UInt8}(hb:l.length≠0->h[b]?=some (.cells (byteCells l) 5 true))(hn:l.length<=1000000):
  ∃δ h',append2 Try.prog (look (h++[AObj.cells [.int .u8 x.toNat] 5 true])) (h.length+1) 25 25 [bufSl b l.length (byteCells l),.sl (some ⟨h.length,0,1⟩) 1 1]=some (bufSl (if l.length=0 then h.length+1 else b) (l++[x]).length (byteCells (l++[x])),δ)/\Heap.apply (h++[AObj.cells [.int .u8 x.toNat] 5 true]) δ=h' /\
   h'[if l.length=0 then h.length+1 else b]?=some (.cells (byteCells (l++[x])) 5 true)/\Only (fun c=>c=b/\l.length≠0) h h':=by
 obtain⟨δ,h',h1,h2,h3,h4⟩:=append_buf (t:=25) (e:=5) (k:=1) (by simp) (by simp) (by decide) (by simp) (by simp) (h:=h) (b:=b) (n:=l.length) (xs:=byteCells l) (ys:=[.int .u8 x.toNat]) (by simp) (by simp[byteCells]) hb hn
 have e:byteCells l++[AV.int .u8 x.toNat]=byteCells (l++[x]):=by simp[byteCells]
 rw[e] at h1 h3
 refine⟨δ,h',?_,h2,h3,h4⟩
 rw[h1]
 simp
def In60(h₀:Heap)(s:Txt)(m:Nat)(st:St):Prop:=∃i b h,m=s.length-i/\i<=s.length/\st=⟨[(0,.str s),(3,bufSl b (fold (s.take i)).length (byteCells (fold (s.take i)))),(4,.int .i64 (i:Nat))],h⟩ /\
 ((fold (s.take i)).length≠0->h[b]?=some (.cells (byteCells (fold (s.take i))) 5 true)/\h₀.length<=b)/\Only (fun _=>False) h₀ h
theorem fold_step{s:Txt}{i:Nat}(h:i<s.length):fold (s.take (i+1))=fold (s.take i)++[lowB s[i]]:=by
 rw[List.take_succ_eq_append_getElem h];unfold fold;rw[List.map_append];rfl
theorem fold_ref{h:Heap}{s:Txt}(hs:s.length<=1000000):∃h',D cfg 60 [.str s] h=some (.str (fold s),h')/\Only (fun _=>False) h h':=by
 have key:∃r h',D cfg 60 [.str s] h=some (r,h')/\(r=.str (fold s)/\Only (fun _=>False) h h'):=by
  refine call60 (R:=fun r h'=>r=.str (fold s)/\Only (fun _=>False) h h') (args:=[.str s]) (h:=h) (by simp) ?_
  simp[c60,c60_r0,c60_r1,c60_r2]
  refine Wt.loop (In60 h s) (m:=s.length) ⟨0,0,h,rfl,Nat.zero_le _,by simp[fold,bufSl],by simp[fold],.refl⟩ ?_
  rintro m st ⟨i,b,h1,rfl,hi,rfl,hb,ho⟩
  have hcut:cut (some [0,3,4]) [(0,.str s),(3,bufSl b (fold (s.take i)).length (byteCells (fold (s.take i)))),(4,.int .i64 (i:Nat))]=[(0,.str s),(3,bufSl b (fold (s.take i)).length (byteCells (fold (s.take i)))),(4,.int .i64 (i:Nat))]:=by simp
  simp only[hcut]
  by_cases his:i<s.length
  . have his':(i:Int)<s.length:=by omega
    have hwr:IntKind.wrap .i64 ((i:Int)+1)=i+1:=wrap_i64 (by omega) (by omega)
    have hcell:s[i]?=some s[i]:=List.getElem?_eq_getElem his
    have hu:=s[i].toNat_lt
    obtain⟨δ,h2,e2,e3,e4,o4⟩:=append_byte (h:=h1) (b:=b) (l:=fold (s.take i)) (x:=lowB s[i]) (fun hne=>(hb hne).1) (by rw[fold_len];simp;omega)
    rw[<-fold_step his] at e2 e4
    have hnext:In60 h s (s.length-(i+1)) ⟨[(0,.str s),(3,bufSl (if (fold (s.take i)).length=0 then h1.length+1 else b) (fold (s.take (i+1))).length (byteCells (fold (s.take (i+1))))),(4,.int .i64 (i+1:Nat))],h2⟩:=by
     refine⟨i+1,_,h2,rfl,his,rfl,fun _=>⟨e4,?_⟩,ho.fresh o4 fun c e=>by rw[e.1];exact (hb e.2).2⟩
     have:=ho.1
     split
     . omega
     . rename_i hne;exact (hb hne).2
    by_cases h65:65<=s[i].toNat
    . have hu1:(65:Int)<=s[i].toNat:=by omega
      by_cases h90:s[i].toNat<=90
      . have hlow:((lowB s[i]).toNat:Int)=s[i].toNat+32:=by simp only[lowB,if_pos (And.intro h65 h90)];simp;omega
        have hw:IntKind.wrap .u8 ((s[i].toNat:Int)+32)=s[i].toNat+32:=wrap_u8 (by omega) (by omega)
        have hu2:(s[i].toNat:Int)<=90:=by omega
        rw[hlow] at e2 e3
        simp[c60_l3,c60_r3,c60_r4,c60_r5,c60_r6,c60_r7,c60_r8,len1,alen,his,his',aindex,hcell,hu1,hu2,h65,h90,hw,abuildSlice,afill,zeros,e2,e3,hwr]
        exact⟨s.length-(i+1),by omega,by simpa using hnext⟩
      . have hlow:lowB s[i]=s[i]:=by simp only[lowB];rw[if_neg (fun h=>h90 h.2)]
        have hu2:¬((s[i].toNat:Int)<=90):=by omega
        rw[hlow] at e2 e3
        simp[c60_l3,c60_r3,c60_r4,c60_r5,c60_r6,c60_r7,c60_r8,len1,alen,his,his',aindex,hcell,hu1,hu2,h65,h90,abuildSlice,afill,zeros,e2,e3,hwr]
        exact⟨s.length-(i+1),by omega,by simpa using hnext⟩
    . have hlow:lowB s[i]=s[i]:=by simp only[lowB];rw[if_neg (fun h=>h65 h.1)]
      have hu1:¬((65:Int)<=s[i].toNat):=by omega
      rw[hlow] at e2 e3
      simp[c60_l3,c60_r3,c60_r4,c60_r5,c60_r6,c60_r7,c60_r8,len1,alen,his,his',aindex,hcell,hu1,h65,abuildSlice,afill,zeros,e2,e3,hwr]
      exact⟨s.length-(i+1),by omega,by simpa using hnext⟩
  . have:i=s.length:=by omega
    subst this
    rw[List.take_length] at hb ⊢
    by_cases h0:(fold s).length=0
    . have:fold s=[]:=List.length_eq_zero_iff.1 h0
      simp[c60_l3,c60_r3,c60_r9,len1,alen,aconv,this,bufSl]
      exact ho
    . obtain⟨hb1,hb2⟩:=hb h0
      have ht:List.take (fold s).length (byteCells (fold s))=byteCells (fold s):=List.take_of_length_le (by rw[byteCells_len];omega)
      have h0':0<(fold s).length:=by omega
      simp[c60_l3,c60_r3,c60_r9,len1,alen,aconv,bufSl,h0,h0',slCells,AM.row,hb1,byteCells_len,ht,cellBytes_all]
      exact ho
 obtain⟨r,h',h1,rfl,h2⟩:=key
 exact⟨h',h1,h2⟩
theorem alenS{L:Look}{s:Txt}:alen Try.prog L 9 (.str s)=some (.int .i64 s.length):=by simp[alen]
theorem at_ref{h:Heap}{p s:Txt}{nc:Bool}{e:Nat}(hp:p.length<=1000000)(hs:s.length<=1000000):∃h',D cfg 57 [.str p,.bool nc,.str s,.int .i64 e] h=some (.bool (patAt p nc s e),h')/\Only (fun _=>False) h h':=by
 have key:∃r h',D cfg 57 [.str p,.bool nc,.str s,.int .i64 e] h=some (r,h')/\(r=.bool (patAt p nc s e)/\Only (fun _=>False) h h'):=by
  refine call57 (R:=fun r h'=>r=.bool (patAt p nc s e)/\Only (fun _=>False) h h') (args:=[.str p,.bool nc,.str s,.int .i64 e]) (h:=h) (by simp) ?_
  by_cases h1:e<p.length
  . have h1':¬(p.length<=e):=by omega
    simp[c57,c57_r0,c57_r1,c57_r2,len1,alenS,h1,patAt,h1',Only.refl]
  . by_cases h2:s.length<e
    . have h2':¬(e<=s.length):=by omega
      simp[c57,c57_r0,c57_r1,c57_r2,len1,alenS,h1,h2,patAt,h2',Only.refl]
    . have h1':p.length<=e:=by omega
      have h2':e<=s.length:=by omega
      have hw:IntKind.wrap .i64 ((e:Int)-p.length)=((e-p.length:Nat):Int):=by rw[wrap_i64 (by omega) (by omega)];omega
      have hee:e-(e-p.length)=p.length:=by omega
      obtain⟨t,ht⟩:∃t,t=(s.drop (e-p.length)).take p.length:=⟨_,rfl⟩
      have hsl:List.take p.length (List.drop (e-p.length) s)=t:=ht.symm
      have htl:t.length<=1000000:=by rw[ht];simp;omega
      obtain⟨h3,e3,o3⟩:=fold_ref (h:=h) htl
      obtain⟨h4,e4,o4⟩:=fold_ref (h:=h3) hp
      have hm:e-p.length<=e:=by omega
      simp only[patAt]
      rw[<-ht]
      by_cases htp:t=p
      . simp[c57,c57_r0,c57_r1,c57_r2,c57_r3,c57_r4,len1,alenS,h1,h2,h1',h2',hw,aslice,bound,hee,hm,hsl,htp,Only.refl]
      . cases nc with
        |false=>simp[c57,c57_r0,c57_r1,c57_r2,c57_r3,c57_r4,len1,alenS,h1,h2,h1',h2',hw,aslice,bound,hee,hm,hsl,htp,Only.refl]
        |true=>
         simp[c57,c57_r0,c57_r1,c57_r2,c57_r3,c57_r4,len1,alenS,h1,h2,h1',h2',hw,aslice,bound,hee,hm,hsl,htp,e3,e4]
         exact o3.trans o4
 obtain⟨r,h',h1,rfl,h2⟩:=key
 exact⟨h',h1,h2⟩
theorem ends_ref{h:Heap}{c:Cont}(hc:c.small){s:Txt}{e:Nat}(hs:s.length<=1000000)(he:e<=2000000):∃h',D cfg 96 [c.av,.str s,.int .i64 e] h=some (.bool (endsAt c s e),h')/\Only (fun _=>False) h h':=by
 have key:∃r h',D cfg 96 [c.av,.str s,.int .i64 e] h=some (r,h')/\(r=.bool (endsAt c s e)/\Only (fun _=>False) h h'):=by
  refine call96 (R:=fun r h'=>r=.bool (endsAt c s e)/\Only (fun _=>False) h h') (args:=[c.av,.str s,.int .i64 e]) (h:=h) (by simp) ?_
  obtain⟨h2,e2,o2⟩:=at_ref (h:=h++[.cells (contCell c) 52 false]) (p:=c.bytes) (nc:=c.nocase) (s:=s) (e:=e) hc.b hs
  have ho:Only (fun _=>False) h h2:=Only.app.trans o2
  have hb:h2[h.length]?=some (.cells (contCell c) 52 false):=o2.at (by simp) id
  have hcd:=hc.d
  have hco:=hc.o
  have hcb:=hc.b
  cases hpat:patAt c.bytes c.nocase s e with
  |false=>
   rw[hpat] at e2
   simp[c96,c96_r0,c96_r1,c96_r2,fieldA,aload,AM.row,e2,endsAt,hpat]
   exact ho
  |true=>
   rw[hpat] at e2
   have hw1:IntKind.wrap .i64 ((e:Int)-c.bytes.length)=(e:Int)-c.bytes.length:=wrap_i64 (by omega) (by omega)
   have hw2:IntKind.wrap .i64 ((e:Int)-c.offset)=(e:Int)-c.offset:=wrap_i64 (by omega) (by omega)
   have hd1:((e:Int)-c.offset<=c.depth)=((e:Int)<=c.offset+c.depth):=by apply propext;constructor<;>intro h<;>omega
   cases hr:c.rel with
   |true=>
    simp[c96,c96_r0,c96_r1,c96_r2,c96_r3,fieldA,aload,AM.row,e2,endsAt,hpat,hb,placed,hr]
    exact ho
   |false=>
    by_cases h3:c.offset<=(e:Int)-c.bytes.length
    . by_cases h4:c.depth<=0
      . simp[c96,c96_r0,c96_r1,c96_r2,c96_r3,fieldA,aload,AM.row,e2,endsAt,hpat,hb,placed,hr,len1,alenS,hw1,hw2,h3,h4]
        exact ho
      . simp[c96,c96_r0,c96_r1,c96_r2,c96_r3,fieldA,aload,AM.row,e2,endsAt,hpat,hb,placed,hr,len1,alenS,hw1,hw2,h3,h4,hd1]
        exact ho
    . simp[c96,c96_r0,c96_r1,c96_r2,c96_r3,fieldA,aload,AM.row,e2,endsAt,hpat,hb,placed,hr,len1,alenS,hw1,hw2,h3]
      exact ho
 obtain⟨r,h',h1,rfl,h2⟩:=key
 exact⟨h',h1,h2⟩
theorem follows_ref{h:Heap}{c:Cont}(hc:c.small){p e:Nat}(hp:p<=2000000)(he:e<=2000000):∃h',D cfg 97 [c.av,.int .i64 p,.int .i64 e] h=some (.bool (followsB c p e),h')/\Only (fun _=>False) h h':=by
 have key:∃r h',D cfg 97 [c.av,.int .i64 p,.int .i64 e] h=some (r,h')/\(r=.bool (followsB c p e)/\Only (fun _=>False) h h'):=by
  refine call97 (R:=fun r h'=>r=.bool (followsB c p e)/\Only (fun _=>False) h h') (args:=[c.av,.int .i64 p,.int .i64 e]) (h:=h) (by simp) ?_
  have hcd:=hc.di
  have hcw:=hc.w
  have hcb:=hc.b
  have ho:Only (fun _=>False) h (h++[.cells (contCell c) 52 false]):=.app
  have hw1:IntKind.wrap .i64 ((e:Int)-c.bytes.length)=(e:Int)-c.bytes.length:=wrap_i64 (by omega) (by omega)
  have hw2:IntKind.wrap .i64 ((e:Int)-c.bytes.length-p)=(e:Int)-c.bytes.length-p:=wrap_i64 (by omega) (by omega)
  have hw3:IntKind.wrap .i64 ((e:Int)-p)=(e:Int)-p:=wrap_i64 (by omega) (by omega)
  have hw4:IntKind.wrap .i64 ((e:Int)-p-c.distance)=(e:Int)-p-c.distance:=wrap_i64 (by omega) (by omega)
  have hd1:(c.distance<=(e:Int)-c.bytes.length-p)=((p:Int)+c.distance<=e-c.bytes.length):=by apply propext;constructor<;>intro h<;>omega
  have hd2:((e:Int)-p-c.distance<=c.within)=((e:Int)<=p+c.distance+c.within):=by apply propext;constructor<;>intro h<;>omega
  by_cases h1:p<=e
  . by_cases h2:(p:Int)+c.distance<=e-c.bytes.length
    . by_cases h3:c.within<=0
      . simp[c97,c97_r0,c97_r1,fieldA,aload,AM.row,len1,alenS,hw1,hw2,hw3,hw4,hd1,hd2,h1,h2,h3,followsB]
        exact ho
      . simp[c97,c97_r0,c97_r1,fieldA,aload,AM.row,len1,alenS,hw1,hw2,hw3,hw4,hd1,hd2,h1,h2,h3,followsB]
        exact ho
    . simp[c97,c97_r0,c97_r1,fieldA,aload,AM.row,len1,alenS,hw1,hw2,hw3,hw4,hd1,hd2,h1,h2,followsB]
      exact ho
  . simp[c97,c97_r0,c97_r1,fieldA,aload,AM.row,h1,followsB]
    exact ho
 obtain⟨r,h',h1,rfl,h2⟩:=key
 exact⟨h',h1,h2⟩
theorem contLoads{h:Heap}{b:Nat}{c:Cont}{g:Bool}(hb:h[b]?=some (.cells (contCell c) 52 g)):
  aload Try.prog (look h) 9 (.ptr (some ⟨b,0,8⟩))=some (.str c.bytes)/\aload Try.prog (look h) 4 (.ptr (some ⟨b,1,8⟩))=some (.bool c.nocase)/\aload Try.prog (look h) 4 (.ptr (some ⟨b,2,8⟩))=some (.bool c.not) /\
  aload Try.prog (look h) 3 (.ptr (some ⟨b,3,8⟩))=some (.int .i64 c.offset)/\aload Try.prog (look h) 3 (.ptr (some ⟨b,4,8⟩))=some (.int .i64 c.depth)/\aload Try.prog (look h) 4 (.ptr (some ⟨b,5,8⟩))=some (.bool c.rel) /\
  aload Try.prog (look h) 3 (.ptr (some ⟨b,6,8⟩))=some (.int .i64 c.distance)/\aload Try.prog (look h) 3 (.ptr (some ⟨b,7,8⟩))=some (.int .i64 c.within)/\aload Try.prog (look h) 52 (.ptr (some ⟨b,0,8⟩))=some c.av:=by
 simp[aload,AM.row,hb]
def behindB(c:Cont)(e:Int)(l:List Int):Bool:=l.any fun p=>followsB c p e
end Go.AM

