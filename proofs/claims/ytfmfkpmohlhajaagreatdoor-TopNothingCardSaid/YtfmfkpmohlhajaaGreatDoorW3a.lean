/-
  What the law TopNothing stands on, part 1.
-/
import Derived.Test.YtfmfkpmohlhajaaGreatDoorV3G
import Derived.Test.YtfmfkpmohlhajaaGreatDoorV3T
import Derived.Test.YtfmfkpmohlhajaaGreatDoorRows
import Derived.ProofKit
import Derived.Stop.Joined
import Derived.Test.YtfmfkpmohlhajaaGreatDoorAMb
import Derived.RangeFuncRecord
import Derived.Test.YtfmfkpmohlhajaaGreatDoorProg
namespace Go.AM
open Go Go.Proofs Go.RowKit
set_option linter.unusedVariables false
set_option linter.unusedSimpArgs false
set_option maxRecDepth 100000
theorem call7 {args : List AV} {h : Heap} {R : AV → Heap → Prop} (hn : args.length ≤ 37) (hw : Wt Tryz.prog (D cfg) c7 ⟨argsEnv 0 args, h⟩ (Ends Tryz.prog [.tmp 4] R)) : ∃ r h', D cfg 7 args h = some (r, h') ∧ R r h' :=
 let ⟨_, hb, hk⟩ := c7_eq
 W.calls (c := cfg) rfl c7_fn hb hk c7_rs (by rw [c7_nt]; exact hn) hw
theorem call8 {args : List AV} {h : Heap} {R : AV → Heap → Prop} (hn : args.length ≤ 15) (hw : Wt Tryz.prog (D cfg) c8 ⟨argsEnv 0 args, h⟩ (Ends Tryz.prog [.tmp 4] R)) : ∃ r h', D cfg 8 args h = some (r, h') ∧ R r h' :=
 let ⟨_, hb, hk⟩ := c8_eq
 W.calls (c := cfg) rfl c8_fn hb hk c8_rs (by rw [c8_nt]; exact hn) hw
theorem call9 {args : List AV} {h : Heap} {R : AV → Heap → Prop} (hn : args.length ≤ 20) (hw : Wt Tryz.prog (D cfg) c9 ⟨argsEnv 0 args, h⟩ (Ends Tryz.prog [.tmp 4] R)) : ∃ r h', D cfg 9 args h = some (r, h') ∧ R r h' :=
 let ⟨_, hb, hk⟩ := c9_eq
 W.calls (c := cfg) rfl c9_fn hb hk c9_rs (by rw [c9_nt]; exact hn) hw
theorem call10 {args : List AV} {h : Heap} {R : AV → Heap → Prop} (hn : args.length ≤ 108) (hw : Wt Tryz.prog (D cfg) c10 ⟨argsEnv 0 args, h⟩ (Ends Tryz.prog [.tmp 8] R)) : ∃ r h', D cfg 10 args h = some (r, h') ∧ R r h' :=
 let ⟨_, hb, hk⟩ := c10_eq
 W.calls (c := cfg) rfl c10_fn hb hk c10_rs (by rw [c10_nt]; exact hn) hw
theorem call11 {args : List AV} {h : Heap} {R : AV → Heap → Prop} (hn : args.length ≤ 35) (hw : Wt Tryz.prog (D cfg) c11 ⟨argsEnv 0 args, h⟩ (Ends Tryz.prog [.tmp 12] R)) : ∃ r h', D cfg 11 args h = some (r, h') ∧ R r h' :=
 let ⟨_, hb, hk⟩ := c11_eq
 W.calls (c := cfg) rfl c11_fn hb hk c11_rs (by rw [c11_nt]; exact hn) hw
theorem call13 {args : List AV} {h : Heap} {R : AV → Heap → Prop} (hn : args.length ≤ 2) (hw : Wt Tryz.prog (D cfg) c13 ⟨argsEnv 0 args, h⟩ (Ends Tryz.prog [.cell 0 40] R)) : ∃ r h', D cfg 13 args h = some (r, h') ∧ R r h' :=
 let ⟨_, hb, hk⟩ := c13_eq
 W.calls (c := cfg) rfl c13_fn hb hk c13_rs (by rw [c13_nt]; exact hn) hw
theorem call14 {args : List AV} {h : Heap} {R : AV → Heap → Prop} (hn : args.length ≤ 6) (hw : Wt Tryz.prog (D cfg) c14 ⟨argsEnv 0 args, h⟩ (Ends Tryz.prog [.cell 2 43] R)) : ∃ r h', D cfg 14 args h = some (r, h') ∧ R r h' :=
 let ⟨_, hb, hk⟩ := c14_eq
 W.calls (c := cfg) rfl c14_fn hb hk c14_rs (by rw [c14_nt]; exact hn) hw
theorem call16 {args : List AV} {h : Heap} {R : AV → Heap → Prop} (hn : args.length ≤ 18) (hw : Wt Tryz.prog (D cfg) c16 ⟨argsEnv 0 args, h⟩ (Ends Tryz.prog [.tmp 2] R)) : ∃ r h', D cfg 16 args h = some (r, h') ∧ R r h' :=
 let ⟨_, hb, hk⟩ := c16_eq
 W.calls (c := cfg) rfl c16_fn hb hk c16_rs (by rw [c16_nt]; exact hn) hw
theorem call18 {args : List AV} {h : Heap} {R : AV → Heap → Prop} (hn : args.length ≤ 27) (hw : Wt Tryz.prog (D cfg) c18 ⟨argsEnv 0 args, h⟩ (Ends Tryz.prog [.tmp 8] R)) : ∃ r h', D cfg 18 args h = some (r, h') ∧ R r h' :=
 let ⟨_, hb, hk⟩ := c18_eq
 W.calls (c := cfg) rfl c18_fn hb hk c18_rs (by rw [c18_nt]; exact hn) hw
theorem call19 {args : List AV} {h : Heap} {R : AV → Heap → Prop} (hn : args.length ≤ 16) (hw : Wt Tryz.prog (D cfg) c19 ⟨argsEnv 0 args, h⟩ (Ends Tryz.prog [.cell 2 60] R)) : ∃ r h', D cfg 19 args h = some (r, h') ∧ R r h' :=
 let ⟨_, hb, hk⟩ := c19_eq
 W.calls (c := cfg) rfl c19_fn hb hk c19_rs (by rw [c19_nt]; exact hn) hw
theorem call20 {args : List AV} {h : Heap} {R : AV → Heap → Prop} (hn : args.length ≤ 17) (hw : Wt Tryz.prog (D cfg) c20 ⟨argsEnv 0 args, h⟩ (Ends Tryz.prog [.cell 4 63] R)) : ∃ r h', D cfg 20 args h = some (r, h') ∧ R r h' :=
 let ⟨_, hb, hk⟩ := c20_eq
 W.calls (c := cfg) rfl c20_fn hb hk c20_rs (by rw [c20_nt]; exact hn) hw
theorem call21 {args : List AV} {h : Heap} {R : AV → Heap → Prop} (hn : args.length ≤ 24) (hw : Wt Tryz.prog (D cfg) c21 ⟨argsEnv 0 args, h⟩ (Ends Tryz.prog [.tmp 2, .tmp 3] R)) : ∃ r h', D cfg 21 args h = some (r, h') ∧ R r h' :=
 let ⟨_, hb, hk⟩ := c21_eq
 W.calls (c := cfg) rfl c21_fn hb hk c21_rs (by rw [c21_nt]; exact hn) hw
theorem call23 {args : List AV} {h : Heap} {R : AV → Heap → Prop} (hn : args.length ≤ 7) (hw : Wt Tryz.prog (D cfg) c23 ⟨argsEnv 0 args, h⟩ (Ends Tryz.prog [.cell 2 35] R)) : ∃ r h', D cfg 23 args h = some (r, h') ∧ R r h' :=
 let ⟨_, hb, hk⟩ := c23_eq
 W.calls (c := cfg) rfl c23_fn hb hk c23_rs (by rw [c23_nt]; exact hn) hw
theorem call24 {args : List AV} {h : Heap} {R : AV → Heap → Prop} (hn : args.length ≤ 4) (hw : Wt Tryz.prog (D cfg) c24 ⟨argsEnv 0 args, h⟩ (Ends Tryz.prog [.tmp 2] R)) : ∃ r h', D cfg 24 args h = some (r, h') ∧ R r h' :=
 let ⟨_, hb, hk⟩ := c24_eq
 W.calls (c := cfg) rfl c24_fn hb hk c24_rs (by rw [c24_nt]; exact hn) hw
theorem call25 {args : List AV} {h : Heap} {R : AV → Heap → Prop} (hn : args.length ≤ 17) (hw : Wt Tryz.prog (D cfg) c25 ⟨argsEnv 0 args, h⟩ (Ends Tryz.prog [.tmp 6] R)) : ∃ r h', D cfg 25 args h = some (r, h') ∧ R r h' :=
 let ⟨_, hb, hk⟩ := c25_eq
 W.calls (c := cfg) rfl c25_fn hb hk c25_rs (by rw [c25_nt]; exact hn) hw
theorem call27 {args : List AV} {h : Heap} {R : AV → Heap → Prop} (hn : args.length ≤ 74) (hw : Wt Tryz.prog (D cfg) c27 ⟨argsEnv 0 args, h⟩ (Ends Tryz.prog [.tmp 8, .tmp 9] R)) : ∃ r h', D cfg 27 args h = some (r, h') ∧ R r h' :=
 let ⟨_, hb, hk⟩ := c27_eq
 W.calls (c := cfg) rfl c27_fn hb hk c27_rs (by rw [c27_nt]; exact hn) hw
theorem call28 {args : List AV} {h : Heap} {R : AV → Heap → Prop} (hn : args.length ≤ 20) (hw : Wt Tryz.prog (D cfg) c28 ⟨argsEnv 0 args, h⟩ (Ends Tryz.prog [.tmp 6] R)) : ∃ r h', D cfg 28 args h = some (r, h') ∧ R r h' :=
 let ⟨_, hb, hk⟩ := c28_eq
 W.calls (c := cfg) rfl c28_fn hb hk c28_rs (by rw [c28_nt]; exact hn) hw
theorem call29 {args : List AV} {h : Heap} {R : AV → Heap → Prop} (hn : args.length ≤ 48) (hw : Wt Tryz.prog (D cfg) c29 ⟨argsEnv 0 args, h⟩ (Ends Tryz.prog [.tmp 2] R)) : ∃ r h', D cfg 29 args h = some (r, h') ∧ R r h' :=
 let ⟨_, hb, hk⟩ := c29_eq
 W.calls (c := cfg) rfl c29_fn hb hk c29_rs (by rw [c29_nt]; exact hn) hw
theorem call30 {args : List AV} {h : Heap} {R : AV → Heap → Prop} (hn : args.length ≤ 12) (hw : Wt Tryz.prog (D cfg) c30 ⟨argsEnv 0 args, h⟩ (Ends Tryz.prog [.tmp 4] R)) : ∃ r h', D cfg 30 args h = some (r, h') ∧ R r h' :=
 let ⟨_, hb, hk⟩ := c30_eq
 W.calls (c := cfg) rfl c30_fn hb hk c30_rs (by rw [c30_nt]; exact hn) hw
theorem call31 {args : List AV} {h : Heap} {R : AV → Heap → Prop} (hn : args.length ≤ 24) (hw : Wt Tryz.prog (D cfg) c31 ⟨argsEnv 0 args, h⟩ (Ends Tryz.prog [.tmp 4] R)) : ∃ r h', D cfg 31 args h = some (r, h') ∧ R r h' :=
 let ⟨_, hb, hk⟩ := c31_eq
 W.calls (c := cfg) rfl c31_fn hb hk c31_rs (by rw [c31_nt]; exact hn) hw
theorem call32 {args : List AV} {h : Heap} {R : AV → Heap → Prop} (hn : args.length ≤ 15) (hw : Wt Tryz.prog (D cfg) c32 ⟨argsEnv 0 args, h⟩ (Ends Tryz.prog [.tmp 2] R)) : ∃ r h', D cfg 32 args h = some (r, h') ∧ R r h' :=
 let ⟨_, hb, hk⟩ := c32_eq
 W.calls (c := cfg) rfl c32_fn hb hk c32_rs (by rw [c32_nt]; exact hn) hw
theorem call43 {args : List AV} {h : Heap} {R : AV → Heap → Prop} (hn : args.length ≤ 64) (hw : Wt Tryz.prog (D cfg) c43 ⟨argsEnv 0 args, h⟩ (Ends Tryz.prog [.cell 2 78, .tmp 3] R)) : ∃ r h', D cfg 43 args h = some (r, h') ∧ R r h' :=
 let ⟨_, hb, hk⟩ := c43_eq
 W.calls (c := cfg) rfl c43_fn hb hk c43_rs (by rw [c43_nt]; exact hn) hw
theorem call44 {args : List AV} {h : Heap} {R : AV → Heap → Prop} (hn : args.length ≤ 10) (hw : Wt Tryz.prog (D cfg) c44 ⟨argsEnv 0 args, h⟩ (Ends Tryz.prog [.tmp 4] R)) : ∃ r h', D cfg 44 args h = some (r, h') ∧ R r h' :=
 let ⟨_, hb, hk⟩ := c44_eq
 W.calls (c := cfg) rfl c44_fn hb hk c44_rs (by rw [c44_nt]; exact hn) hw
theorem call45 {args : List AV} {h : Heap} {R : AV → Heap → Prop} (hn : args.length ≤ 9) (hw : Wt Tryz.prog (D cfg) c45 ⟨argsEnv 0 args, h⟩ (Ends Tryz.prog [.tmp 4] R)) : ∃ r h', D cfg 45 args h = some (r, h') ∧ R r h' :=
 let ⟨_, hb, hk⟩ := c45_eq
 W.calls (c := cfg) rfl c45_fn hb hk c45_rs (by rw [c45_nt]; exact hn) hw
theorem call46 {args : List AV} {h : Heap} {R : AV → Heap → Prop} (hn : args.length ≤ 54) (hw : Wt Tryz.prog (D cfg) c46 ⟨argsEnv 0 args, h⟩ (Ends Tryz.prog [.tmp 2] R)) : ∃ r h', D cfg 46 args h = some (r, h') ∧ R r h' :=
 let ⟨_, hb, hk⟩ := c46_eq
 W.calls (c := cfg) rfl c46_fn hb hk c46_rs (by rw [c46_nt]; exact hn) hw
theorem call47 {args : List AV} {h : Heap} {R : AV → Heap → Prop} (hn : args.length ≤ 25) (hw : Wt Tryz.prog (D cfg) c47 ⟨argsEnv 0 args, h⟩ (Ends Tryz.prog [.tmp 4] R)) : ∃ r h', D cfg 47 args h = some (r, h') ∧ R r h' :=
 let ⟨_, hb, hk⟩ := c47_eq
 W.calls (c := cfg) rfl c47_fn hb hk c47_rs (by rw [c47_nt]; exact hn) hw
theorem call48 {args : List AV} {h : Heap} {R : AV → Heap → Prop} (hn : args.length ≤ 26) (hw : Wt Tryz.prog (D cfg) c48 ⟨argsEnv 0 args, h⟩ (Ends Tryz.prog [.tmp 8] R)) : ∃ r h', D cfg 48 args h = some (r, h') ∧ R r h' :=
 let ⟨_, hb, hk⟩ := c48_eq
 W.calls (c := cfg) rfl c48_fn hb hk c48_rs (by rw [c48_nt]; exact hn) hw
theorem call49 {args : List AV} {h : Heap} {R : AV → Heap → Prop} (hn : args.length ≤ 86) (hw : Wt Tryz.prog (D cfg) c49 ⟨argsEnv 0 args, h⟩ (Ends Tryz.prog [.tmp 4, .tmp 5] R)) : ∃ r h', D cfg 49 args h = some (r, h') ∧ R r h' :=
 let ⟨_, hb, hk⟩ := c49_eq
 W.calls (c := cfg) rfl c49_fn hb hk c49_rs (by rw [c49_nt]; exact hn) hw
theorem call50 {args : List AV} {h : Heap} {R : AV → Heap → Prop} (hn : args.length ≤ 18) (hw : Wt Tryz.prog (D cfg) c50 ⟨argsEnv 0 args, h⟩ (Ends Tryz.prog [.tmp 4] R)) : ∃ r h', D cfg 50 args h = some (r, h') ∧ R r h' :=
 let ⟨_, hb, hk⟩ := c50_eq
 W.calls (c := cfg) rfl c50_fn hb hk c50_rs (by rw [c50_nt]; exact hn) hw
theorem call51 {args : List AV} {h : Heap} {R : AV → Heap → Prop} (hn : args.length ≤ 15) (hw : Wt Tryz.prog (D cfg) c51 ⟨argsEnv 0 args, h⟩ (Ends Tryz.prog [.tmp 6] R)) : ∃ r h', D cfg 51 args h = some (r, h') ∧ R r h' :=
 let ⟨_, hb, hk⟩ := c51_eq
 W.calls (c := cfg) rfl c51_fn hb hk c51_rs (by rw [c51_nt]; exact hn) hw
theorem call52 {args : List AV} {h : Heap} {R : AV → Heap → Prop} (hn : args.length ≤ 9) (hw : Wt Tryz.prog (D cfg) c52 ⟨argsEnv 0 args, h⟩ (Ends Tryz.prog [.tmp 4] R)) : ∃ r h', D cfg 52 args h = some (r, h') ∧ R r h' :=
 let ⟨_, hb, hk⟩ := c52_eq
 W.calls (c := cfg) rfl c52_fn hb hk c52_rs (by rw [c52_nt]; exact hn) hw
theorem call53 {args : List AV} {h : Heap} {R : AV → Heap → Prop} (hn : args.length ≤ 9) (hw : Wt Tryz.prog (D cfg) c53 ⟨argsEnv 0 args, h⟩ (Ends Tryz.prog [.tmp 4] R)) : ∃ r h', D cfg 53 args h = some (r, h') ∧ R r h' :=
 let ⟨_, hb, hk⟩ := c53_eq
 W.calls (c := cfg) rfl c53_fn hb hk c53_rs (by rw [c53_nt]; exact hn) hw
theorem call55 {args : List AV} {h : Heap} {R : AV → Heap → Prop} (hn : args.length ≤ 49) (hw : Wt Tryz.prog (D cfg) c55 ⟨argsEnv 0 args, h⟩ (Ends Tryz.prog [.tmp 4] R)) : ∃ r h', D cfg 55 args h = some (r, h') ∧ R r h' :=
 let ⟨_, hb, hk⟩ := c55_eq
 W.calls (c := cfg) rfl c55_fn hb hk c55_rs (by rw [c55_nt]; exact hn) hw
theorem call56 {args : List AV} {h : Heap} {R : AV → Heap → Prop} (hn : args.length ≤ 18) (hw : Wt Tryz.prog (D cfg) c56 ⟨argsEnv 0 args, h⟩ (Ends Tryz.prog [.tmp 4] R)) : ∃ r h', D cfg 56 args h = some (r, h') ∧ R r h' :=
 let ⟨_, hb, hk⟩ := c56_eq
 W.calls (c := cfg) rfl c56_fn hb hk c56_rs (by rw [c56_nt]; exact hn) hw
theorem call57 {args : List AV} {h : Heap} {R : AV → Heap → Prop} (hn : args.length ≤ 32) (hw : Wt Tryz.prog (D cfg) c57 ⟨argsEnv 0 args, h⟩ (Ends Tryz.prog [.tmp 4] R)) : ∃ r h', D cfg 57 args h = some (r, h') ∧ R r h' :=
 let ⟨_, hb, hk⟩ := c57_eq
 W.calls (c := cfg) rfl c57_fn hb hk c57_rs (by rw [c57_nt]; exact hn) hw
theorem call58 {args : List AV} {h : Heap} {R : AV → Heap → Prop} (hn : args.length ≤ 77) (hw : Wt Tryz.prog (D cfg) c58 ⟨argsEnv 0 args, h⟩ (Ends Tryz.prog [.tmp 4] R)) : ∃ r h', D cfg 58 args h = some (r, h') ∧ R r h' :=
 let ⟨_, hb, hk⟩ := c58_eq
 W.calls (c := cfg) rfl c58_fn hb hk c58_rs (by rw [c58_nt]; exact hn) hw
theorem call59 {args : List AV} {h : Heap} {R : AV → Heap → Prop} (hn : args.length ≤ 149) (hw : Wt Tryz.prog (D cfg) c59 ⟨argsEnv 0 args, h⟩ (Ends Tryz.prog [.tmp 4] R)) : ∃ r h', D cfg 59 args h = some (r, h') ∧ R r h' :=
 let ⟨_, hb, hk⟩ := c59_eq
 W.calls (c := cfg) rfl c59_fn hb hk c59_rs (by rw [c59_nt]; exact hn) hw
theorem call60 {args : List AV} {h : Heap} {R : AV → Heap → Prop} (hn : args.length ≤ 19) (hw : Wt Tryz.prog (D cfg) c60 ⟨argsEnv 0 args, h⟩ (Ends Tryz.prog [.tmp 4] R)) : ∃ r h', D cfg 60 args h = some (r, h') ∧ R r h' :=
 let ⟨_, hb, hk⟩ := c60_eq
 W.calls (c := cfg) rfl c60_fn hb hk c60_rs (by rw [c60_nt]; exact hn) hw
theorem call61 {args : List AV} {h : Heap} {R : AV → Heap → Prop} (hn : args.length ≤ 151) (hw : Wt Tryz.prog (D cfg) c61 ⟨argsEnv 0 args, h⟩ (Ends Tryz.prog [.tmp 4] R)) : ∃ r h', D cfg 61 args h = some (r, h') ∧ R r h' :=
 let ⟨_, hb, hk⟩ := c61_eq
 W.calls (c := cfg) rfl c61_fn hb hk c61_rs (by rw [c61_nt]; exact hn) hw
theorem call62 {args : List AV} {h : Heap} {R : AV → Heap → Prop} (hn : args.length ≤ 17) (hw : Wt Tryz.prog (D cfg) c62 ⟨argsEnv 0 args, h⟩ (Ends Tryz.prog [.tmp 4] R)) : ∃ r h', D cfg 62 args h = some (r, h') ∧ R r h' :=
 let ⟨_, hb, hk⟩ := c62_eq
 W.calls (c := cfg) rfl c62_fn hb hk c62_rs (by rw [c62_nt]; exact hn) hw
theorem call63 {args : List AV} {h : Heap} {R : AV → Heap → Prop} (hn : args.length ≤ 137) (hw : Wt Tryz.prog (D cfg) c63 ⟨argsEnv 0 args, h⟩ (Ends Tryz.prog [.tmp 4] R)) : ∃ r h', D cfg 63 args h = some (r, h') ∧ R r h' :=
 let ⟨_, hb, hk⟩ := c63_eq
 W.calls (c := cfg) rfl c63_fn hb hk c63_rs (by rw [c63_nt]; exact hn) hw
theorem call71 {args : List AV} {h : Heap} {R : AV → Heap → Prop} (hn : args.length ≤ 73) (hw : Wt Tryz.prog (D cfg) c71 ⟨argsEnv 0 args, h⟩ (Ends Tryz.prog [.tmp 4, .tmp 5] R)) : ∃ r h', D cfg 71 args h = some (r, h') ∧ R r h' :=
 let ⟨_, hb, hk⟩ := c71_eq
 W.calls (c := cfg) rfl c71_fn hb hk c71_rs (by rw [c71_nt]; exact hn) hw
theorem call76 {args : List AV} {h : Heap} {R : AV → Heap → Prop} (hn : args.length ≤ 32) (hw : Wt Tryz.prog (D cfg) c76 ⟨argsEnv 0 args, h⟩ (Ends Tryz.prog [.cell 2 60, .tmp 3, .tmp 4] R)) : ∃ r h', D cfg 76 args h = some (r, h') ∧ R r h' :=
 let ⟨_, hb, hk⟩ := c76_eq
 W.calls (c := cfg) rfl c76_fn hb hk c76_rs (by rw [c76_nt]; exact hn) hw
theorem call77 {args : List AV} {h : Heap} {R : AV → Heap → Prop} (hn : args.length ≤ 67) (hw : Wt Tryz.prog (D cfg) c77 ⟨argsEnv 0 args, h⟩ (Ends Tryz.prog [.cell 2 63, .tmp 3, .tmp 4] R)) : ∃ r h', D cfg 77 args h = some (r, h') ∧ R r h' :=
 let ⟨_, hb, hk⟩ := c77_eq
 W.calls (c := cfg) rfl c77_fn hb hk c77_rs (by rw [c77_nt]; exact hn) hw
theorem call78 {args : List AV} {h : Heap} {R : AV → Heap → Prop} (hn : args.length ≤ 69) (hw : Wt Tryz.prog (D cfg) c78 ⟨argsEnv 0 args, h⟩ (Ends Tryz.prog [.cell 6 56, .tmp 7, .tmp 8] R)) : ∃ r h', D cfg 78 args h = some (r, h') ∧ R r h' :=
 let ⟨_, hb, hk⟩ := c78_eq
 W.calls (c := cfg) rfl c78_fn hb hk c78_rs (by rw [c78_nt]; exact hn) hw
theorem call79 {args : List AV} {h : Heap} {R : AV → Heap → Prop} (hn : args.length ≤ 5) (hw : Wt Tryz.prog (D cfg) c79 ⟨argsEnv 0 args, h⟩ (Ends Tryz.prog [.tmp 2] R)) : ∃ r h', D cfg 79 args h = some (r, h') ∧ R r h' :=
 let ⟨_, hb, hk⟩ := c79_eq
 W.calls (c := cfg) rfl c79_fn hb hk c79_rs (by rw [c79_nt]; exact hn) hw
theorem call80 {args : List AV} {h : Heap} {R : AV → Heap → Prop} (hn : args.length ≤ 5) (hw : Wt Tryz.prog (D cfg) c80 ⟨argsEnv 0 args, h⟩ (Ends Tryz.prog [.tmp 2] R)) : ∃ r h', D cfg 80 args h = some (r, h') ∧ R r h' :=
 let ⟨_, hb, hk⟩ := c80_eq
 W.calls (c := cfg) rfl c80_fn hb hk c80_rs (by rw [c80_nt]; exact hn) hw
theorem call81 {args : List AV} {h : Heap} {R : AV → Heap → Prop} (hn : args.length ≤ 5) (hw : Wt Tryz.prog (D cfg) c81 ⟨argsEnv 0 args, h⟩ (Ends Tryz.prog [.tmp 2] R)) : ∃ r h', D cfg 81 args h = some (r, h') ∧ R r h' :=
 let ⟨_, hb, hk⟩ := c81_eq
 W.calls (c := cfg) rfl c81_fn hb hk c81_rs (by rw [c81_nt]; exact hn) hw
theorem call82 {args : List AV} {h : Heap} {R : AV → Heap → Prop} (hn : args.length ≤ 34) (hw : Wt Tryz.prog (D cfg) c82 ⟨argsEnv 0 args, h⟩ (Ends Tryz.prog [.tmp 2] R)) : ∃ r h', D cfg 82 args h = some (r, h') ∧ R r h' :=
 let ⟨_, hb, hk⟩ := c82_eq
 W.calls (c := cfg) rfl c82_fn hb hk c82_rs (by rw [c82_nt]; exact hn) hw
theorem call83 {args : List AV} {h : Heap} {R : AV → Heap → Prop} (hn : args.length ≤ 70) (hw : Wt Tryz.prog (D cfg) c83 ⟨argsEnv 0 args, h⟩ (Ends Tryz.prog [.tmp 2] R)) : ∃ r h', D cfg 83 args h = some (r, h') ∧ R r h' :=
 let ⟨_, hb, hk⟩ := c83_eq
 W.calls (c := cfg) rfl c83_fn hb hk c83_rs (by rw [c83_nt]; exact hn) hw
theorem call84 {args : List AV} {h : Heap} {R : AV → Heap → Prop} (hn : args.length ≤ 17) (hw : Wt Tryz.prog (D cfg) c84 ⟨argsEnv 0 args, h⟩ (Ends Tryz.prog [.tmp 2] R)) : ∃ r h', D cfg 84 args h = some (r, h') ∧ R r h' :=
 let ⟨_, hb, hk⟩ := c84_eq
 W.calls (c := cfg) rfl c84_fn hb hk c84_rs (by rw [c84_nt]; exact hn) hw
theorem call85 {args : List AV} {h : Heap} {R : AV → Heap → Prop} (hn : args.length ≤ 8) (hw : Wt Tryz.prog (D cfg) c85 ⟨argsEnv 0 args, h⟩ (Ends Tryz.prog [.tmp 2] R)) : ∃ r h', D cfg 85 args h = some (r, h') ∧ R r h' :=
 let ⟨_, hb, hk⟩ := c85_eq
 W.calls (c := cfg) rfl c85_fn hb hk c85_rs (by rw [c85_nt]; exact hn) hw
theorem call86 {args : List AV} {h : Heap} {R : AV → Heap → Prop} (hn : args.length ≤ 20) (hw : Wt Tryz.prog (D cfg) c86 ⟨argsEnv 0 args, h⟩ (Ends Tryz.prog [.tmp 6] R)) : ∃ r h', D cfg 86 args h = some (r, h') ∧ R r h' :=
 let ⟨_, hb, hk⟩ := c86_eq
 W.calls (c := cfg) rfl c86_fn hb hk c86_rs (by rw [c86_nt]; exact hn) hw
theorem call90 {args : List AV} {h : Heap} {R : AV → Heap → Prop} (hn : args.length ≤ 20) (hw : Wt Tryz.prog (D cfg) c90 ⟨argsEnv 0 args, h⟩ (Ends Tryz.prog [.tmp 6] R)) : ∃ r h', D cfg 90 args h = some (r, h') ∧ R r h' :=
 let ⟨_, hb, hk⟩ := c90_eq
 W.calls (c := cfg) rfl c90_fn hb hk c90_rs (by rw [c90_nt]; exact hn) hw
theorem call91 {args : List AV} {h : Heap} {R : AV → Heap → Prop} (hn : args.length ≤ 12) (hw : Wt Tryz.prog (D cfg) c91 ⟨argsEnv 0 args, h⟩ (Ends Tryz.prog [.tmp 4] R)) : ∃ r h', D cfg 91 args h = some (r, h') ∧ R r h' :=
 let ⟨_, hb, hk⟩ := c91_eq
 W.calls (c := cfg) rfl c91_fn hb hk c91_rs (by rw [c91_nt]; exact hn) hw
theorem call92 {args : List AV} {h : Heap} {R : AV → Heap → Prop} (hn : args.length ≤ 32) (hw : Wt Tryz.prog (D cfg) c92 ⟨argsEnv 0 args, h⟩ (Ends Tryz.prog [.tmp 4, .tmp 5, .tmp 6] R)) : ∃ r h', D cfg 92 args h = some (r, h') ∧ R r h' :=
 let ⟨_, hb, hk⟩ := c92_eq
 W.calls (c := cfg) rfl c92_fn hb hk c92_rs (by rw [c92_nt]; exact hn) hw
theorem call93 {args : List AV} {h : Heap} {R : AV → Heap → Prop} (hn : args.length ≤ 72) (hw : Wt Tryz.prog (D cfg) c93 ⟨argsEnv 0 args, h⟩ (Ends Tryz.prog [.tmp 4, .tmp 5] R)) : ∃ r h', D cfg 93 args h = some (r, h') ∧ R r h' :=
 let ⟨_, hb, hk⟩ := c93_eq
 W.calls (c := cfg) rfl c93_fn hb hk c93_rs (by rw [c93_nt]; exact hn) hw
theorem call94 {args : List AV} {h : Heap} {R : AV → Heap → Prop} (hn : args.length ≤ 27) (hw : Wt Tryz.prog (D cfg) c94 ⟨argsEnv 0 args, h⟩ (Ends Tryz.prog [.tmp 6] R)) : ∃ r h', D cfg 94 args h = some (r, h') ∧ R r h' :=
 let ⟨_, hb, hk⟩ := c94_eq
 W.calls (c := cfg) rfl c94_fn hb hk c94_rs (by rw [c94_nt]; exact hn) hw
theorem call95 {args : List AV} {h : Heap} {R : AV → Heap → Prop} (hn : args.length ≤ 128) (hw : Wt Tryz.prog (D cfg) c95 ⟨argsEnv 0 args, h⟩ (Ends Tryz.prog [.tmp 6] R)) : ∃ r h', D cfg 95 args h = some (r, h') ∧ R r h' :=
 let ⟨_, hb, hk⟩ := c95_eq
 W.calls (c := cfg) rfl c95_fn hb hk c95_rs (by rw [c95_nt]; exact hn) hw
theorem call97 {args : List AV} {h : Heap} {R : AV → Heap → Prop} (hn : args.length ≤ 41) (hw : Wt Tryz.prog (D cfg) c97 ⟨argsEnv 0 args, h⟩ (Ends Tryz.prog [] R)) : ∃ r h', D cfg 97 args h = some (r, h') ∧ R r h' :=
 let ⟨_, hb, hk⟩ := c97_eq
 W.calls (c := cfg) rfl c97_fn hb hk c97_rs (by rw [c97_nt]; exact hn) hw
theorem call98 {args : List AV} {h : Heap} {R : AV → Heap → Prop} (hn : args.length ≤ 8) (hw : Wt Tryz.prog (D cfg) c98 ⟨argsEnv 0 args, h⟩ (Ends Tryz.prog [.tmp 4] R)) : ∃ r h', D cfg 98 args h = some (r, h') ∧ R r h' :=
 let ⟨_, hb, hk⟩ := c98_eq
 W.calls (c := cfg) rfl c98_fn hb hk c98_rs (by rw [c98_nt]; exact hn) hw
theorem call100 {args : List AV} {h : Heap} {R : AV → Heap → Prop} (hn : args.length ≤ 20) (hw : Wt Tryz.prog (D cfg) c100 ⟨argsEnv 0 args, h⟩ (Ends Tryz.prog [] R)) : ∃ r h', D cfg 100 args h = some (r, h') ∧ R r h' :=
 let ⟨_, hb, hk⟩ := c100_eq
 W.calls (c := cfg) rfl c100_fn hb hk c100_rs (by rw [c100_nt]; exact hn) hw
theorem call104 {args : List AV} {h : Heap} {R : AV → Heap → Prop} (hn : args.length ≤ 13) (hw : Wt Tryz.prog (D cfg) c104 ⟨argsEnv 0 args, h⟩ (Ends Tryz.prog [.tmp 4] R)) : ∃ r h', D cfg 104 args h = some (r, h') ∧ R r h' :=
 let ⟨_, hb, hk⟩ := c104_eq
 W.calls (c := cfg) rfl c104_fn hb hk c104_rs (by rw [c104_nt]; exact hn) hw
theorem call115 {args : List AV} {h : Heap} {R : AV → Heap → Prop} (hn : args.length ≤ 7) (hw : Wt Tryz.prog (D cfg) c115 ⟨argsEnv 0 args, h⟩ (Ends Tryz.prog [.tmp 0] R)) : ∃ r h', D cfg 115 args h = some (r, h') ∧ R r h' :=
 let ⟨_, hb, hk⟩ := c115_eq
 W.calls (c := cfg) rfl c115_fn hb hk c115_rs (by rw [c115_nt]; exact hn) hw
theorem call117 {args : List AV} {h : Heap} {R : AV → Heap → Prop} (hn : args.length ≤ 8) (hw : Wt Tryz.prog (D cfg) c117 ⟨argsEnv 0 args, h⟩ (Ends Tryz.prog [.tmp 2] R)) : ∃ r h', D cfg 117 args h = some (r, h') ∧ R r h' :=
 let ⟨_, hb, hk⟩ := c117_eq
 W.calls (c := cfg) rfl c117_fn hb hk c117_rs (by rw [c117_nt]; exact hn) hw
theorem call118 {args : List AV} {h : Heap} {R : AV → Heap → Prop} (hn : args.length ≤ 116) (hw : Wt Tryz.prog (D cfg) c118 ⟨argsEnv 0 args, h⟩ (Ends Tryz.prog [.tmp 6] R)) : ∃ r h', D cfg 118 args h = some (r, h') ∧ R r h' :=
 let ⟨_, hb, hk⟩ := c118_eq
 W.calls (c := cfg) rfl c118_fn hb hk c118_rs (by rw [c118_nt]; exact hn) hw
theorem call120 {args : List AV} {h : Heap} {R : AV → Heap → Prop} (hn : args.length ≤ 25) (hw : Wt Tryz.prog (D cfg) c120 ⟨argsEnv 0 args, h⟩ (Ends Tryz.prog [.tmp 2] R)) : ∃ r h', D cfg 120 args h = some (r, h') ∧ R r h' :=
 let ⟨_, hb, hk⟩ := c120_eq
 W.calls (c := cfg) rfl c120_fn hb hk c120_rs (by rw [c120_nt]; exact hn) hw
theorem call121 {args : List AV} {h : Heap} {R : AV → Heap → Prop} (hn : args.length ≤ 10) (hw : Wt Tryz.prog (D cfg) c121 ⟨argsEnv 0 args, h⟩ (Ends Tryz.prog [.tmp 0] R)) : ∃ r h', D cfg 121 args h = some (r, h') ∧ R r h' :=
 let ⟨_, hb, hk⟩ := c121_eq
 W.calls (c := cfg) rfl c121_fn hb hk c121_rs (by rw [c121_nt]; exact hn) hw
theorem call122 {args : List AV} {h : Heap} {R : AV → Heap → Prop} (hn : args.length ≤ 8) (hw : Wt Tryz.prog (D cfg) c122 ⟨argsEnv 0 args, h⟩ (Ends Tryz.prog [.tmp 2] R)) : ∃ r h', D cfg 122 args h = some (r, h') ∧ R r h' :=
 let ⟨_, hb, hk⟩ := c122_eq
 W.calls (c := cfg) rfl c122_fn hb hk c122_rs (by rw [c122_nt]; exact hn) hw
theorem call123 {args : List AV} {h : Heap} {R : AV → Heap → Prop} (hn : args.length ≤ 6) (hw : Wt Tryz.prog (D cfg) c123 ⟨argsEnv 0 args, h⟩ (Ends Tryz.prog [.tmp 2] R)) : ∃ r h', D cfg 123 args h = some (r, h') ∧ R r h' :=
 let ⟨_, hb, hk⟩ := c123_eq
 W.calls (c := cfg) rfl c123_fn hb hk c123_rs (by rw [c123_nt]; exact hn) hw
theorem call124 {args : List AV} {h : Heap} {R : AV → Heap → Prop} (hn : args.length ≤ 45) (hw : Wt Tryz.prog (D cfg) c124 ⟨argsEnv 0 args, h⟩ (Ends Tryz.prog [.tmp 4] R)) : ∃ r h', D cfg 124 args h = some (r, h') ∧ R r h' :=
 let ⟨_, hb, hk⟩ := c124_eq
 W.calls (c := cfg) rfl c124_fn hb hk c124_rs (by rw [c124_nt]; exact hn) hw
theorem call125 {args : List AV} {h : Heap} {R : AV → Heap → Prop} (hn : args.length ≤ 19) (hw : Wt Tryz.prog (D cfg) c125 ⟨argsEnv 0 args, h⟩ (Ends Tryz.prog [.tmp 4] R)) : ∃ r h', D cfg 125 args h = some (r, h') ∧ R r h' :=
 let ⟨_, hb, hk⟩ := c125_eq
 W.calls (c := cfg) rfl c125_fn hb hk c125_rs (by rw [c125_nt]; exact hn) hw
theorem call131 {args : List AV} {h : Heap} {R : AV → Heap → Prop} (hn : args.length ≤ 38) (hw : Wt Tryz.prog (D cfg) c131 ⟨argsEnv 0 args, h⟩ (Ends Tryz.prog [.tmp 2] R)) : ∃ r h', D cfg 131 args h = some (r, h') ∧ R r h' :=
 let ⟨_, hb, hk⟩ := c131_eq
 W.calls (c := cfg) rfl c131_fn hb hk c131_rs (by rw [c131_nt]; exact hn) hw
theorem call135 {args : List AV} {h : Heap} {R : AV → Heap → Prop} (hn : args.length ≤ 74) (hw : Wt Tryz.prog (D cfg) c135 ⟨argsEnv 0 args, h⟩ (Ends Tryz.prog [.tmp 4, .tmp 5] R)) : ∃ r h', D cfg 135 args h = some (r, h') ∧ R r h' :=
 let ⟨_, hb, hk⟩ := c135_eq
 W.calls (c := cfg) rfl c135_fn hb hk c135_rs (by rw [c135_nt]; exact hn) hw
theorem call136 {args : List AV} {h : Heap} {R : AV → Heap → Prop} (hn : args.length ≤ 18) (hw : Wt Tryz.prog (D cfg) c136 ⟨argsEnv 0 args, h⟩ (Ends Tryz.prog [.tmp 4] R)) : ∃ r h', D cfg 136 args h = some (r, h') ∧ R r h' :=
 let ⟨_, hb, hk⟩ := c136_eq
 W.calls (c := cfg) rfl c136_fn hb hk c136_rs (by rw [c136_nt]; exact hn) hw
theorem call137 {args : List AV} {h : Heap} {R : AV → Heap → Prop} (hn : args.length ≤ 9) (hw : Wt Tryz.prog (D cfg) c137 ⟨argsEnv 0 args, h⟩ (Ends Tryz.prog [.tmp 4] R)) : ∃ r h', D cfg 137 args h = some (r, h') ∧ R r h' :=
 let ⟨_, hb, hk⟩ := c137_eq
 W.calls (c := cfg) rfl c137_fn hb hk c137_rs (by rw [c137_nt]; exact hn) hw
theorem call138 {args : List AV} {h : Heap} {R : AV → Heap → Prop} (hn : args.length ≤ 4) (hw : Wt Tryz.prog (D cfg) c138 ⟨argsEnv 0 args, h⟩ (Ends Tryz.prog [.tmp 2] R)) : ∃ r h', D cfg 138 args h = some (r, h') ∧ R r h' :=
 let ⟨_, hb, hk⟩ := c138_eq
 W.calls (c := cfg) rfl c138_fn hb hk c138_rs (by rw [c138_nt]; exact hn) hw
theorem call139 {args : List AV} {h : Heap} {R : AV → Heap → Prop} (hn : args.length ≤ 22) (hw : Wt Tryz.prog (D cfg) c139 ⟨argsEnv 0 args, h⟩ (Ends Tryz.prog [.tmp 4] R)) : ∃ r h', D cfg 139 args h = some (r, h') ∧ R r h' :=
 let ⟨_, hb, hk⟩ := c139_eq
 W.calls (c := cfg) rfl c139_fn hb hk c139_rs (by rw [c139_nt]; exact hn) hw
theorem call140 {args : List AV} {h : Heap} {R : AV → Heap → Prop} (hn : args.length ≤ 22) (hw : Wt Tryz.prog (D cfg) c140 ⟨argsEnv 0 args, h⟩ (Ends Tryz.prog [] R)) : ∃ r h', D cfg 140 args h = some (r, h') ∧ R r h' :=
 let ⟨_, hb, hk⟩ := c140_eq
 W.calls (c := cfg) rfl c140_fn hb hk c140_rs (by rw [c140_nt]; exact hn) hw
theorem call141 {args : List AV} {h : Heap} {R : AV → Heap → Prop} (hn : args.length ≤ 42) (hw : Wt Tryz.prog (D cfg) c141 ⟨argsEnv 0 args, h⟩ (Ends Tryz.prog [] R)) : ∃ r h', D cfg 141 args h = some (r, h') ∧ R r h' :=
 let ⟨_, hb, hk⟩ := c141_eq
 W.calls (c := cfg) rfl c141_fn hb hk c141_rs (by rw [c141_nt]; exact hn) hw
theorem call142 {args : List AV} {h : Heap} {R : AV → Heap → Prop} (hn : args.length ≤ 15) (hw : Wt Tryz.prog (D cfg) c142 ⟨argsEnv 0 args, h⟩ (Ends Tryz.prog [.tmp 4, .tmp 5] R)) : ∃ r h', D cfg 142 args h = some (r, h') ∧ R r h' :=
 let ⟨_, hb, hk⟩ := c142_eq
 W.calls (c := cfg) rfl c142_fn hb hk c142_rs (by rw [c142_nt]; exact hn) hw
theorem call146 {args : List AV} {h : Heap} {R : AV → Heap → Prop} (hn : args.length ≤ 14) (hw : Wt Tryz.prog (D cfg) c146 ⟨argsEnv 0 args, h⟩ (Ends Tryz.prog [.tmp 6] R)) : ∃ r h', D cfg 146 args h = some (r, h') ∧ R r h' :=
 let ⟨_, hb, hk⟩ := c146_eq
 W.calls (c := cfg) rfl c146_fn hb hk c146_rs (by rw [c146_nt]; exact hn) hw
theorem call150 {args : List AV} {h : Heap} {R : AV → Heap → Prop} (hn : args.length ≤ 20) (hw : Wt Tryz.prog (D cfg) c150 ⟨argsEnv 0 args, h⟩ (Ends Tryz.prog [.tmp 2] R)) : ∃ r h', D cfg 150 args h = some (r, h') ∧ R r h' :=
 let ⟨_, hb, hk⟩ := c150_eq
 W.calls (c := cfg) rfl c150_fn hb hk c150_rs (by rw [c150_nt]; exact hn) hw
theorem call151 {args : List AV} {h : Heap} {R : AV → Heap → Prop} (hn : args.length ≤ 100) (hw : Wt Tryz.prog (D cfg) c151 ⟨argsEnv 0 args, h⟩ (Ends Tryz.prog [.tmp 4] R)) : ∃ r h', D cfg 151 args h = some (r, h') ∧ R r h' :=
 let ⟨_, hb, hk⟩ := c151_eq
 W.calls (c := cfg) rfl c151_fn hb hk c151_rs (by rw [c151_nt]; exact hn) hw
theorem call156 {args : List AV} {h : Heap} {R : AV → Heap → Prop} (hn : args.length ≤ 19) (hw : Wt Tryz.prog (D cfg) c156 ⟨argsEnv 0 args, h⟩ (Ends Tryz.prog [.tmp 4] R)) : ∃ r h', D cfg 156 args h = some (r, h') ∧ R r h' :=
 let ⟨_, hb, hk⟩ := c156_eq
 W.calls (c := cfg) rfl c156_fn hb hk c156_rs (by rw [c156_nt]; exact hn) hw
theorem call158 {args : List AV} {h : Heap} {R : AV → Heap → Prop} (hn : args.length ≤ 17) (hw : Wt Tryz.prog (D cfg) c158 ⟨argsEnv 0 args, h⟩ (Ends Tryz.prog [.tmp 6] R)) : ∃ r h', D cfg 158 args h = some (r, h') ∧ R r h' :=
 let ⟨_, hb, hk⟩ := c158_eq
 W.calls (c := cfg) rfl c158_fn hb hk c158_rs (by rw [c158_nt]; exact hn) hw
theorem call160 {args : List AV} {h : Heap} {R : AV → Heap → Prop} (hn : args.length ≤ 25) (hw : Wt Tryz.prog (D cfg) c160 ⟨argsEnv 0 args, h⟩ (Ends Tryz.prog [.tmp 4] R)) : ∃ r h', D cfg 160 args h = some (r, h') ∧ R r h' :=
 let ⟨_, hb, hk⟩ := c160_eq
 W.calls (c := cfg) rfl c160_fn hb hk c160_rs (by rw [c160_nt]; exact hn) hw
theorem call161 {args : List AV} {h : Heap} {R : AV → Heap → Prop} (hn : args.length ≤ 11) (hw : Wt Tryz.prog (D cfg) c161 ⟨argsEnv 0 args, h⟩ (Ends Tryz.prog [.tmp 4] R)) : ∃ r h', D cfg 161 args h = some (r, h') ∧ R r h' :=
 let ⟨_, hb, hk⟩ := c161_eq
 W.calls (c := cfg) rfl c161_fn hb hk c161_rs (by rw [c161_nt]; exact hn) hw
theorem call164 {args : List AV} {h : Heap} {R : AV → Heap → Prop} (hn : args.length ≤ 252) (hw : Wt Tryz.prog (D cfg) c164 ⟨argsEnv 0 args, h⟩ (Ends Tryz.prog [.cell 8 273] R)) : ∃ r h', D cfg 164 args h = some (r, h') ∧ R r h' :=
 let ⟨_, hb, hk⟩ := c164_eq
 W.calls (c := cfg) rfl c164_fn hb hk c164_rs (by rw [c164_nt]; exact hn) hw
theorem call165 {args : List AV} {h : Heap} {R : AV → Heap → Prop} (hn : args.length ≤ 54) (hw : Wt Tryz.prog (D cfg) c165 ⟨argsEnv 0 args, h⟩ (Ends Tryz.prog [.tmp 10] R)) : ∃ r h', D cfg 165 args h = some (r, h') ∧ R r h' :=
 let ⟨_, hb, hk⟩ := c165_eq
 W.calls (c := cfg) rfl c165_fn hb hk c165_rs (by rw [c165_nt]; exact hn) hw
theorem call178 {args : List AV} {h : Heap} {R : AV → Heap → Prop} (hn : args.length ≤ 8) (hw : Wt Tryz.prog (D cfg) c178 ⟨argsEnv 0 args, h⟩ (Ends Tryz.prog [.tmp 2] R)) : ∃ r h', D cfg 178 args h = some (r, h') ∧ R r h' :=
 let ⟨_, hb, hk⟩ := c178_eq
 W.calls (c := cfg) rfl c178_fn hb hk c178_rs (by rw [c178_nt]; exact hn) hw
theorem call179 {args : List AV} {h : Heap} {R : AV → Heap → Prop} (hn : args.length ≤ 16) (hw : Wt Tryz.prog (D cfg) c179 ⟨argsEnv 0 args, h⟩ (Ends Tryz.prog [.tmp 4] R)) : ∃ r h', D cfg 179 args h = some (r, h') ∧ R r h' :=
 let ⟨_, hb, hk⟩ := c179_eq
 W.calls (c := cfg) rfl c179_fn hb hk c179_rs (by rw [c179_nt]; exact hn) hw
theorem call180 {args : List AV} {h : Heap} {R : AV → Heap → Prop} (hn : args.length ≤ 23) (hw : Wt Tryz.prog (D cfg) c180 ⟨argsEnv 0 args, h⟩ (Ends Tryz.prog [.tmp 6, .tmp 7] R)) : ∃ r h', D cfg 180 args h = some (r, h') ∧ R r h' :=
 let ⟨_, hb, hk⟩ := c180_eq
 W.calls (c := cfg) rfl c180_fn hb hk c180_rs (by rw [c180_nt]; exact hn) hw
theorem call181 {args : List AV} {h : Heap} {R : AV → Heap → Prop} (hn : args.length ≤ 6) (hw : Wt Tryz.prog (D cfg) c181 ⟨argsEnv 0 args, h⟩ (Ends Tryz.prog [.tmp 2] R)) : ∃ r h', D cfg 181 args h = some (r, h') ∧ R r h' :=
 let ⟨_, hb, hk⟩ := c181_eq
 W.calls (c := cfg) rfl c181_fn hb hk c181_rs (by rw [c181_nt]; exact hn) hw
theorem call182 {args : List AV} {h : Heap} {R : AV → Heap → Prop} (hn : args.length ≤ 12) (hw : Wt Tryz.prog (D cfg) c182 ⟨argsEnv 0 args, h⟩ (Ends Tryz.prog [.tmp 2] R)) : ∃ r h', D cfg 182 args h = some (r, h') ∧ R r h' :=
 let ⟨_, hb, hk⟩ := c182_eq
 W.calls (c := cfg) rfl c182_fn hb hk c182_rs (by rw [c182_nt]; exact hn) hw
theorem call183 {args : List AV} {h : Heap} {R : AV → Heap → Prop} (hn : args.length ≤ 8) (hw : Wt Tryz.prog (D cfg) c183 ⟨argsEnv 0 args, h⟩ (Ends Tryz.prog [.tmp 2] R)) : ∃ r h', D cfg 183 args h = some (r, h') ∧ R r h' :=
 let ⟨_, hb, hk⟩ := c183_eq
 W.calls (c := cfg) rfl c183_fn hb hk c183_rs (by rw [c183_nt]; exact hn) hw
theorem call184 {args : List AV} {h : Heap} {R : AV → Heap → Prop} (hn : args.length ≤ 8) (hw : Wt Tryz.prog (D cfg) c184 ⟨argsEnv 0 args, h⟩ (Ends Tryz.prog [.tmp 2] R)) : ∃ r h', D cfg 184 args h = some (r, h') ∧ R r h' :=
 let ⟨_, hb, hk⟩ := c184_eq
 W.calls (c := cfg) rfl c184_fn hb hk c184_rs (by rw [c184_nt]; exact hn) hw
theorem call185 {args : List AV} {h : Heap} {R : AV → Heap → Prop} (hn : args.length ≤ 8) (hw : Wt Tryz.prog (D cfg) c185 ⟨argsEnv 0 args, h⟩ (Ends Tryz.prog [.tmp 2] R)) : ∃ r h', D cfg 185 args h = some (r, h') ∧ R r h' :=
 let ⟨_, hb, hk⟩ := c185_eq
 W.calls (c := cfg) rfl c185_fn hb hk c185_rs (by rw [c185_nt]; exact hn) hw
theorem call186 {args : List AV} {h : Heap} {R : AV → Heap → Prop} (hn : args.length ≤ 7) (hw : Wt Tryz.prog (D cfg) c186 ⟨argsEnv 0 args, h⟩ (Ends Tryz.prog [.tmp 2] R)) : ∃ r h', D cfg 186 args h = some (r, h') ∧ R r h' :=
 let ⟨_, hb, hk⟩ := c186_eq
 W.calls (c := cfg) rfl c186_fn hb hk c186_rs (by rw [c186_nt]; exact hn) hw
theorem call187 {args : List AV} {h : Heap} {R : AV → Heap → Prop} (hn : args.length ≤ 9) (hw : Wt Tryz.prog (D cfg) c187 ⟨argsEnv 0 args, h⟩ (Ends Tryz.prog [.tmp 2] R)) : ∃ r h', D cfg 187 args h = some (r, h') ∧ R r h' :=
 let ⟨_, hb, hk⟩ := c187_eq
 W.calls (c := cfg) rfl c187_fn hb hk c187_rs (by rw [c187_nt]; exact hn) hw
theorem call188 {args : List AV} {h : Heap} {R : AV → Heap → Prop} (hn : args.length ≤ 10) (hw : Wt Tryz.prog (D cfg) c188 ⟨argsEnv 0 args, h⟩ (Ends Tryz.prog [.tmp 2] R)) : ∃ r h', D cfg 188 args h = some (r, h') ∧ R r h' :=
 let ⟨_, hb, hk⟩ := c188_eq
 W.calls (c := cfg) rfl c188_fn hb hk c188_rs (by rw [c188_nt]; exact hn) hw
theorem call189 {args : List AV} {h : Heap} {R : AV → Heap → Prop} (hn : args.length ≤ 20) (hw : Wt Tryz.prog (D cfg) c189 ⟨argsEnv 0 args, h⟩ (Ends Tryz.prog [.tmp 4] R)) : ∃ r h', D cfg 189 args h = some (r, h') ∧ R r h' :=
 let ⟨_, hb, hk⟩ := c189_eq
 W.calls (c := cfg) rfl c189_fn hb hk c189_rs (by rw [c189_nt]; exact hn) hw
theorem call190 {args : List AV} {h : Heap} {R : AV → Heap → Prop} (hn : args.length ≤ 11) (hw : Wt Tryz.prog (D cfg) c190 ⟨argsEnv 0 args, h⟩ (Ends Tryz.prog [.tmp 2] R)) : ∃ r h', D cfg 190 args h = some (r, h') ∧ R r h' :=
 let ⟨_, hb, hk⟩ := c190_eq
 W.calls (c := cfg) rfl c190_fn hb hk c190_rs (by rw [c190_nt]; exact hn) hw
theorem call191 {args : List AV} {h : Heap} {R : AV → Heap → Prop} (hn : args.length ≤ 31) (hw : Wt Tryz.prog (D cfg) c191 ⟨argsEnv 0 args, h⟩ (Ends Tryz.prog [.tmp 4] R)) : ∃ r h', D cfg 191 args h = some (r, h') ∧ R r h' :=
 let ⟨_, hb, hk⟩ := c191_eq
 W.calls (c := cfg) rfl c191_fn hb hk c191_rs (by rw [c191_nt]; exact hn) hw
theorem call192 {args : List AV} {h : Heap} {R : AV → Heap → Prop} (hn : args.length ≤ 45) (hw : Wt Tryz.prog (D cfg) c192 ⟨argsEnv 0 args, h⟩ (Ends Tryz.prog [.tmp 2] R)) : ∃ r h', D cfg 192 args h = some (r, h') ∧ R r h' :=
 let ⟨_, hb, hk⟩ := c192_eq
 W.calls (c := cfg) rfl c192_fn hb hk c192_rs (by rw [c192_nt]; exact hn) hw
theorem call193 {args : List AV} {h : Heap} {R : AV → Heap → Prop} (hn : args.length ≤ 16) (hw : Wt Tryz.prog (D cfg) c193 ⟨argsEnv 0 args, h⟩ (Ends Tryz.prog [.tmp 2] R)) : ∃ r h', D cfg 193 args h = some (r, h') ∧ R r h' :=
 let ⟨_, hb, hk⟩ := c193_eq
 W.calls (c := cfg) rfl c193_fn hb hk c193_rs (by rw [c193_nt]; exact hn) hw
theorem call195 {args : List AV} {h : Heap} {R : AV → Heap → Prop} (hn : args.length ≤ 14) (hw : Wt Tryz.prog (D cfg) c195 ⟨argsEnv 0 args, h⟩ (Ends Tryz.prog [.cell 2 43] R)) : ∃ r h', D cfg 195 args h = some (r, h') ∧ R r h' :=
 let ⟨_, hb, hk⟩ := c195_eq
 W.calls (c := cfg) rfl c195_fn hb hk c195_rs (by rw [c195_nt]; exact hn) hw
theorem call198 {args : List AV} {h : Heap} {R : AV → Heap → Prop} (hn : args.length ≤ 4) (hw : Wt Tryz.prog (D cfg) c198 ⟨argsEnv 0 args, h⟩ (Ends Tryz.prog [.tmp 2] R)) : ∃ r h', D cfg 198 args h = some (r, h') ∧ R r h' :=
 let ⟨_, hb, hk⟩ := c198_eq
 W.calls (c := cfg) rfl c198_fn hb hk c198_rs (by rw [c198_nt]; exact hn) hw
theorem call200 {args : List AV} {h : Heap} {R : AV → Heap → Prop} (hn : args.length ≤ 20) (hw : Wt Tryz.prog (D cfg) c200 ⟨argsEnv 0 args, h⟩ (Ends Tryz.prog [.tmp 6] R)) : ∃ r h', D cfg 200 args h = some (r, h') ∧ R r h' :=
 let ⟨_, hb, hk⟩ := c200_eq
 W.calls (c := cfg) rfl c200_fn hb hk c200_rs (by rw [c200_nt]; exact hn) hw
theorem call201 {args : List AV} {h : Heap} {R : AV → Heap → Prop} (hn : args.length ≤ 13) (hw : Wt Tryz.prog (D cfg) c201 ⟨argsEnv 0 args, h⟩ (Ends Tryz.prog [.tmp 2] R)) : ∃ r h', D cfg 201 args h = some (r, h') ∧ R r h' :=
 let ⟨_, hb, hk⟩ := c201_eq
 W.calls (c := cfg) rfl c201_fn hb hk c201_rs (by rw [c201_nt]; exact hn) hw
theorem call202 {args : List AV} {h : Heap} {R : AV → Heap → Prop} (hn : args.length ≤ 16) (hw : Wt Tryz.prog (D cfg) c202 ⟨argsEnv 0 args, h⟩ (Ends Tryz.prog [.tmp 4] R)) : ∃ r h', D cfg 202 args h = some (r, h') ∧ R r h' :=
 let ⟨_, hb, hk⟩ := c202_eq
 W.calls (c := cfg) rfl c202_fn hb hk c202_rs (by rw [c202_nt]; exact hn) hw
theorem call210 {args : List AV} {h : Heap} {R : AV → Heap → Prop} (hn : args.length ≤ 27) (hw : Wt Tryz.prog (D cfg) c210 ⟨argsEnv 0 args, h⟩ (Ends Tryz.prog [.tmp 8] R)) : ∃ r h', D cfg 210 args h = some (r, h') ∧ R r h' :=
 let ⟨_, hb, hk⟩ := c210_eq
 W.calls (c := cfg) rfl c210_fn hb hk c210_rs (by rw [c210_nt]; exact hn) hw
theorem call213 {args : List AV} {h : Heap} {R : AV → Heap → Prop} (hn : args.length ≤ 80) (hw : Wt Tryz.prog (D cfg) c213 ⟨argsEnv 0 args, h⟩ (Ends Tryz.prog [.tmp 2] R)) : ∃ r h', D cfg 213 args h = some (r, h') ∧ R r h' :=
 let ⟨_, hb, hk⟩ := c213_eq
 W.calls (c := cfg) rfl c213_fn hb hk c213_rs (by rw [c213_nt]; exact hn) hw
theorem call215 {args : List AV} {h : Heap} {R : AV → Heap → Prop} (hn : args.length ≤ 7) (hw : Wt Tryz.prog (D cfg) c215 ⟨argsEnv 0 args, h⟩ (Ends Tryz.prog [.tmp 2] R)) : ∃ r h', D cfg 215 args h = some (r, h') ∧ R r h' :=
 let ⟨_, hb, hk⟩ := c215_eq
 W.calls (c := cfg) rfl c215_fn hb hk c215_rs (by rw [c215_nt]; exact hn) hw
theorem call233 {args : List AV} {h : Heap} {R : AV → Heap → Prop} (hn : args.length ≤ 16) (hw : Wt Tryz.prog (D cfg) c233 ⟨argsEnv 0 args, h⟩ (Ends Tryz.prog [.tmp 4] R)) : ∃ r h', D cfg 233 args h = some (r, h') ∧ R r h' :=
 let ⟨_, hb, hk⟩ := c233_eq
 W.calls (c := cfg) rfl c233_fn hb hk c233_rs (by rw [c233_nt]; exact hn) hw
theorem call234 {args : List AV} {h : Heap} {R : AV → Heap → Prop} (hn : args.length ≤ 12) (hw : Wt Tryz.prog (D cfg) c234 ⟨argsEnv 0 args, h⟩ (Ends Tryz.prog [.tmp 4] R)) : ∃ r h', D cfg 234 args h = some (r, h') ∧ R r h' :=
 let ⟨_, hb, hk⟩ := c234_eq
 W.calls (c := cfg) rfl c234_fn hb hk c234_rs (by rw [c234_nt]; exact hn) hw
theorem call238 {args : List AV} {h : Heap} {R : AV → Heap → Prop} (hn : args.length ≤ 16) (hw : Wt Tryz.prog (D cfg) c238 ⟨argsEnv 0 args, h⟩ (Ends Tryz.prog [.tmp 4] R)) : ∃ r h', D cfg 238 args h = some (r, h') ∧ R r h' :=
 let ⟨_, hb, hk⟩ := c238_eq
 W.calls (c := cfg) rfl c238_fn hb hk c238_rs (by rw [c238_nt]; exact hn) hw
theorem call241 {args : List AV} {h : Heap} {R : AV → Heap → Prop} (hn : args.length ≤ 85) (hw : Wt Tryz.prog (D cfg) c241 ⟨argsEnv 0 args, h⟩ (Ends Tryz.prog [.tmp 8, .tmp 9] R)) : ∃ r h', D cfg 241 args h = some (r, h') ∧ R r h' :=
 let ⟨_, hb, hk⟩ := c241_eq
 W.calls (c := cfg) rfl c241_fn hb hk c241_rs (by rw [c241_nt]; exact hn) hw
theorem call271 {args : List AV} {h : Heap} {R : AV → Heap → Prop} (hn : args.length ≤ 8) (hw : Wt Tryz.prog (D cfg) c271 ⟨argsEnv 0 args, h⟩ (Ends Tryz.prog [.tmp 2] R)) : ∃ r h', D cfg 271 args h = some (r, h') ∧ R r h' :=
 let ⟨_, hb, hk⟩ := c271_eq
 W.calls (c := cfg) rfl c271_fn hb hk c271_rs (by rw [c271_nt]; exact hn) hw
theorem call272 {args : List AV} {h : Heap} {R : AV → Heap → Prop} (hn : args.length ≤ 34) (hw : Wt Tryz.prog (D cfg) c272 ⟨argsEnv 0 args, h⟩ (Ends Tryz.prog [.tmp 2] R)) : ∃ r h', D cfg 272 args h = some (r, h') ∧ R r h' :=
 let ⟨_, hb, hk⟩ := c272_eq
 W.calls (c := cfg) rfl c272_fn hb hk c272_rs (by rw [c272_nt]; exact hn) hw
theorem call301 {args : List AV} {h : Heap} {R : AV → Heap → Prop} (hn : args.length ≤ 12) (hw : Wt Tryz.prog (D cfg) c301 ⟨argsEnv 0 args, h⟩ (Ends Tryz.prog [.tmp 4] R)) : ∃ r h', D cfg 301 args h = some (r, h') ∧ R r h' :=
 let ⟨_, hb, hk⟩ := c301_eq
 W.calls (c := cfg) rfl c301_fn hb hk c301_rs (by rw [c301_nt]; exact hn) hw
theorem laid_ok : laidOutB Tryz.prog = true := by kernel_rfl
theorem maps_ok : mapsRowed Tryz.prog = true := by kernel_rfl
theorem heard_ok : Tryz.prog.stopsHeard = true := by kernel_rfl
theorem enter_ok : Tryz.prog.mayEnter = true := by kernel_rfl
section
variable {P : Program} {ι ι' : Inj} {w w' : World} {B : Base} {N : Nat} {L L' : Look} {F : CallF} {C : Base → Option Nat → Prop}
theorem HR.other (h : HR P ι w B L) {rest : List (Nat × Obj)} {inj : Inj} (hs : w.heap.size ≤ w'.heap.size) (hk : ∀ c, Held ι L c → w'.heap[c]? = w.heap[c]?) (hb : ∀ c, c < B.n → w'.heap[c]? = w.heap[c]?)
  (hr : ∀ r ∈ rest, w'.heap[r.1]? = some r.2 ∧ ¬ Held ι L r.1) (hi : Ext inj ι) : HR P ι w' ⟨B.n, rest, inj⟩ L := by
 refine ⟨fun b o hL => ?_, h.inj, h.past, Nat.le_trans h.base hs, h.roB, hr, hi⟩
 obtain ⟨l, h1, h2, h3⟩ := h.obj b o hL
 refine ⟨l, h1, h2.keep (.refl ι) fun hne => ?_, fun ho => ⟨(h3 ho).1, Nat.lt_of_lt_of_le (h3 ho).2 hs⟩⟩
 cases ho : o.own with
 | true => exact hk _ ⟨b, o, l, hL, ho, h1, rfl⟩
 | false =>
  cases o <;> simp [AObj.own] at ho
  case ro cs => exact hb _ (h.roB b cs l hL h1 (by rintro rfl; exact hne rfl))
theorem Held.bound {c : Nat} (h : Held ι L c) (hr : HR P ι w B L) : c < w.heap.size := by
 obtain ⟨b, o, l, hL, ho, hl, rfl⟩ := h
 obtain ⟨l', h1, _, h3⟩ := hr.obj b o hL
 rw [hl] at h1; cases h1
 exact (h3 ho).2
theorem lt_heap {c : Nat} {o : Obj} (h : w.heap[c]? = some o) : c < w.heap.size := (Array.getElem?_eq_some_iff.1 h).1
open Classical in
noncomputable def Aw (P : Program) (F : CallF) (k : SC) (s : St) : Out :=
 if hx : ∃ r n, ∀ n', n ≤ n' → scode P F n' k s = some r then some hx.choose else none
theorem Aw_of {k : SC} {s : St} {r : AExit × St} {n : Nat} (h : ∀ n', n ≤ n' → scode P F n' k s = some r) : Aw P F k s = some r := by
 have hx : ∃ r n, ∀ n', n ≤ n' → scode P F n' k s = some r := ⟨r, n, h⟩
 unfold Aw
 rw [dif_pos hx]
 obtain ⟨m, hm⟩ := hx.choose_spec
 have h1 := h (max n m) (Nat.le_max_left ..)
 have h2 := hm (max n m) (Nat.le_max_right ..)
 rw [h1] at h2
 exact h2.symm
theorem Aw_spec {k : SC} {s : St} {r : AExit × St} (h : Aw P F k s = some r) : ∃ n, scode P F n k s = some r := by
 unfold Aw at h
 split at h
 · rename_i hx
   obtain ⟨m, hm⟩ := hx.choose_spec
   simp at h
   rw [h] at hm
   exact ⟨m, hm m (Nat.le_refl _)⟩
 · simp at h
theorem Aw_W {k : SC} {s : St} {Q : AExit → St → Prop} (h : W P F k s Q) : ∃ e s', Aw P F k s = some (e, s') ∧ Q e s' :=
 let ⟨n, e, s', h1, h2⟩ := h
 ⟨e, s', Aw_of h1, h2⟩
theorem Aw_does (hm : P.follows .mixedOrders = true) (hF : CallsOK P C F) {H : Hint} {c : Code} (hc : codeB P H N c = true) {k : SC} (hk : compile H c = k) {s s' : St} {e : AExit} (h : Aw P F k s = some (e, s')) (dl : List Deferred) (fr : Option Nat) :
  Does dl fr C P N c s e s' := by
 obtain ⟨n, hn⟩ := Aw_spec h
 subst hk
 rw [← acode_compile] at hn
 exact acode_does hm hF c hc s e s' hn
noncomputable def bodyY (P : Program) (F : CallF) (asg bdy : SC) (ρ₁ : Env) (p : Nat) : List AV → Heap → Option (AV × Heap)
 | [v], h => match Aw P F asg ⟨ρ₁.put (some p) v, h⟩ with
  | some (.normal, t1) => match Aw P F bdy t1 with
   | some (.normal, t2) => some (.bool true, t2.h)
   | _ => none
  | _ => none
 | _, _ => none
theorem bodyY_of {asg bdy : SC} {ρ₁ : Env} {p : Nat} {v : AV} {h : Heap} {t1 t2 : St} (h1 : Aw P F asg ⟨ρ₁.put (some p) v, h⟩ = some (.normal, t1)) (h2 : Aw P F bdy t1 = some (.normal, t2)) : bodyY P F asg bdy ρ₁ p [v] h = some (.bool true, t2.h) := by
 simp only [bodyY, h1, h2]
noncomputable def yF (F : CallF) (Y : List AV → Heap → Option (AV × Heap)) (l : Nat) : CallF := fun g args h => if g = 1000000000 + l then Y args h else if g < 1000000000 then F g args h else none
theorem yF_func {Y : List AV → Heap → Option (AV × Heap)} {l g : Nat} {args : List AV} {h : Heap} (hg : g < 1000000000) : yF F Y l g args h = F g args h := by
 unfold yF
 rw [if_neg (fun e => absurd (e ▸ hg) (Nat.not_lt.2 (Nat.le_add_right _ _))), if_pos hg]
theorem yF_yield {Y : List AV → Heap → Option (AV × Heap)} {l : Nat} {args : List AV} {h : Heap} : yF F Y l (1000000000 + l) args h = Y args h := if_pos rfl
theorem putSame {l : Nat} {o x : Obj} (h : w.heap[l]? = some x) : (w.putObj l o).heap[l]? = some o := World.putObj_heap_same (lt_heap h)
theorem putOther {l c : Nat} {o : Obj} (h : c ≠ l) : (w.putObj l o).heap[c]? = w.heap[c]? := World.putObj_heap_other h
abbrev recOf (f : FuncId) (tm : Array Value) (p : Nat) (ca cb : Code) (D : Nat) : Loop := { state := .ready, pending := none, fn := f, tmps := tm, params := #[p], assign := ca, body := cb, defers := D }
theorem round_ok (hm : P.follows .mixedOrders = true) (hF : CallOK P F) {fe : FuncId} {tm : Array Value} {p : Nat} {ca cb : Code} {H : Hint} (hca : codeB P H N ca = true) (hcb : codeB P H N cb = true) {asg bdy : SC} (ka : compile H ca = asg) (kb : compile H cb = bdy)
  (hp : p < N) {ρ₁ : Env} {ι₀ : Inj} {l D : Nat} (hl : ∀ r ∈ B.rest, r.1 ≠ l) (hn : B.n ≤ l) (hlD : l ≠ D) (hg : Regs [] ι₀ ρ₁ ⟨tm, []⟩ N) {args : List AV} {h h' : Heap} {z : AV} (hY : bodyY P F asg bdy ρ₁ p args h = some (z, h')) :
  RoundOK P (fun B' fr => fr = none ∧ B' = ⟨B.n, (l, .loop (recOf fe tm p ca cb D)) :: (D, .deferred (some [])) :: B.rest, ι₀⟩) (1000000000 + l) args h z h' := by
 obtain ⟨v, rfl⟩ : ∃ v, args = [v] := by
  match args, hY with
  | [v], _ => exact ⟨v, rfl⟩
  | [], hY => simp [bodyY] at hY
  | _ :: _ :: _, hY => simp [bodyY] at hY
 simp only [bodyY] at hY
 split at hY
 case h_2 => simp at hY
 rename_i t1 h1
 split at hY
 case h_2 => simp at hY
 rename_i t2 h2
 simp at hY
 obtain ⟨rfl, rfl⟩ := hY
 obtain ⟨l1, d1⟩ := Aw_does (C := fun _ _ => True) hm hF.calls hca ka h1 [] (some l)
 obtain ⟨l2, d2⟩ := Aw_does (C := fun _ _ => True) hm hF.calls hcb kb h2 [] (some l)
 refine ⟨Nat.le_trans l1 l2, l, v, rfl, rfl, fun ι w B' fr u hC hr hfr hv => ?_⟩
 obtain ⟨rfl, rfl⟩ := hC
 have Rl := hr.rest (l, .loop (recOf fe tm p ca cb D)) (by simp)
 refine ⟨recOf fe tm p ca cb D, Rl.1, rfl, roundIn_of_wpIn (F := FR none) trivial ?_⟩
 have g0 : Regs [] ι (ρ₁.put (some p) v) { tmps := tm.setIfInBounds p u, defers := [] } N := (hg.mono hr.since).put (fun t ht => by cases ht; exact hp) hv
 refine d1 ι w _ _ _ trivial (by simpa using g0) hr (hfr.sub l2) fun ι1 a1 w1 g1 q1 y1 => ?_
 have Rl1 := q1.hr.rest (l, .loop (recOf fe tm p ca cb D)) (by simp)
 have lw := lt_heap Rl.1
 have lw1 := lt_heap Rl1.1
 refine ⟨_, run_beginRound Rl1.1 rfl, ?_⟩
 obtain ⟨w2, hw2⟩ : ∃ w2, w2 = w1.putObj l (.loop { state := .busy, pending := none, fn := fe, tmps := tm, params := #[p], assign := ca, body := cb, defers := D }) := ⟨_, rfl⟩
 have e2 : ∀ c, c ≠ l → w2.heap[c]? = w1.heap[c]? := fun c hc => by rw [hw2]; exact putOther hc
 have z2 : w2.heap.size = w1.heap.size := by rw [hw2]; simp
 have s2 : w2.heap[l]? = some (.loop { state := .busy, pending := none, fn := fe, tmps := tm, params := #[p], assign := ca, body := cb, defers := D }) := by rw [hw2]; exact putSame Rl1.1
 have hr2 : HR P ι1 w2 ⟨B.n, (D, .deferred (some [])) :: B.rest, ι₀⟩ (look t1.h) := by
  refine HR.other (B := ⟨B.n, (l, .loop (recOf fe tm p ca cb D)) :: (D, .deferred (some [])) :: B.rest, ι₀⟩) q1.hr (by omega) (fun c hc => e2 c fun e => Rl1.2 (e ▸ hc)) (fun c hc => e2 c (by simp only at hc; omega)) (fun r hm => ?_) q1.hr.since
  have hrl : r.1 ≠ l := by
   rcases List.mem_cons.1 hm with rfl | hm
   · exact Ne.symm hlD
   · exact hl r hm
  have := q1.hr.rest r (List.mem_cons_of_mem _ hm)
  exact ⟨by rw [e2 _ hrl]; exact this.1, this.2⟩
 have hw : w1.putObj l (.loop { (recOf fe tm p ca cb D) with state := .busy }) = w2 := hw2.symm
 rw [hw]
 refine d2 ι1 w2 _ a1 _ trivial g1 hr2 (hfr.next l1 y1) fun ι2 a2 w3 g2 q2 y2 => ?_
 have R3 : w3.heap[l]? = _ := (q2.keep l (by omega) Rl1.2).trans s2
 refine ⟨_, _, run_endRound none R3, ?_⟩
 have n3 : ¬ Held ι2 (look t2.h) l := fun hh => (q2.held l hh).elim Rl1.2 fun h => by omega
 obtain ⟨w4, hw4⟩ : ∃ w4, w4 = w3.putObj l (.loop (recOf fe tm p ca cb D)) := ⟨_, rfl⟩
 have e4 : ∀ c, c ≠ l → w4.heap[c]? = w3.heap[c]? := fun c hc => by rw [hw4]; exact putOther hc
 have z4 : w4.heap.size = w3.heap.size := by rw [hw4]; simp
 have s4 : w4.heap[l]? = some (.loop (recOf fe tm p ca cb D)) := by rw [hw4]; exact putSame R3
 have o4 : w4.os = w3.os ∧ w4.tape = w3.tape ∧ w4.output = w3.output := by rw [hw4]; exact ⟨rfl, rfl, rfl⟩
 have o2 : w2.os = w1.os ∧ w2.tape = w1.tape ∧ w2.output = w1.output := by rw [hw2]; exact ⟨rfl, rfl, rfl⟩
 have hb3 := q2.below hr2
 have fin : ∃ ι' z, Ending.returned (.bool true) = .returned z ∧ V ι' (.bool true) z ∧ Step P ι w ⟨B.n, (l, .loop (recOf fe tm p ca cb D)) :: (D, .deferred (some [])) :: B.rest, ι₀⟩ (look h) ι' w4 (look t2.h) ∧ Lays ι ι' t2.h.length := by
  refine ⟨ι2, .bool true, rfl, by simp [V, Va, Vc, Vp], ⟨q1.ext.trans q2.ext, ?_, ?_, fun c hc hnh => ?_, fun c hc => ?_, ?_, ?_, ?_⟩, y1.trans y2 l2⟩
  · refine HR.other (B := ⟨B.n, (D, .deferred (some [])) :: B.rest, ι₀⟩) q2.hr (by omega) (fun c hc => e4 c fun e => n3 (e ▸ hc)) (fun c hc => e4 c (by simp only at hc; omega)) (fun r hm => ?_) q2.hr.since
    rcases List.mem_cons.1 hm with rfl | hm
    · exact ⟨s4, n3⟩
    · have hrl : r.1 ≠ l := by
       rcases List.mem_cons.1 hm with rfl | hm
       · exact Ne.symm hlD
       · exact hl r hm
      have := q2.hr.rest r hm
      exact ⟨by rw [e4 _ hrl]; exact this.1, this.2⟩
  · have := q1.size; have := q2.size; omega
  · by_cases hcl : c = l
    · subst hcl; rw [s4, Rl.1]
    · have h3 := q1.size
      rw [e4 c hcl, q2.keep c (by omega) (fun hh => (q1.held c hh).elim hnh fun h => by omega), e2 c hcl, q1.keep c hc hnh]
  · rcases q2.held c hc with hh | hh
    · exact q1.held c hh
    · have := q1.size; exact .inr (by omega)
  · rw [o4.1, q2.os, o2.1, q1.os]
  · rw [o4.2.1, q2.tape, o2.2.1, q1.tape]
  · rw [o4.2.2, q2.output, o2.2.2, q1.output]
 rw [hw4] at fin
 exact fin
theorem yF_ok (hm : P.follows .mixedOrders = true) (hF : CallOK P F) {fe : FuncId} {tm : Array Value} {p : Nat} {ca cb : Code} {H : Hint} (hca : codeB P H N ca = true) (hcb : codeB P H N cb = true) {asg bdy : SC} (ka : compile H ca = asg) (kb : compile H cb = bdy)
  (hp : p < N) {ρ₁ : Env} {ι₀ : Inj} {l D : Nat} (hl : ∀ r ∈ B.rest, r.1 ≠ l) (hn : B.n ≤ l) (hlD : l ≠ D) (hg : Regs [] ι₀ ρ₁ ⟨tm, []⟩ N) :
  CallsOK P (fun B' fr => fr = none ∧ B' = ⟨B.n, (l, .loop (recOf fe tm p ca cb D)) :: (D, .deferred (some [])) :: B.rest, ι₀⟩) (yF F (bodyY P F asg bdy ρ₁ p) l) := by
 intro g args h r h' hr
 unfold yF at hr
 split at hr
 · rename_i e
   subst e
   exact .inr (round_ok hm hF hca hcb ka kb hp hl hn hlD hg hr)
 · split at hr
   · exact .inl (hF g args h r h' hr)
   · simp at hr
abbrev markD (D : Nat) : Deferred := { target := .collected D, args := #[] }
def DoesM (P : Program) (N : Nat) (c : Code) (s : St) (e : AExit) (s' : St) : Prop :=
 s.h.length ≤ s'.h.length ∧ ∀ (ι : Inj) (w : World) (B : Base) (a : Act) (Q : Exit → Act → World → Prop), Regs [] ι s.ρ a N → HR P ι w B (look s.h) → Fresh ι s.h.length s'.h.length →
  (∀ ι' a' w' D, Regs [markD D] ι' s'.ρ a' N → Step P ι w B (look s.h) ι' w' (look s'.h) → Lays ι ι' s'.h.length → w'.heap[D]? = some (.deferred (some [])) → ¬ Held ι' (look s'.h) D → w.heap.size ≤ D → Q (exitOf e) a' w') → c.wpIn (FR none) 0 P Q a w
abbrev CT : Base → Option Nat → Prop := fun _ _ => True
theorem DoesM.seqR {x y : Code} {s s₁ s' : St} {e : AExit} (hx : Does [] none CT P N x s .normal s₁) (hy : DoesM P N y s₁ e s') : DoesM P N (.seq x y) s e s' := by
 obtain ⟨h1, h2⟩ := hx
 obtain ⟨h3, h4⟩ := hy
 refine ⟨Nat.le_trans h1 h3, fun ι w B a Q hreg hr hfr hk => wpIn_seq ?_⟩
 refine h2 ι w B a _ trivial hreg hr (hfr.sub h3) fun ι' a' w' hreg' hst hla => ?_
 exact h4 ι' w' B a' Q hreg' hst.hr (hfr.next h1 hla) fun ι'' a'' w'' D g1 g2 g3 g4 g5 g6 => hk ι'' a'' w'' D g1 (hst.trans g2) (hla.trans g3 h3) g4 g5 (Nat.le_trans hst.size g6)
theorem DoesM.seqL {x y : Code} {s s₁ s' : St} {e : AExit} (hx : DoesM P N x s .normal s₁) (hy : ∀ dl, Does dl none CT P N y s₁ e s') : DoesM P N (.seq x y) s e s' := by
 obtain ⟨h1, h2⟩ := hx
 have h3 := (hy []).1
 refine ⟨Nat.le_trans h1 h3, fun ι w B a Q hreg hr hfr hk => wpIn_seq ?_⟩
 refine h2 ι w B a _ hreg hr (hfr.sub h3) fun ι' a' w' D hreg' hst hla g4 g5 g6 => ?_
 refine (hy [markD D]).2 ι' w' B a' Q trivial hreg' hst.hr (hfr.next h1 hla) fun ι'' a'' w'' q1 q2 q3 => ?_
 refine hk ι'' a'' w'' D q1 (hst.trans q2) (hla.trans q3 h3) (by rw [q2.keep D (lt_heap g4) g5]; exact g4) (fun h => (q2.held D h).elim g5 fun e => ?_) g6
 have := lt_heap g4
 omega
theorem DoesM.block {id : Nat} {x : Code} {s s' : St} (hx : DoesM P N x s .normal s') : DoesM P N (.block id x) s .normal s' :=
 ⟨hx.1, fun ι w B a Q hreg hr hfr hk => wpIn_block (hx.2 ι w B a _ hreg hr hfr fun ι' a' w' D g1 g2 g3 g4 g5 g6 => hk ι' a' w' D g1 g2 g3 g4 g5 g6)⟩
noncomputable def preRun (P : Program) (F : CallF) : List SC → St → Option St
 | [], s => some s
 | k :: ks, s => match Aw P F k s with
  | some (.normal, s₁) => preRun P F ks s₁
  | _ => none
noncomputable def rangeRun (P : Program) (F : CallF) (f n : Nat) (kf asg bdy : SC) (g p l : Nat) (s : St) : Option Heap :=
 match s.ρ.get g with
 | some (.fn (.func f') caps) => if f' ≠ f ∨ n < caps.length + 1 then none else
  match Aw P (yF F (bodyY P F asg bdy s.ρ p) l) kf ⟨argsEnv 0 (.fn (.yield l) [] :: caps), s.h⟩ with
  | some (.normal, sE) => some sE.h
  | some (.ret, sE) => some sE.h
  | _ => none
 | _ => none
structure ItOK (P : Program) (f : FuncId) (fn : Func) (n : Nat) (kf : SC) : Prop where
 func : P.funcs[f]? = some fn
 named : (fn.name == "runtime.NumGoroutine") = false
 body : ∃ code H, fn.body = some code ∧ compile H code = kf ∧ codeB P H fn.ntmps code = true
 res : fn.results.toList = []
 nt : fn.ntmps = n
theorem bodyY_len (hm : P.follows .mixedOrders = true) (hF : CallOK P F) {ca cb : Code} {H : Hint} (hca : codeB P H N ca = true) (hcb : codeB P H N cb = true) {asg bdy : SC} (ka : compile H ca = asg) (kb : compile H cb = bdy)
  {ρ₁ : Env} {p : Nat} {args : List AV} {h h' : Heap} {z : AV} (hY : bodyY P F asg bdy ρ₁ p args h = some (z, h')) : h.length ≤ h'.length ∧ ∃ v, args = [v] := by
 obtain ⟨v, rfl⟩ : ∃ v, args = [v] := by
  match args, hY with
  | [v], _ => exact ⟨v, rfl⟩
  | [], hY => simp [bodyY] at hY
  | _ :: _ :: _, hY => simp [bodyY] at hY
 simp only [bodyY] at hY
 split at hY
 case h_2 => simp at hY
 rename_i t1 h1
 split at hY
 case h_2 => simp at hY
 rename_i t2 h2
 simp at hY
 obtain ⟨rfl, rfl⟩ := hY
 exact ⟨Nat.le_trans (Aw_does (C := CT) hm hF.calls hca ka h1 [] none).1 (Aw_does (C := CT) hm hF.calls hcb kb h2 [] none).1, v, rfl⟩
theorem range_does (hm : P.follows .mixedOrders = true) (hF : CallOK P F) {f : FuncId} {fn : Func} {n : Nat} {kf : SC} (OK : ItOK P f fn n kf) {g p : Nat} {ca cb : Code} {H : Hint} (hca : codeB P H N ca = true) (hcb : codeB P H N cb = true) {asg bdy : SC} (ka : compile H ca = asg) (kb : compile H cb = bdy)
  (hp : p < N) {s : St} {h' : Heap} (hrun : ∀ l, rangeRun P F f n kf asg bdy g p l s = some h') : DoesM P N (.rangeFunc (.tmp g) #[p] ca cb) s .normal ⟨s.ρ, h'⟩ := by
 have open' : ∀ l, ∃ caps e sE, s.ρ.get g = some (.fn (.func f) caps) ∧ caps.length + 1 ≤ n ∧ Aw P (yF F (bodyY P F asg bdy s.ρ p) l) kf ⟨argsEnv 0 (.fn (.yield l) [] :: caps), s.h⟩ = some (e, sE) ∧ (e = .normal ∨ e = .ret) ∧ sE.h = h' := by
  intro l
  have h := hrun l
  unfold rangeRun at h
  split at h
  · rename_i f' caps hg
    split at h
    · simp at h
    rename_i hf
    have hf : f' = f ∧ caps.length + 1 ≤ n := by
     simp only [not_or, ne_eq, Classical.not_not, Nat.not_lt] at hf
     exact hf
    obtain ⟨rfl, hn⟩ := hf
    split at h
    · rename_i sE hsE
      exact ⟨caps, _, sE, hg, hn, hsE, .inl rfl, by simpa using h⟩
    · rename_i sE hsE
      exact ⟨caps, _, sE, hg, hn, hsE, .inr rfl, by simpa using h⟩
    · simp at h
  · simp at h
 obtain ⟨ci, Hi, hbody, hki, hci⟩ := OK.body
 have len : s.h.length ≤ h'.length := by
  obtain ⟨caps, e, sE, _, _, h1, _, rfl⟩ := open' 1
  have hG : CallsOK P (fun _ _ => False) (yF F (bodyY P F asg bdy s.ρ p) 1) := by
   intro g args h r h' hr
   unfold yF at hr
   split at hr
   · rename_i e
     obtain ⟨hl, v, rfl⟩ := bodyY_len hm hF hca hcb ka kb hr
     exact .inr ⟨hl, 1, v, e, rfl, fun _ _ _ _ _ hC => hC.elim⟩
   · split at hr
     · exact .inl (hF g args h r h' hr)
     · simp at hr
  exact (Aw_does (fr := none) (dl := []) hm hG hci hki h1).1
 refine ⟨len, fun ι w B a Q hreg hr hfr hk => ?_⟩
 obtain ⟨caps, e, sE, hg, hn, hsE, he, hh⟩ := open' (w.heap.size + 1)
 have hev := hreg.eval (.tmp g) _ hg
 obtain ⟨cs, hev, hcs⟩ := hev.fn_inv
 refine wpIn_rangeFunc fun fid _ => ?_
 obtain ⟨rec, hrec⟩ : ∃ rec : Loop, rec = recOf fid a.tmps p ca cb w.heap.size := ⟨_, rfl⟩
 have hsz : (w.alloc (.deferred (some []))).heap.size = w.heap.size + 1 := World.size_alloc ..
 obtain ⟨w1, hw1⟩ : ∃ w1, w1 = (w.alloc (.deferred (some []))).alloc (.loop rec) := ⟨_, rfl⟩
 have z1 : w1.heap.size = w.heap.size + 2 := by rw [hw1, World.size_alloc, hsz]
 have e1 : ∀ c, c < w.heap.size → w1.heap[c]? = w.heap[c]? := fun c hc => by
  rw [hw1]
  show ((w.heap.push _).push _)[c]? = _
  rw [Array.getElem?_push, if_neg (by simp; omega), Array.getElem?_push, if_neg (by omega)]
 have sl : w1.heap[w.heap.size + 1]? = some (.loop rec) := by rw [hw1, ← hsz]; exact World.alloc_heap_new _ _
 have sD : w1.heap[w.heap.size]? = some (.deferred (some [])) := by
  rw [hw1]
  show ((w.heap.push _).push _)[w.heap.size]? = _
  rw [Array.getElem?_push, if_neg (by simp), Array.getElem?_push, if_pos rfl]
 have hBl : ∀ r ∈ B.rest, r.1 < w.heap.size := fun r hm => lt_heap (hr.rest r hm).1
 have hr1 : HR P ι w1 ⟨B.n, (w.heap.size + 1, .loop rec) :: (w.heap.size, .deferred (some [])) :: B.rest, ι⟩ (look s.h) := by
  refine HR.other hr (by omega) (fun c hc => e1 c (hc.bound hr)) (fun c hc => e1 c (Nat.lt_of_lt_of_le hc hr.base)) (fun r hm => ?_) (.refl ι)
  rcases List.mem_cons.1 hm with rfl | hm
  · exact ⟨sl, fun h => by have := h.bound hr; simp only at this; omega⟩
  rcases List.mem_cons.1 hm with rfl | hm
  · exact ⟨sD, fun h => by have := h.bound hr; simp only at this; omega⟩
  · exact ⟨by rw [e1 _ (hBl r hm)]; exact (hr.rest r hm).1, (hr.rest r hm).2⟩
 have hgr : Regs [] ι s.ρ ⟨a.tmps, []⟩ N := ⟨hreg.size, hreg.get, rfl⟩
 have hY := yF_ok (B := B) (fe := fid) (tm := a.tmps) (D := w.heap.size) (l := w.heap.size + 1) hm hF hca hcb ka kb hp (fun r hm => by have := hBl r hm; omega) (by have := hr.base; omega) (by omega) hgr
 rw [← hrec] at hY
 refine ⟨w.heap.size + 1, [markD w.heap.size], w1, { target := .fn (.func f) cs, args := #[.func (.yield (w.heap.size + 1)) #[] #[]] }, w1, f, ([Value.func (.yield (w.heap.size + 1)) #[] #[]] ++ cs.toList).toArray, w1, ?_, ?_, fun _ _ => trivial, ?_, by simp, ?_⟩
 · rw [hw1, hrec]; exact run_enterLoop_outer ..
 · show (Deferred.ofValue (a.eval (.tmp g)) _).run P w1 = _
   rw [hev]
   simp [Deferred.ofValue, Act.eval]
 · have hargs : (#[Value.func (.yield (w.heap.size + 1)) #[] #[]] ++ cs) = ([Value.func (.yield (w.heap.size + 1)) #[] #[]] ++ cs.toList).toArray := by apply Array.ext'; simp
   rw [← hargs]
   exact run_callFunc OK.func (by rw [hbody]; rfl) OK.named _ _
 refine callsIn_of_wp OK.func hbody trivial ?_
 obtain ⟨l1, dr⟩ := Aw_does (dl := []) (fr := none) hm hY hci hki hsE
 have hfr' : Fresh ι s.h.length sE.h.length := by rw [hh]; exact hfr
 have hlen := hcs.length
 simp at hlen
 have hnt := OK.nt
 have V1 : L2 (V ι) (.fn (.yield (w.heap.size + 1)) [] :: caps) ([Value.func (.yield (w.heap.size + 1)) #[] #[]] ++ cs.toList) := by
  refine ⟨by simp [V, Va, Vc, L2], hcs.mono fun _ _ h => .of_Vp h⟩
 refine dr ι w1 _ _ _ ⟨rfl, rfl⟩ ⟨?_, fun t v hv => ?_, rfl⟩ hr1 hfr' fun ι3 a3 w3 g3 S3 y3 => ?_
 · simp [hnt, ← hlen]; omega
 · obtain ⟨_, hv⟩ := argsEnv_get hv
   obtain ⟨u, hu, hc⟩ := V1.get _ v hv
   refine ⟨u, ?_, hc⟩
   simp only [Nat.sub_zero] at hu
   rw [Array.getElem?_append_left (by
    have := (List.getElem?_eq_some_iff.1 hu).1
    simp at this ⊢
    omega)]
   rw [List.getElem?_toArray]
   exact hu
 have R3 := S3.hr.rest (w.heap.size + 1, .loop rec) (by simp)
 have RD := S3.hr.rest (w.heap.size, .deferred (some [])) (by simp)
 have hres : (results fn a3.tmps).run P w3 = .ok (.tuple #[]) w3 := by
  have : fn.results = #[] := Array.ext' OK.res
  rw [results_eq, this]
  simp
 obtain ⟨w4, hw4⟩ : ∃ w4, w4 = w3.putObj (w.heap.size + 1) (.loop { rec with state := .exhausted }) := ⟨_, rfl⟩
 have e4 : ∀ c, c ≠ w.heap.size + 1 → w4.heap[c]? = w3.heap[c]? := fun c hc => by rw [hw4]; exact putOther hc
 have z4 : w4.heap.size = w3.heap.size := by rw [hw4]; simp
 have o4 : w4.os = w3.os ∧ w4.tape = w3.tape ∧ w4.output = w3.output := by rw [hw4]; exact ⟨rfl, rfl, rfl⟩
 have o1 : w1.os = w.os ∧ w1.tape = w.tape ∧ w1.output = w.output := by rw [hw1]; exact ⟨rfl, rfl, rfl⟩
 have z3 := S3.size
 have S4 : Step P ι w B (look s.h) ι3 w4 (look h') := by
  rw [hh] at S3 R3 RD
  refine ⟨S3.ext, ?_, by omega, fun c hc hnh => ?_, fun c hc => ?_, ?_, ?_, ?_⟩
  · have := HR.other (w' := w4) (rest := B.rest) (inj := B.inj) S3.hr (by omega) (fun c hc => e4 c fun e => R3.2 (e ▸ hc)) (fun c hc => e4 c (by simp only at hc; have := hr.base; omega)) (fun r hm => ?_) (hr.since.trans S3.ext)
    · exact this
    · have h1 := hBl r hm
      have h2 := S3.hr.rest r (by simp [hm])
      exact ⟨by rw [e4 _ (by omega)]; exact h2.1, h2.2⟩
  · rw [e4 c (by omega), S3.keep c (by omega) hnh, e1 c hc]
  · rcases S3.held c hc with h | h
    · exact .inl h
    · exact .inr (by omega)
  · rw [o4.1, S3.os, o1.1]
  · rw [o4.2.1, S3.tape, o1.2.1]
  · rw [o4.2.2, S3.output, o1.2.2]
 have RD4 : w4.heap[w.heap.size]? = some (.deferred (some [])) := by rw [e4 _ (by omega)]; exact RD.1
 have nD : ¬ Held ι3 (look h') w.heap.size := by rw [← hh]; exact RD.2
 have y4 : Lays ι ι3 h'.length := by rw [← hh]; exact y3
 have hend := run_endLoop (P := P) R3.1 (by rw [hrec]; simp)
 rcases he with rfl | rfl <;>
 · show a3.defers = [] ∧ _
   refine ⟨g3.defers, .tuple #[], hres, _, _, hend, ?_⟩
   have := hk ι3 { a with defers := [markD w.heap.size] ++ a.defers } w4 w.heap.size ⟨hreg.size, (hreg.mono S3.ext).get, by simp [hreg.defers]⟩ S4 y4 RD4 nD (Nat.le_refl _)
   have hpd : rec.pending = none := by rw [hrec]
   rw [hw4] at this
   simp only [hpd] at this ⊢
   exact this
theorem rf_calls {f : FuncId} {fn : Func} {code : Code} (hfn : P.funcs[f]? = some fn) (hb : fn.body = some code) {args : List AV} {h : Heap} {e : AExit} {s' : St} (hn : args.length ≤ fn.ntmps) (hd : DoesM P fn.ntmps code ⟨argsEnv 0 args, h⟩ e s') (he : e = .normal ∨ e = .ret)
  {vs : List AV} (hvs : aresultL P s' fn.results.toList = some vs) (hall : vs.all AV.notTup = true) :
  h.length ≤ s'.h.length ∧ ∀ (ι : Inj) (w : World) (B : Base) (cargs : List Value), HR P ι w B (look h) → Fresh ι h.length s'.h.length → L2 (V ι) args cargs →
   Calls P f cargs.toArray w fun e w' => ∃ ι' u, e = .returned u ∧ V ι' (pack vs) u ∧ Step P ι w B (look h) ι' w' (look s'.h) ∧ Lays ι ι' s'.h.length := by
 obtain ⟨h1, h2⟩ := hd
 refine ⟨h1, fun ι w B cargs hr hfr hargs => (callsIn_wide (n := 0)).1 (callsIn_of_wp_marks hfn hb trivial ?_)⟩
 have hlen := hargs.length
 refine h2 ι w B _ _ ⟨by simp; omega, fun t v hv => ?_, rfl⟩ hr hfr fun ι' a' w' D hreg hst hla hD hnD hlD => ?_
 · obtain ⟨_, hv⟩ := argsEnv_get hv
   obtain ⟨u, hu, hc⟩ := hargs.get _ v hv
   refine ⟨u, ?_, hc⟩
   simp only [Nat.sub_zero] at hu
   rw [Array.getElem?_append_left (by simp; exact (List.getElem?_eq_some_iff.1 hu).1)]
   simpa using hu
 · have o4 : (w'.putObj D (.deferred none)).os = w'.os ∧ (w'.putObj D (.deferred none)).tape = w'.tape ∧ (w'.putObj D (.deferred none)).output = w'.output := ⟨rfl, rfl, rfl⟩
   have e4 : ∀ c, c ≠ D → (w'.putObj D (.deferred none)).heap[c]? = w'.heap[c]? := fun c hc => putOther hc
   have hBl : ∀ r ∈ B.rest, r.1 < w.heap.size := fun r hm => lt_heap (hr.rest r hm).1
   have S2 : Step P ι w B (look h) ι' (w'.putObj D (.deferred none)) (look s'.h) := by
    have z := hst.size
    refine ⟨hst.ext, ?_, by simpa using z, fun c hc hnh => ?_, hst.held, by rw [o4.1, hst.os], by rw [o4.2.1, hst.tape], by rw [o4.2.2, hst.output]⟩
    · have := HR.other (w' := w'.putObj D (.deferred none)) (rest := B.rest) (inj := B.inj) hst.hr (by simp) (fun c hc => e4 c fun e => hnD (e ▸ hc)) (fun c hc => e4 c (by have := hr.base; omega)) (fun r hm => ?_) hst.hr.since
      · exact this
      · have h1 := hBl r hm
        have h2 := hst.hr.rest r hm
        exact ⟨by rw [e4 _ (by omega)]; exact h2.1, h2.2⟩
    · rw [e4 c (by omega), hst.keep c hc hnh]
   obtain ⟨us, hus, hl⟩ := run_resultL hreg S2.hr hvs
   have hres : ∃ u, (results fn a'.tmps).run P (w'.putObj D (.deferred none)) = .ok u (w'.putObj D (.deferred none)) ∧ V ι' (pack vs) u := by
    rw [results_eq, Array.mapM_eq_mapM_toList]
    have hva : L2 (Va ι') vs us := L2.of_get hl.length fun i x hx => by
     obtain ⟨u, hu, hv⟩ := hl.get i x hx
     have := List.all_eq_true.1 hall x (List.mem_of_getElem? hx)
     exact ⟨u, hu, hv.to_Va fun ts ht => by subst ht; simp [AV.notTup] at this⟩
    clear hvs hall
    simp only [Sem.run_bind, Sem.run_map, Sem.run_pure, hus, Result.andThen_ok]
    match vs, us, hl, hva with
    | [], [], _, _ => exact ⟨_, rfl, trivial⟩
    | [v], [u], hl, _ => exact ⟨_, rfl, hl.1⟩
    | v1 :: v2 :: vs, u1 :: u2 :: us, _, hva => exact ⟨.tuple (u1 :: u2 :: us).toArray, by simp, hva⟩
   obtain ⟨u, hu, hv⟩ := hres
   have fin : LeavesInM (FR none) 0 P fn a'.tmps (fun e w' => ∃ ι' u, e = .returned u ∧ V ι' (pack vs) u ∧ Step P ι w B (look h) ι' w' (look s'.h) ∧ Lays ι ι' s'.h.length) a'.defers .returning w' := by
    rw [hreg.defers]
    exact ⟨by simp, .inl ⟨D, _, rfl, run_takeDeferred hD, u, hu, ι', u, rfl, hv, S2, hla⟩⟩
   rcases he with rfl | rfl <;> exact fin
open Classical in
noncomputable def rfExt (P : Program) (F : CallF) (f n : Nat) (kf : SC) (pre : List SC) (g p : Nat) (asg bdy suf : SC) (fn : Func) (args : List AV) (h : Heap) : Option (AV × Heap) :=
 if args.length ≤ fn.ntmps then
  match preRun P F pre ⟨argsEnv 0 args, h⟩ with
  | some s1 => if hx : ∃ h2, ∀ l, rangeRun P F f n kf asg bdy g p l s1 = some h2 then afinish P fn (Aw P F suf ⟨s1.ρ, hx.choose⟩) else none
  | none => none
 else none
section
variable {f n : Nat} {kf : SC} {pre : List SC} {g p : Nat} {asg bdy suf : SC} {fn : Func} {args : List AV} {h : Heap}
theorem rfExt_of (hn : args.length ≤ fn.ntmps) {s1 : St} (h1 : preRun P F pre ⟨argsEnv 0 args, h⟩ = some s1) {h2 : Heap} (hr : ∀ l, rangeRun P F f n kf asg bdy g p l s1 = some h2) {r : AV × Heap} (h3 : afinish P fn (Aw P F suf ⟨s1.ρ, h2⟩) = some r) :
  rfExt P F f n kf pre g p asg bdy suf fn args h = some r := by
 have hx : ∃ h2, ∀ l, rangeRun P F f n kf asg bdy g p l s1 = some h2 := ⟨h2, hr⟩
 have he : hx.choose = h2 := by
  have := hx.choose_spec 0
  rw [hr 0] at this
  simpa using this.symm
 unfold rfExt
 rw [if_pos hn, h1]
 simp only
 rw [dif_pos hx, he, h3]
theorem rfExt_inv {r : AV × Heap} (hr : rfExt P F f n kf pre g p asg bdy suf fn args h = some r) : args.length ≤ fn.ntmps ∧ ∃ s1 h2 e s3 vs, preRun P F pre ⟨argsEnv 0 args, h⟩ = some s1 ∧ (∀ l, rangeRun P F f n kf asg bdy g p l s1 = some h2) ∧
  Aw P F suf ⟨s1.ρ, h2⟩ = some (e, s3) ∧ (e = .normal ∨ e = .ret) ∧ aresultL P s3 fn.results.toList = some vs ∧ vs.all AV.notTup = true ∧ r = (pack vs, s3.h) := by
 unfold rfExt at hr
 split at hr
 · rename_i hn
   split at hr
   · rename_i s1 hs1
     split at hr
     · rename_i hx
       refine ⟨hn, s1, hx.choose, ?_⟩
       unfold afinish at hr
       split at hr
       · rename_i s' hs'
         split at hr
         · rename_i vs hvs
           split at hr
           · rename_i hall
             simp at hr
             exact ⟨_, _, vs, hs1, hx.choose_spec, hs', .inl rfl, hvs, hall, hr.symm⟩
           · simp at hr
         · simp at hr
       · rename_i s' hs'
         split at hr
         · rename_i vs hvs
           split at hr
           · rename_i hall
             simp at hr
             exact ⟨_, _, vs, hs1, hx.choose_spec, hs', .inr rfl, hvs, hall, hr.symm⟩
           · simp at hr
         · simp at hr
       · simp at hr
     · simp at hr
   · simp at hr
 · simp at hr
end
theorem preRun_cons {k : SC} {ks : List SC} {s s' : St} (h : preRun P F (k :: ks) s = some s') : ∃ s1, Aw P F k s = some (.normal, s1) ∧ preRun P F ks s1 = some s' := by
 unfold preRun at h
 split at h
 · rename_i s1 hs1
   exact ⟨s1, hs1, h⟩
 · simp at h
theorem preRun_nil {s s' : St} (h : preRun P F [] s = some s') : s = s' := by simpa [preRun] using h
end
def H15 : Hint := ⟨[(17, [7, 13]), (16, [6]), (2000070, [7, 13, 14]), (15, [7, 13, 14, 70]), (14, [7, 13, 14, 15]), (1000014, [7, 13]), (13, [7, 13]), (12, [7, 8, 9, 33, 34]), (11, [7, 8, 9, 33, 34]), (2000052, [7, 8, 9, 33, 34]), (10, [7, 8, 9, 10, 33, 34, 52]), (9, [7, 8, 9, 10, 12, 33, 34]), (8, [7, 8, 9, 10, 33, 34]), (2000035, [7, 8, 9, 33, 34]), (7, [7, 8, 9, 33, 34, 35]), (1000007, [7, 8, 9, 33, 34]), (6, [7, 8, 9, 33, 34]), (5, [7, 8, 9]), (2000023, [5, 7, 8]), (4, [5, 7, 8, 23]), (3, [4, 5, 7, 8]), (2, [4, 5, 7, 18]), (1, [0, 4, 5, 7]), (0, [0, 4, 5])], []⟩
def c15_r0 : List SOp := [
 ⟨(some 4), .box 43 (.tmp 1), none⟩,
 ⟨(some 5), .box 28 (.tmp 2), none⟩,
 ⟨(some 6), .assign (.const (.string ⟨#[]⟩)), none⟩]
def c15_p0 : SC := (.reg c15_r0 none (some [0, 4, 5]))
def c15_r1 : List SOp := [
 ⟨(some 16), .makeMap 73 none, none⟩,
 ⟨(some 7), .alloc 73, none⟩,
 ⟨none, .store 73 (.tmp 7) (.tmp 16), none⟩]
def c15_p1 : SC := (.reg c15_r1 none (some [0, 4, 5, 7]))
def c15_r2 : List SOp := [
 ⟨(some 17), .move (.tmp 0), none⟩,
 ⟨(some 18), .call ⟨.value (.func 24), #[(.tmp 17)], #[33]⟩, none⟩]
def c15_p2 : SC := (.reg c15_r2 none (some [4, 5, 7, 18]))
def c15_r3 : List SOp := [
 ⟨(some 8), .alloc 78, none⟩,
 ⟨none, .store 78 (.tmp 8) (.tmp 19), none⟩]
def c15_ca : SC := (.reg c15_r3 none (some [4, 5, 7, 8]))
def c15_r4 : List SOp := [
 ⟨(some 20), .fieldAddr 78 (.tmp 8) 0, none⟩,
 ⟨(some 21), .load 43 (.tmp 20), none⟩,
 ⟨(some 22), .load 43 (.tmp 4), none⟩,
 ⟨(some 23), .binOp .neq 43 (.tmp 21) (.tmp 22) 43, none⟩]
def c15_r5 : List SOp := [
 ⟨(some 24), .load 28 (.tmp 5), none⟩,
 ⟨(some 25), .fieldAddr 78 (.tmp 8) 1, none⟩,
 ⟨(some 26), .fieldAddr 56 (.tmp 25) 2, none⟩,
 ⟨(some 27), .load 28 (.tmp 26), none⟩,
 ⟨(some 28), .load 73 (.tmp 7), none⟩,
 ⟨(some 29), .call ⟨.builtin .len, #[(.tmp 28)], #[73]⟩, none⟩,
 ⟨(some 30), .call ⟨.value (.func 25), #[(.tmp 24), (.tmp 27), (.tmp 29)], #[28, 28, 3]⟩, none⟩,
 ⟨(some 9), .assign (.tmp 30), none⟩]
def c15_r6 : List SOp := [
 ⟨(some 31), .fieldAddr 78 (.tmp 8) 2, none⟩,
 ⟨(some 32), .load 9 (.tmp 31), none⟩,
 ⟨(some 33), .call ⟨.builtin .len, #[(.tmp 32)], #[9]⟩, none⟩,
 ⟨(some 34), .move (.const (.int .i64 0)), none⟩]
def c15_r7 : List SOp := [
 ⟨(some 35), .binOp .lss 3 (.tmp 34) (.tmp 33) 3, none⟩]
def c15_r8 : List SOp := [
 ⟨(some 36), .move (.tmp 34), none⟩,
 ⟨(some 10), .assign (.tmp 36), none⟩]
def c15_r9 : List SOp := [
 ⟨(some 38), .load 73 (.tmp 7), none⟩,
 ⟨(some 39), .move (.tmp 9), none⟩,
 ⟨(some 40), .move (.tmp 10), none⟩,
 ⟨(some 41), .binOp .add 3 (.tmp 39) (.tmp 40) 3, none⟩,
 ⟨(some 42), .lookup 73 (.tmp 38) (.tmp 41) true, none⟩,
 ⟨(some 37), .move (.tmp 42), none⟩,
 ⟨(some 43), .extract (.tmp 37) 0, none⟩,
 ⟨(some 44), .extract (.tmp 37) 1, none⟩,
 ⟨(some 11), .assign (.tmp 43), none⟩,
 ⟨(some 12), .assign (.tmp 44), none⟩]
def c15_r10 : List SOp := [
 ⟨(some 45), .move (.tmp 12), none⟩,
 ⟨(some 46), .unOp .not 4 (.tmp 45), none⟩,
 ⟨(some 47), .move (.tmp 46), none⟩,
 ⟨(some 48), .move (.tmp 9), (some ((some 47), true))⟩,
 ⟨(some 49), .move (.tmp 10), (some ((some 47), true))⟩,
 ⟨(some 50), .binOp .add 3 (.tmp 48) (.tmp 49) 3, (some ((some 47), true))⟩,
 ⟨(some 51), .binOp .geq 3 (.tmp 50) (.const (.int .i64 0)) 3, (some ((some 47), true))⟩,
 ⟨(some 52), .pick (.tmp 47) (.tmp 51) (.const (.bool false)), none⟩]
def c15_r11 : List SOp := [
 ⟨(some 53), .load 73 (.tmp 7), none⟩,
 ⟨(some 54), .move (.tmp 9), none⟩,
 ⟨(some 55), .move (.tmp 10), none⟩,
 ⟨(some 56), .binOp .add 3 (.tmp 54) (.tmp 55) 3, none⟩,
 ⟨(some 57), .fieldAddr 78 (.tmp 8) 2, none⟩,
 ⟨(some 58), .load 9 (.tmp 57), none⟩,
 ⟨(some 59), .move (.tmp 10), none⟩,
 ⟨(some 60), .index 9 (.tmp 58) (.tmp 59), none⟩,
 ⟨none, .mapUpdate 73 (.tmp 53) (.tmp 56) (.tmp 60), none⟩]
def c15_r12 : List SOp := [
 ⟨(some 61), .binOp .add 3 (.tmp 34) (.const (.int .i64 1)) 3, none⟩,
 ⟨(some 34), .move (.tmp 61), none⟩]
def c15_l7 : SC := (.seq (.reg c15_r7 none (some [7, 8, 9, 33, 34, 35])) (.seq (.cond (.tmp 35) .skip (.exit 2) (some [7, 8, 9, 33, 34])) (.seq (.block 3 (.seq (.reg c15_r8 none (some [7, 8, 9, 10, 33, 34])) (.seq (.reg c15_r9 none (some [7, 8, 9, 10, 12, 33, 34])) (.seq (.reg c15_r10 none (some [7, 8, 9, 10, 33, 34, 52])) (.cond (.tmp 52) (.reg c15_r11 none (some [7, 8, 9, 33, 34])) .skip (some [7, 8, 9, 33, 34])))))) (.reg c15_r12 none (some [7, 8, 9, 33, 34])))))
def c15_cb : SC := (.block 1 (.seq (.seq (.reg c15_r4 none (some [5, 7, 8, 23])) (.cond (.tmp 23) (.exit 1) .skip (some [5, 7, 8]))) (.seq (.reg c15_r5 none (some [7, 8, 9])) (.seq (.reg c15_r6 none (some [7, 8, 9, 33, 34])) (.block 2 (.loop c15_l7 (some [7, 8, 9, 33, 34])))))))
def c15_r13 : List SOp := [
 ⟨(some 13), .assign (.const (.slice none 0 0)), none⟩]
def c15_r14 : List SOp := [
 ⟨(some 63), .load 73 (.tmp 7), none⟩,
 ⟨(some 64), .move (.tmp 13), none⟩,
 ⟨(some 65), .call ⟨.builtin .len, #[(.tmp 64)], #[54]⟩, none⟩,
 ⟨(some 66), .lookup 73 (.tmp 63) (.tmp 65) true, none⟩,
 ⟨(some 62), .move (.tmp 66), none⟩,
 ⟨(some 67), .extract (.tmp 62) 0, none⟩,
 ⟨(some 68), .extract (.tmp 62) 1, none⟩,
 ⟨(some 14), .assign (.tmp 67), none⟩,
 ⟨(some 15), .assign (.tmp 68), none⟩]
def c15_r15 : List SOp := [
 ⟨(some 69), .move (.tmp 15), none⟩,
 ⟨(some 70), .unOp .not 4 (.tmp 69), none⟩]
def c15_r16 : List SOp := [
 ⟨(some 71), .move (.tmp 13), none⟩,
 ⟨(some 72), .convert 54 9 (.tmp 71), none⟩,
 ⟨(some 6), .assign (.tmp 72), none⟩]
def c15_r17 : List SOp := [
 ⟨(some 73), .move (.tmp 13), none⟩,
 ⟨(some 74), .move (.tmp 14), none⟩,
 ⟨(some 75), .buildSlice 54 1 #[(0, (.tmp 74))], none⟩,
 ⟨(some 76), .call ⟨.builtin .append, #[(.tmp 73), (.tmp 75)], #[54, 54]⟩, none⟩,
 ⟨(some 13), .assign (.tmp 76), none⟩]
def c15_l14 : SC := (.block 5 (.seq (.reg c15_r14 none (some [7, 13, 14, 15])) (.seq (.seq (.reg c15_r15 none (some [7, 13, 14, 70])) (.cond (.tmp 70) (.seq (.reg c15_r16 none (some [6])) .ret) .skip (some [7, 13, 14]))) (.reg c15_r17 none (some [7, 13])))))
def c15_s0 : SC := (.seq (.reg c15_r13 none (some [7, 13])) (.block 4 (.loop c15_l14 (some [7, 13]))))
theorem c15_rf : ∃ p0 p1 p2 ca cb s0, Tryz.f15.body = some (.seq p0 (.seq p1 (.seq (.seq p2 (.block 0 (.rangeFunc (.tmp 18) #[19] ca cb))) s0))) ∧
 codeB Tryz.prog H15 77 p0 = true ∧ compile H15 p0 = c15_p0 ∧
 codeB Tryz.prog H15 77 p1 = true ∧ compile H15 p1 = c15_p1 ∧
 codeB Tryz.prog H15 77 p2 = true ∧ compile H15 p2 = c15_p2 ∧
 codeB Tryz.prog H15 77 ca = true ∧ compile H15 ca = c15_ca ∧
 codeB Tryz.prog H15 77 cb = true ∧ compile H15 cb = c15_cb ∧
 codeB Tryz.prog H15 77 s0 = true ∧ compile H15 s0 = c15_s0 :=
 ⟨_, _, _, _, _, _, rfl, by kernel_rfl, by kernel_rfl, by kernel_rfl, by kernel_rfl, by kernel_rfl, by kernel_rfl, by kernel_rfl, by kernel_rfl, by kernel_rfl, by kernel_rfl, by kernel_rfl, by kernel_rfl⟩
theorem c15_fn : Tryz.prog.funcs[15]? = some Tryz.f15 := by kernel_rfl
theorem c15_rs : Tryz.f15.results.toList = [.tmp 6] := by kernel_rfl
theorem c15_nt : Tryz.f15.ntmps = 77 := by kernel_rfl
def H147 : Hint := ⟨[(12, [4]), (11, [5]), (2000043, [5]), (10, [2, 5, 43]), (9, []), (2000039, []), (8, [6, 7, 39]), (7, [6, 7]), (6, [2, 5, 6, 7]), (2000013, [6, 7]), (5, [2, 5, 6, 7, 13]), (4, [2, 3, 5, 6, 7]), (3, [2, 3, 5, 6, 9]), (2, [2, 3, 5, 6]), (1, [2, 3, 5]), (0, [2, 3])], []⟩
def c147_r0 : List SOp := [
 ⟨(some 2), .box 187 (.tmp 0), none⟩,
 ⟨(some 3), .box 260 (.tmp 1), none⟩,
 ⟨(some 4), .assign (.const (.slice none 0 0)), none⟩]
def c147_p0 : SC := (.reg c147_r0 none (some [2, 3]))
def c147_r1 : List SOp := [
 ⟨(some 5), .alloc 46, none⟩]
def c147_p1 : SC := (.reg c147_r1 none (some [2, 3, 5]))
def c147_r2 : List SOp := [
 ⟨(some 6), .alloc 4, none⟩,
 ⟨none, .store 4 (.tmp 6) (.const (.bool false)), none⟩]
def c147_p2 : SC := (.reg c147_r2 none (some [2, 3, 5, 6]))
def c147_r3 : List SOp := [
 ⟨(some 8), .load 187 (.tmp 2), none⟩,
 ⟨(some 9), .call ⟨.value (.func 198), #[(.tmp 8)], #[187]⟩, none⟩]
def c147_p3 : SC := (.reg c147_r3 none (some [2, 3, 5, 6, 9]))
def c147_r4 : List SOp := [
 ⟨(some 7), .assign (.tmp 10), none⟩]
def c147_ca : SC := (.reg c147_r4 none (some [2, 3, 5, 6, 7]))
def c147_r5 : List SOp := [
 ⟨(some 11), .load 260 (.tmp 3), none⟩,
 ⟨(some 12), .move (.tmp 7), none⟩,
 ⟨(some 13), .call ⟨.value (.tmp 11), #[(.tmp 12)], #[251]⟩, none⟩]
def c147_r6 : List SOp := [
 ⟨(some 14), .move (.tmp 7), none⟩,
 ⟨(some 15), .nilCheck (.tmp 14), none⟩,
 ⟨(some 16), .fieldAddr 255 (.tmp 15) 3, none⟩,
 ⟨none, .store 4 (.tmp 16) (.const (.bool true)), none⟩]
def c147_r7 : List SOp := [
 ⟨(some 17), .load 46 (.tmp 5), none⟩,
 ⟨(some 18), .move (.tmp 7), none⟩,
 ⟨(some 19), .nilCheck (.tmp 18), none⟩,
 ⟨(some 20), .fieldAddr 255 (.tmp 19) 0, none⟩,
 ⟨(some 21), .fieldAddr 147 (.tmp 20) 9, none⟩,
 ⟨(some 22), .load 3 (.tmp 21), none⟩,
 ⟨(some 23), .load 187 (.tmp 2), none⟩,
 ⟨(some 24), .nilCheck (.tmp 23), none⟩,
 ⟨(some 25), .fieldAddr 249 (.tmp 24) 3, none⟩,
 ⟨(some 26), .load 3 (.tmp 25), none⟩,
 ⟨(some 27), .move (.tmp 7), none⟩,
 ⟨(some 28), .nilCheck (.tmp 27), none⟩,
 ⟨(some 29), .fieldAddr 255 (.tmp 28) 0, none⟩,
 ⟨(some 30), .fieldAddr 147 (.tmp 29) 0, none⟩,
 ⟨(some 31), .load 3 (.tmp 30), none⟩,
 ⟨(some 32), .build 51 #[(0, (.tmp 22)), (2, (.tmp 26)), (3, (.tmp 31))], none⟩,
 ⟨(some 33), .buildSlice 46 1 #[(0, (.tmp 32))], none⟩,
 ⟨(some 34), .call ⟨.builtin .append, #[(.tmp 17), (.tmp 33)], #[46, 46]⟩, none⟩,
 ⟨none, .store 46 (.tmp 5) (.tmp 34), none⟩]
def c147_r8 : List SOp := [
 ⟨(some 35), .move (.tmp 7), none⟩,
 ⟨(some 36), .nilCheck (.tmp 35), none⟩,
 ⟨(some 37), .fieldAddr 255 (.tmp 36) 1, none⟩,
 ⟨(some 38), .load 252 (.tmp 37), none⟩,
 ⟨(some 39), .call ⟨.value (.func 199), #[(.tmp 38)], #[252]⟩, none⟩]
def c147_r9 : List SOp := [
 ⟨(some 40), .move (.tmp 7), none⟩,
 ⟨(some 41), .nilCheck (.tmp 40), none⟩,
 ⟨(some 42), .fieldAddr 255 (.tmp 41) 3, none⟩,
 ⟨none, .store 4 (.tmp 42) (.const (.bool true)), none⟩,
 ⟨none, .store 4 (.tmp 6) (.const (.bool true)), none⟩]
def c147_cb : SC := (.block 1 (.seq (.seq (.reg c147_r5 none (some [2, 5, 6, 7, 13])) (.cond (.tmp 13) (.seq (.reg c147_r6 none (some [2, 5, 6, 7])) (.reg c147_r7 none (some [6, 7]))) .skip (some [6, 7]))) (.seq (.reg c147_r8 none (some [6, 7, 39])) (.cond (.tmp 39) (.reg c147_r9 none (some [])) .skip (some [])))))
def c147_r10 : List SOp := [
 ⟨(some 43), .load 4 (.tmp 6), none⟩]
def c147_r11 : List SOp := [
 ⟨(some 44), .load 46 (.tmp 5), none⟩,
 ⟨(some 45), .load 187 (.tmp 2), none⟩,
 ⟨(some 46), .nilCheck (.tmp 45), none⟩,
 ⟨(some 47), .fieldAddr 249 (.tmp 46) 3, none⟩,
 ⟨(some 48), .load 3 (.tmp 47), none⟩,
 ⟨(some 49), .build 51 #[(2, (.tmp 48)), (3, (.const (.int .i64 4)))], none⟩,
 ⟨(some 50), .buildSlice 46 1 #[(0, (.tmp 49))], none⟩,
 ⟨(some 51), .call ⟨.builtin .append, #[(.tmp 44), (.tmp 50)], #[46, 46]⟩, none⟩,
 ⟨none, .store 46 (.tmp 5) (.tmp 51), none⟩]
def c147_r12 : List SOp := [
 ⟨(some 52), .load 46 (.tmp 5), none⟩,
 ⟨(some 4), .assign (.tmp 52), none⟩]
def c147_s0 : SC := (.seq (.seq (.reg c147_r10 none (some [2, 5, 43])) (.cond (.tmp 43) (.reg c147_r11 none (some [5])) .skip (some [5]))) (.seq (.reg c147_r12 none (some [4])) .ret))
theorem c147_rf : ∃ p0 p1 p2 p3 ca cb s0, Tryz.f147.body = some (.seq p0 (.seq p1 (.seq p2 (.seq (.seq p3 (.block 0 (.rangeFunc (.tmp 9) #[10] ca cb))) s0)))) ∧
 codeB Tryz.prog H147 53 p0 = true ∧ compile H147 p0 = c147_p0 ∧
 codeB Tryz.prog H147 53 p1 = true ∧ compile H147 p1 = c147_p1 ∧
 codeB Tryz.prog H147 53 p2 = true ∧ compile H147 p2 = c147_p2 ∧
 codeB Tryz.prog H147 53 p3 = true ∧ compile H147 p3 = c147_p3 ∧
 codeB Tryz.prog H147 53 ca = true ∧ compile H147 ca = c147_ca ∧
 codeB Tryz.prog H147 53 cb = true ∧ compile H147 cb = c147_cb ∧
 codeB Tryz.prog H147 53 s0 = true ∧ compile H147 s0 = c147_s0 :=
 ⟨_, _, _, _, _, _, _, rfl, by kernel_rfl, by kernel_rfl, by kernel_rfl, by kernel_rfl, by kernel_rfl, by kernel_rfl, by kernel_rfl, by kernel_rfl, by kernel_rfl, by kernel_rfl, by kernel_rfl, by kernel_rfl, by kernel_rfl, by kernel_rfl⟩
theorem c147_fn : Tryz.prog.funcs[147]? = some Tryz.f147 := by kernel_rfl
theorem c147_rs : Tryz.f147.results.toList = [.tmp 4] := by kernel_rfl
theorem c147_nt : Tryz.f147.ntmps = 53 := by kernel_rfl
theorem it_of {f : FuncId} {fn : Func} {H : Hint} {k : SC} {n : Nat} (h1 : Tryz.prog.funcs[f]? = some fn) (h2 : ∃ code, fn.body = some code ∧ compile H code = k) (h3 : fnB Tryz.prog H fn = true) (h4 : fn.results.toList = []) (h5 : fn.ntmps = n) : ItOK Tryz.prog f fn n k := by
 obtain ⟨code, hb, hk⟩ := h2
 unfold fnB at h3
 rw [hb] at h3
 simp only [Bool.and_eq_true] at h3
 exact ⟨h1, by simpa using h3.1.1, ⟨code, H, hb, hk, h3.1.2⟩, h4, h5⟩
theorem it42_ok : ItOK Tryz.prog 42 Tryz.f42 37 c42 := it_of c42_fn c42_eq c42_ok c42_rs c42_nt
theorem it237_ok : ItOK Tryz.prog 237 Tryz.f237 26 c237 := it_of c237_fn c237_eq c237_ok c237_rs c237_nt
noncomputable def ext15 : List AV → Heap → Option (AV × Heap) := rfExt Tryz.prog (D cfg) 42 37 c42 [c15_p0, c15_p1, c15_p2] 18 19 c15_ca c15_cb c15_s0 Tryz.f15
noncomputable def ext147 : List AV → Heap → Option (AV × Heap) := rfExt Tryz.prog (D cfg) 237 26 c237 [c147_p0, c147_p1, c147_p2, c147_p3] 9 10 c147_ca c147_cb c147_s0 Tryz.f147
theorem tryz_mixed : Tryz.prog.follows .mixedOrders = true := by kernel_rfl
theorem ext15_ok {args : List AV} {h : Heap} {r : AV} {h' : Heap} (hr : ext15 args h = some (r, h')) : FuncOK Tryz.prog 15 args h r h' := by
 obtain ⟨hn, s1, h2, e, s3, vs, hp, hrun, hs, he, hvs, hall, hr⟩ := rfExt_inv hr
 obtain ⟨rfl, rfl⟩ : r = pack vs ∧ h' = s3.h := by simpa using hr
 obtain ⟨q0, a0, hp⟩ := preRun_cons hp
 obtain ⟨q1, a1, hp⟩ := preRun_cons hp
 obtain ⟨q2, a2, hp⟩ := preRun_cons hp
 obtain rfl := preRun_nil hp
 obtain ⟨p0, p1, p2, ca, cb, s0, hb, b0, k0, b1, k1, b2, k2, ba, ka, bb, kb, bs, ks⟩ := c15_rf
 have hF : CallOK Tryz.prog (D cfg) := D_ok cfg_ok
 refine ⟨⟨_, c15_fn, by rw [hb]; rfl, by kernel_rfl, by decide⟩, rf_calls (fn := Tryz.f15) c15_fn hb hn ?_ he hvs hall⟩
 rw [c15_nt]
 exact DoesM.seqR (Aw_does tryz_mixed hF.calls b0 k0 a0 [] none) (DoesM.seqR (Aw_does tryz_mixed hF.calls b1 k1 a1 [] none) (DoesM.seqL (DoesM.seqR (Aw_does tryz_mixed hF.calls b2 k2 a2 [] none)
  (DoesM.block (range_does tryz_mixed hF it42_ok ba bb ka kb (by decide) hrun))) fun dl => Aw_does tryz_mixed hF.calls bs ks hs dl none))
theorem ext147_ok {args : List AV} {h : Heap} {r : AV} {h' : Heap} (hr : ext147 args h = some (r, h')) : FuncOK Tryz.prog 147 args h r h' := by
 obtain ⟨hn, s1, h2, e, s3, vs, hp, hrun, hs, he, hvs, hall, hr⟩ := rfExt_inv hr
 obtain ⟨rfl, rfl⟩ : r = pack vs ∧ h' = s3.h := by simpa using hr
 obtain ⟨q0, a0, hp⟩ := preRun_cons hp
 obtain ⟨q1, a1, hp⟩ := preRun_cons hp
 obtain ⟨q2, a2, hp⟩ := preRun_cons hp
 obtain ⟨q3, a3, hp⟩ := preRun_cons hp
 obtain rfl := preRun_nil hp
 obtain ⟨p0, p1, p2, p3, ca, cb, s0, hb, b0, k0, b1, k1, b2, k2, b3, k3, ba, ka, bb, kb, bs, ks⟩ := c147_rf
 have hF : CallOK Tryz.prog (D cfg) := D_ok cfg_ok
 refine ⟨⟨_, c147_fn, by rw [hb]; rfl, by kernel_rfl, by decide⟩, rf_calls (fn := Tryz.f147) c147_fn hb hn ?_ he hvs hall⟩
 rw [c147_nt]
 exact DoesM.seqR (Aw_does tryz_mixed hF.calls b0 k0 a0 [] none) (DoesM.seqR (Aw_does tryz_mixed hF.calls b1 k1 a1 [] none) (DoesM.seqR (Aw_does tryz_mixed hF.calls b2 k2 a2 [] none) (DoesM.seqL (DoesM.seqR (Aw_does tryz_mixed hF.calls b3 k3 a3 [] none)
  (DoesM.block (range_does tryz_mixed hF it237_ok ba bb ka kb (by decide) hrun))) fun dl => Aw_does tryz_mixed hF.calls bs ks hs dl none)))
noncomputable def cfg1 : Cfg := { P := Tryz.prog, hint := hintT, ext := fun f => if f = 15 then some ext15 else if f = 147 then some ext147 else extT f }
theorem cfg1_ok : CfgOK cfg1 where
 mixed := cfg_ok.mixed
 small := cfg_ok.small
 own := fun f fn hx hf => cfg_ok.own f fn (by
  simp only [cfg1] at hx
  split at hx
  · cases hx
  · split at hx
    · cases hx
    · exact hx) hf
 ext := fun f g hx args h r h' hr => by
  simp only [cfg1] at hx
  have low : ∀ {f}, FuncOK Tryz.prog f args h r h' → (∃ fn, Tryz.prog.funcs[f]? = some fn ∧ fn.body.isSome = true ∧ (fn.name == "runtime.NumGoroutine") = false) ∧ _ := fun ⟨⟨fn, h1, h2, h3, _⟩, h4⟩ => ⟨⟨fn, h1, h2, h3⟩, h4⟩
  split at hx
  · rename_i e
    cases hx; subst e
    exact low (ext15_ok hr)
  · split at hx
    · rename_i e
      cases hx; subst e
      exact low (ext147_ok hr)
    · exact cfg_ok.ext f g hx args h r h' hr
theorem lift_n : ∀ n f args h r, acall cfg n f args h = some r → acall cfg1 n f args h = some r
 | 0, f, args, h, r, hr => by simp [acall] at hr
 | n + 1, f, args, h, r, hr => by
  have n15 : cfg.ext 15 = some fun _ _ => none := by rfl
  have n147 : cfg.ext 147 = some fun _ _ => none := by rfl
  have hne : f ≠ 15 ∧ f ≠ 147 := by
   constructor
   · rintro rfl
     simp only [acall, n15] at hr
     cases hr
   · rintro rfl
     simp only [acall, n147] at hr
     cases hr
  have hext : cfg1.ext f = cfg.ext f := by
   show (if f = 15 then some ext15 else if f = 147 then some ext147 else extT f) = extT f
   rw [if_neg hne.1, if_neg hne.2]
  unfold acall at hr
  unfold acall
  rw [hext]
  split at hr
  · exact hr
  · split at hr
    · rename_i fn hfn
      have hfn' : cfg1.P.funcs[f]? = some fn := hfn
      simp only [hfn']
      split at hr
      · rename_i code hb
        split at hr
        · rename_i hn
          simp only [if_pos hn]
          obtain ⟨x, hx⟩ := afinish_some hr
          obtain ⟨m, hm⟩ := acode_ev (F := acall cfg n) (G := fun _ => acall cfg1 n) (n := n) (fun g a h r hg => ⟨0, fun _ _ => lift_n n g a h r hg⟩) code _ x hx
          have := hm m (Nat.le_refl _) n (Nat.le_refl _)
          show afinish Tryz.prog fn (acode Tryz.prog (acall cfg1 n) (hintT f) n code ⟨argsEnv 0 args, h⟩) = some r
          have e : acode Tryz.prog (acall cfg1 n) (hintT f) n code ⟨argsEnv 0 args, h⟩ = some x := this
          rw [e, ← hx]
          exact hr
        · simp at hr
      · simp at hr
    · simp at hr
theorem lift {f : FuncId} {args : List AV} {h : Heap} {r : AV × Heap} (hr : D cfg f args h = some r) : D cfg1 f args h = some r :=
 let ⟨n, hn⟩ := D_spec hr
 D_of (lift_n n f args h r hn)
theorem call15 {args : List AV} {h : Heap} {r : AV × Heap} (hr : ext15 args h = some r) : D cfg1 15 args h = some r := D_of (n := 1) hr
theorem call147 {args : List AV} {h : Heap} {r : AV × Heap} (hr : ext147 args h = some r) : D cfg1 147 args h = some r := D_of (n := 1) hr
section
abbrev Txt := List UInt8
attribute [simp] delete2 extractV fieldA fieldV len1 astep_call astepT_call astep_callv callV_func callV_yield op_copy op_delete
theorem lt_of_at {h : Heap} {b : Nat} {o : AObj} (hb : h[b]? = some o) : b < h.length := (List.getElem?_eq_some_iff.1 hb).1
def Grow (h h' : Heap) : Prop := h.length ≤ h'.length ∧ ∀ b, b < h.length → h'[b]? = h[b]?
theorem Grow.refl {h : Heap} : Grow h h := ⟨Nat.le_refl _, fun _ _ => rfl⟩
theorem Grow.trans {h h' h'' : Heap} (a : Grow h h') (b : Grow h' h'') : Grow h h'' := ⟨Nat.le_trans a.1 b.1, fun c hc => by rw [b.2 c (Nat.lt_of_lt_of_le hc a.1), a.2 c hc]⟩
theorem Grow.at {h h' : Heap} (a : Grow h h') {b : Nat} {o : AObj} (hb : h[b]? = some o) : h'[b]? = some o := by rw [a.2 b (lt_of_at hb), hb]
@[simp] theorem Grow_refl {h : Heap} : Grow h h := .refl
@[simp] theorem Grow_app {h h' l : Heap} (a : Grow h h') : Grow h (h' ++ l) := a.trans ⟨by simp, fun b hb => List.getElem?_append_left hb⟩
@[simp] theorem Grow_set {h h' : Heap} {b : Nat} {o : AObj} (hb : h.length ≤ b) (a : Grow h h') : Grow h (h'.set b o) :=
 ⟨by simpa using a.1, fun c hc => by rw [List.getElem?_set_ne (by omega), a.2 c hc]⟩
open Classical in
noncomputable def G (f : FuncId) (args : List AV) (h : Heap) : Heap := if hx : ∃ h', (∃ r, D cfg f args h = some (r, h')) ∧ Grow h h' then hx.choose else h
theorem G_grow {f : FuncId} {args : List AV} {h : Heap} : Grow h (G f args h) := by
 unfold G
 split
 · rename_i hx; exact hx.choose_spec.2
 · exact .refl
theorem G_of {f : FuncId} {args : List AV} {h : Heap} {r₀ : AV} (hx : ∃ r h', D cfg f args h = some (r, h') ∧ (r = r₀ ∧ Grow h h')) : D cfg f args h = some (r₀, G f args h) := by
 obtain ⟨r, h', h1, rfl, h2⟩ := hx
 have hx : ∃ h', (∃ r, D cfg f args h = some (r, h')) ∧ Grow h h' := ⟨h', ⟨r, h1⟩, h2⟩
 obtain ⟨r', h3⟩ := hx.choose_spec.1
 have e : G f args h = hx.choose := by unfold G; rw [dif_pos hx]
 have h4 : some (r, h') = some (r', hx.choose) := h1.symm.trans h3
 simp only [Option.some.injEq, Prod.mk.injEq] at h4
 rw [e, ← h4.2]
 exact h1
theorem D_eq {f : FuncId} {args : List AV} {h : Heap} {r₀ : AV} {h₀ : Heap} (hx : ∃ r h', D cfg f args h = some (r, h') ∧ (r = r₀ ∧ h' = h₀)) : D cfg f args h = some (r₀, h₀) := by
 obtain ⟨r, h', h1, rfl, rfl⟩ := hx
 exact h1
@[simp] theorem Grow_G {f : FuncId} {args : List AV} {h h' : Heap} (a : Grow h h') : Grow h (G f args h') := a.trans G_grow
@[simp] theorem G_lt {f : FuncId} {args : List AV} {h : Heap} {b : Nat} (hb : b < h.length) : b < (G f args h).length := Nat.lt_of_lt_of_le hb G_grow.1
@[simp] theorem G_le {f : FuncId} {args : List AV} {h : Heap} {b : Nat} (hb : b ≤ h.length) : b ≤ (G f args h).length := Nat.le_trans hb G_grow.1
@[simp] theorem G_at {f : FuncId} {args : List AV} {h : Heap} {b : Nat} (hb : b < h.length) : (G f args h)[b]? = h[b]? := G_grow.2 b hb
@[simp] theorem G_getElem {f : FuncId} {args : List AV} {h : Heap} {b : Nat} (hb : b < h.length) : (G f args h)[b]'(G_lt hb) = h[b] := by
 have := G_at (f := f) (args := args) hb
 rw [List.getElem?_eq_getElem hb, List.getElem?_eq_getElem (G_lt hb)] at this
 simpa using this
@[simp] theorem G_lt_add {f : FuncId} {args : List AV} {h : Heap} {b k : Nat} (hb : b < (G f args h).length) : b < (G f args h).length + k := Nat.lt_add_right _ hb
@[simp] theorem G_app_at {f : FuncId} {args : List AV} {h l : Heap} {b : Nat} (hb : b < (G f args h).length) : (G f args h ++ l)[b]? = (G f args h)[b]? := List.getElem?_append_left hb
@[simp] theorem G_app_lt {f : FuncId} {args : List AV} {h l : Heap} {b : Nat} (hb : b < (G f args h).length) : (b < (G f args h).length + l.length) = True := eq_true (Nat.lt_add_right _ hb)
theorem G_get {f : FuncId} {args : List AV} {h : Heap} {b : Nat} {o : AObj} (hb : h[b]? = some o) : (G f args h)[b]? = some o := G_grow.at hb
@[simp] theorem result_cell {P : Program} {s : St} {a : Tmp} {t : TypeId} {rs : List ResultVar} : aresultL P s (.cell a t :: rs) = bindO (s.ρ.get a) fun p => bindO (aload P (look s.h) t p) fun v => bindO (aresultL P s rs) fun vs => some (v :: vs) := by
 simp only [aresultL, aresult]
 cases s.ρ.get a with
 | none => rfl
 | some p =>
  simp only [bindO]
  show (match aload P (look s.h) t p, aresultL P s rs with | some v, some vs => some (v :: vs) | _, _ => none) = _
  cases aload P (look s.h) t p <;> cases aresultL P s rs <;> rfl
@[simp] theorem evalA_func {ρ : Env} {f : FuncId} : evalA ρ (.func f) = some (.fn (.func f) []) := (rfl)
def guardQ {α : Type} (p : Prop) [Decidable p] (a : Option α) (_ : Tag a := ⟨⟩) : Option α := if p then a else none
section
variable {α β : Type} {p : Prop} [Decidable p] {a : Option α}
@[simp] theorem bindO_guardQ {f : α → Option β} : bindO (guardQ p a) f = guardQ p (bindO a f) := by by_cases h : p <;> simp [guardQ, h]
@[simp] theorem fin_guardQ {s : St} {a : Option (AV × Delta)} : fin s (guardQ p a) = guardQ p (fin s a) := by by_cases h : p <;> simp [guardQ, h, fin]
@[simp] theorem finT_guardQ {s : St} {a : Option (AV × Delta)} : finT s (guardQ p a) = guardQ p (finT s a) := by by_cases h : p <;> simp [guardQ, h, finT]
@[simp] theorem holds_guardQ {f : α → Prop} : holds (guardQ p a) f = (p ∧ holds a f) := by by_cases h : p <;> simp [guardQ, h]
end
@[simp] theorem a_addS {t : TK} {x y : List UInt8} : abin t .add (.str x) (.str y) = guardQ (x.length + y.length ≤ 9223372036854775807) (some (.str (x ++ y))) := by simp [abin, guardQ]
@[simp] theorem sameAt_G {f : FuncId} {args : List AV} {h : Heap} {b : Nat} (hb : b < h.length) : sameAt h (G f args h) b = true := sameAt_of hb (G_at hb)
@[simp] theorem sameAt_refl {h : Heap} {b : Nat} (hb : b < h.length) : sameAt h h b = true := sameAt_of hb rfl
section
variable {P : Program} {F : CallF} {k : SC} {keep : Option (List Nat)} {Q : AExit → St → Prop}
theorem Wt.for (S : Nat → St) (n : Nat) (step : ∀ i, i < n → Wt P F k ⟨cut keep (S i).ρ, (S i).h⟩ (andThen (fun s' => s' = S (i + 1)) Q)) (last : Wt P F k ⟨cut keep (S n).ρ, (S n).h⟩ (andThen (fun _ => False) Q)) {s : St} (h0 : s = S 0) : Wt P F (.loop k keep) s Q := by
 subst h0
 refine Wt.loop (fun m s => ∃ i, m = n - i ∧ i ≤ n ∧ s = S i) (m := n) ⟨0, rfl, Nat.zero_le _, rfl⟩ ?_
 rintro m s ⟨i, rfl, hi, rfl⟩
 by_cases hn : i < n
 · refine W.mono (step i hn) fun e s' hx => ?_
   cases e with
   | normal => exact ⟨n - (i + 1), by omega, i + 1, rfl, hn, hx⟩
   | exit id => exact hx
   | ret => exact hx
 · obtain rfl : i = n := by omega
   refine W.mono last fun e s' hx => ?_
   cases e with
   | normal => exact hx.elim
   | exit id => exact hx
   | ret => exact hx
theorem Wt.forP (ρ : Nat → Env) (I : Nat → Heap → Prop) (n : Nat) (step : ∀ i h, i < n → I i h → Wt P F k ⟨cut keep (ρ i), h⟩ (andThen (fun s' => s'.ρ = ρ (i + 1) ∧ I (i + 1) s'.h) Q))
  (last : ∀ h, I n h → Wt P F k ⟨cut keep (ρ n), h⟩ (andThen (fun _ => False) Q)) {s : St} (h0 : s.ρ = ρ 0 ∧ I 0 s.h) : Wt P F (.loop k keep) s Q := by
 refine Wt.loop (fun m s => ∃ i, m = n - i ∧ i ≤ n ∧ s.ρ = ρ i ∧ I i s.h) (m := n) ⟨0, rfl, Nat.zero_le _, h0⟩ ?_
 rintro m ⟨ρ', h⟩ ⟨i, rfl, hi, hρ, hI⟩
 simp only at hρ hI
 subst hρ
 by_cases hn : i < n
 · refine W.mono (step i h hn hI) fun e s' hx => ?_
   cases e with
   | normal => exact ⟨n - (i + 1), by omega, i + 1, rfl, hn, hx⟩
   | exit id => exact hx
   | ret => exact hx
 · obtain rfl : i = n := by omega
   refine W.mono (last h hI) fun e s' hx => ?_
   cases e with
   | normal => exact hx.elim
   | exit id => exact hx
   | ret => exact hx
end
section
variable {P : Program} {F : CallF}
def Unr (P : Program) (F : CallF) (k : SC) (keep : Option (List Nat)) (Q : AExit → St → Prop) : Nat → St → Prop
 | 0, s => Wt P F k ⟨cut keep s.ρ, s.h⟩ (andThen (fun _ => False) Q)
 | m + 1, s => Wt P F k ⟨cut keep s.ρ, s.h⟩ (andThen (Unr P F k keep Q m) Q)
theorem Wt.unr {k : SC} {keep : Option (List Nat)} {Q : AExit → St → Prop} (m : Nat) {s : St} (h : Unr P F k keep Q m s) : Wt P F (.loop k keep) s Q := by
 refine Wt.loop (fun m s => Unr P F k keep Q m s) (m := m) h ?_
 intro m s hs
 cases m with
 | zero =>
  refine W.mono hs fun e s' hx => ?_
  cases e with
  | normal => exact hx.elim
  | exit id => exact hx
  | ret => exact hx
 | succ m =>
  refine W.mono hs fun e s' hx => ?_
  cases e with
  | normal => exact ⟨m, Nat.lt_succ_self _, hx⟩
  | exit id => exact hx
  | ret => exact hx
end
theorem i64 {n : Nat} (h : n ≤ 9223372036854775807) : IntKind.wrap .i64 (n : Int) = n := wrap_i64 (by omega) (by omega)
theorem i64s {n : Nat} (h : n < 9223372036854775807) : IntKind.wrap .i64 ((n : Int) + 1) = (n : Int) + 1 := wrap_i64 (by omega) (by omega)
theorem ofInt_toNat {a : Nat} (h : a < 18446744073709551616) : (BitVec.ofInt 64 (a : Int)).toNat = a := by
 simp [BitVec.toNat_ofInt]; omega
theorem andN {a m : Nat} (ha : a ≤ 9223372036854775807) (hm : m ≤ 9223372036854775807) : IntKind.wrap .i64 (((BitVec.ofInt 64 (a : Int) &&& BitVec.ofInt 64 (m : Int)).toNat : Nat) : Int) = ((a &&& m : Nat) : Int) := by
 rw [BitVec.toNat_and, ofInt_toNat (by omega), ofInt_toNat (by omega)]
 have := Nat.and_le_left (n := a) (m := m)
 exact wrap_i64 (by omega) (by omega)
theorem and16 {a : Nat} (ha : a ≤ 9223372036854775807) : IntKind.wrap .i64 (((BitVec.ofInt 64 (a : Int) &&& BitVec.ofInt 64 65535).toNat : Nat) : Int) = ((a % 65536 : Nat) : Int) := by
 have := andN (m := 65535) ha (by omega)
 rw [show ((65535 : Nat) : Int) = 65535 from rfl] at this
 rw [this]
 congr 1
 exact Nat.and_two_pow_sub_one_eq_mod a 16
theorem orB {a c : Nat} (ha : a * 256 + c ≤ 9223372036854775807) (hc : c < 256) : IntKind.wrap .i64 (((BitVec.ofInt 64 (((a * 256 : Nat) : Int)) ||| BitVec.ofInt 64 (c : Int)).toNat : Nat) : Int) = ((a * 256 + c : Nat) : Int) := by
 rw [BitVec.toNat_or, ofInt_toNat (by omega), ofInt_toNat (by omega)]
 have : a * 256 ||| c = a * 256 + c := by
  have := Nat.shiftLeft_add_eq_or_of_lt (i := 8) (b := c) hc a
  rw [Nat.shiftLeft_eq] at this
  exact this.symm
 rw [this]
 exact wrap_i64 (by omega) (by omega)
theorem notN {v : Nat} (hv : v ≤ 65535) : IntKind.wrap .i64 (((BitVec.ofInt 64 (-1) ^^^ BitVec.ofInt 64 (v : Int)).toNat : Nat) : Int) = -(v : Int) - 1 := by
 have h : (BitVec.ofInt 64 (-1) ^^^ BitVec.ofInt 64 (v : Int)).toNat = 18446744073709551615 - v := by
  have e : BitVec.ofInt 64 (-1) = BitVec.allOnes 64 := by decide
  rw [e, BitVec.allOnes_xor, BitVec.toNat_not, ofInt_toNat (by omega)]
 rw [h]
 simp only [IntKind.wrap, IntKind.signed, IntKind.bits]
 simp
 omega
theorem not16 {v : Nat} (hv : v ≤ 65535) : IntKind.wrap .i64 (((BitVec.ofInt 64 (-(v : Int) - 1) &&& BitVec.ofInt 64 65535).toNat : Nat) : Int) = ((65535 - v : Nat) : Int) := by
 have h : (BitVec.ofInt 64 (-(v : Int) - 1)).toNat = 18446744073709551615 - v := by
  simp [BitVec.toNat_ofInt]; omega
 have h2 : (BitVec.ofInt 64 65535).toNat = 65535 := by decide
 rw [BitVec.toNat_and, h, h2]
 have : (18446744073709551615 - v) &&& 65535 = (18446744073709551615 - v) % 65536 := Nat.and_two_pow_sub_one_eq_mod _ 16
 rw [this]
 have e : (18446744073709551615 - v) % 65536 = 65535 - v := by omega
 rw [e]
 exact wrap_i64 (by omega) (by omega)
section
variable {t : TK} {a c : Nat}
theorem a_and16 (ha : a ≤ 9223372036854775807) : abin t .and (.int .i64 (a : Int)) (.int .i64 65535) = some (.int .i64 ((a : Int) % 65536)) := by rw [abin_and]; exact congrArg (fun x => some (AV.int .i64 x)) ((and16 ha).trans (by omega))
theorem a_shr (n k : Nat) (hn : n ≤ 63) (hk : (2 : Nat) ^ n = k) : abin t .shr (.int .i64 (a : Int)) (.int .u64 (n : Int)) = some (.int .i64 ((a : Int) / (k : Int))) := by
 rw [abin_shr (by omega)]
 have : min (n : Int).toNat IntKind.i64.bits = n := by simp [IntKind.bits]; omega
 rw [this, Int.fdiv_eq_ediv_of_nonneg _ (Int.pow_nonneg (by omega)), ← hk]
 simp
theorem a_shr8 : abin t .shr (.int .i64 (a : Int)) (.int .u64 8) = some (.int .i64 ((a : Int) / 256)) := a_shr 8 256 (by omega) rfl
theorem a_shr16 : abin t .shr (.int .i64 (a : Int)) (.int .u64 16) = some (.int .i64 ((a : Int) / 65536)) := a_shr 16 65536 (by omega) rfl
theorem a_shl8 (ha : a * 256 ≤ 9223372036854775807) : abin t .shl (.int .i64 (a : Int)) (.int .u64 8) = some (.int .i64 ((a : Int) * 256)) := by
 rw [abin_shl (by omega)]
 have : min (8 : Int).toNat IntKind.i64.bits = 8 := by decide
 rw [this, wrap_i64 (by omega) (by omega)]
 rfl
theorem a_orB (ha : a * 256 + c ≤ 9223372036854775807) (hc : c < 256) : abin t .or (.int .i64 ((a : Int) * 256)) (.int .i64 (c : Int)) = some (.int .i64 ((a : Int) * 256 + (c : Int))) := by
 rw [abin_or]
 have := orB ha hc
 rw [show ((a * 256 : Nat) : Int) = (a : Int) * 256 by omega, show ((a * 256 + c : Nat) : Int) = (a : Int) * 256 + c by omega] at this
 exact congrArg (fun x => some (AV.int .i64 x)) this
theorem a_xor (ha : a ≤ 65535) : aun .xor (.int .i64 (a : Int)) = some (.int .i64 (-(a : Int) - 1)) := congrArg (fun x => some (AV.int .i64 x)) (notN ha)
theorem a_not16 (ha : a ≤ 65535) : abin t .and (.int .i64 (-(a : Int) - 1)) (.int .i64 65535) = some (.int .i64 (65535 - (a : Int))) := by rw [abin_and]; exact congrArg (fun x => some (AV.int .i64 x)) ((not16 ha).trans (by omega))
theorem byte_of {a : Nat} : IntKind.wrap .u8 (a : Int) = ((UInt8.ofNat a).toNat : Int) := by
 simp only [IntKind.wrap, IntKind.signed, IntKind.bits]
 simp
end
end
section
def Only (fp : Nat → Prop) (h h' : Heap) : Prop := h.length ≤ h'.length ∧ ∀ b, b < h.length → ¬ fp b → h'[b]? = h[b]?
theorem Only.refl {fp : Nat → Prop} {h : Heap} : Only fp h h := ⟨Nat.le_refl _, fun _ _ _ => rfl⟩
theorem Only.trans {fp : Nat → Prop} {h h' h'' : Heap} (a : Only fp h h') (b : Only fp h' h'') : Only fp h h'' :=
 ⟨Nat.le_trans a.1 b.1, fun c hc hn => by rw [b.2 c (Nat.lt_of_lt_of_le hc a.1) hn, a.2 c hc hn]⟩
theorem Only.mono {fp fp' : Nat → Prop} {h h' : Heap} (a : Only fp h h') (hs : ∀ b, b < h.length → fp b → fp' b) : Only fp' h h' :=
 ⟨a.1, fun c hc hn => a.2 c hc fun hm => hn (hs c hc hm)⟩
theorem Only.at {fp : Nat → Prop} {h h' : Heap} (a : Only fp h h') {b : Nat} {o : AObj} (hb : h[b]? = some o) (hn : ¬ fp b) : h'[b]? = some o := by
 rw [a.2 b (lt_of_at hb) hn, hb]
theorem Only.next {fp gp : Nat → Prop} {h h' h'' : Heap} (a : Only fp h h') (b : Only gp h' h'') (hs : ∀ c, c < h.length → gp c → fp c) : Only fp h h'' :=
 ⟨Nat.le_trans a.1 b.1, fun c hc hn => by rw [b.2 c (Nat.lt_of_lt_of_le hc a.1) fun h => hn (hs c hc h), a.2 c hc hn]⟩
theorem Only.app {fp : Nat → Prop} {h l : Heap} : Only fp h (h ++ l) := ⟨by simp, fun b hb _ => List.getElem?_append_left hb⟩
theorem Only.set {fp : Nat → Prop} {h : Heap} {b : Nat} {o : AObj} (hb : fp b) : Only fp h (h.set b o) :=
 ⟨by simp, fun c hc hn => by rw [List.getElem?_set_ne]; intro e; subst e; exact hn hb⟩
theorem Grow.only {fp : Nat → Prop} {h h' : Heap} (a : Grow h h') : Only fp h h' := ⟨a.1, fun c hc _ => a.2 c hc⟩
theorem Only.grow {fp : Nat → Prop} {h h' : Heap} (a : Only fp h h') (hf : ∀ c, fp c → h.length ≤ c) : Grow h h' := ⟨a.1, fun c hc => a.2 c hc fun hm => by have := hf c hm; omega⟩
theorem Only.fresh {h₀ h h' : Heap} {fp : Nat → Prop} (a : Grow h₀ h) (b : Only fp h h') (hf : ∀ c, fp c → h₀.length ≤ c) : Grow h₀ h' :=
 ⟨Nat.le_trans a.1 b.1, fun c hc => by rw [b.2 c (Nat.lt_of_lt_of_le hc a.1) (fun hm => by have := hf c hm; omega), a.2 c hc]⟩
def Sl1 (h : Heap) (v : AV) (xs : List AV) : Prop :=
 (v = .sl none 0 0 ∧ xs = []) ∨ ∃ b o g c cs, v = .sl (some ⟨b, o, g⟩) xs.length c ∧ row (look h) ⟨b, o, g⟩ = some cs ∧ (cs.drop o).take xs.length = xs
def elp (v : AV) (i : Nat) : AV := match v with
 | .sl (some a) _ _ => .ptr (some { a with off := a.off + i })
 | _ => .nili
section
variable {h : Heap} {v : AV} {xs : List AV}
theorem Sl1.len (H : Sl1 h v xs) {t e : TypeId} (ht : tk Tryz.prog t = .slice e) {L : Look} : alen Tryz.prog L t v = some (.int .i64 xs.length) := by
 rcases H with ⟨rfl, rfl⟩ | ⟨b, o, g, c, cs, rfl, _, _⟩ <;> simp [alen, ht]
theorem Sl1.at (H : Sl1 h v xs) {t e : TypeId} (ht : tk Tryz.prog t = .slice e) (he : tsz Tryz.prog e = 1) {i : Nat} (hi : i < xs.length) : aindexAddr Tryz.prog t v (.int .i64 i) = some (elp v i) := by
 rcases H with ⟨rfl, rfl⟩ | ⟨b, o, g, c, cs, rfl, _, _⟩
 · simp at hi
 · have : (i : Int) < xs.length := by omega
   simp [aindexAddr, ht, he, this, elp, hi]
theorem Sl1.load (H : Sl1 h v xs) {e : TypeId} (he : agk (tk Tryz.prog e) = some false) {i : Nat} (hi : i < xs.length) : aload Tryz.prog (look h) e (elp v i) = some xs[i] := by
 rcases H with ⟨rfl, rfl⟩ | ⟨b, o, g, c, cs, rfl, h1, h2⟩
 · simp at hi
 · simp only [elp, aload]
   have h3 : row (look h) { b := b, off := o + i, gen := g } = some cs := h1
   rw [h3, he]
   have h4 : xs[i]? = some xs[i] := List.getElem?_eq_getElem hi
   have h5 : ((cs.drop o).take xs.length)[i]? = xs[i]? := by rw [h2]
   rw [h4, List.getElem?_take, if_pos hi, List.getElem?_drop] at h5
   exact h5
theorem row_grow {h' : Heap} {a : AA} {cs : List AV} (ho : Grow h h') (hr : row (look h) a = some cs) : row (look h') a = some cs := by
 simp only [row] at hr ⊢
 cases hb : h[a.b]? with
 | none => simp [look_at, hb] at hr
 | some o =>
  rw [look_at, hb] at hr
  rw [look_at, ho.at hb]
  exact hr
theorem Sl1.grow {h' : Heap} (H : Sl1 h v xs) (ho : Grow h h') : Sl1 h' v xs := by
 rcases H with ⟨rfl, rfl⟩ | ⟨b, o, g, c, cs, rfl, h1, h2⟩
 · exact .inl ⟨rfl, rfl⟩
 · exact .inr ⟨b, o, g, c, cs, rfl, row_grow ho h1, h2⟩
theorem Sl1.nil : Sl1 h (.sl none 0 0) [] := .inl ⟨rfl, rfl⟩
theorem Sl1.cells {b : Nat} {e : TypeId} {s : Bool} (hb : h[b]? = some (.cells xs e s)) : Sl1 h (.sl (some ⟨b, 0, xs.length⟩) xs.length xs.length) xs :=
 .inr ⟨b, 0, xs.length, xs.length, xs, rfl, by simp [row, hb], by simp⟩
theorem Sl1.cells' {b n m k : Nat} {e : TypeId} {s : Bool} (hb : h[b]? = some (.cells xs e s)) (hn : n = xs.length) (hm : m = xs.length) (hk : k = xs.length) : Sl1 h (.sl (some ⟨b, 0, n⟩) m k) xs := by
 subst hn hm hk; exact .cells hb
end
def strCells (l : List Txt) : List AV := l.map .str
def intCells (l : List Int) : List AV := l.map (.int .i64)
theorem strCells_len {l : List Txt} : (strCells l).length = l.length := by simp [strCells]
@[simp] theorem strCells_get {l : List Txt} {i : Nat} (h : i < (strCells l).length) : (strCells l)[i] = .str (l[i]'(by simpa [strCells] using h)) := by simp [strCells]
theorem intCells_len {l : List Int} : (intCells l).length = l.length := by simp [intCells]
@[simp] theorem intCells_get {l : List Int} {i : Nat} (h : i < (intCells l).length) : (intCells l)[i] = .int .i64 (l[i]'(by simpa [intCells] using h)) := by simp [intCells]
theorem byteCells_len {l : Txt} : (byteCells l).length = l.length := by simp [byteCells]
@[simp] theorem byteCells_get {l : Txt} {i : Nat} (h : i < (byteCells l).length) : (byteCells l)[i] = .int .u8 ((l[i]'(by simpa [byteCells] using h)).toNat : Int) := by simp [byteCells]
theorem byteCells_app {a b : Txt} : byteCells (a ++ b) = byteCells a ++ byteCells b := by simp [byteCells]
theorem cellBytes_byte {l : Txt} : cellBytes (byteCells l) = some l := by
 induction l with
 | nil => rfl
 | cons c l ih =>
  show (match (AV.int .u8 (c.toNat : Int) :: byteCells l : List AV) with
   | [] => some []
   | .int .u8 n :: r => (cellBytes r).map fun s => UInt8.ofNat n.toNat :: s
   | _ :: _ => none) = _
  simp only [ih, Option.map_some, Int.toNat_natCast]
  congr 2
  exact UInt8.toNat_inj.1 (by simp)
def bufSl (b n : Nat) (xs : List AV) : AV := if n = 0 then .sl none 0 0 else .sl (some ⟨b, 0, xs.length⟩) n n
theorem bufSl_one {b n : Nat} {xs : List AV} : (bufSl b n xs).one = true := by unfold bufSl; split <;> rfl
theorem bufSl_cells {b n : Nat} {xs : List AV} : (bufSl b n xs).cells = [bufSl b n xs] := by unfold bufSl; split <;> rfl
theorem bufSl_notTup {b n : Nat} {xs : List AV} : (bufSl b n xs).notTup = true := by unfold bufSl; split <;> rfl
theorem bufSl_len {L : Look} {t e b n : Nat} {xs : List AV} (ht : tk Tryz.prog t = .slice e) : alen Tryz.prog L t (bufSl b n xs) = some (.int .i64 n) := by
 unfold bufSl
 split
 · rename_i e; simp [alen, ht, e]
 · simp [alen, ht]
theorem append_buf {t e k : Nat} (ht : tk Tryz.prog t = .slice e) (hk : tsz Tryz.prog e = k) (hk0 : 0 < k) (hz : zeroOK Tryz.prog e = true) (hby : Tryz.prog.bytesOf e ≤ 300) {h : Heap} {b n : Nat} {xs ys : List AV} (hys : ys.length = k) (hxs : xs.length = n * k)
  (hb : n ≠ 0 → h[b]? = some (.cells xs e true)) (hn : n ≤ 1000000) :
  ∃ δ h', append2 Tryz.prog (look (h ++ [AObj.cells ys e true])) (h.length + 1) t t [bufSl b n xs, .sl (some ⟨h.length, 0, k⟩) 1 1] = some (bufSl (if n = 0 then h.length + 1 else b) (n + 1) (xs ++ ys), δ) ∧ Heap.apply (h ++ [AObj.cells ys e true]) δ = h' ∧
   h'[if n = 0 then h.length + 1 else b]? = some (.cells (xs ++ ys) e true) ∧ Only (fun c => c = b ∧ n ≠ 0) h h' := by
 have hsrc : srcCells Tryz.prog (look (h ++ [AObj.cells ys e true])) e (.sl (some ⟨h.length, 0, k⟩) 1 1) = some (1, ys) := by
  simp [srcCells, slCells, row, hk, hys]
  exact List.take_of_length_le (by omega)
 have hroom : ∀ m, m ≤ 1000001 → m * Tryz.prog.bytesOf e ≤ roomMax := fun m hm => by
  have := Nat.mul_le_mul hm hby
  simp only [roomMax]
  omega
 by_cases hn0 : n = 0
 · subst hn0
   have hxs0 : xs = [] := List.length_eq_zero_iff.1 (by simpa using hxs)
   subst hxs0
   refine ⟨.new (.cells ys e true), h ++ [AObj.cells ys e true] ++ [AObj.cells ys e true], ?_, rfl, ?_, ?_⟩
   · have h1 := hroom 1 (by omega)
     simp only [append2, aappend, ht, hk, hsrc, hk0, if_true, bufSl, aappendE]
     simp at h1
     simp [h1, hz]
   · simp
   · rw [List.append_assoc]; exact .app
 · have hb1 := hb hn0
   have hlt := lt_of_at hb1
   have hb2 : (h ++ [AObj.cells ys e true])[b]? = some (.cells xs e true) := by rw [List.getElem?_append_left hlt]; exact hb1
   rw [if_neg hn0]
   refine ⟨.set b (.cells (xs ++ ys) e true), (h ++ [AObj.cells ys e true]).set b (.cells (xs ++ ys) e true), ?_, rfl, ?_, ?_⟩
   · have h1 := hroom (n + 1) (by omega)
     have h2 : ¬ (n + 1 ≤ n) := by omega
     have h3 : n + 1 ≤ 9223372036854775807 := by omega
     have h4 : xs.take (n * k) = xs := List.take_of_length_le (by omega)
     simp only [append2, aappend, ht, hk, hsrc, hk0, if_true, bufSl, hn0, if_false, aappendE, look_at, hb2]
     simp [h1, hz, h2, h3, hxs, h4]
   · rw [List.getElem?_set_self (by simp; omega)]
   · exact Only.app.trans (.set ⟨rfl, hn0⟩)
structure Buf (e k n₀ : Nat) (xs : List AV) (n b : Nat) (h : Heap) : Prop where
 at_ : n ≠ 0 → h[b]? = some (.cells xs e true) ∧ n₀ ≤ b
 len : xs.length = n * k
theorem Buf.zero {e k n₀ : Nat} {h : Heap} {b : Nat} : Buf e k n₀ [] 0 b h := ⟨fun h => absurd rfl h, by simp⟩
theorem Buf.more {e k n₀ : Nat} {h h' : Heap} {xs : List AV} {n b : Nat} {fp : Nat → Prop} (B : Buf e k n₀ xs n b h) (g : Only fp h h') (hf : ∀ c, fp c → c < n₀) : Buf e k n₀ xs n b h' :=
 ⟨fun hn => ⟨g.at (B.at_ hn).1 fun h => by have := hf _ h; have := (B.at_ hn).2; omega, (B.at_ hn).2⟩, B.len⟩
theorem Buf.bytes {n₀ : Nat} {h : Heap} {s : Txt} {n b : Nat} (B : Buf 5 1 n₀ (byteCells s) n b h) : aconv Tryz.prog (look h) h.length 54 9 (bufSl b n (byteCells s)) = some (.str s, .no) := by
 have hl := B.len
 rw [byteCells_len, Nat.mul_one] at hl
 subst hl
 unfold bufSl
 split
 · rename_i e
   have : s = [] := List.length_eq_zero_iff.1 e
   subst this
   simp [aconv]
 · rename_i hn
   have h1 := (B.at_ hn).1
   simp [aconv, slCells, row, h1, byteCells_len, cellBytes_byte, List.take_of_length_le]
theorem Buf.step {t e k : Nat} (ht : tk Tryz.prog t = .slice e) (hk : tsz Tryz.prog e = k) (hk0 : 0 < k) (hz : zeroOK Tryz.prog e = true) (hby : Tryz.prog.bytesOf e ≤ 300) {n₀ : Nat} {h : Heap} {xs ys : List AV} {n b : Nat} (B : Buf e k n₀ xs n b h) (h0 : n₀ ≤ h.length) (hn : n ≤ 1000000) (hys : ys.length = k) :
  ∃ δ h' b', append2 Tryz.prog (look (h ++ [AObj.cells ys e true])) (h.length + 1) t t [bufSl b n xs, .sl (some ⟨h.length, 0, k⟩) 1 1] = some (bufSl b' (n + 1) (xs ++ ys), δ) ∧ Heap.apply (h ++ [AObj.cells ys e true]) δ = h' ∧ Buf e k n₀ (xs ++ ys) (n + 1) b' h' ∧ Only (fun c => n₀ ≤ c) h h' := by
 obtain ⟨δ, h', e1, e2, e3, e4⟩ := append_buf ht hk hk0 hz hby hys B.len (fun hne => (B.at_ hne).1) hn
 refine ⟨δ, h', _, e1, e2, ⟨fun _ => ⟨e3, ?_⟩, ?_⟩, e4.mono fun c _ hc => by rw [hc.1]; exact (B.at_ hc.2).2⟩
 · split
   · omega
   · rename_i hne; exact (B.at_ hne).2
 · rw [List.length_append, B.len, hys, Nat.add_mul, Nat.one_mul]
theorem cell_load {h : Heap} {sb n off : Nat} {cs : List AV} {e t : TypeId} {g : Bool} (h1 : h[sb]? = some (.cells cs e g)) (hl : cs.length = n) (ht : agk (tk Tryz.prog t) = some false) {v : AV} (hv : cs[off]? = some v) : aload Tryz.prog (look h) t (.ptr (some ⟨sb, off, n⟩)) = some v := by
 have hr : row (look h) ⟨sb, off, n⟩ = some cs := by simp [row, h1, hl]
 simp only [aload, hr, ht]
 exact hv
theorem cell_store {h : Heap} {sb n off : Nat} {cs : List AV} {e t : TypeId} {g : Bool} (h1 : h[sb]? = some (.cells cs e g)) (hl : cs.length = n) (ht : tsz Tryz.prog t = 1) {v : AV} (hv : v.one = true) (ho : off < n) : astore Tryz.prog (look h) t (.ptr (some ⟨sb, off, n⟩)) v = some (.set sb (.cells (cs.set off v) e g)) := by
 have hc : v.cells = [v] := by cases v <;> simp at hv <;> rfl
 have h2 : off + 1 ≤ n := ho
 simp [astore, h1, hl, ht, hc, hv, h2, -AV.cells, -AV.one]
theorem ld_all {h : Heap} {b n : Nat} {cs : List AV} {e t : TypeId} {g : Bool} (hb : h[b]? = some (.cells cs e g)) (hl : cs.length = n) (ht : agk (tk Tryz.prog t) = some true) (hz : tsz Tryz.prog t = n) : aload Tryz.prog (look h) t (.ptr (some ⟨b, 0, n⟩)) = some (.agg cs) := by
 have hr : row (look h) ⟨b, 0, n⟩ = some cs := by simp [row, hb, hl]
 simp only [aload, hr, ht, hz, hl, List.drop_zero, Nat.zero_add, Nat.le_refl, if_true]
 rw [List.take_of_length_le (by omega)]
theorem ld_set {h : Heap} {b n : Nat} {vs : List AV} {e t : TypeId} {g : Bool} (hb : b < h.length) (hl : vs.length = n) (ht : agk (tk Tryz.prog t) = some true) (hz : tsz Tryz.prog t = n) : aload Tryz.prog (look (h.set b (.cells vs e g))) t (.ptr (some ⟨b, 0, n⟩)) = some (.agg vs) :=
 ld_all (List.getElem?_set_self hb) hl ht hz
theorem st_all {h : Heap} {b n : Nat} {cs vs : List AV} {e t : TypeId} {g : Bool} (hb : h[b]? = some (.cells cs e g)) (hl : cs.length = n) (hv : vs.length = n) (h1 : vs.all AV.one = true) (hp : 0 < n) (hz : tsz Tryz.prog t = n) : astore Tryz.prog (look h) t (.ptr (some ⟨b, 0, n⟩)) (.agg vs) = some (.set b (.cells vs e g)) := by
 have hs : splice cs 0 vs = vs := by simp [splice, hl, hv, List.drop_of_length_le]
 simp only [astore, look_at, hb, hz, hl, AV.cells, hv, h1, AV.one, hs]
 simp [hp]
end
def big (v : Nat) : Nat → List UInt8
 | 0 => []
 | n + 1 => big (v / 256) n ++ [UInt8.ofNat v]
def num (s : List UInt8) : Nat := s.foldl (fun v c => v * 256 + c.toNat) 0
def ws : Bool → List UInt8 → Nat
 | _, [] => 0
 | true, c :: r => c.toNat * 256 + ws false r
 | false, c :: r => c.toNat + ws true r
def ones (S : Nat) : Nat := if S = 0 then 0 else (S - 1) % 65535 + 1
def csum (s : List UInt8) : Nat := 65535 - ones (ws true s)
theorem ones_le (S : Nat) : ones S ≤ 65535 := by unfold ones; split <;> omega
theorem ones_add (S w : Nat) (hw : w ≤ 65535) : ones (S + w) = if ones S + w ≤ 65535 then ones S + w else ones S + w - 65535 := by
 unfold ones
 split <;> split <;> (try split) <;> omega
theorem big_length (v n : Nat) : (big v n).length = n := by
 induction n generalizing v with
 | zero => rfl
 | succ n ih => simp [big, ih]
theorem num_snoc (s : List UInt8) (c : UInt8) : num (s ++ [c]) = num s * 256 + c.toNat := by simp [num]
theorem ofNat_toNat (v : Nat) : (UInt8.ofNat v).toNat = v % 256 := by simp
theorem num_big (v n : Nat) : num (big v n) = v % 256 ^ n := by
 induction n generalizing v with
 | zero => simp [big, num]; omega
 | succ n ih =>
  rw [big, num_snoc, ih, ofNat_toNat, Nat.pow_succ, Nat.mul_comm (256 ^ n) 256, Nat.mod_mul]
  omega
theorem ws_append : ∀ (b : Bool) (s t : List UInt8), ws b (s ++ t) = ws b s + ws (if s.length % 2 = 0 then b else !b) t
 | b, [], t => by simp [ws]
 | true, c :: s, t => by
  simp only [List.cons_append, ws, List.length_cons, ws_append false s t]
  by_cases h : s.length % 2 = 0
  · have h' : ¬ (s.length + 1) % 2 = 0 := by omega
    simp [h, h']; omega
  · have h' : (s.length + 1) % 2 = 0 := by omega
    simp [h, h']; omega
 | false, c :: s, t => by
  simp only [List.cons_append, ws, List.length_cons, ws_append true s t]
  by_cases h : s.length % 2 = 0
  · have h' : ¬ (s.length + 1) % 2 = 0 := by omega
    simp [h, h']; omega
  · have h' : (s.length + 1) % 2 = 0 := by omega
    simp [h, h']; omega
theorem ws_big2 (v : Nat) (h : v < 65536) : ws true (big v 2) = v := by
 simp only [big, ws, List.nil_append, List.cons_append, ofNat_toNat]
 omega
theorem csum_zero (a b : List UInt8) (ha : a.length % 2 = 0) (h : 0 < ws true a) : csum (a ++ big (csum (a ++ [0, 0] ++ b)) 2 ++ b) = 0 := by
 have hle : csum (a ++ [0, 0] ++ b) < 65536 := by unfold csum; omega
 have h1 : ws true (a ++ [0, 0] ++ b) = ws true a + ws true b := by
  rw [List.append_assoc, ws_append, ws_append]; simp [ha, ws]
 have h2 : ∀ v, v < 65536 → ws true (a ++ big v 2 ++ b) = ws true a + v + ws true b := by
  intro v hv
  rw [List.append_assoc, ws_append, ws_append, big_length]; simp [ha, ws_big2 v hv]; omega
 unfold csum at hle ⊢
 rw [h2 _ hle, h1]
 unfold ones
 split <;> split <;> omega
def fold1 (v : Nat) : Nat := if v ≤ 65535 then v else v - 65535
theorem fold_run {h : Heap} {v : Nat} (hv : v ≤ 131070) : D cfg 190 [.int .i64 v] h = some (.int .i64 (fold1 v : Nat), h) := by
 refine D_eq (call190 (by simp) ?_)
 simp [c190, c190_r0]
 refine Wt.loop (fun m s => m ≤ 131070 ∧ fold1 m = fold1 v ∧ s = ⟨[(0, .int .i64 m)], h⟩) (m := v) ⟨hv, rfl, rfl⟩ ?_
 rintro u s ⟨hu, hf, rfl⟩
 by_cases hc : u ≤ 65535
 · have hc' : ¬ (65535 : Int) < u := by omega
   simp [c190_l1, c190_r1, c190_r3, hc', ← hf]
   simp [fold1, hc]
 · have hc' : (65535 : Int) < u := by omega
   have e2 : IntKind.wrap .i64 ((u : Int) % 65536 + (u : Int) / 65536) = ((u - 65535 : Nat) : Int) := by rw [wrap_i64 (by omega) (by omega)]; omega
   have e3 : fold1 (u - 65535) = fold1 v := by rw [← hf]; simp only [fold1]; split <;> omega
   simp [c190_l1, c190_r1, c190_r2, hc', a_and16 (show u ≤ 9223372036854775807 by omega), a_shr16, e2]
   exact ⟨u - 65535, by omega, by omega, e3, rfl⟩
theorem fold1_ones {S w : Nat} (hw : w ≤ 65535) : fold1 (ones S + w) = ones (S + w) := by rw [ones_add S w hw]; rfl
theorem radd_run {h : Heap} {a b : Nat} (ha : a ≤ 65535) (hb : b ≤ 65535) : D cfg 125 [.int .i64 a, .int .i64 b] h = some (.int .i64 (fold1 (a + b) : Nat), h) := by
 refine D_eq (call125 (by simp) ?_)
 have e1 : (a : Int) % 65536 = a := by omega
 have e2 : (b : Int) % 65536 = b := by omega
 have e3 : IntKind.wrap .i64 ((a : Int) + b) = ((a + b : Nat) : Int) := by rw [wrap_i64 (by omega) (by omega)]; omega
 obtain ⟨v, hv⟩ : ∃ v, v = a + b := ⟨_, rfl⟩
 rw [← hv] at e3 ⊢
 simp [c125, c125_r0, c125_r1, a_and16 (show a ≤ 9223372036854775807 by omega), a_and16 (show b ≤ 9223372036854775807 by omega), e1, e2, e3]
 refine Wt.loop (fun m s => m ≤ 131070 ∧ fold1 m = fold1 v ∧ s = ⟨[(5, .int .i64 m)], h⟩) (m := v) ⟨by omega, rfl, rfl⟩ ?_
 rintro u s ⟨hu, hf, rfl⟩
 by_cases hc : u ≤ 65535
 · have hc' : ¬ (65535 : Int) < u := by omega
   simp [c125_l2, c125_r2, c125_r4, hc', ← hf]
   simp [fold1, hc]
 · have hc' : (65535 : Int) < u := by omega
   have e2 : IntKind.wrap .i64 ((u : Int) % 65536 + (u : Int) / 65536) = ((u - 65535 : Nat) : Int) := by rw [wrap_i64 (by omega) (by omega)]; omega
   have e3 : fold1 (u - 65535) = fold1 v := by rw [← hf]; simp only [fold1]; split <;> omega
   simp [c125_l2, c125_r2, c125_r3, hc', a_and16 (show u ≤ 9223372036854775807 by omega), a_shr16, e2]
   exact ⟨u - 65535, by omega, by omega, e3, rfl⟩
theorem alen9 {L : Look} {s : Txt} : alen Tryz.prog L 9 (.str s) = some (.int .i64 s.length) := by simp [alen]
theorem at_str {s : Txt} {i : Nat} (hi : i < s.length) : aindex Tryz.prog 9 (.str s) (.int .i64 (i : Int)) = some (.int .u8 (s[i].toNat : Int)) := by simp [aindex, hi]
theorem byte_int {c : UInt8} : IntKind.wrap .i64 (c.toNat : Int) = c.toNat := i64 (by have := c.toNat_lt; omega)
theorem conv53 {L : Look} {n : Nat} {c : UInt8} : aconv Tryz.prog L n 5 3 (.int .u8 (c.toNat : Int)) = some (.int .i64 (c.toNat : Int), .no) := by simp [aconv, byte_int]
theorem ws_snoc {s : Txt} {c : UInt8} : ws true (s ++ [c]) = ws true s + (if s.length % 2 = 0 then c.toNat * 256 else c.toNat) := by
 rw [ws_append]
 split <;> simp [ws]
theorem ws_take {s : Txt} {i : Nat} (hi : i < s.length) : ws true (s.take (i + 1)) = ws true (s.take i) + (if i % 2 = 0 then s[i].toNat * 256 else s[i].toNat) := by
 rw [List.take_succ_eq_append_getElem hi, ws_snoc, List.length_take, Nat.min_eq_left (by omega)]
theorem rof_run {h : Heap} {s : Txt} (hs : s.length ≤ 1000000) : D cfg 82 [.str s] h = some (.int .i64 (csum s : Nat), h) := by
 refine D_eq (call82 (by simp) ?_)
 simp [c82, c82_r0, c82_r1, c82_r2]
 refine Wt.for (fun j => ⟨[(0, .str s), (3, .int .i64 (ones (ws true (s.take (2 * j))) : Nat)), (4, .int .i64 (2 * j : Nat))], h⟩) ((s.length + 1) / 2) (fun j hj => ?_) ?_ (by simp [ws, ones])
 · have h1 : 2 * j < s.length := by omega
   have h1' : ((2 * j : Nat) : Int) < s.length := by omega
   obtain ⟨i, hi⟩ : ∃ i, i = 2 * j := ⟨_, rfl⟩
   have e5 : 2 * (j + 1) = i + 2 := by omega
   have hpar : i % 2 = 0 := by omega
   simp only [e5]
   rw [← hi] at h1 h1' ⊢
   have hc := s[i].toNat_lt
   have e1 : IntKind.wrap .i64 ((i : Int) + 2) = (i : Int) + 2 := wrap_i64 (by omega) (by omega)
   have e2 : IntKind.wrap .i64 ((i : Int) + 1) = ((i + 1 : Nat) : Int) := i64s (by omega)
   have ho := ones_le (ws true (s.take i))
   by_cases h2 : i + 1 < s.length
   · have h2' : ((i + 1 : Nat) : Int) < s.length := by omega
     have hc2 := s[i + 1].toNat_lt
     have e3 : IntKind.wrap .i64 ((s[i].toNat : Int) * 256 + (s[i + 1].toNat : Int)) = ((s[i].toNat * 256 + s[i + 1].toNat : Nat) : Int) := by rw [wrap_i64 (by omega) (by omega)]; omega
     have e4 := fold1_ones (S := ws true (s.take i)) (w := s[i].toNat * 256 + s[i + 1].toNat) (by omega)
     have e6 : ws true (s.take (i + 2)) = ws true (s.take i) + (s[i].toNat * 256 + s[i + 1].toNat) := by
      rw [ws_take h2, ws_take h1, if_pos hpar, if_neg (by omega)]; omega
     rw [← e6] at e4
     simp [c82_l3, c82_r3, c82_r5, c82_r6, c82_r7, c82_r8, c82_r4, len1, alen9, h1, at_str h1, conv53, a_shl8 (show s[i].toNat * 256 ≤ 9223372036854775807 by omega), e2, h2, h2', at_str h2, e3, radd_run ho (show s[i].toNat * 256 + s[i + 1].toNat ≤ 65535 by omega), e4, e1, -Int.natCast_add]
     exact ⟨by rw [e5], by omega⟩
   · have h2' : ¬ (((i + 1 : Nat) : Int) < s.length) := by omega
     have e4 := fold1_ones (S := ws true (s.take i)) (w := s[i].toNat * 256) (by omega)
     have e6 : ws true (s.take (i + 2)) = ws true (s.take i) + s[i].toNat * 256 := by
      have := ws_take h1
      rw [List.take_of_length_le (show s.length ≤ i + 1 by omega), if_pos hpar] at this
      rw [List.take_of_length_le (show s.length ≤ i + 2 by omega), this]
     rw [← e6] at e4
     have r := radd_run (h := h) ho (show s[i].toNat * 256 ≤ 65535 by omega)
     rw [e4] at r
     simp [c82_l3, c82_r3, c82_r5, c82_r6, c82_r7, c82_r8, c82_r4, len1, alen9, h1, at_str h1, conv53, a_shl8 (show s[i].toNat * 256 ≤ 9223372036854775807 by omega), e2, h2', e1, -Int.natCast_add] at r ⊢
     simp [r]
     exact ⟨by rw [e5], by omega⟩
 · have h1' : ¬ (((2 * ((s.length + 1) / 2) : Nat) : Int) < s.length) := by omega
   have e7 : s.take (2 * ((s.length + 1) / 2)) = s := List.take_of_length_le (by omega)
   have ho := ones_le (ws true s)
   have e8 : IntKind.wrap .i64 (65535 - (ones (ws true s) : Int)) = ((csum s : Nat) : Int) := by rw [wrap_i64 (by omega) (by omega)]; unfold csum; omega
   simp only [e7]
   simp [c82_l3, c82_r3, c82_r9, len1, alen9, h1', e8, -Int.natCast_mul]
theorem shl_par {t : TK} {c : UInt8} {at_ : Nat} (hat : at_ ≤ 1000000) :
  abin t .rem (.int .i64 (at_ : Int)) (.int .i64 2) = some (.int .i64 ((at_ % 2 : Nat) : Int)) := by
 rw [abin_rem (by omega), Int.tmod_eq_emod_of_nonneg (by omega)]
 rfl
theorem shl_w {t : TK} {c : UInt8} {p : Nat} (hp : p < 2) :
  abin t .shl (.int .i64 (c.toNat : Int)) (.int .i64 (IntKind.wrap .i64 (8 * IntKind.wrap .i64 (1 - (p : Int))))) = some (.int .i64 ((if p = 0 then c.toNat * 256 else c.toNat : Nat) : Int)) := by
 have hc := c.toNat_lt
 obtain rfl | rfl : p = 0 ∨ p = 1 := by omega
 · rw [show IntKind.wrap .i64 (8 * IntKind.wrap .i64 (1 - ((0 : Nat) : Int))) = 8 by decide, abin_shl (by omega)]
   have : min (8 : Int).toNat IntKind.i64.bits = 8 := by decide
   rw [this, wrap_i64 (by omega) (by omega)]
   rfl
 · rw [show IntKind.wrap .i64 (8 * IntKind.wrap .i64 (1 - ((1 : Nat) : Int))) = 0 by decide, abin_shl (by omega)]
   have : min (0 : Int).toNat IntKind.i64.bits = 0 := by decide
   rw [this, wrap_i64 (by omega) (by omega)]
   simp
abbrev ofEnv (v : AV) (n i : Nat) (s : Txt) : Env := [(3, .int .i64 (ones (ws true s) : Nat)), (4, .int .i64 (s.length : Nat)), (8, v), (9, .int .i64 (n : Nat)), (10, .int .i64 (i : Nat))]
theorem of_run {h : Heap} {v : AV} {l : List Txt} (hv : Sl1 h v (strCells l)) (hl : l.flatten.length ≤ 1000000) (hn : l.length ≤ 1000) : D cfg 131 [v] h = some (.int .i64 (csum l.flatten : Nat), h) := by
 refine D_eq (call131 (by simp) ?_)
 have h1 := fun L => hv.len (t := 138) (e := 9) (by simp) (L := L)
 simp only [strCells_len] at h1
 simp [c131, c131_r0, c131_r1, c131_r2, len1, h1]
 refine Wt.for (fun i => ⟨ofEnv v l.length i (l.take i).flatten, h⟩) l.length (fun i hi => ?_) ?_ (by simp [ws, ones])
 · have e1 := hv.at (t := 138) (e := 9) (by simp) (by simp) (i := i) (by rw [strCells_len]; exact hi)
   have e2 := hv.load (e := 9) (by simp) (i := i) (by rw [strCells_len]; exact hi)
   rw [strCells_get] at e2
   have e3 := i64s (n := i) (by omega)
   have e4 : (l.take (i + 1)).flatten = (l.take i).flatten ++ l[i] := by rw [List.take_succ_eq_append_getElem hi, List.flatten_append, List.flatten_cons, List.flatten_nil, List.append_nil]
   have hlen : (l.take i).flatten.length + l[i].length ≤ l.flatten.length := by
    have h5 : l.flatten = (l.take i).flatten ++ (l.drop i).flatten := by rw [← List.flatten_append, List.take_append_drop]
    rw [h5, List.drop_eq_getElem_cons hi, List.flatten_cons, List.length_append, List.length_append]
    omega
   obtain ⟨s, hs⟩ : ∃ s, s = (l.take i).flatten := ⟨_, rfl⟩
   obtain ⟨p, hp⟩ : ∃ p, p = l[i] := ⟨_, rfl⟩
   rw [← hs, ← hp] at hlen e4
   rw [← hs]
   rw [← hp] at e2
   simp [c131_l3, c131_r3, c131_r4, c131_r5, hi, e1, e2, len1, alen9, -List.append_assoc]
   refine Wt.for (fun k => ⟨[(3, .int .i64 (ones (ws true (s ++ p.take k)) : Nat)), (4, .int .i64 (s.length + k : Nat)), (6, .str p), (8, v), (9, .int .i64 (l.length : Nat)), (10, .int .i64 (i : Nat)), (15, .int .i64 (p.length : Nat)), (16, .int .i64 (k : Nat))], h⟩) p.length (fun k hk => ?_) ?_ (by simp)
   · have f1 := i64s (n := k) (by omega)
     obtain ⟨a, ha⟩ : ∃ a, a = s.length + k := ⟨_, rfl⟩
     have f2 := i64s (n := a) (by omega)
     have f3 : ws true (s ++ p.take (k + 1)) = ws true (s ++ p.take k) + (if a % 2 = 0 then p[k].toNat * 256 else p[k].toNat) := by
      rw [List.take_succ_eq_append_getElem hk, ← List.append_assoc, ws_snoc, List.length_append, List.length_take, Nat.min_eq_left (by omega), ← ha]
     have hc := p[k].toNat_lt
     have ho := ones_le (ws true (s ++ p.take k))
     obtain ⟨x, hx⟩ : ∃ x : Nat, x = if a % 2 = 0 then p[k].toNat * 256 else p[k].toNat := ⟨_, rfl⟩
     have hx2 : x ≤ 65535 := by rw [hx]; split <;> omega
     have f4 := shl_w (t := .int .i64) (c := p[k]) (p := a % 2) (by omega)
     have f5 := shl_par (t := .int .i64) (c := p[k]) (at_ := a) (by omega)
     rw [← hx] at f3 f4
     have f6 : IntKind.wrap .i64 ((ones (ws true (s ++ p.take k)) : Int) + (x : Int)) = ((ones (ws true (s ++ p.take k)) + x : Nat) : Int) := by rw [wrap_i64 (by omega) (by omega)]; omega
     have f7 := fold_run (h := h) (v := ones (ws true (s ++ p.take k)) + x) (by omega)
     rw [fold1_ones hx2] at f7
     have e5 : s.length + (k + 1) = a + 1 := by omega
     dsimp only
     rw [← ha]
     simp [c131_l6, c131_r6, c131_r7, c131_r8, c131_r9, c131_r10, hk, at_str hk, conv53, f1, f2, f4, f5, f6, f7, -Int.natCast_add, -Int.natCast_emod]
     exact ⟨by rw [f3], by omega⟩
   · have e5 : s.length + p.length = (s ++ p).length := by simp
     simp [c131_l6, c131_r6, c131_r11, e3, -List.length_flatten]
     exact ⟨by rw [e4], by rw [e4, List.length_append]; omega⟩
 · have ho := ones_le (ws true l.flatten)
   have e1 : ((csum l.flatten : Nat) : Int) = 65535 - (ones (ws true l.flatten) : Int) := by unfold csum; omega
   simp [c131_l3, c131_r3, c131_r12, a_xor ho, a_not16 ho, e1]
theorem big_succ (v n : Nat) : big v (n + 1) = big (v / 256) n ++ [UInt8.ofNat v] := rfl
theorem big_cons (v : Nat) : ∀ n, big v (n + 1) = UInt8.ofNat (v / 256 ^ n) :: big v n
 | 0 => by simp [big]
 | n + 1 => by
  rw [big_succ, big_cons (v / 256) n, big_succ, List.cons_append, Nat.div_div_eq_div_mul, ← Nat.pow_succ']
theorem rbig_run {h : Heap} {v n : Nat} (hn : n ≤ 8) (hv : v ≤ 9223372036854775807) : D cfg 47 [.int .i64 v, .int .i64 n] h = some (.str (big v n), G 47 [.int .i64 v, .int .i64 n] h) := by
 refine G_of (call47 (by simp) ?_)
 simp [c47, c47_r0, c47_r1, c47_r2]
 have hlow : ∀ i, i ≤ n → (big v i).length = i := fun i _ => big_length v i
 refine Wt.forP (fun i => [(0, .int .i64 (v / 256 ^ i : Nat)), (1, .int .i64 (n : Nat)), (5, .str (big v i)), (6, .int .i64 (i : Nat))]) (fun _ h' => Grow h h') n (fun i h' hi hg => ?_) (fun h' hg => ?_) (by simp [big])
 · have e1 : (i : Int) < 8 := by omega
   have e2 := i64s (n := i) (by omega)
   have e3 : ((v / 256 ^ i : Nat) : Int) / 256 = ((v / 256 ^ (i + 1) : Nat) : Int) := by rw [Nat.pow_succ, ← Nat.div_div_eq_div_mul]; omega
   obtain ⟨u, hu⟩ : ∃ u, u = v / 256 ^ i := ⟨_, rfl⟩
   have e4 : big v (i + 1) = UInt8.ofNat u :: big v i := by rw [big_cons, hu]
   have e5 := byte_of (a := u)
   rw [← hu] at e3 ⊢
   have e6 := big_length v i
   have e7 : 1 + i ≤ 9223372036854775807 := by omega
   have e8 : UInt8.ofNat (((u : Int) % 256).toNat) = UInt8.ofNat u := UInt8.toNat_inj.1 (by simp; omega)
   simp [c47_l3, c47_r3, c47_r5, c47_r6, c47_r4, hi, e1, e2, aconv, abuildSlice, afill, zeros, e5, slCells, row, cellBytes, a_shr8, -Int.natCast_ediv, e6, e7]
   exact ⟨⟨e3, by rw [e8, e4]⟩, by simp [hg]⟩
 · simp [c47_l3, c47_r3, c47_r7, hg]
theorem shr_pow {t : TK} {v i : Nat} (hi : i ≤ 7) : abin t .shr (.int .i64 (v : Int)) (.int .i64 (8 * (i : Int))) = some (.int .i64 ((v / 256 ^ i : Nat) : Int)) := by
 rw [abin_shr (by omega)]
 have : min (8 * (i : Int)).toNat IntKind.i64.bits = 8 * i := by simp [IntKind.bits]; omega
 have e : (256 : Nat) ^ i = 2 ^ (8 * i) := by rw [show (256 : Nat) = 2 ^ 8 from rfl, ← Nat.pow_mul]
 rw [this, Int.fdiv_eq_ediv_of_nonneg _ (Int.pow_nonneg (by omega)), e]
 norm_cast
theorem num_lt (s : Txt) : num s < 256 ^ s.length := by
 have key : ∀ (s : Txt) (a : Nat), s.foldl (fun v c => v * 256 + c.toNat) a + 1 ≤ (a + 1) * 256 ^ s.length := by
  intro s
  induction s with
  | nil => intro a; simp
  | cons c s ih =>
   intro a
   have hc := c.toNat_lt
   refine Nat.le_trans (ih _) ?_
   rw [List.length_cons, Nat.pow_succ, Nat.mul_comm (256 ^ s.length) 256, ← Nat.mul_assoc]
   exact Nat.mul_le_mul_right _ (by show a * 256 + c.toNat + 1 ≤ _; omega)
 have := key s 0
 unfold num
 omega
theorem take_num {s : Txt} {i : Nat} (hi : i < s.length) : num (s.take (i + 1)) = num (s.take i) * 256 + s[i].toNat := by
 rw [List.take_succ_eq_append_getElem hi, num_snoc]
theorem num_run {h : Heap} {s : Txt} (hs : s.length ≤ 6) : D cfg 120 [.str s] h = some (.int .i64 (num s : Nat), G 120 [.str s] h) := by
 refine G_of (call120 (by simp) ?_)
 have hlt : ∀ i, num (s.take i) * 256 + 256 ≤ 9223372036854775807 := fun i => by
  have h1 := num_lt (s.take i)
  have h2 : 256 ^ (s.take i).length ≤ 256 ^ 6 := Nat.pow_le_pow_right (by omega) (by rw [List.length_take]; omega)
  omega
 have e1 : IntKind.wrap .i64 ((s.length : Int) - 7) = (s.length : Int) - 7 := wrap_i64 (by omega) (by omega)
 have e2 : ¬ (7 : Int) < (s.length : Int) := by omega
 have hb : (h ++ [AObj.cells (byteCells s) 5 true])[h.length]? = some (.cells (byteCells s) 5 true) := by simp
 have hv : Sl1 (h ++ [AObj.cells (byteCells s) 5 true]) (.sl (some ⟨h.length, 0, s.length⟩) s.length s.length) (byteCells s) := Sl1.cells' hb (byteCells_len).symm (byteCells_len).symm (byteCells_len).symm
 simp [c120, c120_r0, c120_r1, c120_r2, len1, alen9, amax, amax1, e1, e2, aslice, bound, aconv]
 obtain ⟨v, hv'⟩ : ∃ v, v = AV.sl (some ⟨h.length, 0, s.length⟩) s.length s.length := ⟨_, rfl⟩
 rw [← hv'] at hv
 have hl := fun L => hv.len (t := 54) (e := 5) (by simp) (L := L)
 rw [byteCells_len] at hl
 rw [← hv']
 simp [hl]
 refine Wt.for (fun i => ⟨[(3, .int .i64 (num (s.take i) : Nat)), (12, v), (13, .int .i64 (s.length : Nat)), (14, .int .i64 (i : Nat))], h ++ [AObj.cells (byteCells s) 5 true]⟩) s.length (fun i hi => ?_) ?_ (by simp [num])
 · have f1 := hv.at (t := 54) (e := 5) (by simp) (by simp) (i := i) (by rw [byteCells_len]; exact hi)
   have f2 := hv.load (e := 5) (by simp) (i := i) (by rw [byteCells_len]; exact hi)
   rw [byteCells_get] at f2
   have f3 := i64s (n := i) (by omega)
   have f4 := hlt i
   have f5 := s[i].toNat_lt
   simp [c120_l3, c120_r3, c120_r4, c120_r5, c120_r6, hi, f1, f2, f3, conv53, a_shl8 (show num (s.take i) * 256 ≤ 9223372036854775807 by omega), a_orB (show num (s.take i) * 256 + s[i].toNat ≤ 9223372036854775807 by omega) (by omega)]
   rw [take_num hi]; omega
 · simp [c120_l3, c120_r3, c120_r7]
theorem big_run {h : Heap} {v n : Nat} (hn : n ≤ 8) (h0 : 0 < n) (hv : v ≤ 9223372036854775807) : D cfg 191 [.int .i64 v, .int .i64 n] h = some (.str (big v n), G 191 [.int .i64 v, .int .i64 n] h) := by
 refine G_of (call191 (by simp) ?_)
 have e1 : ¬ (8 : Int) < n := by omega
 have e2 : (0 : Int) < n := by omega
 have e3 : (8 : Int) * n ≤ 281474976710656 := by omega
 have e4 : (n : Int) ≤ 281474976710656 := by omega
 have hz : ∀ m, zeros [AV.int .u8 0] m = byteCells (List.replicate m 0) := by
  intro m
  induction m with
  | zero => rfl
  | succ m ih => rw [zeros, ih]; rfl
 have e5 : (n : Int) ≤ 9223372036854775807 := by omega
 simp [c191, c191_r0, c191_r1, c191_r2, c191_r3, amin, amin1, amax, amax1, e1, h0, amakeSlice, e4, e5, hz, len1, alen]
 refine Wt.for (fun i => ⟨[(0, .int .i64 (v : Nat)), (1, .int .i64 (n : Nat)), (5, .sl (some ⟨h.length, 0, n⟩) n n), (13, .int .i64 (n : Nat)), (14, .int .i64 (i : Nat))], h ++ [AObj.cells (byteCells (List.replicate (n - i) 0 ++ big v i)) 5 true]⟩) n (fun i hi => ?_) ?_ (by simp [big])
 · have f1 := i64s (n := i) (by omega)
   have f2 : IntKind.wrap .i64 ((n : Int) - 1) = ((n - 1 : Nat) : Int) := by rw [wrap_i64 (by omega) (by omega)]; omega
   have f3 : IntKind.wrap .i64 (((n - 1 : Nat) : Int) - (i : Int)) = ((n - 1 - i : Nat) : Int) := by rw [wrap_i64 (by omega) (by omega)]; omega
   have f4 : IntKind.wrap .i64 (8 * (i : Int)) = 8 * (i : Int) := wrap_i64 (by omega) (by omega)
   have f5 : ((n - 1 - i : Nat) : Int) < n := by omega
   have f6 := byte_of (a := v / 256 ^ i)
   have f7 := big_length v i
   have f8 : n - 1 - i < n := by omega
   obtain ⟨q, hq⟩ : ∃ q, n - i = q + 1 := ⟨n - i - 1, by omega⟩
   have f9 : n - 1 - i = q := by omega
   have f10 : n - (i + 1) = q := by omega
   obtain ⟨u, hu⟩ : ∃ u, u = UInt8.ofNat (v / 256 ^ i) := ⟨_, rfl⟩
   have f11 : (byteCells (List.replicate (q + 1) 0 ++ big v i)).set q (.int .u8 (u.toNat : Int)) = byteCells (List.replicate q 0 ++ big v (i + 1)) := by
    rw [big_cons, ← hu, List.replicate_succ', List.append_assoc, byteCells_app, List.set_append_right _ _ (by rw [byteCells_len, List.length_replicate]; omega), byteCells_app (a := List.replicate q 0), byteCells_len, List.length_replicate, Nat.sub_self]
    rfl
   have f12 : (byteCells (List.replicate (q + 1) 0 ++ big v i)).length = n := by rw [byteCells_len, List.length_append, List.length_replicate, f7]; omega
   rw [f9] at f3 f5 f8
   rw [← hu] at f6
   dsimp only
   rw [hq]
   have f13 := cell_store (h := h ++ [AObj.cells (byteCells (List.replicate (q + 1) 0 ++ big v i)) 5 true]) (sb := h.length) (n := n) (off := q) (t := 5) (e := 5) (g := true) (v := .int .u8 (u.toNat : Int)) (by simp) f12 (by simp) rfl f8
   simp [c191_l4, c191_r4, c191_r5, c191_r6, c191_r7, hi, f1, f2, f3, f4, shr_pow (v := v) (show i ≤ 7 by omega), aconv, f6, aindexAddr, f5, f8, f13, f11, f10, -Int.natCast_ediv]
 · simp [c191_l4, c191_r4, c191_r8, aconv, slCells, row, cellBytes_byte, big_length, byteCells_len, List.take_of_length_le]
def tcpHd (sp dp seq ack fl win : Nat) : List UInt8 := big sp 2 ++ (big dp 2 ++ (big seq 4 ++ (big ack 4 ++ (big 80 1 ++ (big fl 1 ++ big win 2)))))
def pseudoB (src dst n : Nat) : List UInt8 := big src 4 ++ (big dst 4 ++ (big 6 2 ++ big n 2))
def tcpB (src dst : Nat) (hd body : List UInt8) : List UInt8 := hd ++ (big (csum (pseudoB src dst (20 + body.length) ++ (hd ++ (0 :: 0 :: 0 :: 0 :: body)))) 2 ++ (0 :: 0 :: body))
def ipA (n : Nat) : List UInt8 := big 69 1 ++ (big 0 1 ++ (big n 2 ++ (big 0 2 ++ (big 0 2 ++ (big 64 1 ++ big 6 1)))))
def ipZ (src dst : Nat) : List UInt8 := big src 4 ++ big dst 4
def ipB (src dst : Nat) (body : List UInt8) : List UInt8 := ipA (20 + body.length) ++ (big (csum (ipA (20 + body.length) ++ (0 :: 0 :: ipZ src dst))) 2 ++ (ipZ src dst ++ body))
def ethB (d s : List UInt8) (body : List UInt8) : List UInt8 := d ++ (s ++ (big 2048 2 ++ body))
theorem tcpHd_len (sp dp seq ack fl win : Nat) : (tcpHd sp dp seq ack fl win).length = 16 := by simp [tcpHd, big_length]
theorem pseudoB_len (src dst n : Nat) : (pseudoB src dst n).length = 12 := by simp [pseudoB, big_length]
theorem tcpB_len (src dst : Nat) (hd body : List UInt8) (h : hd.length = 16) : (tcpB src dst hd body).length = 20 + body.length := by simp [tcpB, big_length, h]; omega
theorem ipA_len (n : Nat) : (ipA n).length = 10 := by simp [ipA, big_length]
theorem ipZ_len (src dst : Nat) : (ipZ src dst).length = 8 := by simp [ipZ, big_length]
theorem ipB_len (src dst : Nat) (body : List UInt8) : (ipB src dst body).length = 20 + body.length := by simp [ipB, big_length, ipA_len, ipZ_len]; omega
theorem tcpB_sum (src dst : Nat) (hd body : List UInt8) (h : hd.length = 16) : csum (pseudoB src dst (20 + body.length) ++ tcpB src dst hd body) = 0 := by
 have := csum_zero (pseudoB src dst (20 + body.length) ++ hd) (0 :: 0 :: body) (by simp [pseudoB_len, h]) (by
  rw [ws_append, pseudoB, ws_append, ws_append, ws_append]
  simp [big_length, big, ws]
  omega)
 rw [← this, tcpB]
 simp [List.append_assoc]
def ipHd (src dst n : Nat) : List UInt8 := ipA n ++ (big (csum (ipA n ++ (0 :: 0 :: ipZ src dst))) 2 ++ ipZ src dst)
theorem ipHd_len (src dst n : Nat) : (ipHd src dst n).length = 20 := by simp [ipHd, ipA_len, big_length, ipZ_len]
theorem ipB_eq (src dst : Nat) (body : List UInt8) : ipB src dst body = ipHd src dst (20 + body.length) ++ body := by simp [ipB, ipHd]
theorem ipHd_sum (src dst n : Nat) : csum (ipHd src dst n) = 0 := by
 have := csum_zero (ipA n) (ipZ src dst) (by simp [ipA_len]) (by simp [ipA, big, ws]; omega)
 rw [← this, ipHd]
 simp [List.append_assoc]
section
attribute [simp] big_length
def segC (sp dp seq ack fl win : Nat) : List AV := [.int .i64 sp, .int .i64 dp, .int .u32 seq, .int .u32 ack, .int .i64 fl, .int .i64 win, .str []]
def ipC (src dst : Nat) : List AV := [.int .i64 0, .int .i64 0, .bool false, .bool false, .int .i64 0, .int .i64 64, .int .i64 6, .int .u32 src, .int .u32 dst, .str []]
def ethC (d s : Txt) : List AV := byteCells d ++ (byteCells s ++ [.int .i64 2048])
theorem conv283 {L : Look} {n a : Nat} (h : a < 4294967296) : aconv Tryz.prog L n 28 3 (.int .u32 (a : Int)) = some (.int .i64 (a : Int), .no) := by simp [aconv, i64 (show a ≤ 9223372036854775807 by omega)]
section
variable {h : Heap} {sp dp seq ack fl win src dst : Nat} {body : Txt}
theorem rcheck_run (h1 : sp < 65536) (h2 : dp < 65536) (h3 : fl < 64) (h4 : win < 65536) : D cfg 46 [.agg (segC sp dp seq ack fl win)] h = some (.bool true, G 46 [.agg (segC sp dp seq ack fl win)] h) := by
 refine G_of (call46 (by simp) ?_)
 have e1 : (sp : Int) ≤ 65535 := by omega
 have e2 : (dp : Int) ≤ 65535 := by omega
 have e3 : (fl : Int) ≤ 63 := by omega
 have e4 : (win : Int) ≤ 65535 := by omega
 simp [c46, c46_r0, c46_r1, segC, fieldA, aload, row, e1, e2, e3, e4, len1, alen, abin_rem]
theorem ripcheck_run : D cfg 83 [.agg (ipC src dst)] h = some (.bool true, G 83 [.agg (ipC src dst)] h) := by
 refine G_of (call83 (by simp) ?_)
 simp [c83, c83_r0, c83_r1, ipC, fieldA, aload, row, len1, alen, abin_rem]
theorem rsum_run (h1 : src < 4294967296) (h2 : dst < 4294967296) (hb : body.length ≤ 10000) : D cfg 48 [.int .u32 src, .int .u32 dst, .int .i64 6, .str body] h = some (.int .i64 (csum (pseudoB src dst body.length ++ body) : Nat), G 48 [.int .u32 src, .int .u32 dst, .int .i64 6, .str body] h) := by
 refine G_of (call48 (by simp) ?_)
 have e1 := fun h' => rbig_run (h := h') (v := src) (n := 4) (by omega) (by omega)
 have e2 := fun h' => rbig_run (h := h') (v := dst) (n := 4) (by omega) (by omega)
 have e3 := fun h' => rbig_run (h := h') (v := 6) (n := 2) (by omega) (by omega)
 have e4 := fun h' => rbig_run (h := h') (v := body.length) (n := 2) (by omega) (by omega)
 have e5 := fun h' => rof_run (h := h') (s := pseudoB src dst body.length ++ body) (by simp [pseudoB]; omega)
 simp only [pseudoB, List.append_assoc] at e5
 simp at e1 e2 e3 e4
 simp (maxDischargeDepth := 9) [c48, c48_r0, c48_r1, conv283 h1, conv283 h2, e1, e2, e3, e4, e5, len1, alen9, pseudoB]
 omega
theorem reth_run {a b c d e f : UInt8} : D cfg 84 [.agg (byteCells [a, b, c, d, e, f])] h = some (.str [a, b, c, d, e, f], G 84 [.agg (byteCells [a, b, c, d, e, f])] h) := by
 refine G_of (call84 (by simp) ?_)
 simp [c84, c84_r0, c84_r1, c84_r2, byteCells]
 refine Wt.unr 6 ?_
 simp [Unr, c84_l3, c84_r3, c84_r5, c84_r4, abuildSlice, afill, zeros, append2, aappend, srcCells, slCells, row, aappendE, aload, aindexAddr, roomMax, splice, c84_r6, aconv, cellBytes, wrap_i64]
def ethD (x : Nat) : Txt := [0, 0, 0, 0, 0, UInt8.ofNat (2 - x)]
def ethS (x : Nat) : Txt := [0, 0, 0, 0, 0, UInt8.ofNat (1 + x)]
def srcA (x : Nat) : Nat := if x = 1 then 167772162 else 167772161
def dstA (x : Nat) : Nat := if x = 1 then 167772161 else 167772162
def srcP (x : Nat) : Nat := if x = 1 then 80 else 1000
def dstP (x : Nat) : Nat := if x = 1 then 1000 else 80
theorem rethput_run {x : Nat} (hx : x < 2) (hb : body.length ≤ 10000) : D cfg 50 [.agg (ethC (ethD x) (ethS x)), .str body] h = some (.str (ethB (ethD x) (ethS x) body), G 50 [.agg (ethC (ethD x) (ethS x)), .str body] h) := by
 refine G_of (call50 (by simp) ?_)
 have e1 := fun h' => reth_run (h := h') (a := 0) (b := 0) (c := 0) (d := 0) (e := 0) (f := 1)
 have e2 := fun h' => reth_run (h := h') (a := 0) (b := 0) (c := 0) (d := 0) (e := 0) (f := 2)
 have e3 := fun h' => rbig_run (h := h') (v := 2048) (n := 2) (by omega) (by omega)
 simp [byteCells] at e1 e2 e3
 obtain rfl | rfl : x = 0 ∨ x = 1 := by omega
 all_goals
  simp (maxDischargeDepth := 9) [c50, c50_r0, c50_r1, ethC, ethD, ethS, byteCells, fieldA, aload, row, e1, e2, e3, ethB]
  omega
theorem ripput_run (h1 : src < 4294967296) (h2 : dst < 4294967296) (hb : body.length ≤ 2000) : D cfg 49 [.agg (ipC src dst), .str body] h = some (.tup [.str (ipB src dst body), .int .i64 0], G 49 [.agg (ipC src dst), .str body] h) := by
 refine G_of (call49 (by simp) ?_)
 have e0 := fun h' => ripcheck_run (h := h') (src := src) (dst := dst)
 have e1 := fun h' => rbig_run (h := h') (v := src) (n := 4) (by omega) (by omega)
 have e2 := fun h' => rbig_run (h := h') (v := dst) (n := 4) (by omega) (by omega)
 have e3 := fun h' v hv => rbig_run (h := h') (v := v) (n := 2) (by omega) hv
 have e4 := fun h' v hv => rbig_run (h := h') (v := v) (n := 1) (by omega) hv
 have e5 := fun h' => rof_run (h := h') (s := ipA (20 + body.length) ++ (0 :: 0 :: ipZ src dst)) (by simp [ipA_len, ipZ_len])
 have f2 := fun h' => e3 h' (20 + body.length) (by omega)
 have f3 := fun h' => e3 h' 0 (by omega)
 have f4 := fun h' => e3 h' (csum (ipA (20 + body.length) ++ (0 :: 0 :: ipZ src dst))) (by unfold csum; omega)
 have g1 := fun h' => e4 h' 69 (by omega)
 have g2 := fun h' => e4 h' 0 (by omega)
 have g3 := fun h' => e4 h' 64 (by omega)
 have g4 := fun h' => e4 h' 6 (by omega)
 have k1 : IntKind.wrap .i64 (20 + (body.length : Int)) = ((20 + body.length : Nat) : Int) := wrap_i64 (by omega) (by omega)
 have k2 : ¬ (2000 : Int) < body.length := by omega
 simp only [ipC] at e0
 simp [ipA, ipZ, -Int.natCast_add] at e0 e1 e2 e5 f2 f3 f4 g1 g2 g3 g4
 simp (maxDischargeDepth := 20) [c49, c49_r0, c49_r1, c49_r3, c49_r5, c49_r6, c49_r7, c49_r9, c49_r11, c49_r12, c49_r13, ipC, fieldA, aload, row, len1, alen, conv283 h1, conv283 h2, wrap_i64, abin_quo, e0, e1, e2, e5, f2, f3, f4, g1, g2, g3, g4, k1, k2, ipB, ipA, ipZ, -Int.natCast_add]
 trace_state
 omega
end
end
section
section
variable {h : Heap} {sp dp seq ack fl win src dst x : Nat} {body : Txt}
theorem rtcpput_run (h1 : sp < 65536) (h2 : dp < 65536) (h3 : fl < 64) (h4 : win < 65536) (h5 : seq < 4294967296) (h6 : ack < 4294967296) (h7 : src < 4294967296) (h8 : dst < 4294967296) (hb : body.length ≤ 1900) :
  D cfg 27 [.int .u32 src, .int .u32 dst, .agg (segC sp dp seq ack fl win), .str body] h = some (.tup [.str (tcpB src dst (tcpHd sp dp seq ack fl win) body), .int .i64 0], G 27 [.int .u32 src, .int .u32 dst, .agg (segC sp dp seq ack fl win), .str body] h) := by
 refine G_of (call27 (by simp) ?_)
 have e0 := fun h' => rcheck_run (h := h') (seq := seq) (ack := ack) h1 h2 h3 h4
 have e2 := fun h' v hv => rbig_run (h := h') (v := v) (n := 2) (by omega) hv
 have e4 := fun h' v hv => rbig_run (h := h') (v := v) (n := 4) (by omega) hv
 have e1 := fun h' v hv => rbig_run (h := h') (v := v) (n := 1) (by omega) hv
 have e5 := fun h' => rsum_run (h := h') (body := tcpHd sp dp seq ack fl win ++ (0 :: 0 :: 0 :: 0 :: body)) h7 h8 (by simp [tcpHd_len]; omega)
 obtain ⟨c, hc⟩ : ∃ c, c = csum (pseudoB src dst (20 + body.length) ++ (tcpHd sp dp seq ack fl win ++ (0 :: 0 :: 0 :: 0 :: body))) := ⟨_, rfl⟩
 have e6 : (tcpHd sp dp seq ack fl win ++ (0 :: 0 :: 0 :: 0 :: body)).length = 20 + body.length := by simp [tcpHd_len]; omega
 rw [e6, ← hc] at e5
 have f1 := fun h' => e2 h' sp (by omega)
 have f2 := fun h' => e2 h' dp (by omega)
 have f3 := fun h' => e2 h' win (by omega)
 have f4 := fun h' => e4 h' seq (by omega)
 have f5 := fun h' => e4 h' ack (by omega)
 have f6 := fun h' => e1 h' 80 (by omega)
 have f7 := fun h' => e1 h' fl (by omega)
 have f8 := fun h' => e2 h' c (by rw [hc]; unfold csum; omega)
 have k2 : ¬ (1980 : Int) < body.length := by omega
 simp only [segC] at e0
 rw [tcpB, ← hc]
 simp [tcpHd] at e0 e5 f1 f2 f3 f4 f5 f6 f7 f8
 simp (maxDischargeDepth := 20) [c27, c27_r0, c27_r1, c27_r3, c27_r5, c27_r6, c27_r7, segC, fieldA, aload, row, len1, alen, conv283 h5, conv283 h6, wrap_i64, abin_quo, e0, e5, f1, f2, f3, f4, f5, f6, f7, f8, k2, tcpHd]
 omega
theorem rdgram_run (hx : x < 2) (h1 : src < 4294967296) (h2 : dst < 4294967296) (hb : body.length ≤ 2000) : D cfg 28 [.agg (ethC (ethD x) (ethS x)), .agg (ipC src dst), .str body] h = some (.str (ethB (ethD x) (ethS x) (ipB src dst body)), G 28 [.agg (ethC (ethD x) (ethS x)), .agg (ipC src dst), .str body] h) := by
 refine G_of (call28 (by simp) ?_)
 have e0 := fun h' => ripput_run (h := h') h1 h2 hb
 have e1 := fun h' => rethput_run (h := h') (x := x) (body := ipB src dst body) hx (by rw [ipB_len]; omega)
 simp only [ipC] at e0 ⊢
 obtain rfl | rfl : x = 0 ∨ x = 1 := by omega
 all_goals
  simp [ethC, ethD, ethS, byteCells] at e1
  simp (maxDischargeDepth := 9) [ethC, ethD, ethS, byteCells, c28, c28_r0, c28_r1, c28_r2, c28_r4, aload, row, e0, e1]
theorem rseg_run (hx : x < 2) (h1 : sp < 65536) (h2 : dp < 65536) (h3 : fl < 64) (h4 : win < 65536) (h5 : seq < 4294967296) (h6 : ack < 4294967296) (h7 : src < 4294967296) (h8 : dst < 4294967296) (hb : body.length ≤ 1900) :
  D cfg 18 [.agg (ethC (ethD x) (ethS x)), .agg (ipC src dst), .agg (segC sp dp seq ack fl win), .str body] h = some (.str (ethB (ethD x) (ethS x) (ipB src dst (tcpB src dst (tcpHd sp dp seq ack fl win) body))), G 18 [.agg (ethC (ethD x) (ethS x)), .agg (ipC src dst), .agg (segC sp dp seq ack fl win), .str body] h) := by
 refine G_of (call18 (by simp) ?_)
 have e0 := fun h' => rtcpput_run (h := h') h1 h2 h3 h4 h5 h6 h7 h8 hb
 have e1 := fun h' => rdgram_run (h := h') (body := tcpB src dst (tcpHd sp dp seq ack fl win) body) hx h7 h8 (by rw [tcpB_len _ _ _ _ (tcpHd_len ..)]; omega)
 simp only [segC] at e0 ⊢
 simp only [ipC] at e1 ⊢
 obtain rfl | rfl : x = 0 ∨ x = 1 := by omega
 all_goals
  simp [ethC, ethD, ethS, byteCells] at e1
  simp (maxDischargeDepth := 9) [ethC, ethD, ethS, byteCells, c18, c18_r0, c18_r1, c18_r2, c18_r4, fieldA, aload, row, e0, e1]
theorem reth_of (hx : x < 2) : D cfg 19 [.int .i64 x] h = some (.agg (ethC (ethD x) (ethS x)), G 19 [.int .i64 x] h) := by
 refine G_of (call19 (by simp) ?_)
 obtain rfl | rfl : x = 0 ∨ x = 1 := by omega
 all_goals
  simp [c19, c19_r0, c19_r1, c19_r2, c19_r3, ethC, ethD, ethS, byteCells, abuild, afill, aconv, wrap_i64, wrap_u8, fieldA, aindexAddr, astore, aload, row, splice]
theorem rip_of (hx : x < 2) : D cfg 20 [.int .i64 x, .int .i64 6] h = some (.agg (ipC (srcA x) (dstA x)), G 20 [.int .i64 x, .int .i64 6] h) := by
 refine G_of (call20 (by simp) ?_)
 obtain rfl | rfl : x = 0 ∨ x = 1 := by omega
 all_goals
  simp [c20, c20_r0, c20_r1, c20_r2, c20_r3, c20_r4, ipC, srcA, dstA, abuild, afill, fieldA, astore, aload, row, splice]
def frB (x fl seq ack : Nat) (body : Txt) : Txt := ethB (ethD x) (ethS x) (ipB (srcA x) (dstA x) (tcpB (srcA x) (dstA x) (tcpHd (srcP x) (dstP x) seq ack fl 1000) body))
theorem seg_run (hx : x < 2) (h3 : fl < 64) (h5 : seq < 4294967296) (h6 : ack < 4294967296) (hb : body.length ≤ 1900) :
  D cfg 11 [.int .i64 x, .int .i64 0, .int .i64 fl, .int .u32 seq, .int .u32 ack, .str body] h = some (.str (frB x fl seq ack body), G 11 [.int .i64 x, .int .i64 0, .int .i64 fl, .int .u32 seq, .int .u32 ack, .str body] h) := by
 refine G_of (call11 (by simp) ?_)
 have e0 := fun h' => rseg_run (h := h') (sp := srcP x) (dp := dstP x) (fl := fl) (win := 1000) (seq := seq) (ack := ack) (src := srcA x) (dst := dstA x) (body := body) hx (by unfold srcP; split <;> omega) (by unfold dstP; split <;> omega) h3 (by omega) h5 h6 (by unfold srcA; split <;> omega) (by unfold dstA; split <;> omega) hb
 have e1 := fun h' => reth_of (h := h') hx
 have e2 := fun h' => rip_of (h := h') hx
 obtain rfl | rfl : x = 0 ∨ x = 1 := by omega
 all_goals
  simp [srcA, dstA, srcP, dstP] at e0 e1 e2
  simp [segC] at e0
  simp (maxDischargeDepth := 9) [c11, c11_r0, c11_r1, c11_r2, c11_r3, c11_r4, e0, e1, e2, abuild, afill, fieldA, astore, aload, row, splice, wrap_i64, frB, srcA, dstA, srcP, dstP]
end
end
section
section
variable {L : Look} {s : Txt} {i j : Int}
@[simp] theorem sliceS2 : aslice Tryz.prog L 9 (.str s) (some (.int .i64 i)) (some (.int .i64 j)) none = guardQ (0 ≤ i ∧ i ≤ j ∧ j ≤ s.length) (some (.str ((s.drop i.toNat).take (j.toNat - i.toNat)))) := by
 simp only [aslice, tk_9, bound, guardQ]
 by_cases h4 : 0 ≤ i ∧ i ≤ j ∧ j ≤ s.length
 · have h1 : 0 ≤ j ∧ j ≤ (s.length : Int) := by omega
   have h3 : 0 ≤ i ∧ i ≤ (j.toNat : Int) := by omega
   rw [if_pos h4, if_pos h1]
   simp only
   rw [if_pos h3]
 · rw [if_neg h4]
   by_cases h1 : 0 ≤ j ∧ j ≤ (s.length : Int)
   · have h3 : ¬ (0 ≤ i ∧ i ≤ (j.toNat : Int)) := by omega
     rw [if_pos h1]
     simp only
     rw [if_neg h3]
   · rw [if_neg h1]
@[simp] theorem sliceA {a : AA} : aslice Tryz.prog L 58 (.ptr (some a)) none none none = asliceA Tryz.prog L 6 5 a := by simp [aslice]
@[simp] theorem sliceS1 : aslice Tryz.prog L 9 (.str s) (some (.int .i64 i)) none none = guardQ (0 ≤ i ∧ i ≤ s.length) (some (.str (s.drop i.toNat))) := by
 by_cases h2 : 0 ≤ i ∧ i ≤ (s.length : Int)
 · have h3 : (s.drop i.toNat).take (s.length - i.toNat) = s.drop i.toNat := List.take_of_length_le (by simp)
   simp only [aslice, tk_9, bound, guardQ, h2, and_self, if_true, h3]
 · simp only [aslice, tk_9, bound, guardQ, h2, if_false]
@[simp] theorem sliceS0 : aslice Tryz.prog L 9 (.str s) none (some (.int .i64 j)) none = guardQ (0 ≤ j ∧ j ≤ s.length) (some (.str (s.take j.toNat))) := by
 by_cases h2 : 0 ≤ j ∧ j ≤ (s.length : Int)
 · simp [aslice, bound, guardQ, h2]
 · simp only [aslice, tk_9, bound, guardQ, h2, if_false]
end
section
variable {h : Heap} {x : Nat} {body : Txt}
theorem num2 {n : Nat} (hn : n < 65536) : num [UInt8.ofNat (n / 256), UInt8.ofNat n] = n := by
 have := num_big n 2
 simp only [big, List.nil_append, List.cons_append] at this
 rw [this]; omega
theorem num4 {n : Nat} (hn : n < 4294967296) : num [UInt8.ofNat (n / 256 / 256 / 256), UInt8.ofNat (n / 256 / 256), UInt8.ofNat (n / 256), UInt8.ofNat n] = n := by
 have := num_big n 4
 simp only [big, List.nil_append, List.cons_append] at this
 rw [this]; omega
theorem ethget_run (hx : x < 2) (hb : body.length ≤ 2900) : D cfg 76 [.str (ethB (ethD x) (ethS x) body)] h = some (.tup [.agg (ethC (ethD x) (ethS x)), .str body, .int .i64 0], G 76 [.str (ethB (ethD x) (ethS x) body)] h) := by
 refine G_of (call76 (by simp) ?_)
 have e0 := fun h' => num_run (h := h') (s := [8, 0]) (by simp)
 simp [num] at e0
 obtain ⟨s, hs⟩ : ∃ s, s = ethB (ethD x) (ethS x) body := ⟨_, rfl⟩
 have hl : s.length = body.length + 14 := by rw [hs]; simp [ethB, ethD, ethS]; omega
 have d0 : s.take 6 = ethD x := by rw [hs]; rfl
 have d6 : (s.drop 6).take 6 = ethS x := by rw [hs]; rfl
 have d12 : (s.drop 12).take 2 = [8, 0] := by rw [hs]; rfl
 have d14 : s.drop 14 = body := by rw [hs]; rfl
 have l1 : ¬ (s.length : Int) < 14 := by omega
 have l2 : ¬ (3000 : Int) < s.length := by omega
 have m1 : min s.length 6 = 6 := by omega
 have m2 : min (s.length - 6) 6 = 6 := by omega
 have m3 : ∀ l : Txt, l.length = 6 → ∃ a b c d e f, l = [a, b, c, d, e, f] := fun l hl => by
  match l, hl with
  | [a, b, c, d, e, f], _ => exact ⟨_, _, _, _, _, _, rfl⟩
 rw [← hs]
 clear hs
 obtain rfl | rfl : x = 0 ∨ x = 1 := by omega
 all_goals
  simp [ethD, ethS] at d0 d6
  simp (maxDischargeDepth := 9) [c76, c76_r0, c76_r1, c76_r3, c76_r5, c76_r6, c76_r7, c76_r8, c76_r9, alen9, e0, asliceA, copy2, acopy, byteCells, splice, astore, aload, row, ethC, ethD, ethS, l1, l2, m1, m2, d0, d6, d12, d14]
  omega
end
structure IpS (s : Txt) (src dst : Nat) (body : Txt) : Prop where
 len : s.length = 20 + body.length
 i0 : s[0]? = some 69
 i1 : s[1]? = some 0
 i6 : s[6]? = some 0
 i8 : s[8]? = some 64
 i9 : s[9]? = some 6
 d2 : num ((s.drop 2).take 2) = 20 + body.length
 d4 : (s.drop 4).take 2 = [0, 0]
 d6 : (s.drop 6).take 2 = [0, 0]
 d12 : num ((s.drop 12).take 4) = src
 d16 : num ((s.drop 16).take 4) = dst
 d20 : s.drop 20 = body
 sum : csum (s.take 20) = 0
theorem IpS.of {src dst : Nat} {body : Txt} (h1 : src < 4294967296) (h2 : dst < 4294967296) (hb : body.length ≤ 2000) : IpS (ipB src dst body) src dst body := by
 have hd : (ipB src dst body).take 20 = ipHd src dst (20 + body.length) := by rw [ipB_eq, List.take_append_of_le_length (by rw [ipHd_len]; omega), List.take_of_length_le (by rw [ipHd_len]; omega)]
 refine ⟨ipB_len .., rfl, rfl, rfl, rfl, rfl, ?_, rfl, rfl, ?_, ?_, ?_, by rw [hd]; exact ipHd_sum ..⟩
 · exact num2 (n := 20 + body.length) (by omega)
 · exact num4 h1
 · exact num4 h2
 · rfl
section
variable {h : Heap} {s body : Txt} {src dst : Nat}
theorem and_15 {t : TK} : abin t .and (.int .i64 69) (.int .i64 15) = some (.int .i64 5) := by rw [abin_and]; rfl
theorem at9 {i : Int} (hi : 0 ≤ i) {c : UInt8} (hc : s[i.toNat]? = some c) : aindex Tryz.prog 9 (.str s) (.int .i64 i) = some (.int .u8 (c.toNat : Int)) := by simp [aindex, hi, hc]
theorem size_run (I : IpS s src dst body) : D cfg 122 [.str s] h = some (.int .i64 20, h) := by
 refine D_eq (call122 (by simp) ?_)
 simp [c122, c122_r0, c122_r1, at9 (i := 0) (by omega) I.i0, aconv, wrap_i64, and_15]
theorem all_run (I : IpS s src dst body) : D cfg 123 [.str s] h = some (.int .i64 (20 + body.length : Nat), G 123 [.str s] h) := by
 refine G_of (call123 (by simp) ?_)
 have e := fun h' => num_run (h := h') (s := (s.drop 2).take 2) (by simp; omega)
 rw [I.d2] at e
 have := I.len
 simp [c123, c123_r0, c123_r1, e, -Int.natCast_add]
 omega
theorem ck1 (I : IpS s src dst body) : D cfg 181 [.str s] h = some (.bool false, h) := by
 refine D_eq (call181 (by simp) ?_)
 have : ¬ (s.length : Int) < 20 := by have := I.len; omega
 simp [c181, c181_r0, c181_r1, alen9, this]
theorem ck2 (I : IpS s src dst body) : D cfg 182 [.str s] h = some (.bool false, h) := by
 refine D_eq (call182 (by simp) ?_)
 have e : ∀ t, abin t .shr (.int .u8 69) (.int .u64 4) = some (.int .u8 4) := fun t => by rw [abin_shr (by omega)]; rfl
 simp [c182, c182_r0, c182_r1, at9 (i := 0) (by omega) I.i0, e, size_run I]
theorem ck3 (I : IpS s src dst body) : D cfg 183 [.str s] h = some (.bool false, h) := by
 refine D_eq (call183 (by simp) ?_)
 have : ¬ (s.length : Int) < 20 := by have := I.len; omega
 simp [c183, c183_r0, c183_r1, alen9, size_run I, this]
theorem ck4 (I : IpS s src dst body) : D cfg 184 [.str s] h = some (.bool false, G 184 [.str s] h) := by
 refine G_of (call184 (by simp) ?_)
 have : ¬ ((20 + body.length : Nat) : Int) < 20 := by omega
 simp [c184, c184_r0, c184_r1, size_run I, all_run I, this, -Int.natCast_add]
theorem ck5 (I : IpS s src dst body) : D cfg 185 [.str s] h = some (.bool false, G 185 [.str s] h) := by
 refine G_of (call185 (by simp) ?_)
 have : ¬ (s.length : Int) < (20 + body.length : Nat) := by have := I.len; omega
 simp [c185, c185_r0, c185_r1, alen9, all_run I, this, -Int.natCast_add]
theorem ck6 (I : IpS s src dst body) : D cfg 186 [.str s] h = some (.bool false, h) := by
 refine D_eq (call186 (by simp) ?_)
 have e : ∀ t, abin t .shr (.int .u8 0) (.int .u64 7) = some (.int .u8 0) := fun t => by rw [abin_shr (by omega)]; rfl
 simp [c186, c186_r0, c186_r1, at9 (i := 6) (by omega) I.i6, e]
theorem ck7 (I : IpS s src dst body) (hb : body.length ≤ 2000) : D cfg 187 [.str s] h = some (.bool false, G 187 [.str s] h) := by
 refine G_of (call187 (by simp) ?_)
 have e : IntKind.wrap .i64 (((20 + body.length : Nat) : Int) - 20) = (body.length : Int) := by rw [wrap_i64 (by omega) (by omega)]; omega
 have : ¬ (2000 : Int) < body.length := by omega
 simp [c187, c187_r0, c187_r1, size_run I, all_run I, e, this, -Int.natCast_add]
theorem ck8 (I : IpS s src dst body) : D cfg 188 [.str s] h = some (.bool false, G 188 [.str s] h) := by
 refine G_of (call188 (by simp) ?_)
 have hl := I.len
 have e := of_run (h := h ++ [AObj.cells [.str (s.take 20)] 9 true]) (v := .sl (some ⟨h.length, 0, 1⟩) 1 1) (l := [s.take 20]) (Sl1.cells (xs := [.str (s.take 20)]) (e := 9) (s := true) (by simp)) (by simp; omega) (by simp)
 simp [I.sum] at e
 simp [c188, c188_r0, c188_r1, size_run I, abuildSlice, afill, zeros, e]
 omega
end
end
section
section
variable {h : Heap} {s body : Txt} {src dst : Nat}
theorem conv328 {L : Look} {n a : Nat} (h : a < 4294967296) : aconv Tryz.prog L n 3 28 (.int .i64 (a : Int)) = some (.int .u32 (a : Int), .no) := by simp [aconv, wrap_u32 (n := a) (by omega) (by omega)]
theorem ipget_run (I : IpS s src dst body) (h1 : src < 4294967296) (h2 : dst < 4294967296) (hb : body.length ≤ 2000) : D cfg 77 [.str s] h = some (.tup [.agg (ipC src dst), .str body, .int .i64 0], G 77 [.str s] h) := by
 refine G_of (call77 (by simp) ?_)
 have ec : ∀ h', D cfg 121 [] h' = some (.sl (some ⟨h'.length, 0, 16⟩) 8 8, h' ++ [AObj.cells [.fn (.func 181) [], .int .i64 2, .fn (.func 182) [], .int .i64 3, .fn (.func 183) [], .int .i64 2, .fn (.func 184) [], .int .i64 3, .fn (.func 185) [], .int .i64 2, .fn (.func 186) [], .int .i64 3, .fn (.func 187) [], .int .i64 5, .fn (.func 188) [], .int .i64 4] 229 true]) := by
  intro h'
  refine D_eq (call121 (by simp) ?_)
  simp [c121, c121_r0, c121_r1, abuild, abuildSlice, afill, zeros, splice]
 have e0 := fun h' => num_run (h := h') (s := [0, 0]) (by simp)
 have e1 := fun h' => num_run (h := h') (s := (s.drop 12).take 4) (by simp; omega)
 have e2 := fun h' => num_run (h := h') (s := (s.drop 16).take 4) (by simp; omega)
 rw [I.d12] at e1
 rw [I.d16] at e2
 simp [num] at e0
 have k1 : ∀ t, abin t .and (.int .i64 0) (.int .i64 8192) = some (.int .i64 0) := fun t => by rw [abin_and]; rfl
 have k2 : ∀ t, abin t .and (.int .i64 0) (.int .i64 16384) = some (.int .i64 0) := fun t => by rw [abin_and]; rfl
 have k3 : ∀ t, abin t .and (.int .i64 0) (.int .i64 8191) = some (.int .i64 0) := fun t => by rw [abin_and]; rfl
 have hl := I.len
 have hd : ∀ n : Nat, (s.drop 20).take (20 + n - 20) = body.take n := fun n => by rw [I.d20]; congr 1; omega
 obtain ⟨n, hn⟩ : ∃ n, n = 20 + body.length := ⟨_, rfl⟩
 have ea := fun h' => all_run (h := h') I
 have hd2 : (s.drop 20).take (n - 20) = body := by rw [I.d20, hn]; exact List.take_of_length_le (by omega)
 rw [← hn] at ea
 simp [c77, c77_r0, c77_r1, ec, alen]
 refine Wt.unr 8 ?_
 simp (maxDischargeDepth := 20) [Unr, c77_l2, c77_r2, c77_r3, c77_r4, c77_r6, aindexAddr, aload, row, wrap_i64, ck1 I, ck2 I, ck3 I, ck4 I, ck5 I, ck6 I, ck7 I hb, ck8 I, c77_r7, I.d6, e0, astore, splice, I.d4, k1, k2, k3, c77_r8, at9 (s := s) (i := 1) (by omega) I.i1, at9 (s := s) (i := 8) (by omega) I.i8, at9 (s := s) (i := 9) (by omega) I.i9, aconv, e1, e2, wrap_u32 (n := src) (by omega) (by omega), wrap_u32 (n := dst) (by omega) (by omega), size_run I, abuild, afill, c77_r9, ea, hd2, ipC]
 omega
def headC (sp dp seq ack fl win src dst : Nat) : List AV := segC sp dp seq ack fl win ++ [.int .u32 src, .int .u32 dst]
theorem pseudo_run {sp dp seq ack fl win n : Nat} (h1 : src < 4294967296) (h2 : dst < 4294967296) (hn : n ≤ 2000) : D cfg 189 [.agg (headC sp dp seq ack fl win src dst), .int .i64 n] h = some (.str (pseudoB src dst n), G 189 [.agg (headC sp dp seq ack fl win src dst), .int .i64 n] h) := by
 refine G_of (call189 (by simp) ?_)
 have e1 := fun h' => big_run (h := h') (v := src) (n := 4) (by omega) (by omega) (by omega)
 have e2 := fun h' => big_run (h := h') (v := dst) (n := 4) (by omega) (by omega) (by omega)
 have e3 := fun h' => big_run (h := h') (v := 6) (n := 1) (by omega) (by omega) (by omega)
 have e4 := fun h' => big_run (h := h') (v := n) (n := 2) (by omega) (by omega) (by omega)
 have e5 : big 6 2 = 0 :: big 6 1 := rfl
 simp at e1 e2 e3 e4
 simp (maxDischargeDepth := 9) [c189, c189_r0, c189_r1, headC, segC, aload, row, conv283 h1, conv283 h2, e1, e2, e3, e4, pseudoB, e5]
structure TcpS (s : Txt) (src dst sp dp seq ack fl win : Nat) (body : Txt) : Prop where
 len : s.length = 20 + body.length
 d0 : num (s.take 2) = sp
 d2 : num ((s.drop 2).take 2) = dp
 d4 : num ((s.drop 4).take 4) = seq
 d8 : num ((s.drop 8).take 4) = ack
 i12 : s[12]? = some 80
 i13 : s[13]? = some (UInt8.ofNat fl)
 d14 : num ((s.drop 14).take 2) = win
 d20 : s.drop 20 = body
 sum : csum (pseudoB src dst s.length ++ s) = 0
theorem TcpS.of {src dst sp dp seq ack fl win : Nat} {body : Txt} (h1 : sp < 65536) (h2 : dp < 65536) (h4 : win < 65536) (h5 : seq < 4294967296) (h6 : ack < 4294967296) : TcpS (tcpB src dst (tcpHd sp dp seq ack fl win) body) src dst sp dp seq ack fl win body := by
 refine ⟨tcpB_len _ _ _ _ (tcpHd_len ..), num2 h1, num2 h2, num4 h5, num4 h6, rfl, rfl, num2 h4, rfl, ?_⟩
 rw [tcpB_len _ _ _ _ (tcpHd_len ..)]
 exact tcpB_sum _ _ _ _ (tcpHd_len ..)
variable {sp dp seq ack fl win : Nat}
theorem wrong_run (T : TcpS s src dst sp dp seq ack fl win body) (h1 : src < 4294967296) (h2 : dst < 4294967296) (h3 : fl < 64) (hb : body.length ≤ 1900) : D cfg 124 [.agg (headC 0 0 0 0 0 0 src dst), .str s] h = some (.int .i64 0, G 124 [.agg (headC 0 0 0 0 0 0 src dst), .str s] h) := by
 refine G_of (call124 (by simp) ?_)
 have hl := T.len
 have e0 := fun h' => pseudo_run (h := h') (sp := 0) (dp := 0) (seq := 0) (ack := 0) (fl := 0) (win := 0) (n := s.length) h1 h2 (by omega)
 have l1 : ¬ (s.length : Int) < 20 := by omega
 have l2 : ¬ (2000 : Int) < s.length := by omega
 have k1 : ∀ t, abin t .shr (.int .i64 80) (.int .u64 4) = some (.int .i64 5) := fun t => by rw [abin_shr (by omega)]; rfl
 have k2 : ∀ t, abin t .and (.int .u8 80) (.int .u8 15) = some (.int .u8 0) := fun t => by rw [abin_and]; rfl
 have k3 : ((UInt8.ofNat fl).toNat : Int) = fl := by rw [ofNat_toNat]; omega
 have k4 : ¬ (63 : Int) < fl := by omega
 have a13 := at9 (s := s) (i := 13) (by omega) T.i13
 rw [k3] at a13
 have e1 := fun (h' : Heap) => of_run (h := h' ++ [AObj.cells [.str (pseudoB src dst s.length), .str s] 9 true]) (v := .sl (some ⟨h'.length, 0, 2⟩) 2 2) (l := [pseudoB src dst s.length, s]) (Sl1.cells (xs := [.str (pseudoB src dst s.length), .str s]) (e := 9) (s := true) (by simp)) (by simp [pseudoB_len]; omega) (by simp)
 simp [T.sum] at e1
 simp only [headC, segC] at e0 ⊢
 simp at e0
 simp (maxDischargeDepth := 9) [c124, c124_r0, c124_r1, c124_r3, c124_r4, c124_r6, c124_r8, c124_r10, c124_r12, c124_r14, alen9, l1, l2, at9 (s := s) (i := 12) (by omega) T.i12, a13, aconv, wrap_i64, k1, k2, k4, aload, row, e0, abuildSlice, afill, zeros, e1]
theorem tcpget_run (T : TcpS s src dst sp dp seq ack fl win body) (h1 : src < 4294967296) (h2 : dst < 4294967296) (h3 : fl < 64) (h5 : seq < 4294967296) (h6 : ack < 4294967296) (hb : body.length ≤ 1900) :
  D cfg 78 [.int .u32 src, .int .u32 dst, .str s] h = some (.tup [.agg (segC sp dp seq ack fl win), .str body, .int .i64 0], G 78 [.int .u32 src, .int .u32 dst, .str s] h) := by
 refine G_of (call78 (by simp) ?_)
 have hl := T.len
 have e0 := fun h' => wrong_run (h := h') T h1 h2 h3 hb
 have e1 := fun h' => num_run (h := h') (s := s.take 2) (by simp; omega)
 have e2 := fun h' => num_run (h := h') (s := (s.drop 2).take 2) (by simp; omega)
 have e3 := fun h' => num_run (h := h') (s := (s.drop 4).take 4) (by simp; omega)
 have e4 := fun h' => num_run (h := h') (s := (s.drop 8).take 4) (by simp; omega)
 have e5 := fun h' => num_run (h := h') (s := (s.drop 14).take 2) (by simp; omega)
 rw [T.d0] at e1
 rw [T.d2] at e2
 rw [T.d4] at e3
 rw [T.d8] at e4
 rw [T.d14] at e5
 have k1 : ∀ t, abin t .shr (.int .i64 80) (.int .u64 4) = some (.int .i64 5) := fun t => by rw [abin_shr (by omega)]; rfl
 have k3 : ((UInt8.ofNat fl).toNat : Int) = fl := by rw [ofNat_toNat]; omega
 have a13 := at9 (s := s) (i := 13) (by omega) T.i13
 rw [k3] at a13
 have d20 := T.d20
 simp only [headC, segC] at e0 ⊢
 simp at e0
 simp (maxDischargeDepth := 20) [c78, c78_r0, c78_r1, c78_r2, c78_r3, c78_r5, c78_r6, c78_r7, c78_r8, c78_r9, abuild, afill, splice, e0, e1, e2, e3, e4, e5, at9 (s := s) (i := 12) (by omega) T.i12, a13, aconv, wrap_i64, i64 (n := fl) (by omega), wrap_u32 (n := seq) (by omega) (by omega), wrap_u32 (n := ack) (by omega) (by omega), k1, aload, astore, row, d20]
 omega
end
end
end Go.AM
