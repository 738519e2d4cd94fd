/-
  Printed by program (wip/tools/print.sh): a call of each function by its compiled code.
-/
import Derived.Test.YtamidpfdiijjgaaCfg
import Derived.Test.YtamidpfdiijjgaaCT
namespace Go.AM
open Go Go.Proofs
set_option maxRecDepth 100000
theorem call29 {args : List AV} {h : Heap} {R : AV → Heap → Prop} (hn : args.length ≤ 15) (hw : Wt Try.prog (D cfg) c29 ⟨argsEnv 0 args, h⟩ (Ends Try.prog [.tmp 4] R)) : ∃ r h', D cfg 29 args h = some (r, h') ∧ R r h' :=
  let ⟨_, hb, hk⟩ := c29_eq
  W.calls (c := cfg) rfl c29_fn hb hk c29_rs (by rw [c29_nt]; exact hn) hw
theorem call30 {args : List AV} {h : Heap} {R : AV → Heap → Prop} (hn : args.length ≤ 7) (hw : Wt Try.prog (D cfg) c30 ⟨argsEnv 0 args, h⟩ (Ends Try.prog [.tmp 0] R)) : ∃ r h', D cfg 30 args h = some (r, h') ∧ R r h' :=
  let ⟨_, hb, hk⟩ := c30_eq
  W.calls (c := cfg) rfl c30_fn hb hk c30_rs (by rw [c30_nt]; exact hn) hw
theorem call31 {args : List AV} {h : Heap} {R : AV → Heap → Prop} (hn : args.length ≤ 116) (hw : Wt Try.prog (D cfg) c31 ⟨argsEnv 0 args, h⟩ (Ends Try.prog [.tmp 4] R)) : ∃ r h', D cfg 31 args h = some (r, h') ∧ R r h' :=
  let ⟨_, hb, hk⟩ := c31_eq
  W.calls (c := cfg) rfl c31_fn hb hk c31_rs (by rw [c31_nt]; exact hn) hw
theorem call32 {args : List AV} {h : Heap} {R : AV → Heap → Prop} (hn : args.length ≤ 8) (hw : Wt Try.prog (D cfg) c32 ⟨argsEnv 0 args, h⟩ (Ends Try.prog [.tmp 2] R)) : ∃ r h', D cfg 32 args h = some (r, h') ∧ R r h' :=
  let ⟨_, hb, hk⟩ := c32_eq
  W.calls (c := cfg) rfl c32_fn hb hk c32_rs (by rw [c32_nt]; exact hn) hw
theorem call33 {args : List AV} {h : Heap} {R : AV → Heap → Prop} (hn : args.length ≤ 23) (hw : Wt Try.prog (D cfg) c33 ⟨argsEnv 0 args, h⟩ (Ends Try.prog [.tmp 6, .tmp 7] R)) : ∃ r h', D cfg 33 args h = some (r, h') ∧ R r h' :=
  let ⟨_, hb, hk⟩ := c33_eq
  W.calls (c := cfg) rfl c33_fn hb hk c33_rs (by rw [c33_nt]; exact hn) hw
theorem call34 {args : List AV} {h : Heap} {R : AV → Heap → Prop} (hn : args.length ≤ 16) (hw : Wt Try.prog (D cfg) c34 ⟨argsEnv 0 args, h⟩ (Ends Try.prog [.tmp 4] R)) : ∃ r h', D cfg 34 args h = some (r, h') ∧ R r h' :=
  let ⟨_, hb, hk⟩ := c34_eq
  W.calls (c := cfg) rfl c34_fn hb hk c34_rs (by rw [c34_nt]; exact hn) hw
theorem call35 {args : List AV} {h : Heap} {R : AV → Heap → Prop} (hn : args.length ≤ 15) (hw : Wt Try.prog (D cfg) c35 ⟨argsEnv 0 args, h⟩ (Ends Try.prog [.tmp 4] R)) : ∃ r h', D cfg 35 args h = some (r, h') ∧ R r h' :=
  let ⟨_, hb, hk⟩ := c35_eq
  W.calls (c := cfg) rfl c35_fn hb hk c35_rs (by rw [c35_nt]; exact hn) hw
theorem call36 {args : List AV} {h : Heap} {R : AV → Heap → Prop} (hn : args.length ≤ 26) (hw : Wt Try.prog (D cfg) c36 ⟨argsEnv 0 args, h⟩ (Ends Try.prog [.tmp 0] R)) : ∃ r h', D cfg 36 args h = some (r, h') ∧ R r h' :=
  let ⟨_, hb, hk⟩ := c36_eq
  W.calls (c := cfg) rfl c36_fn hb hk c36_rs (by rw [c36_nt]; exact hn) hw
theorem call37 {args : List AV} {h : Heap} {R : AV → Heap → Prop} (hn : args.length ≤ 26) (hw : Wt Try.prog (D cfg) c37 ⟨argsEnv 0 args, h⟩ (Ends Try.prog [.tmp 4, .tmp 5, .tmp 6] R)) : ∃ r h', D cfg 37 args h = some (r, h') ∧ R r h' :=
  let ⟨_, hb, hk⟩ := c37_eq
  W.calls (c := cfg) rfl c37_fn hb hk c37_rs (by rw [c37_nt]; exact hn) hw
theorem call38 {args : List AV} {h : Heap} {R : AV → Heap → Prop} (hn : args.length ≤ 4) (hw : Wt Try.prog (D cfg) c38 ⟨argsEnv 0 args, h⟩ (Ends Try.prog [.tmp 2] R)) : ∃ r h', D cfg 38 args h = some (r, h') ∧ R r h' :=
  let ⟨_, hb, hk⟩ := c38_eq
  W.calls (c := cfg) rfl c38_fn hb hk c38_rs (by rw [c38_nt]; exact hn) hw
theorem call39 {args : List AV} {h : Heap} {R : AV → Heap → Prop} (hn : args.length ≤ 58) (hw : Wt Try.prog (D cfg) c39 ⟨argsEnv 0 args, h⟩ (Ends Try.prog [.tmp 2] R)) : ∃ r h', D cfg 39 args h = some (r, h') ∧ R r h' :=
  let ⟨_, hb, hk⟩ := c39_eq
  W.calls (c := cfg) rfl c39_fn hb hk c39_rs (by rw [c39_nt]; exact hn) hw
theorem call40 {args : List AV} {h : Heap} {R : AV → Heap → Prop} (hn : args.length ≤ 26) (hw : Wt Try.prog (D cfg) c40 ⟨argsEnv 0 args, h⟩ (Ends Try.prog [.tmp 4] R)) : ∃ r h', D cfg 40 args h = some (r, h') ∧ R r h' :=
  let ⟨_, hb, hk⟩ := c40_eq
  W.calls (c := cfg) rfl c40_fn hb hk c40_rs (by rw [c40_nt]; exact hn) hw
theorem call41 {args : List AV} {h : Heap} {R : AV → Heap → Prop} (hn : args.length ≤ 87) (hw : Wt Try.prog (D cfg) c41 ⟨argsEnv 0 args, h⟩ (Ends Try.prog [.tmp 2] R)) : ∃ r h', D cfg 41 args h = some (r, h') ∧ R r h' :=
  let ⟨_, hb, hk⟩ := c41_eq
  W.calls (c := cfg) rfl c41_fn hb hk c41_rs (by rw [c41_nt]; exact hn) hw
theorem call42 {args : List AV} {h : Heap} {R : AV → Heap → Prop} (hn : args.length ≤ 25) (hw : Wt Try.prog (D cfg) c42 ⟨argsEnv 0 args, h⟩ (Ends Try.prog [.tmp 0] R)) : ∃ r h', D cfg 42 args h = some (r, h') ∧ R r h' :=
  let ⟨_, hb, hk⟩ := c42_eq
  W.calls (c := cfg) rfl c42_fn hb hk c42_rs (by rw [c42_nt]; exact hn) hw
theorem call43 {args : List AV} {h : Heap} {R : AV → Heap → Prop} (hn : args.length ≤ 57) (hw : Wt Try.prog (D cfg) c43 ⟨argsEnv 0 args, h⟩ (Ends Try.prog [.tmp 4] R)) : ∃ r h', D cfg 43 args h = some (r, h') ∧ R r h' :=
  let ⟨_, hb, hk⟩ := c43_eq
  W.calls (c := cfg) rfl c43_fn hb hk c43_rs (by rw [c43_nt]; exact hn) hw
theorem call44 {args : List AV} {h : Heap} {R : AV → Heap → Prop} (hn : args.length ≤ 91) (hw : Wt Try.prog (D cfg) c44 ⟨argsEnv 0 args, h⟩ (Ends Try.prog [.tmp 4] R)) : ∃ r h', D cfg 44 args h = some (r, h') ∧ R r h' :=
  let ⟨_, hb, hk⟩ := c44_eq
  W.calls (c := cfg) rfl c44_fn hb hk c44_rs (by rw [c44_nt]; exact hn) hw
theorem call45 {args : List AV} {h : Heap} {R : AV → Heap → Prop} (hn : args.length ≤ 41) (hw : Wt Try.prog (D cfg) c45 ⟨argsEnv 0 args, h⟩ (Ends Try.prog [.tmp 4, .tmp 5] R)) : ∃ r h', D cfg 45 args h = some (r, h') ∧ R r h' :=
  let ⟨_, hb, hk⟩ := c45_eq
  W.calls (c := cfg) rfl c45_fn hb hk c45_rs (by rw [c45_nt]; exact hn) hw
theorem call46 {args : List AV} {h : Heap} {R : AV → Heap → Prop} (hn : args.length ≤ 19) (hw : Wt Try.prog (D cfg) c46 ⟨argsEnv 0 args, h⟩ (Ends Try.prog [.tmp 4, .tmp 5] R)) : ∃ r h', D cfg 46 args h = some (r, h') ∧ R r h' :=
  let ⟨_, hb, hk⟩ := c46_eq
  W.calls (c := cfg) rfl c46_fn hb hk c46_rs (by rw [c46_nt]; exact hn) hw
theorem call47 {args : List AV} {h : Heap} {R : AV → Heap → Prop} (hn : args.length ≤ 29) (hw : Wt Try.prog (D cfg) c47 ⟨argsEnv 0 args, h⟩ (Ends Try.prog [.tmp 4] R)) : ∃ r h', D cfg 47 args h = some (r, h') ∧ R r h' :=
  let ⟨_, hb, hk⟩ := c47_eq
  W.calls (c := cfg) rfl c47_fn hb hk c47_rs (by rw [c47_nt]; exact hn) hw
theorem call48 {args : List AV} {h : Heap} {R : AV → Heap → Prop} (hn : args.length ≤ 25) (hw : Wt Try.prog (D cfg) c48 ⟨argsEnv 0 args, h⟩ (Ends Try.prog [.tmp 4] R)) : ∃ r h', D cfg 48 args h = some (r, h') ∧ R r h' :=
  let ⟨_, hb, hk⟩ := c48_eq
  W.calls (c := cfg) rfl c48_fn hb hk c48_rs (by rw [c48_nt]; exact hn) hw
theorem call49 {args : List AV} {h : Heap} {R : AV → Heap → Prop} (hn : args.length ≤ 110) (hw : Wt Try.prog (D cfg) c49 ⟨argsEnv 0 args, h⟩ (Ends Try.prog [.tmp 2] R)) : ∃ r h', D cfg 49 args h = some (r, h') ∧ R r h' :=
  let ⟨_, hb, hk⟩ := c49_eq
  W.calls (c := cfg) rfl c49_fn hb hk c49_rs (by rw [c49_nt]; exact hn) hw
theorem call50 {args : List AV} {h : Heap} {R : AV → Heap → Prop} (hn : args.length ≤ 37) (hw : Wt Try.prog (D cfg) c50 ⟨argsEnv 0 args, h⟩ (Ends Try.prog [.tmp 4] R)) : ∃ r h', D cfg 50 args h = some (r, h') ∧ R r h' :=
  let ⟨_, hb, hk⟩ := c50_eq
  W.calls (c := cfg) rfl c50_fn hb hk c50_rs (by rw [c50_nt]; exact hn) hw
theorem call51 {args : List AV} {h : Heap} {R : AV → Heap → Prop} (hn : args.length ≤ 43) (hw : Wt Try.prog (D cfg) c51 ⟨argsEnv 0 args, h⟩ (Ends Try.prog [.tmp 0] R)) : ∃ r h', D cfg 51 args h = some (r, h') ∧ R r h' :=
  let ⟨_, hb, hk⟩ := c51_eq
  W.calls (c := cfg) rfl c51_fn hb hk c51_rs (by rw [c51_nt]; exact hn) hw
theorem call52 {args : List AV} {h : Heap} {R : AV → Heap → Prop} (hn : args.length ≤ 73) (hw : Wt Try.prog (D cfg) c52 ⟨argsEnv 0 args, h⟩ (Ends Try.prog [.tmp 4, .tmp 5] R)) : ∃ r h', D cfg 52 args h = some (r, h') ∧ R r h' :=
  let ⟨_, hb, hk⟩ := c52_eq
  W.calls (c := cfg) rfl c52_fn hb hk c52_rs (by rw [c52_nt]; exact hn) hw
theorem call53 {args : List AV} {h : Heap} {R : AV → Heap → Prop} (hn : args.length ≤ 20) (hw : Wt Try.prog (D cfg) c53 ⟨argsEnv 0 args, h⟩ (Ends Try.prog [.tmp 6] R)) : ∃ r h', D cfg 53 args h = some (r, h') ∧ R r h' :=
  let ⟨_, hb, hk⟩ := c53_eq
  W.calls (c := cfg) rfl c53_fn hb hk c53_rs (by rw [c53_nt]; exact hn) hw
theorem call54 {args : List AV} {h : Heap} {R : AV → Heap → Prop} (hn : args.length ≤ 16) (hw : Wt Try.prog (D cfg) c54 ⟨argsEnv 0 args, h⟩ (Ends Try.prog [.tmp 4] R)) : ∃ r h', D cfg 54 args h = some (r, h') ∧ R r h' :=
  let ⟨_, hb, hk⟩ := c54_eq
  W.calls (c := cfg) rfl c54_fn hb hk c54_rs (by rw [c54_nt]; exact hn) hw
theorem call55 {args : List AV} {h : Heap} {R : AV → Heap → Prop} (hn : args.length ≤ 31) (hw : Wt Try.prog (D cfg) c55 ⟨argsEnv 0 args, h⟩ (Ends Try.prog [.tmp 2] R)) : ∃ r h', D cfg 55 args h = some (r, h') ∧ R r h' :=
  let ⟨_, hb, hk⟩ := c55_eq
  W.calls (c := cfg) rfl c55_fn hb hk c55_rs (by rw [c55_nt]; exact hn) hw
theorem call56 {args : List AV} {h : Heap} {R : AV → Heap → Prop} (hn : args.length ≤ 8) (hw : Wt Try.prog (D cfg) c56 ⟨argsEnv 0 args, h⟩ (Ends Try.prog [.tmp 2] R)) : ∃ r h', D cfg 56 args h = some (r, h') ∧ R r h' :=
  let ⟨_, hb, hk⟩ := c56_eq
  W.calls (c := cfg) rfl c56_fn hb hk c56_rs (by rw [c56_nt]; exact hn) hw
theorem call57 {args : List AV} {h : Heap} {R : AV → Heap → Prop} (hn : args.length ≤ 40) (hw : Wt Try.prog (D cfg) c57 ⟨argsEnv 0 args, h⟩ (Ends Try.prog [.tmp 8] R)) : ∃ r h', D cfg 57 args h = some (r, h') ∧ R r h' :=
  let ⟨_, hb, hk⟩ := c57_eq
  W.calls (c := cfg) rfl c57_fn hb hk c57_rs (by rw [c57_nt]; exact hn) hw
theorem call58 {args : List AV} {h : Heap} {R : AV → Heap → Prop} (hn : args.length ≤ 15) (hw : Wt Try.prog (D cfg) c58 ⟨argsEnv 0 args, h⟩ (Ends Try.prog [.tmp 4] R)) : ∃ r h', D cfg 58 args h = some (r, h') ∧ R r h' :=
  let ⟨_, hb, hk⟩ := c58_eq
  W.calls (c := cfg) rfl c58_fn hb hk c58_rs (by rw [c58_nt]; exact hn) hw
theorem call59 {args : List AV} {h : Heap} {R : AV → Heap → Prop} (hn : args.length ≤ 30) (hw : Wt Try.prog (D cfg) c59 ⟨argsEnv 0 args, h⟩ (Ends Try.prog [.tmp 2] R)) : ∃ r h', D cfg 59 args h = some (r, h') ∧ R r h' :=
  let ⟨_, hb, hk⟩ := c59_eq
  W.calls (c := cfg) rfl c59_fn hb hk c59_rs (by rw [c59_nt]; exact hn) hw
theorem call60 {args : List AV} {h : Heap} {R : AV → Heap → Prop} (hn : args.length ≤ 29) (hw : Wt Try.prog (D cfg) c60 ⟨argsEnv 0 args, h⟩ (Ends Try.prog [.tmp 2] R)) : ∃ r h', D cfg 60 args h = some (r, h') ∧ R r h' :=
  let ⟨_, hb, hk⟩ := c60_eq
  W.calls (c := cfg) rfl c60_fn hb hk c60_rs (by rw [c60_nt]; exact hn) hw
theorem call61 {args : List AV} {h : Heap} {R : AV → Heap → Prop} (hn : args.length ≤ 31) (hw : Wt Try.prog (D cfg) c61 ⟨argsEnv 0 args, h⟩ (Ends Try.prog [.tmp 2] R)) : ∃ r h', D cfg 61 args h = some (r, h') ∧ R r h' :=
  let ⟨_, hb, hk⟩ := c61_eq
  W.calls (c := cfg) rfl c61_fn hb hk c61_rs (by rw [c61_nt]; exact hn) hw
theorem call62 {args : List AV} {h : Heap} {R : AV → Heap → Prop} (hn : args.length ≤ 12) (hw : Wt Try.prog (D cfg) c62 ⟨argsEnv 0 args, h⟩ (Ends Try.prog [.tmp 0] R)) : ∃ r h', D cfg 62 args h = some (r, h') ∧ R r h' :=
  let ⟨_, hb, hk⟩ := c62_eq
  W.calls (c := cfg) rfl c62_fn hb hk c62_rs (by rw [c62_nt]; exact hn) hw
theorem call63 {args : List AV} {h : Heap} {R : AV → Heap → Prop} (hn : args.length ≤ 40) (hw : Wt Try.prog (D cfg) c63 ⟨argsEnv 0 args, h⟩ (Ends Try.prog [.tmp 4] R)) : ∃ r h', D cfg 63 args h = some (r, h') ∧ R r h' :=
  let ⟨_, hb, hk⟩ := c63_eq
  W.calls (c := cfg) rfl c63_fn hb hk c63_rs (by rw [c63_nt]; exact hn) hw
theorem call64 {args : List AV} {h : Heap} {R : AV → Heap → Prop} (hn : args.length ≤ 66) (hw : Wt Try.prog (D cfg) c64 ⟨argsEnv 0 args, h⟩ (Ends Try.prog [.tmp 6] R)) : ∃ r h', D cfg 64 args h = some (r, h') ∧ R r h' :=
  let ⟨_, hb, hk⟩ := c64_eq
  W.calls (c := cfg) rfl c64_fn hb hk c64_rs (by rw [c64_nt]; exact hn) hw
theorem call65 {args : List AV} {h : Heap} {R : AV → Heap → Prop} (hn : args.length ≤ 100) (hw : Wt Try.prog (D cfg) c65 ⟨argsEnv 0 args, h⟩ (Ends Try.prog [.tmp 4] R)) : ∃ r h', D cfg 65 args h = some (r, h') ∧ R r h' :=
  let ⟨_, hb, hk⟩ := c65_eq
  W.calls (c := cfg) rfl c65_fn hb hk c65_rs (by rw [c65_nt]; exact hn) hw
theorem call66 {args : List AV} {h : Heap} {R : AV → Heap → Prop} (hn : args.length ≤ 7) (hw : Wt Try.prog (D cfg) c66 ⟨argsEnv 0 args, h⟩ (Ends Try.prog [.tmp 2] R)) : ∃ r h', D cfg 66 args h = some (r, h') ∧ R r h' :=
  let ⟨_, hb, hk⟩ := c66_eq
  W.calls (c := cfg) rfl c66_fn hb hk c66_rs (by rw [c66_nt]; exact hn) hw
theorem call67 {args : List AV} {h : Heap} {R : AV → Heap → Prop} (hn : args.length ≤ 7) (hw : Wt Try.prog (D cfg) c67 ⟨argsEnv 0 args, h⟩ (Ends Try.prog [.tmp 2] R)) : ∃ r h', D cfg 67 args h = some (r, h') ∧ R r h' :=
  let ⟨_, hb, hk⟩ := c67_eq
  W.calls (c := cfg) rfl c67_fn hb hk c67_rs (by rw [c67_nt]; exact hn) hw
theorem call68 {args : List AV} {h : Heap} {R : AV → Heap → Prop} (hn : args.length ≤ 20) (hw : Wt Try.prog (D cfg) c68 ⟨argsEnv 0 args, h⟩ (Ends Try.prog [.tmp 0] R)) : ∃ r h', D cfg 68 args h = some (r, h') ∧ R r h' :=
  let ⟨_, hb, hk⟩ := c68_eq
  W.calls (c := cfg) rfl c68_fn hb hk c68_rs (by rw [c68_nt]; exact hn) hw
theorem call69 {args : List AV} {h : Heap} {R : AV → Heap → Prop} (hn : args.length ≤ 77) (hw : Wt Try.prog (D cfg) c69 ⟨argsEnv 0 args, h⟩ (Ends Try.prog [.tmp 6] R)) : ∃ r h', D cfg 69 args h = some (r, h') ∧ R r h' :=
  let ⟨_, hb, hk⟩ := c69_eq
  W.calls (c := cfg) rfl c69_fn hb hk c69_rs (by rw [c69_nt]; exact hn) hw
theorem call70 {args : List AV} {h : Heap} {R : AV → Heap → Prop} (hn : args.length ≤ 82) (hw : Wt Try.prog (D cfg) c70 ⟨argsEnv 0 args, h⟩ (Ends Try.prog [.tmp 6, .tmp 7, .tmp 8] R)) : ∃ r h', D cfg 70 args h = some (r, h') ∧ R r h' :=
  let ⟨_, hb, hk⟩ := c70_eq
  W.calls (c := cfg) rfl c70_fn hb hk c70_rs (by rw [c70_nt]; exact hn) hw
theorem call71 {args : List AV} {h : Heap} {R : AV → Heap → Prop} (hn : args.length ≤ 49) (hw : Wt Try.prog (D cfg) c71 ⟨argsEnv 0 args, h⟩ (Ends Try.prog [.tmp 6, .tmp 7, .tmp 8] R)) : ∃ r h', D cfg 71 args h = some (r, h') ∧ R r h' :=
  let ⟨_, hb, hk⟩ := c71_eq
  W.calls (c := cfg) rfl c71_fn hb hk c71_rs (by rw [c71_nt]; exact hn) hw
theorem call72 {args : List AV} {h : Heap} {R : AV → Heap → Prop} (hn : args.length ≤ 97) (hw : Wt Try.prog (D cfg) c72 ⟨argsEnv 0 args, h⟩ (Ends Try.prog [.tmp 4] R)) : ∃ r h', D cfg 72 args h = some (r, h') ∧ R r h' :=
  let ⟨_, hb, hk⟩ := c72_eq
  W.calls (c := cfg) rfl c72_fn hb hk c72_rs (by rw [c72_nt]; exact hn) hw
theorem call73 {args : List AV} {h : Heap} {R : AV → Heap → Prop} (hn : args.length ≤ 153) (hw : Wt Try.prog (D cfg) c73 ⟨argsEnv 0 args, h⟩ (Ends Try.prog [.tmp 4] R)) : ∃ r h', D cfg 73 args h = some (r, h') ∧ R r h' :=
  let ⟨_, hb, hk⟩ := c73_eq
  W.calls (c := cfg) rfl c73_fn hb hk c73_rs (by rw [c73_nt]; exact hn) hw
theorem call74 {args : List AV} {h : Heap} {R : AV → Heap → Prop} (hn : args.length ≤ 31) (hw : Wt Try.prog (D cfg) c74 ⟨argsEnv 0 args, h⟩ (Ends Try.prog [.tmp 2] R)) : ∃ r h', D cfg 74 args h = some (r, h') ∧ R r h' :=
  let ⟨_, hb, hk⟩ := c74_eq
  W.calls (c := cfg) rfl c74_fn hb hk c74_rs (by rw [c74_nt]; exact hn) hw
theorem call75 {args : List AV} {h : Heap} {R : AV → Heap → Prop} (hn : args.length ≤ 7) (hw : Wt Try.prog (D cfg) c75 ⟨argsEnv 0 args, h⟩ (Ends Try.prog [.tmp 2] R)) : ∃ r h', D cfg 75 args h = some (r, h') ∧ R r h' :=
  let ⟨_, hb, hk⟩ := c75_eq
  W.calls (c := cfg) rfl c75_fn hb hk c75_rs (by rw [c75_nt]; exact hn) hw
theorem call76 {args : List AV} {h : Heap} {R : AV → Heap → Prop} (hn : args.length ≤ 25) (hw : Wt Try.prog (D cfg) c76 ⟨argsEnv 0 args, h⟩ (Ends Try.prog [.tmp 2] R)) : ∃ r h', D cfg 76 args h = some (r, h') ∧ R r h' :=
  let ⟨_, hb, hk⟩ := c76_eq
  W.calls (c := cfg) rfl c76_fn hb hk c76_rs (by rw [c76_nt]; exact hn) hw
theorem call77 {args : List AV} {h : Heap} {R : AV → Heap → Prop} (hn : args.length ≤ 15) (hw : Wt Try.prog (D cfg) c77 ⟨argsEnv 0 args, h⟩ (Ends Try.prog [.tmp 6] R)) : ∃ r h', D cfg 77 args h = some (r, h') ∧ R r h' :=
  let ⟨_, hb, hk⟩ := c77_eq
  W.calls (c := cfg) rfl c77_fn hb hk c77_rs (by rw [c77_nt]; exact hn) hw
theorem call78 {args : List AV} {h : Heap} {R : AV → Heap → Prop} (hn : args.length ≤ 8) (hw : Wt Try.prog (D cfg) c78 ⟨argsEnv 0 args, h⟩ (Ends Try.prog [.tmp 4] R)) : ∃ r h', D cfg 78 args h = some (r, h') ∧ R r h' :=
  let ⟨_, hb, hk⟩ := c78_eq
  W.calls (c := cfg) rfl c78_fn hb hk c78_rs (by rw [c78_nt]; exact hn) hw
theorem call79 {args : List AV} {h : Heap} {R : AV → Heap → Prop} (hn : args.length ≤ 55) (hw : Wt Try.prog (D cfg) c79 ⟨argsEnv 0 args, h⟩ (Ends Try.prog [.tmp 0] R)) : ∃ r h', D cfg 79 args h = some (r, h') ∧ R r h' :=
  let ⟨_, hb, hk⟩ := c79_eq
  W.calls (c := cfg) rfl c79_fn hb hk c79_rs (by rw [c79_nt]; exact hn) hw
theorem call80 {args : List AV} {h : Heap} {R : AV → Heap → Prop} (hn : args.length ≤ 97) (hw : Wt Try.prog (D cfg) c80 ⟨argsEnv 0 args, h⟩ (Ends Try.prog [.tmp 2] R)) : ∃ r h', D cfg 80 args h = some (r, h') ∧ R r h' :=
  let ⟨_, hb, hk⟩ := c80_eq
  W.calls (c := cfg) rfl c80_fn hb hk c80_rs (by rw [c80_nt]; exact hn) hw
theorem call81 {args : List AV} {h : Heap} {R : AV → Heap → Prop} (hn : args.length ≤ 128) (hw : Wt Try.prog (D cfg) c81 ⟨argsEnv 0 args, h⟩ (Ends Try.prog [.tmp 6] R)) : ∃ r h', D cfg 81 args h = some (r, h') ∧ R r h' :=
  let ⟨_, hb, hk⟩ := c81_eq
  W.calls (c := cfg) rfl c81_fn hb hk c81_rs (by rw [c81_nt]; exact hn) hw
theorem call82 {args : List AV} {h : Heap} {R : AV → Heap → Prop} (hn : args.length ≤ 10) (hw : Wt Try.prog (D cfg) c82 ⟨argsEnv 0 args, h⟩ (Ends Try.prog [.tmp 2, .tmp 3] R)) : ∃ r h', D cfg 82 args h = some (r, h') ∧ R r h' :=
  let ⟨_, hb, hk⟩ := c82_eq
  W.calls (c := cfg) rfl c82_fn hb hk c82_rs (by rw [c82_nt]; exact hn) hw
theorem call83 {args : List AV} {h : Heap} {R : AV → Heap → Prop} (hn : args.length ≤ 76) (hw : Wt Try.prog (D cfg) c83 ⟨argsEnv 0 args, h⟩ (Ends Try.prog [.tmp 4, .tmp 5] R)) : ∃ r h', D cfg 83 args h = some (r, h') ∧ R r h' :=
  let ⟨_, hb, hk⟩ := c83_eq
  W.calls (c := cfg) rfl c83_fn hb hk c83_rs (by rw [c83_nt]; exact hn) hw
theorem call84 {args : List AV} {h : Heap} {R : AV → Heap → Prop} (hn : args.length ≤ 7) (hw : Wt Try.prog (D cfg) c84 ⟨argsEnv 0 args, h⟩ (Ends Try.prog [.tmp 2] R)) : ∃ r h', D cfg 84 args h = some (r, h') ∧ R r h' :=
  let ⟨_, hb, hk⟩ := c84_eq
  W.calls (c := cfg) rfl c84_fn hb hk c84_rs (by rw [c84_nt]; exact hn) hw
theorem call86 {args : List AV} {h : Heap} {R : AV → Heap → Prop} (hn : args.length ≤ 49) (hw : Wt Try.prog (D cfg) c86 ⟨argsEnv 0 args, h⟩ (Ends Try.prog [.tmp 2] R)) : ∃ r h', D cfg 86 args h = some (r, h') ∧ R r h' :=
  let ⟨_, hb, hk⟩ := c86_eq
  W.calls (c := cfg) rfl c86_fn hb hk c86_rs (by rw [c86_nt]; exact hn) hw
theorem call88 {args : List AV} {h : Heap} {R : AV → Heap → Prop} (hn : args.length ≤ 8) (hw : Wt Try.prog (D cfg) c88 ⟨argsEnv 0 args, h⟩ (Ends Try.prog [.tmp 2, .tmp 3] R)) : ∃ r h', D cfg 88 args h = some (r, h') ∧ R r h' :=
  let ⟨_, hb, hk⟩ := c88_eq
  W.calls (c := cfg) rfl c88_fn hb hk c88_rs (by rw [c88_nt]; exact hn) hw
theorem call89 {args : List AV} {h : Heap} {R : AV → Heap → Prop} (hn : args.length ≤ 67) (hw : Wt Try.prog (D cfg) c89 ⟨argsEnv 0 args, h⟩ (Ends Try.prog [.tmp 4] R)) : ∃ r h', D cfg 89 args h = some (r, h') ∧ R r h' :=
  let ⟨_, hb, hk⟩ := c89_eq
  W.calls (c := cfg) rfl c89_fn hb hk c89_rs (by rw [c89_nt]; exact hn) hw
theorem call90 {args : List AV} {h : Heap} {R : AV → Heap → Prop} (hn : args.length ≤ 21) (hw : Wt Try.prog (D cfg) c90 ⟨argsEnv 0 args, h⟩ (Ends Try.prog [.tmp 4, .tmp 5] R)) : ∃ r h', D cfg 90 args h = some (r, h') ∧ R r h' :=
  let ⟨_, hb, hk⟩ := c90_eq
  W.calls (c := cfg) rfl c90_fn hb hk c90_rs (by rw [c90_nt]; exact hn) hw
theorem call91 {args : List AV} {h : Heap} {R : AV → Heap → Prop} (hn : args.length ≤ 58) (hw : Wt Try.prog (D cfg) c91 ⟨argsEnv 0 args, h⟩ (Ends Try.prog [.tmp 2] R)) : ∃ r h', D cfg 91 args h = some (r, h') ∧ R r h' :=
  let ⟨_, hb, hk⟩ := c91_eq
  W.calls (c := cfg) rfl c91_fn hb hk c91_rs (by rw [c91_nt]; exact hn) hw
theorem call92 {args : List AV} {h : Heap} {R : AV → Heap → Prop} (hn : args.length ≤ 16) (hw : Wt Try.prog (D cfg) c92 ⟨argsEnv 0 args, h⟩ (Ends Try.prog [.tmp 4] R)) : ∃ r h', D cfg 92 args h = some (r, h') ∧ R r h' :=
  let ⟨_, hb, hk⟩ := c92_eq
  W.calls (c := cfg) rfl c92_fn hb hk c92_rs (by rw [c92_nt]; exact hn) hw
theorem call93 {args : List AV} {h : Heap} {R : AV → Heap → Prop} (hn : args.length ≤ 8) (hw : Wt Try.prog (D cfg) c93 ⟨argsEnv 0 args, h⟩ (Ends Try.prog [.tmp 2] R)) : ∃ r h', D cfg 93 args h = some (r, h') ∧ R r h' :=
  let ⟨_, hb, hk⟩ := c93_eq
  W.calls (c := cfg) rfl c93_fn hb hk c93_rs (by rw [c93_nt]; exact hn) hw
theorem call94 {args : List AV} {h : Heap} {R : AV → Heap → Prop} (hn : args.length ≤ 62) (hw : Wt Try.prog (D cfg) c94 ⟨argsEnv 0 args, h⟩ (Ends Try.prog [.tmp 6] R)) : ∃ r h', D cfg 94 args h = some (r, h') ∧ R r h' :=
  let ⟨_, hb, hk⟩ := c94_eq
  W.calls (c := cfg) rfl c94_fn hb hk c94_rs (by rw [c94_nt]; exact hn) hw
theorem call95 {args : List AV} {h : Heap} {R : AV → Heap → Prop} (hn : args.length ≤ 46) (hw : Wt Try.prog (D cfg) c95 ⟨argsEnv 0 args, h⟩ (Ends Try.prog [.tmp 6] R)) : ∃ r h', D cfg 95 args h = some (r, h') ∧ R r h' :=
  let ⟨_, hb, hk⟩ := c95_eq
  W.calls (c := cfg) rfl c95_fn hb hk c95_rs (by rw [c95_nt]; exact hn) hw
theorem call96 {args : List AV} {h : Heap} {R : AV → Heap → Prop} (hn : args.length ≤ 41) (hw : Wt Try.prog (D cfg) c96 ⟨argsEnv 0 args, h⟩ (Ends Try.prog [.tmp 6] R)) : ∃ r h', D cfg 96 args h = some (r, h') ∧ R r h' :=
  let ⟨_, hb, hk⟩ := c96_eq
  W.calls (c := cfg) rfl c96_fn hb hk c96_rs (by rw [c96_nt]; exact hn) hw
theorem call97 {args : List AV} {h : Heap} {R : AV → Heap → Prop} (hn : args.length ≤ 38) (hw : Wt Try.prog (D cfg) c97 ⟨argsEnv 0 args, h⟩ (Ends Try.prog [.tmp 6] R)) : ∃ r h', D cfg 97 args h = some (r, h') ∧ R r h' :=
  let ⟨_, hb, hk⟩ := c97_eq
  W.calls (c := cfg) rfl c97_fn hb hk c97_rs (by rw [c97_nt]; exact hn) hw
theorem call98 {args : List AV} {h : Heap} {R : AV → Heap → Prop} (hn : args.length ≤ 37) (hw : Wt Try.prog (D cfg) c98 ⟨argsEnv 0 args, h⟩ (Ends Try.prog [.tmp 4, .tmp 5] R)) : ∃ r h', D cfg 98 args h = some (r, h') ∧ R r h' :=
  let ⟨_, hb, hk⟩ := c98_eq
  W.calls (c := cfg) rfl c98_fn hb hk c98_rs (by rw [c98_nt]; exact hn) hw
theorem call99 {args : List AV} {h : Heap} {R : AV → Heap → Prop} (hn : args.length ≤ 33) (hw : Wt Try.prog (D cfg) c99 ⟨argsEnv 0 args, h⟩ (Ends Try.prog [.tmp 4] R)) : ∃ r h', D cfg 99 args h = some (r, h') ∧ R r h' :=
  let ⟨_, hb, hk⟩ := c99_eq
  W.calls (c := cfg) rfl c99_fn hb hk c99_rs (by rw [c99_nt]; exact hn) hw
theorem call100 {args : List AV} {h : Heap} {R : AV → Heap → Prop} (hn : args.length ≤ 116) (hw : Wt Try.prog (D cfg) c100 ⟨argsEnv 0 args, h⟩ (Ends Try.prog [.tmp 6] R)) : ∃ r h', D cfg 100 args h = some (r, h') ∧ R r h' :=
  let ⟨_, hb, hk⟩ := c100_eq
  W.calls (c := cfg) rfl c100_fn hb hk c100_rs (by rw [c100_nt]; exact hn) hw
theorem call101 {args : List AV} {h : Heap} {R : AV → Heap → Prop} (hn : args.length ≤ 16) (hw : Wt Try.prog (D cfg) c101 ⟨argsEnv 0 args, h⟩ (Ends Try.prog [.tmp 4] R)) : ∃ r h', D cfg 101 args h = some (r, h') ∧ R r h' :=
  let ⟨_, hb, hk⟩ := c101_eq
  W.calls (c := cfg) rfl c101_fn hb hk c101_rs (by rw [c101_nt]; exact hn) hw
theorem call102 {args : List AV} {h : Heap} {R : AV → Heap → Prop} (hn : args.length ≤ 14) (hw : Wt Try.prog (D cfg) c102 ⟨argsEnv 0 args, h⟩ (Ends Try.prog [.tmp 6] R)) : ∃ r h', D cfg 102 args h = some (r, h') ∧ R r h' :=
  let ⟨_, hb, hk⟩ := c102_eq
  W.calls (c := cfg) rfl c102_fn hb hk c102_rs (by rw [c102_nt]; exact hn) hw
theorem call103 {args : List AV} {h : Heap} {R : AV → Heap → Prop} (hn : args.length ≤ 13) (hw : Wt Try.prog (D cfg) c103 ⟨argsEnv 0 args, h⟩ (Ends Try.prog [.tmp 2] R)) : ∃ r h', D cfg 103 args h = some (r, h') ∧ R r h' :=
  let ⟨_, hb, hk⟩ := c103_eq
  W.calls (c := cfg) rfl c103_fn hb hk c103_rs (by rw [c103_nt]; exact hn) hw
theorem call104 {args : List AV} {h : Heap} {R : AV → Heap → Prop} (hn : args.length ≤ 31) (hw : Wt Try.prog (D cfg) c104 ⟨argsEnv 0 args, h⟩ (Ends Try.prog [.tmp 4] R)) : ∃ r h', D cfg 104 args h = some (r, h') ∧ R r h' :=
  let ⟨_, hb, hk⟩ := c104_eq
  W.calls (c := cfg) rfl c104_fn hb hk c104_rs (by rw [c104_nt]; exact hn) hw
theorem call105 {args : List AV} {h : Heap} {R : AV → Heap → Prop} (hn : args.length ≤ 32) (hw : Wt Try.prog (D cfg) c105 ⟨argsEnv 0 args, h⟩ (Ends Try.prog [.tmp 6] R)) : ∃ r h', D cfg 105 args h = some (r, h') ∧ R r h' :=
  let ⟨_, hb, hk⟩ := c105_eq
  W.calls (c := cfg) rfl c105_fn hb hk c105_rs (by rw [c105_nt]; exact hn) hw
theorem call106 {args : List AV} {h : Heap} {R : AV → Heap → Prop} (hn : args.length ≤ 24) (hw : Wt Try.prog (D cfg) c106 ⟨argsEnv 0 args, h⟩ (Ends Try.prog [.tmp 6] R)) : ∃ r h', D cfg 106 args h = some (r, h') ∧ R r h' :=
  let ⟨_, hb, hk⟩ := c106_eq
  W.calls (c := cfg) rfl c106_fn hb hk c106_rs (by rw [c106_nt]; exact hn) hw
theorem call107 {args : List AV} {h : Heap} {R : AV → Heap → Prop} (hn : args.length ≤ 86) (hw : Wt Try.prog (D cfg) c107 ⟨argsEnv 0 args, h⟩ (Ends Try.prog [.tmp 4] R)) : ∃ r h', D cfg 107 args h = some (r, h') ∧ R r h' :=
  let ⟨_, hb, hk⟩ := c107_eq
  W.calls (c := cfg) rfl c107_fn hb hk c107_rs (by rw [c107_nt]; exact hn) hw
theorem call108 {args : List AV} {h : Heap} {R : AV → Heap → Prop} (hn : args.length ≤ 32) (hw : Wt Try.prog (D cfg) c108 ⟨argsEnv 0 args, h⟩ (Ends Try.prog [.tmp 4] R)) : ∃ r h', D cfg 108 args h = some (r, h') ∧ R r h' :=
  let ⟨_, hb, hk⟩ := c108_eq
  W.calls (c := cfg) rfl c108_fn hb hk c108_rs (by rw [c108_nt]; exact hn) hw
theorem call109 {args : List AV} {h : Heap} {R : AV → Heap → Prop} (hn : args.length ≤ 31) (hw : Wt Try.prog (D cfg) c109 ⟨argsEnv 0 args, h⟩ (Ends Try.prog [.tmp 4] R)) : ∃ r h', D cfg 109 args h = some (r, h') ∧ R r h' :=
  let ⟨_, hb, hk⟩ := c109_eq
  W.calls (c := cfg) rfl c109_fn hb hk c109_rs (by rw [c109_nt]; exact hn) hw
theorem call110 {args : List AV} {h : Heap} {R : AV → Heap → Prop} (hn : args.length ≤ 42) (hw : Wt Try.prog (D cfg) c110 ⟨argsEnv 0 args, h⟩ (Ends Try.prog [.tmp 8] R)) : ∃ r h', D cfg 110 args h = some (r, h') ∧ R r h' :=
  let ⟨_, hb, hk⟩ := c110_eq
  W.calls (c := cfg) rfl c110_fn hb hk c110_rs (by rw [c110_nt]; exact hn) hw
theorem call111 {args : List AV} {h : Heap} {R : AV → Heap → Prop} (hn : args.length ≤ 104) (hw : Wt Try.prog (D cfg) c111 ⟨argsEnv 0 args, h⟩ (Ends Try.prog [] R)) : ∃ r h', D cfg 111 args h = some (r, h') ∧ R r h' :=
  let ⟨_, hb, hk⟩ := c111_eq
  W.calls (c := cfg) rfl c111_fn hb hk c111_rs (by rw [c111_nt]; exact hn) hw
theorem call112 {args : List AV} {h : Heap} {R : AV → Heap → Prop} (hn : args.length ≤ 110) (hw : Wt Try.prog (D cfg) c112 ⟨argsEnv 0 args, h⟩ (Ends Try.prog [.cell 2 102] R)) : ∃ r h', D cfg 112 args h = some (r, h') ∧ R r h' :=
  let ⟨_, hb, hk⟩ := c112_eq
  W.calls (c := cfg) rfl c112_fn hb hk c112_rs (by rw [c112_nt]; exact hn) hw
theorem call114 {args : List AV} {h : Heap} {R : AV → Heap → Prop} (hn : args.length ≤ 8) (hw : Wt Try.prog (D cfg) c114 ⟨argsEnv 0 args, h⟩ (Ends Try.prog [.tmp 2] R)) : ∃ r h', D cfg 114 args h = some (r, h') ∧ R r h' :=
  let ⟨_, hb, hk⟩ := c114_eq
  W.calls (c := cfg) rfl c114_fn hb hk c114_rs (by rw [c114_nt]; exact hn) hw
theorem call115 {args : List AV} {h : Heap} {R : AV → Heap → Prop} (hn : args.length ≤ 20) (hw : Wt Try.prog (D cfg) c115 ⟨argsEnv 0 args, h⟩ (Ends Try.prog [.tmp 2] R)) : ∃ r h', D cfg 115 args h = some (r, h') ∧ R r h' :=
  let ⟨_, hb, hk⟩ := c115_eq
  W.calls (c := cfg) rfl c115_fn hb hk c115_rs (by rw [c115_nt]; exact hn) hw
theorem call116 {args : List AV} {h : Heap} {R : AV → Heap → Prop} (hn : args.length ≤ 17) (hw : Wt Try.prog (D cfg) c116 ⟨argsEnv 0 args, h⟩ (Ends Try.prog [.tmp 2] R)) : ∃ r h', D cfg 116 args h = some (r, h') ∧ R r h' :=
  let ⟨_, hb, hk⟩ := c116_eq
  W.calls (c := cfg) rfl c116_fn hb hk c116_rs (by rw [c116_nt]; exact hn) hw
theorem call117 {args : List AV} {h : Heap} {R : AV → Heap → Prop} (hn : args.length ≤ 4) (hw : Wt Try.prog (D cfg) c117 ⟨argsEnv 0 args, h⟩ (Ends Try.prog [.tmp 2] R)) : ∃ r h', D cfg 117 args h = some (r, h') ∧ R r h' :=
  let ⟨_, hb, hk⟩ := c117_eq
  W.calls (c := cfg) rfl c117_fn hb hk c117_rs (by rw [c117_nt]; exact hn) hw
theorem call118 {args : List AV} {h : Heap} {R : AV → Heap → Prop} (hn : args.length ≤ 125) (hw : Wt Try.prog (D cfg) c118 ⟨argsEnv 0 args, h⟩ (Ends Try.prog [.tmp 2, .tmp 3] R)) : ∃ r h', D cfg 118 args h = some (r, h') ∧ R r h' :=
  let ⟨_, hb, hk⟩ := c118_eq
  W.calls (c := cfg) rfl c118_fn hb hk c118_rs (by rw [c118_nt]; exact hn) hw
theorem call119 {args : List AV} {h : Heap} {R : AV → Heap → Prop} (hn : args.length ≤ 8) (hw : Wt Try.prog (D cfg) c119 ⟨argsEnv 0 args, h⟩ (Ends Try.prog [.tmp 4] R)) : ∃ r h', D cfg 119 args h = some (r, h') ∧ R r h' :=
  let ⟨_, hb, hk⟩ := c119_eq
  W.calls (c := cfg) rfl c119_fn hb hk c119_rs (by rw [c119_nt]; exact hn) hw
theorem call121 {args : List AV} {h : Heap} {R : AV → Heap → Prop} (hn : args.length ≤ 21) (hw : Wt Try.prog (D cfg) c121 ⟨argsEnv 0 args, h⟩ (Ends Try.prog [.tmp 4] R)) : ∃ r h', D cfg 121 args h = some (r, h') ∧ R r h' :=
  let ⟨_, hb, hk⟩ := c121_eq
  W.calls (c := cfg) rfl c121_fn hb hk c121_rs (by rw [c121_nt]; exact hn) hw
theorem call122 {args : List AV} {h : Heap} {R : AV → Heap → Prop} (hn : args.length ≤ 32) (hw : Wt Try.prog (D cfg) c122 ⟨argsEnv 0 args, h⟩ (Ends Try.prog [.tmp 6] R)) : ∃ r h', D cfg 122 args h = some (r, h') ∧ R r h' :=
  let ⟨_, hb, hk⟩ := c122_eq
  W.calls (c := cfg) rfl c122_fn hb hk c122_rs (by rw [c122_nt]; exact hn) hw
theorem call123 {args : List AV} {h : Heap} {R : AV → Heap → Prop} (hn : args.length ≤ 31) (hw : Wt Try.prog (D cfg) c123 ⟨argsEnv 0 args, h⟩ (Ends Try.prog [.tmp 2] R)) : ∃ r h', D cfg 123 args h = some (r, h') ∧ R r h' :=
  let ⟨_, hb, hk⟩ := c123_eq
  W.calls (c := cfg) rfl c123_fn hb hk c123_rs (by rw [c123_nt]; exact hn) hw
theorem call124 {args : List AV} {h : Heap} {R : AV → Heap → Prop} (hn : args.length ≤ 16) (hw : Wt Try.prog (D cfg) c124 ⟨argsEnv 0 args, h⟩ (Ends Try.prog [.tmp 4] R)) : ∃ r h', D cfg 124 args h = some (r, h') ∧ R r h' :=
  let ⟨_, hb, hk⟩ := c124_eq
  W.calls (c := cfg) rfl c124_fn hb hk c124_rs (by rw [c124_nt]; exact hn) hw
theorem call125 {args : List AV} {h : Heap} {R : AV → Heap → Prop} (hn : args.length ≤ 9) (hw : Wt Try.prog (D cfg) c125 ⟨argsEnv 0 args, h⟩ (Ends Try.prog [.tmp 2] R)) : ∃ r h', D cfg 125 args h = some (r, h') ∧ R r h' :=
  let ⟨_, hb, hk⟩ := c125_eq
  W.calls (c := cfg) rfl c125_fn hb hk c125_rs (by rw [c125_nt]; exact hn) hw
theorem call126 {args : List AV} {h : Heap} {R : AV → Heap → Prop} (hn : args.length ≤ 26) (hw : Wt Try.prog (D cfg) c126 ⟨argsEnv 0 args, h⟩ (Ends Try.prog [] R)) : ∃ r h', D cfg 126 args h = some (r, h') ∧ R r h' :=
  let ⟨_, hb, hk⟩ := c126_eq
  W.calls (c := cfg) rfl c126_fn hb hk c126_rs (by rw [c126_nt]; exact hn) hw
theorem call127 {args : List AV} {h : Heap} {R : AV → Heap → Prop} (hn : args.length ≤ 18) (hw : Wt Try.prog (D cfg) c127 ⟨argsEnv 0 args, h⟩ (Ends Try.prog [.tmp 4] R)) : ∃ r h', D cfg 127 args h = some (r, h') ∧ R r h' :=
  let ⟨_, hb, hk⟩ := c127_eq
  W.calls (c := cfg) rfl c127_fn hb hk c127_rs (by rw [c127_nt]; exact hn) hw
theorem call130 {args : List AV} {h : Heap} {R : AV → Heap → Prop} (hn : args.length ≤ 14) (hw : Wt Try.prog (D cfg) c130 ⟨argsEnv 0 args, h⟩ (Ends Try.prog [.tmp 4] R)) : ∃ r h', D cfg 130 args h = some (r, h') ∧ R r h' :=
  let ⟨_, hb, hk⟩ := c130_eq
  W.calls (c := cfg) rfl c130_fn hb hk c130_rs (by rw [c130_nt]; exact hn) hw
end Go.AM
