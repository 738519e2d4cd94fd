/-
  Printed by program (wip/tools/print.sh): a call of each function by its compiled code.
-/
import Derived.Test.YtamidpfdiijjgaaDoorCfg
import Derived.Test.YtamidpfdiijjgaaDoorCT
namespace Go.AM
open Go Go.Proofs
set_option maxRecDepth 100000
theorem call8 {args : List AV} {h : Heap} {R : AV → Heap → Prop} (hn : args.length ≤ 28) (hw : Wt Tryd.prog (D cfg) c8 ⟨argsEnv 0 args, h⟩ (Ends Tryd.prog [.tmp 2, .tmp 3, .tmp 4] R)) : ∃ r h', D cfg 8 args h = some (r, h') ∧ R r h' :=
  let ⟨_, hb, hk⟩ := c8_eq
  W.calls (c := cfg) rfl c8_fn hb hk c8_rs (by rw [c8_nt]; exact hn) hw
theorem call9 {args : List AV} {h : Heap} {R : AV → Heap → Prop} (hn : args.length ≤ 65) (hw : Wt Tryd.prog (D cfg) c9 ⟨argsEnv 0 args, h⟩ (Ends Tryd.prog [.tmp 2, .tmp 3, .tmp 4] R)) : ∃ r h', D cfg 9 args h = some (r, h') ∧ R r h' :=
  let ⟨_, hb, hk⟩ := c9_eq
  W.calls (c := cfg) rfl c9_fn hb hk c9_rs (by rw [c9_nt]; exact hn) hw
theorem call10 {args : List AV} {h : Heap} {R : AV → Heap → Prop} (hn : args.length ≤ 30) (hw : Wt Tryd.prog (D cfg) c10 ⟨argsEnv 0 args, h⟩ (Ends Tryd.prog [.tmp 0] R)) : ∃ r h', D cfg 10 args h = some (r, h') ∧ R r h' :=
  let ⟨_, hb, hk⟩ := c10_eq
  W.calls (c := cfg) rfl c10_fn hb hk c10_rs (by rw [c10_nt]; exact hn) hw
theorem call11 {args : List AV} {h : Heap} {R : AV → Heap → Prop} (hn : args.length ≤ 15) (hw : Wt Tryd.prog (D cfg) c11 ⟨argsEnv 0 args, h⟩ (Ends Tryd.prog [.tmp 4] R)) : ∃ r h', D cfg 11 args h = some (r, h') ∧ R r h' :=
  let ⟨_, hb, hk⟩ := c11_eq
  W.calls (c := cfg) rfl c11_fn hb hk c11_rs (by rw [c11_nt]; exact hn) hw
theorem call12 {args : List AV} {h : Heap} {R : AV → Heap → Prop} (hn : args.length ≤ 5) (hw : Wt Tryd.prog (D cfg) c12 ⟨argsEnv 0 args, h⟩ (Ends Tryd.prog [.tmp 2] R)) : ∃ r h', D cfg 12 args h = some (r, h') ∧ R r h' :=
  let ⟨_, hb, hk⟩ := c12_eq
  W.calls (c := cfg) rfl c12_fn hb hk c12_rs (by rw [c12_nt]; exact hn) hw
theorem call13 {args : List AV} {h : Heap} {R : AV → Heap → Prop} (hn : args.length ≤ 62) (hw : Wt Tryd.prog (D cfg) c13 ⟨argsEnv 0 args, h⟩ (Ends Tryd.prog [.tmp 2] R)) : ∃ r h', D cfg 13 args h = some (r, h') ∧ R r h' :=
  let ⟨_, hb, hk⟩ := c13_eq
  W.calls (c := cfg) rfl c13_fn hb hk c13_rs (by rw [c13_nt]; exact hn) hw
theorem call14 {args : List AV} {h : Heap} {R : AV → Heap → Prop} (hn : args.length ≤ 93) (hw : Wt Tryd.prog (D cfg) c14 ⟨argsEnv 0 args, h⟩ (Ends Tryd.prog [.cell 4 31, .tmp 5, .tmp 6] R)) : ∃ r h', D cfg 14 args h = some (r, h') ∧ R r h' :=
  let ⟨_, hb, hk⟩ := c14_eq
  W.calls (c := cfg) rfl c14_fn hb hk c14_rs (by rw [c14_nt]; exact hn) hw
theorem call15 {args : List AV} {h : Heap} {R : AV → Heap → Prop} (hn : args.length ≤ 19) (hw : Wt Tryd.prog (D cfg) c15 ⟨argsEnv 0 args, h⟩ (Ends Tryd.prog [.tmp 2] R)) : ∃ r h', D cfg 15 args h = some (r, h') ∧ R r h' :=
  let ⟨_, hb, hk⟩ := c15_eq
  W.calls (c := cfg) rfl c15_fn hb hk c15_rs (by rw [c15_nt]; exact hn) hw
theorem call16 {args : List AV} {h : Heap} {R : AV → Heap → Prop} (hn : args.length ≤ 11) (hw : Wt Tryd.prog (D cfg) c16 ⟨argsEnv 0 args, h⟩ (Ends Tryd.prog [.tmp 2] R)) : ∃ r h', D cfg 16 args h = some (r, h') ∧ R r h' :=
  let ⟨_, hb, hk⟩ := c16_eq
  W.calls (c := cfg) rfl c16_fn hb hk c16_rs (by rw [c16_nt]; exact hn) hw
theorem call17 {args : List AV} {h : Heap} {R : AV → Heap → Prop} (hn : args.length ≤ 13) (hw : Wt Tryd.prog (D cfg) c17 ⟨argsEnv 0 args, h⟩ (Ends Tryd.prog [.tmp 2] R)) : ∃ r h', D cfg 17 args h = some (r, h') ∧ R r h' :=
  let ⟨_, hb, hk⟩ := c17_eq
  W.calls (c := cfg) rfl c17_fn hb hk c17_rs (by rw [c17_nt]; exact hn) hw
theorem call18 {args : List AV} {h : Heap} {R : AV → Heap → Prop} (hn : args.length ≤ 22) (hw : Wt Tryd.prog (D cfg) c18 ⟨argsEnv 0 args, h⟩ (Ends Tryd.prog [.tmp 4] R)) : ∃ r h', D cfg 18 args h = some (r, h') ∧ R r h' :=
  let ⟨_, hb, hk⟩ := c18_eq
  W.calls (c := cfg) rfl c18_fn hb hk c18_rs (by rw [c18_nt]; exact hn) hw
theorem call19 {args : List AV} {h : Heap} {R : AV → Heap → Prop} (hn : args.length ≤ 20) (hw : Wt Tryd.prog (D cfg) c19 ⟨argsEnv 0 args, h⟩ (Ends Tryd.prog [.tmp 4] R)) : ∃ r h', D cfg 19 args h = some (r, h') ∧ R r h' :=
  let ⟨_, hb, hk⟩ := c19_eq
  W.calls (c := cfg) rfl c19_fn hb hk c19_rs (by rw [c19_nt]; exact hn) hw
theorem call20 {args : List AV} {h : Heap} {R : AV → Heap → Prop} (hn : args.length ≤ 5) (hw : Wt Tryd.prog (D cfg) c20 ⟨argsEnv 0 args, h⟩ (Ends Tryd.prog [.tmp 2] R)) : ∃ r h', D cfg 20 args h = some (r, h') ∧ R r h' :=
  let ⟨_, hb, hk⟩ := c20_eq
  W.calls (c := cfg) rfl c20_fn hb hk c20_rs (by rw [c20_nt]; exact hn) hw
theorem call21 {args : List AV} {h : Heap} {R : AV → Heap → Prop} (hn : args.length ≤ 17) (hw : Wt Tryd.prog (D cfg) c21 ⟨argsEnv 0 args, h⟩ (Ends Tryd.prog [.tmp 2] R)) : ∃ r h', D cfg 21 args h = some (r, h') ∧ R r h' :=
  let ⟨_, hb, hk⟩ := c21_eq
  W.calls (c := cfg) rfl c21_fn hb hk c21_rs (by rw [c21_nt]; exact hn) hw
theorem call22 {args : List AV} {h : Heap} {R : AV → Heap → Prop} (hn : args.length ≤ 28) (hw : Wt Tryd.prog (D cfg) c22 ⟨argsEnv 0 args, h⟩ (Ends Tryd.prog [.tmp 4] R)) : ∃ r h', D cfg 22 args h = some (r, h') ∧ R r h' :=
  let ⟨_, hb, hk⟩ := c22_eq
  W.calls (c := cfg) rfl c22_fn hb hk c22_rs (by rw [c22_nt]; exact hn) hw
theorem call23 {args : List AV} {h : Heap} {R : AV → Heap → Prop} (hn : args.length ≤ 9) (hw : Wt Tryd.prog (D cfg) c23 ⟨argsEnv 0 args, h⟩ (Ends Tryd.prog [.tmp 2] R)) : ∃ r h', D cfg 23 args h = some (r, h') ∧ R r h' :=
  let ⟨_, hb, hk⟩ := c23_eq
  W.calls (c := cfg) rfl c23_fn hb hk c23_rs (by rw [c23_nt]; exact hn) hw
theorem call24 {args : List AV} {h : Heap} {R : AV → Heap → Prop} (hn : args.length ≤ 38) (hw : Wt Tryd.prog (D cfg) c24 ⟨argsEnv 0 args, h⟩ (Ends Tryd.prog [.tmp 2] R)) : ∃ r h', D cfg 24 args h = some (r, h') ∧ R r h' :=
  let ⟨_, hb, hk⟩ := c24_eq
  W.calls (c := cfg) rfl c24_fn hb hk c24_rs (by rw [c24_nt]; exact hn) hw
theorem call25 {args : List AV} {h : Heap} {R : AV → Heap → Prop} (hn : args.length ≤ 60) (hw : Wt Tryd.prog (D cfg) c25 ⟨argsEnv 0 args, h⟩ (Ends Tryd.prog [.tmp 2] R)) : ∃ r h', D cfg 25 args h = some (r, h') ∧ R r h' :=
  let ⟨_, hb, hk⟩ := c25_eq
  W.calls (c := cfg) rfl c25_fn hb hk c25_rs (by rw [c25_nt]; exact hn) hw
theorem call26 {args : List AV} {h : Heap} {R : AV → Heap → Prop} (hn : args.length ≤ 35) (hw : Wt Tryd.prog (D cfg) c26 ⟨argsEnv 0 args, h⟩ (Ends Tryd.prog [.tmp 2] R)) : ∃ r h', D cfg 26 args h = some (r, h') ∧ R r h' :=
  let ⟨_, hb, hk⟩ := c26_eq
  W.calls (c := cfg) rfl c26_fn hb hk c26_rs (by rw [c26_nt]; exact hn) hw
theorem call27 {args : List AV} {h : Heap} {R : AV → Heap → Prop} (hn : args.length ≤ 33) (hw : Wt Tryd.prog (D cfg) c27 ⟨argsEnv 0 args, h⟩ (Ends Tryd.prog [.tmp 4] R)) : ∃ r h', D cfg 27 args h = some (r, h') ∧ R r h' :=
  let ⟨_, hb, hk⟩ := c27_eq
  W.calls (c := cfg) rfl c27_fn hb hk c27_rs (by rw [c27_nt]; exact hn) hw
theorem call28 {args : List AV} {h : Heap} {R : AV → Heap → Prop} (hn : args.length ≤ 45) (hw : Wt Tryd.prog (D cfg) c28 ⟨argsEnv 0 args, h⟩ (Ends Tryd.prog [.tmp 4, .tmp 5] R)) : ∃ r h', D cfg 28 args h = some (r, h') ∧ R r h' :=
  let ⟨_, hb, hk⟩ := c28_eq
  W.calls (c := cfg) rfl c28_fn hb hk c28_rs (by rw [c28_nt]; exact hn) hw
theorem call29 {args : List AV} {h : Heap} {R : AV → Heap → Prop} (hn : args.length ≤ 21) (hw : Wt Tryd.prog (D cfg) c29 ⟨argsEnv 0 args, h⟩ (Ends Tryd.prog [.tmp 4] R)) : ∃ r h', D cfg 29 args h = some (r, h') ∧ R r h' :=
  let ⟨_, hb, hk⟩ := c29_eq
  W.calls (c := cfg) rfl c29_fn hb hk c29_rs (by rw [c29_nt]; exact hn) hw
theorem call30 {args : List AV} {h : Heap} {R : AV → Heap → Prop} (hn : args.length ≤ 32) (hw : Wt Tryd.prog (D cfg) c30 ⟨argsEnv 0 args, h⟩ (Ends Tryd.prog [.tmp 4, .tmp 5, .tmp 6] R)) : ∃ r h', D cfg 30 args h = some (r, h') ∧ R r h' :=
  let ⟨_, hb, hk⟩ := c30_eq
  W.calls (c := cfg) rfl c30_fn hb hk c30_rs (by rw [c30_nt]; exact hn) hw
theorem call31 {args : List AV} {h : Heap} {R : AV → Heap → Prop} (hn : args.length ≤ 111) (hw : Wt Tryd.prog (D cfg) c31 ⟨argsEnv 0 args, h⟩ (Ends Tryd.prog [.tmp 4, .tmp 5, .tmp 6] R)) : ∃ r h', D cfg 31 args h = some (r, h') ∧ R r h' :=
  let ⟨_, hb, hk⟩ := c31_eq
  W.calls (c := cfg) rfl c31_fn hb hk c31_rs (by rw [c31_nt]; exact hn) hw
theorem call32 {args : List AV} {h : Heap} {R : AV → Heap → Prop} (hn : args.length ≤ 37) (hw : Wt Tryd.prog (D cfg) c32 ⟨argsEnv 0 args, h⟩ (Ends Tryd.prog [.tmp 4] R)) : ∃ r h', D cfg 32 args h = some (r, h') ∧ R r h' :=
  let ⟨_, hb, hk⟩ := c32_eq
  W.calls (c := cfg) rfl c32_fn hb hk c32_rs (by rw [c32_nt]; exact hn) hw
theorem call33 {args : List AV} {h : Heap} {R : AV → Heap → Prop} (hn : args.length ≤ 9) (hw : Wt Tryd.prog (D cfg) c33 ⟨argsEnv 0 args, h⟩ (Ends Tryd.prog [.tmp 2] R)) : ∃ r h', D cfg 33 args h = some (r, h') ∧ R r h' :=
  let ⟨_, hb, hk⟩ := c33_eq
  W.calls (c := cfg) rfl c33_fn hb hk c33_rs (by rw [c33_nt]; exact hn) hw
theorem call34 {args : List AV} {h : Heap} {R : AV → Heap → Prop} (hn : args.length ≤ 25) (hw : Wt Tryd.prog (D cfg) c34 ⟨argsEnv 0 args, h⟩ (Ends Tryd.prog [] R)) : ∃ r h', D cfg 34 args h = some (r, h') ∧ R r h' :=
  let ⟨_, hb, hk⟩ := c34_eq
  W.calls (c := cfg) rfl c34_fn hb hk c34_rs (by rw [c34_nt]; exact hn) hw
theorem call36 {args : List AV} {h : Heap} {R : AV → Heap → Prop} (hn : args.length ≤ 57) (hw : Wt Tryd.prog (D cfg) c36 ⟨argsEnv 0 args, h⟩ (Ends Tryd.prog [.tmp 4, .tmp 5] R)) : ∃ r h', D cfg 36 args h = some (r, h') ∧ R r h' :=
  let ⟨_, hb, hk⟩ := c36_eq
  W.calls (c := cfg) rfl c36_fn hb hk c36_rs (by rw [c36_nt]; exact hn) hw
theorem call37 {args : List AV} {h : Heap} {R : AV → Heap → Prop} (hn : args.length ≤ 9) (hw : Wt Tryd.prog (D cfg) c37 ⟨argsEnv 0 args, h⟩ (Ends Tryd.prog [.tmp 4] R)) : ∃ r h', D cfg 37 args h = some (r, h') ∧ R r h' :=
  let ⟨_, hb, hk⟩ := c37_eq
  W.calls (c := cfg) rfl c37_fn hb hk c37_rs (by rw [c37_nt]; exact hn) hw
theorem call38 {args : List AV} {h : Heap} {R : AV → Heap → Prop} (hn : args.length ≤ 8) (hw : Wt Tryd.prog (D cfg) c38 ⟨argsEnv 0 args, h⟩ (Ends Tryd.prog [.tmp 4] R)) : ∃ r h', D cfg 38 args h = some (r, h') ∧ R r h' :=
  let ⟨_, hb, hk⟩ := c38_eq
  W.calls (c := cfg) rfl c38_fn hb hk c38_rs (by rw [c38_nt]; exact hn) hw
theorem call39 {args : List AV} {h : Heap} {R : AV → Heap → Prop} (hn : args.length ≤ 63) (hw : Wt Tryd.prog (D cfg) c39 ⟨argsEnv 0 args, h⟩ (Ends Tryd.prog [.tmp 4, .tmp 5, .tmp 6] R)) : ∃ r h', D cfg 39 args h = some (r, h') ∧ R r h' :=
  let ⟨_, hb, hk⟩ := c39_eq
  W.calls (c := cfg) rfl c39_fn hb hk c39_rs (by rw [c39_nt]; exact hn) hw
theorem call46 {args : List AV} {h : Heap} {R : AV → Heap → Prop} (hn : args.length ≤ 31) (hw : Wt Tryd.prog (D cfg) c46 ⟨argsEnv 0 args, h⟩ (Ends Tryd.prog [.tmp 2] R)) : ∃ r h', D cfg 46 args h = some (r, h') ∧ R r h' :=
  let ⟨_, hb, hk⟩ := c46_eq
  W.calls (c := cfg) rfl c46_fn hb hk c46_rs (by rw [c46_nt]; exact hn) hw
theorem call47 {args : List AV} {h : Heap} {R : AV → Heap → Prop} (hn : args.length ≤ 187) (hw : Wt Tryd.prog (D cfg) c47 ⟨argsEnv 0 args, h⟩ (Ends Tryd.prog [.tmp 4] R)) : ∃ r h', D cfg 47 args h = some (r, h') ∧ R r h' :=
  let ⟨_, hb, hk⟩ := c47_eq
  W.calls (c := cfg) rfl c47_fn hb hk c47_rs (by rw [c47_nt]; exact hn) hw
theorem call48 {args : List AV} {h : Heap} {R : AV → Heap → Prop} (hn : args.length ≤ 18) (hw : Wt Tryd.prog (D cfg) c48 ⟨argsEnv 0 args, h⟩ (Ends Tryd.prog [.tmp 4] R)) : ∃ r h', D cfg 48 args h = some (r, h') ∧ R r h' :=
  let ⟨_, hb, hk⟩ := c48_eq
  W.calls (c := cfg) rfl c48_fn hb hk c48_rs (by rw [c48_nt]; exact hn) hw
theorem call49 {args : List AV} {h : Heap} {R : AV → Heap → Prop} (hn : args.length ≤ 60) (hw : Wt Tryd.prog (D cfg) c49 ⟨argsEnv 0 args, h⟩ (Ends Tryd.prog [.tmp 4] R)) : ∃ r h', D cfg 49 args h = some (r, h') ∧ R r h' :=
  let ⟨_, hb, hk⟩ := c49_eq
  W.calls (c := cfg) rfl c49_fn hb hk c49_rs (by rw [c49_nt]; exact hn) hw
theorem call58 {args : List AV} {h : Heap} {R : AV → Heap → Prop} (hn : args.length ≤ 17) (hw : Wt Tryd.prog (D cfg) c58 ⟨argsEnv 0 args, h⟩ (Ends Tryd.prog [.tmp 2] R)) : ∃ r h', D cfg 58 args h = some (r, h') ∧ R r h' :=
  let ⟨_, hb, hk⟩ := c58_eq
  W.calls (c := cfg) rfl c58_fn hb hk c58_rs (by rw [c58_nt]; exact hn) hw
end Go.AM
