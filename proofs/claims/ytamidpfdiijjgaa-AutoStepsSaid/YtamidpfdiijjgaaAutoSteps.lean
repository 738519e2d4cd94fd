/-
  The law AutoSteps returns true for every input: the statement 'Rows.AutoStepsSaid', without any condition.
-/
import Derived.Test.YtamidpfdiijjgaaRows
import Derived.Test.YtamidpfdiijjgaaQ13
import Derived.Test.YtamidpfdiijjgaaFit
import Derived.Test.YtamidpfdiijjgaaP11
import Derived.Test.YtamidpfdiijjgaaB2
import Derived.WalkKit
import Derived.ProofKit
import Derived.OpenShut
import Derived.ShutString
import Derived.ChangeOld
import Derived.Below
namespace Go.Proofs.Ytamidpfdiijjgaa.autoSteps
open Go.ChangeShapes Go.WideShapes Go.ChangeAt Go.RowKit
open Go.ChangeMaps (open_string shut_string)
set_option linter.unusedVariables false

theorem own : ownKnob Try.prog.godebug = none := by kernel_rfl
theorem laidOut : laidOutB Try.prog = true := by kernel_rfl

/-- The walk: the law returns true and turns nothing that was there. -/
theorem walk (a0 : Option Addr) (len0 cap0 : Nat) (z0 : List Go.AM.Txt) (a1 : ByteArray) (w : World) (w0 : Go.AM.SliceIn w 1 a0 len0 cap0 (Go.AM.strCells z0)) (s0 : ∀ s ∈ z0, s.length ≤ 9223372036854775807) (l0 : len0 ≤ 8796093022208) (w1 : a1.size ≤ maxLen) :
    Calls Try.prog 13 #[.slice a0 len0 cap0, .string a1] w fun e w' => e = .returned (.bool true) ∧ Below w.heap.size w w' := by
  obtain ⟨code, hb, hk⟩ := Go.AM.c13_eq
  have hr := w0.reads (rows := [Go.AM.inRow a0 (Go.AM.strCells z0)]) (b := 0) rfl
  have ht : (Go.AM.strCells z0).take len0 = Go.AM.strCells (z0.take len0) := by simp [Go.AM.strCells]
  rw [ht] at hr
  refine Go.AM.law_end (by kernel_rfl) (Go.AM.mixed_ok (Go.AM.D_ok Go.AM.cfg_ok)) Go.AM.c13_fn hb Go.AM.c13_ok hk Go.AM.c13_rs (args := [Go.AM.inSl 0 a0 len0 cap0 (Go.AM.strCells z0), .str a1.data.toList]) (h := Go.AM.rowsH [Go.AM.inRow a0 (Go.AM.strCells z0)]) (ι := Go.AM.rowsI [Go.AM.inRow a0 (Go.AM.strCells z0)]) (by rw [Go.AM.c13_nt]; simp)
    (Go.AM.autosteps_walk hr (fun b hb => by have := Go.AM.slB_inSl b hb; subst this; simp [Go.AM.rowsH]) ?_ ?_) (Go.AM.rows_HR fun r hr => ?_) (fun n => Go.AM.rows_fresh) ⟨w0.val (by decide) rfl, by simp [Go.AM.V, Go.AM.Va, Go.AM.Vc, Go.AM.Vp], trivial⟩
  · simp; omega
  · simp [maxLen] at w1
    exact w1
  · simp at hr
    subst hr
    exact w0.row

set_option maxRecDepth 100000 in
theorem lifted (os : Os) (started : os.Started) (H : Type) (enc : TypeId × Value → H) :
    ReturnsInHanded {} Try.checked os 13 .any (Rows.autoStepsSpec.pre6 enc Try.prog Try.f13 Rows.autoStepsRow.domain false) (Rows.autoStepsSpec.post enc Try.prog Try.f13 false true false false) := by
  refine returnsInHanded_of_change_sized (C := Try.checked) own started (by kernel_rfl) Try.func13
    (ChangeSpec.witness6 (enc := enc) (C := Try.checked) false ⟨#[], #[.slice none 0 0, .string ByteArray.empty], []⟩ 8 (by kernel_rfl) (by kernel_rfl) (by kernel_rfl) (by kernel_rfl)) ?_
  intro W base args ds gs before hval0 hW hcnd hsz _
  have hval : ∀ (j : Nat) t v, Try.f13.params[j]? = some t → args[j]? = some v → Value.okWide Try.prog W .any base t v := hval0
  have hW' := hW
  obtain ⟨p, q, hA0, hV, rfl, hfz, hnd⟩ := hW
  have hA : DataW.TrodAll enc Try.prog W 0 (fun _ => true) true Try.f13.params.toList args.toList ds p := hA0
  rw [Try.params13] at hA hval
  obtain ⟨v0, vs0, d0, ds0, p0, q0, hargs, rfl, rfl, h0, r0⟩ := trodAll_cons hA
  obtain ⟨v1, vs1, d1, ds1, p1, q1, rfl, rfl, rfl, h1, r1⟩ := trodAll_cons r0
  obtain ⟨rfl, rfl, rfl⟩ := trodAll_nil r1
  obtain rfl : args = #[v0, v1] := by cases args; simp_all
  obtain ⟨rfl, rfl⟩ := trodVars_none hV
  obtain ⟨a0, len0, cap0, rfl⟩ := okWide_slice Try.underlying38 (hval 0 38 v0 rfl rfl)
  have k0 := h0
  have lt0 : ∀ x ∈ p0, x.block < W.heap.size := by obtain ⟨m, hm⟩ := k0; exact DataW.trod_lt m _ _ _ hm
  obtain ⟨z0, w0, s0⟩ := Go.AM.in_strs Try.underlying38 Try.underlying9 (by kernel_rfl) h0
  obtain ⟨a1, rfl, rfl, rfl, w1⟩ := open_string Try.underlying9 (hval 1 9 v1 rfl rfl) h1
  have l0 : len0 ≤ 8796093022208 := by
    rcases Go.AM.strs_len Try.underlying38 Try.underlying9 (by kernel_rfl) k0 with h | ⟨el, sp, hd, hle⟩
    · omega
    · have := sized_slice hsz (j := 0) (by rw [Try.params13]; rfl) (by rw [hd]; rfl) Try.underlying38
      have hb : Try.checked.prog.bytesOf 9 = 16 := by kernel_rfl
      rw [hb] at this
      simp [reachBytes] at this
      omega
  clear hA0 hval0
  refine (walk a0 len0 cap0 z0 a1 W w0 s0 l0 w1).mono fun e W' ⟨he, bel⟩ => ?_
  subst he
  exact ⟨_, rfl, _, _, _, [], _, [], hW', trodAll_mk1 (shut_bool Try.underlying4 _), (trodAll_cons_mk (Below.trod laidOut (by kernel_rfl) (of_decide_eq_true (by kernel_rfl)) k0 bel lt0) (trodAll_cons_mk (shut_string Try.underlying9 w1) trodAll_mk0)), rfl, bel.frame _, fun h => by cases h⟩

/-- The row's closed facts; those on the whole program by 'Fit'. -/
theorem closed : joinedFacts Try.prog 13 Try.f13 Rows.autoStepsSpec Rows.autoStepsRow = true := by
  unfold joinedFacts
  rw [Go.AM.heard_ok, Go.AM.enter_ok, Go.AM.lifts_ok, Go.AM.make_ok]
  kernel_rfl

theorem over : Rows.autoStepsRow.holds Try.pinned (OpenSpec.ofChange Rows.autoStepsSpec) :=
  OpenClaim.holds_of_wide 13 Try.f13 rfl rfl rfl rfl rfl rfl rfl ⟨rfl, rfl, rfl, rfl, rfl⟩ rfl rfl rfl rfl rfl (by kernel_rfl) Try.func13 closed
    (of_decide_eq_true (by kernel_rfl)) (by unfold Func.isWrapper; first | (rw [if_pos (by decide +kernel)]; kernel_rfl) | (rw [if_neg (by decide +kernel)]; exact ⟨rfl, rfl⟩))
    (fun os started H enc _ => lifted os started H enc)

/-- The statement. -/
theorem proved : Rows.AutoStepsSaid := over
#print axioms proved
end Go.Proofs.Ytamidpfdiijjgaa.autoSteps
