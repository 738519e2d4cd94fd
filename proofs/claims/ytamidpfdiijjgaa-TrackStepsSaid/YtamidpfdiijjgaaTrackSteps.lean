/-
  The law TrackSteps returns true for every input: the statement 'Rows.TrackStepsSaid', without any condition.
-/
import Derived.Test.YtamidpfdiijjgaaRows
import Derived.Test.YtamidpfdiijjgaaW20d
import Derived.Test.YtamidpfdiijjgaaFit
import Derived.WalkKit
import Derived.ProofKit
import Derived.OpenShut
import Derived.ShutString
import Derived.ChangeOld
import Derived.Below
namespace Go.Proofs.Ytamidpfdiijjgaa.trackSteps
open Go.ChangeShapes Go.WideShapes Go.ChangeAt Go.RowKit
open Go.ChangeMaps (open_string shut_string)
set_option linter.unusedVariables false

theorem own : ownKnob Try.prog.godebug = none := by kernel_rfl
theorem laidOut : laidOutB Try.prog = true := by kernel_rfl

/-- The walk: the law returns true and turns nothing that was there. -/
theorem walk (a0 : Option Addr) (len0 cap0 : Nat) (z0 : List Go.AM.Cont) (a1 : Int) (a2 : ByteArray) (w : World) (w0 : Go.AM.SliceIn w 8 a0 len0 cap0 (Go.AM.contCells z0)) (s0 : ∀ c ∈ z0, c.wf) (w1 : (Lit.int .i64 a1).wf = true) (w2 : a2.size ≤ maxLen) :
    Calls Try.prog 20 #[.slice a0 len0 cap0, .int .i64 a1, .string a2] w fun e w' => e = .returned (.bool true) ∧ Below w.heap.size w w' := by
  obtain ⟨code, hb, hk⟩ := Go.AM.c20_eq
  have h0 := w0.conts (rows := [Go.AM.inRow a0 (Go.AM.contCells z0)]) (b := 0) rfl
  have b0 : ∀ c, Go.AM.slB (Go.AM.inSl 0 a0 len0 cap0 (Go.AM.contCells z0)) = some c → c < (Go.AM.rowsH [Go.AM.inRow a0 (Go.AM.contCells z0)]).length := fun c hc => by have := Go.AM.slB_inSl c hc; subst this; simp [Go.AM.rowsH]
  have n0 : len0 ≤ 9223372036854775807 := by
    rcases w0 with ⟨_, rfl, _, _⟩ | ⟨x, _, h1, h2, _⟩
    · omega
    · simp [maxLen] at h2; omega
  have n2 : a2.data.toList.length ≤ 9223372036854775807 := by simp [maxLen] at w2; exact w2
  refine Go.AM.law_end (by kernel_rfl) (Go.AM.mixed_ok (Go.AM.D_ok Go.AM.cfg_ok)) Go.AM.c20_fn hb Go.AM.c20_ok hk Go.AM.c20_rs (args := [Go.AM.inSl 0 a0 len0 cap0 (Go.AM.contCells z0), .int .i64 a1, .str a2.data.toList]) (h := Go.AM.rowsH [Go.AM.inRow a0 (Go.AM.contCells z0)]) (ι := Go.AM.rowsI [Go.AM.inRow a0 (Go.AM.contCells z0)]) (by rw [Go.AM.c20_nt]; simp)
    (Go.AM.steps_walk h0 (by simp; omega) n2) (Go.AM.rows_HR fun r hr => ?_) (fun n => Go.AM.rows_fresh) ⟨w0.val (by decide) rfl, by simp [Go.AM.V, Go.AM.Va, Go.AM.Vc, Go.AM.Vp], by simp [Go.AM.V, Go.AM.Va, Go.AM.Vc, Go.AM.Vp], trivial⟩
  simp at hr
  subst hr
  exact w0.row

set_option maxRecDepth 100000 in
theorem lifted (os : Os) (started : os.Started) (H : Type) (enc : TypeId × Value → H) :
    ReturnsInHanded {} Try.checked os 20 .any (Rows.trackStepsSpec.pre6 enc Try.prog Try.f20 Rows.trackStepsRow.domain false) (Rows.trackStepsSpec.post enc Try.prog Try.f20 false true false false) := by
  refine returnsInHanded_of_change (C := Try.checked) own started (by kernel_rfl) Try.func20
    (ChangeSpec.witness6 (enc := enc) (C := Try.checked) false ⟨#[], #[.slice none 0 0, .int .i64 0, .string ByteArray.empty], []⟩ 8 (by kernel_rfl) (by kernel_rfl) (by kernel_rfl) (by kernel_rfl)) ?_
  intro W base args ds gs before hval0 hW hcnd _
  have hval : ∀ (j : Nat) t v, Try.f20.params[j]? = some t → args[j]? = some v → Value.okWide Try.prog W .any base t v := hval0
  have hW' := hW
  obtain ⟨p, q, hA0, hV, rfl, hfz, hnd⟩ := hW
  have hA : DataW.TrodAll enc Try.prog W 0 (fun _ => true) true Try.f20.params.toList args.toList ds p := hA0
  rw [Try.params20] at hA hval
  obtain ⟨v0, vs0, d0, ds0, p0, q0, hargs, rfl, rfl, h0, r0⟩ := trodAll_cons hA
  obtain ⟨v1, vs1, d1, ds1, p1, q1, rfl, rfl, rfl, h1, r1⟩ := trodAll_cons r0
  obtain ⟨v2, vs2, d2, ds2, p2, q2, rfl, rfl, rfl, h2, r2⟩ := trodAll_cons r1
  obtain ⟨rfl, rfl, rfl⟩ := trodAll_nil r2
  obtain rfl : args = #[v0, v1, v2] := by cases args; simp_all
  obtain ⟨rfl, rfl⟩ := trodVars_none hV
  obtain ⟨a0, len0, cap0, rfl⟩ := okWide_slice Try.underlying42 (hval 0 42 v0 rfl rfl)
  have k0 := h0
  have lt0 : ∀ x ∈ p0, x.block < W.heap.size := by obtain ⟨m, hm⟩ := k0; exact DataW.trod_lt m _ _ _ hm
  obtain ⟨z0, w0, s0⟩ := Go.AM.in_conts Try.underlying42 h0
  obtain ⟨a1, rfl, rfl, rfl, w1⟩ := open_int Try.underlying3 (hval 1 3 v1 rfl rfl) h1
  obtain ⟨a2, rfl, rfl, rfl, w2⟩ := open_string Try.underlying9 (hval 2 9 v2 rfl rfl) h2
  clear hA0 hval0
  refine (walk a0 len0 cap0 z0 a1 a2 W w0 s0 w1 w2).mono fun e W' ⟨he, bel⟩ => ?_
  subst he
  exact ⟨_, rfl, _, _, _, [], _, [], hW', trodAll_mk1 (shut_bool Try.underlying4 _), (trodAll_cons_mk (Below.trod laidOut (by kernel_rfl) (of_decide_eq_true (by kernel_rfl)) k0 bel lt0) (trodAll_cons_mk (shut_int Try.underlying3 w1) (trodAll_cons_mk (shut_string Try.underlying9 w2) trodAll_mk0))), rfl, bel.frame _, fun h => by cases h⟩

/-- The row's closed facts; those on the whole program by 'Fit'. -/
theorem closed : joinedFacts Try.prog 20 Try.f20 Rows.trackStepsSpec Rows.trackStepsRow = true := by
  unfold joinedFacts
  rw [Go.AM.heard_ok, Go.AM.enter_ok, Go.AM.lifts_ok, Go.AM.make_ok]
  kernel_rfl

theorem over : Rows.trackStepsRow.holds Try.pinned (OpenSpec.ofChange Rows.trackStepsSpec) :=
  OpenClaim.holds_of_wide 20 Try.f20 rfl rfl rfl rfl rfl rfl rfl ⟨rfl, rfl, rfl, rfl, rfl⟩ rfl rfl rfl rfl rfl (by kernel_rfl) Try.func20 closed
    (of_decide_eq_true (by kernel_rfl)) (by unfold Func.isWrapper; first | (rw [if_pos (by decide +kernel)]; kernel_rfl) | (rw [if_neg (by decide +kernel)]; exact ⟨rfl, rfl⟩))
    (fun os started H enc _ => lifted os started H enc)

/-- The statement. -/
theorem proved : Rows.TrackStepsSaid := over
#print axioms proved
end Go.Proofs.Ytamidpfdiijjgaa.trackSteps
