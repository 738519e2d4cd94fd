/-
  The law VerdictEnds returns true for every input: the statement 'Rows.VerdictEndsSaid', without any condition.
-/
import Derived.Test.YtamidpfdiijjgaaRows
import Derived.Test.YtamidpfdiijjgaaW28e
import Derived.Test.YtamidpfdiijjgaaFit
import Derived.WalkKit
import Derived.ProofKit
import Derived.OpenShut
import Derived.ShutString
import Derived.ChangeOld
import Derived.Below
namespace Go.Proofs.Ytamidpfdiijjgaa.verdictEnds
open Go.ChangeShapes Go.WideShapes Go.ChangeAt Go.RowKit
open Go.ChangeMaps (open_string shut_string)
set_option linter.unusedVariables false

theorem own : ownKnob Try.prog.godebug = none := by kernel_rfl
theorem laidOut : laidOutB Try.prog = true := by kernel_rfl

/-- The walk: the law returns true and turns nothing that was there. -/
theorem walk (a0 : Option Addr) (len0 cap0 : Nat) (z0 : List Int) (a1 : Option Addr) (len1 cap1 : Nat) (z1 : List Int) (a2 : Option Addr) (len2 cap2 : Nat) (z2 : List Int) (w : World) (w0 : Go.AM.SliceIn w 1 a0 len0 cap0 (z0.map (.int .i64))) (s0 : ∀ n ∈ z0, (Lit.int .i64 n).wf = true) (w1 : Go.AM.SliceIn w 1 a1 len1 cap1 (z1.map (.int .i64))) (s1 : ∀ n ∈ z1, (Lit.int .i64 n).wf = true) (w2 : Go.AM.SliceIn w 1 a2 len2 cap2 (z2.map (.int .i64))) (s2 : ∀ n ∈ z2, (Lit.int .i64 n).wf = true) :
    Calls Try.prog 28 #[.slice a0 len0 cap0, .slice a1 len1 cap1, .slice a2 len2 cap2] w fun e w' => e = .returned (.bool true) ∧ Below w.heap.size w w' := by
  obtain ⟨code, hb, hk⟩ := Go.AM.c28_eq
  have h0 := w0.reads (rows := [Go.AM.inRow a0 (z0.map (.int .i64)), Go.AM.inRow a1 (z1.map (.int .i64)), Go.AM.inRow a2 (z2.map (.int .i64))]) (b := 0) rfl
  rw [← List.map_take] at h0
  have h1 := w1.reads (rows := [Go.AM.inRow a0 (z0.map (.int .i64)), Go.AM.inRow a1 (z1.map (.int .i64)), Go.AM.inRow a2 (z2.map (.int .i64))]) (b := 1) rfl
  rw [← List.map_take] at h1
  have h2 := w2.reads (rows := [Go.AM.inRow a0 (z0.map (.int .i64)), Go.AM.inRow a1 (z1.map (.int .i64)), Go.AM.inRow a2 (z2.map (.int .i64))]) (b := 2) rfl
  rw [← List.map_take] at h2
  have b0 : ∀ c, Go.AM.slB (Go.AM.inSl 0 a0 len0 cap0 (z0.map (.int .i64))) = some c → c < (Go.AM.rowsH [Go.AM.inRow a0 (z0.map (.int .i64)), Go.AM.inRow a1 (z1.map (.int .i64)), Go.AM.inRow a2 (z2.map (.int .i64))]).length := fun c hc => by have := Go.AM.slB_inSl c hc; subst this; simp [Go.AM.rowsH]
  have n0 : len0 ≤ 9223372036854775807 := by
    rcases w0 with ⟨_, rfl, _, _⟩ | ⟨x, _, h1, h2, _⟩
    · omega
    · simp [maxLen] at h2; omega
  have b1 : ∀ c, Go.AM.slB (Go.AM.inSl 1 a1 len1 cap1 (z1.map (.int .i64))) = some c → c < (Go.AM.rowsH [Go.AM.inRow a0 (z0.map (.int .i64)), Go.AM.inRow a1 (z1.map (.int .i64)), Go.AM.inRow a2 (z2.map (.int .i64))]).length := fun c hc => by have := Go.AM.slB_inSl c hc; subst this; simp [Go.AM.rowsH]
  have n1 : len1 ≤ 9223372036854775807 := by
    rcases w1 with ⟨_, rfl, _, _⟩ | ⟨x, _, h1, h2, _⟩
    · omega
    · simp [maxLen] at h2; omega
  have b2 : ∀ c, Go.AM.slB (Go.AM.inSl 2 a2 len2 cap2 (z2.map (.int .i64))) = some c → c < (Go.AM.rowsH [Go.AM.inRow a0 (z0.map (.int .i64)), Go.AM.inRow a1 (z1.map (.int .i64)), Go.AM.inRow a2 (z2.map (.int .i64))]).length := fun c hc => by have := Go.AM.slB_inSl c hc; subst this; simp [Go.AM.rowsH]
  have n2 : len2 ≤ 9223372036854775807 := by
    rcases w2 with ⟨_, rfl, _, _⟩ | ⟨x, _, h1, h2, _⟩
    · omega
    · simp [maxLen] at h2; omega
  refine Go.AM.law_end (by kernel_rfl) (Go.AM.mixed_ok (Go.AM.D_ok Go.AM.cfg1_ok)) Go.AM.c28_fn hb Go.AM.c28_ok hk Go.AM.c28_rs (args := [Go.AM.inSl 0 a0 len0 cap0 (z0.map (.int .i64)), Go.AM.inSl 1 a1 len1 cap1 (z1.map (.int .i64)), Go.AM.inSl 2 a2 len2 cap2 (z2.map (.int .i64))]) (h := Go.AM.rowsH [Go.AM.inRow a0 (z0.map (.int .i64)), Go.AM.inRow a1 (z1.map (.int .i64)), Go.AM.inRow a2 (z2.map (.int .i64))]) (ι := Go.AM.rowsI [Go.AM.inRow a0 (z0.map (.int .i64)), Go.AM.inRow a1 (z1.map (.int .i64)), Go.AM.inRow a2 (z2.map (.int .i64))]) (by rw [Go.AM.c28_nt]; simp)
    (Go.AM.ends_walk h0 h1 h2 w0.ok (by simp; omega) (by simp; omega) (by simp; omega)) (Go.AM.rows_HR fun r hr => ?_) (fun n => Go.AM.rows_fresh) ⟨w0.val (by decide) rfl, w1.val (by decide) rfl, w2.val (by decide) rfl, trivial⟩
  simp at hr
  rcases hr with rfl | rfl | rfl
  · exact w0.row
  · exact w1.row
  · exact w2.row

set_option maxRecDepth 100000 in
theorem lifted (os : Os) (started : os.Started) (H : Type) (enc : TypeId × Value → H) :
    ReturnsInHanded {} Try.checked os 28 .any (Rows.verdictEndsSpec.pre6 enc Try.prog Try.f28 Rows.verdictEndsRow.domain false) (Rows.verdictEndsSpec.post enc Try.prog Try.f28 false true false false) := by
  refine returnsInHanded_of_change (C := Try.checked) own started (by kernel_rfl) Try.func28
    (ChangeSpec.witness6 (enc := enc) (C := Try.checked) false ⟨#[], #[.slice none 0 0, .slice none 0 0, .slice none 0 0], []⟩ 8 (by kernel_rfl) (by kernel_rfl) (by kernel_rfl) (by kernel_rfl)) ?_
  intro W base args ds gs before hval0 hW hcnd _
  have hval : ∀ (j : Nat) t v, Try.f28.params[j]? = some t → args[j]? = some v → Value.okWide Try.prog W .any base t v := hval0
  have hW' := hW
  obtain ⟨p, q, hA0, hV, rfl, hfz, hnd⟩ := hW
  have hA : DataW.TrodAll enc Try.prog W 0 (fun _ => true) true Try.f28.params.toList args.toList ds p := hA0
  rw [Try.params28] at hA hval
  obtain ⟨v0, vs0, d0, ds0, p0, q0, hargs, rfl, rfl, h0, r0⟩ := trodAll_cons hA
  obtain ⟨v1, vs1, d1, ds1, p1, q1, rfl, rfl, rfl, h1, r1⟩ := trodAll_cons r0
  obtain ⟨v2, vs2, d2, ds2, p2, q2, rfl, rfl, rfl, h2, r2⟩ := trodAll_cons r1
  obtain ⟨rfl, rfl, rfl⟩ := trodAll_nil r2
  obtain rfl : args = #[v0, v1, v2] := by cases args; simp_all
  obtain ⟨rfl, rfl⟩ := trodVars_none hV
  obtain ⟨a0, len0, cap0, rfl⟩ := okWide_slice Try.underlying30 (hval 0 30 v0 rfl rfl)
  have k0 := h0
  have lt0 : ∀ x ∈ p0, x.block < W.heap.size := by obtain ⟨m, hm⟩ := k0; exact DataW.trod_lt m _ _ _ hm
  obtain ⟨z0, w0, s0⟩ := Go.AM.in_ints Try.underlying30 Try.underlying3 (by kernel_rfl) h0
  obtain ⟨a1, len1, cap1, rfl⟩ := okWide_slice Try.underlying30 (hval 1 30 v1 rfl rfl)
  have k1 := h1
  have lt1 : ∀ x ∈ p1, x.block < W.heap.size := by obtain ⟨m, hm⟩ := k1; exact DataW.trod_lt m _ _ _ hm
  obtain ⟨z1, w1, s1⟩ := Go.AM.in_ints Try.underlying30 Try.underlying3 (by kernel_rfl) h1
  obtain ⟨a2, len2, cap2, rfl⟩ := okWide_slice Try.underlying30 (hval 2 30 v2 rfl rfl)
  have k2 := h2
  have lt2 : ∀ x ∈ p2, x.block < W.heap.size := by obtain ⟨m, hm⟩ := k2; exact DataW.trod_lt m _ _ _ hm
  obtain ⟨z2, w2, s2⟩ := Go.AM.in_ints Try.underlying30 Try.underlying3 (by kernel_rfl) h2
  clear hA0 hval0
  refine (walk a0 len0 cap0 z0 a1 len1 cap1 z1 a2 len2 cap2 z2 W w0 s0 w1 s1 w2 s2).mono fun e W' ⟨he, bel⟩ => ?_
  subst he
  exact ⟨_, rfl, _, _, _, [], _, [], hW', trodAll_mk1 (shut_bool Try.underlying4 _), (trodAll_cons_mk (Below.trod laidOut (by kernel_rfl) (of_decide_eq_true (by kernel_rfl)) k0 bel lt0) (trodAll_cons_mk (Below.trod laidOut (by kernel_rfl) (of_decide_eq_true (by kernel_rfl)) k1 bel lt1) (trodAll_cons_mk (Below.trod laidOut (by kernel_rfl) (of_decide_eq_true (by kernel_rfl)) k2 bel lt2) trodAll_mk0))), rfl, bel.frame _, fun h => by cases h⟩

/-- The row's closed facts; those on the whole program by 'Fit'. -/
theorem closed : joinedFacts Try.prog 28 Try.f28 Rows.verdictEndsSpec Rows.verdictEndsRow = true := by
  unfold joinedFacts
  rw [Go.AM.heard_ok, Go.AM.enter_ok, Go.AM.lifts_ok, Go.AM.make_ok]
  kernel_rfl

theorem over : Rows.verdictEndsRow.holds Try.pinned (OpenSpec.ofChange Rows.verdictEndsSpec) :=
  OpenClaim.holds_of_wide 28 Try.f28 rfl rfl rfl rfl rfl rfl rfl ⟨rfl, rfl, rfl, rfl, rfl⟩ rfl rfl rfl rfl rfl (by kernel_rfl) Try.func28 closed
    (of_decide_eq_true (by kernel_rfl)) (by unfold Func.isWrapper; first | (rw [if_pos (by decide +kernel)]; kernel_rfl) | (rw [if_neg (by decide +kernel)]; exact ⟨rfl, rfl⟩))
    (fun os started H enc _ => lifted os started H enc)

/-- The statement. -/
theorem proved : Rows.VerdictEndsSaid := over
#print axioms proved
end Go.Proofs.Ytamidpfdiijjgaa.verdictEnds
