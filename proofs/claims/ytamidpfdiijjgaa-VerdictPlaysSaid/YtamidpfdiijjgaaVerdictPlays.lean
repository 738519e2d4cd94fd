/-
  The law VerdictPlays returns true for every input: the statement 'Rows.VerdictPlaysSaid', without any condition.
-/
import Derived.Test.YtamidpfdiijjgaaRows
import Derived.Test.YtamidpfdiijjgaaPW27f
import Derived.Test.YtamidpfdiijjgaaFit
import Derived.WalkKit
import Derived.ProofKit
import Derived.OpenShut
import Derived.ShutString
import Derived.ChangeOld
import Derived.Below
namespace Go.Proofs.Ytamidpfdiijjgaa.verdictPlays
open Go.ChangeShapes Go.WideShapes Go.ChangeAt Go.RowKit
open Go.ChangeMaps (open_string shut_string)
set_option linter.unusedVariables false

theorem own : ownKnob Try.prog.godebug = none := by kernel_rfl
theorem laidOut : laidOutB Try.prog = true := by kernel_rfl

/-- The walk: the law returns true and turns nothing that was there. -/
theorem walk (a0 : Option Addr) (len0 cap0 : Nat) (z0 : List Int) (a1 : Option Addr) (len1 cap1 : Nat) (z1 : List Int) (a2 : Int) (a3 : Option Addr) (len3 cap3 : Nat) (z3 : List Int) (w : World) (w0 : Go.AM.SliceIn w 1 a0 len0 cap0 (z0.map (.int .i64))) (s0 : ∀ n ∈ z0, (Lit.int .i64 n).wf = true) (w1 : Go.AM.SliceIn w 1 a1 len1 cap1 (z1.map (.int .i64))) (s1 : ∀ n ∈ z1, (Lit.int .i64 n).wf = true) (w2 : (Lit.int .i64 a2).wf = true) (w3 : Go.AM.SliceIn w 1 a3 len3 cap3 (z3.map (.int .i64))) (s3 : ∀ n ∈ z3, (Lit.int .i64 n).wf = true) :
    Calls Try.prog 27 #[.slice a0 len0 cap0, .slice a1 len1 cap1, .int .i64 a2, .slice a3 len3 cap3] w fun e w' => e = .returned (.bool true) ∧ Below w.heap.size w w' := by
  obtain ⟨code, hb, hk⟩ := Go.AM.c27_eq
  have h0 := w0.reads (rows := [Go.AM.inRow a0 (z0.map (.int .i64)), Go.AM.inRow a1 (z1.map (.int .i64)), Go.AM.inRow a3 (z3.map (.int .i64))]) (b := 0) rfl
  rw [← List.map_take] at h0
  have h1 := w1.reads (rows := [Go.AM.inRow a0 (z0.map (.int .i64)), Go.AM.inRow a1 (z1.map (.int .i64)), Go.AM.inRow a3 (z3.map (.int .i64))]) (b := 1) rfl
  rw [← List.map_take] at h1
  have h3 := w3.reads (rows := [Go.AM.inRow a0 (z0.map (.int .i64)), Go.AM.inRow a1 (z1.map (.int .i64)), Go.AM.inRow a3 (z3.map (.int .i64))]) (b := 2) rfl
  rw [← List.map_take] at h3
  have b0 : ∀ c, Go.AM.slB (Go.AM.inSl 0 a0 len0 cap0 (z0.map (.int .i64))) = some c → c < (Go.AM.rowsH [Go.AM.inRow a0 (z0.map (.int .i64)), Go.AM.inRow a1 (z1.map (.int .i64)), Go.AM.inRow a3 (z3.map (.int .i64))]).length := fun c hc => by have := Go.AM.slB_inSl c hc; subst this; simp [Go.AM.rowsH]
  have n0 : len0 ≤ 9223372036854775807 := by
    rcases w0 with ⟨_, rfl, _, _⟩ | ⟨x, _, h1, h2, _⟩
    · omega
    · simp [maxLen] at h2; omega
  have b1 : ∀ c, Go.AM.slB (Go.AM.inSl 1 a1 len1 cap1 (z1.map (.int .i64))) = some c → c < (Go.AM.rowsH [Go.AM.inRow a0 (z0.map (.int .i64)), Go.AM.inRow a1 (z1.map (.int .i64)), Go.AM.inRow a3 (z3.map (.int .i64))]).length := fun c hc => by have := Go.AM.slB_inSl c hc; subst this; simp [Go.AM.rowsH]
  have n1 : len1 ≤ 9223372036854775807 := by
    rcases w1 with ⟨_, rfl, _, _⟩ | ⟨x, _, h1, h2, _⟩
    · omega
    · simp [maxLen] at h2; omega
  have b3 : ∀ c, Go.AM.slB (Go.AM.inSl 2 a3 len3 cap3 (z3.map (.int .i64))) = some c → c < (Go.AM.rowsH [Go.AM.inRow a0 (z0.map (.int .i64)), Go.AM.inRow a1 (z1.map (.int .i64)), Go.AM.inRow a3 (z3.map (.int .i64))]).length := fun c hc => by have := Go.AM.slB_inSl c hc; subst this; simp [Go.AM.rowsH]
  have n3 : len3 ≤ 9223372036854775807 := by
    rcases w3 with ⟨_, rfl, _, _⟩ | ⟨x, _, h1, h2, _⟩
    · omega
    · simp [maxLen] at h2; omega
  refine Go.AM.law_end (by kernel_rfl) (Go.AM.mixed_ok (Go.AM.D_ok Go.AM.cfg1_ok)) Go.AM.c27_fn hb Go.AM.c27_ok hk Go.AM.c27_rs (args := [Go.AM.inSl 0 a0 len0 cap0 (z0.map (.int .i64)), Go.AM.inSl 1 a1 len1 cap1 (z1.map (.int .i64)), .int .i64 a2, Go.AM.inSl 2 a3 len3 cap3 (z3.map (.int .i64))]) (h := Go.AM.rowsH [Go.AM.inRow a0 (z0.map (.int .i64)), Go.AM.inRow a1 (z1.map (.int .i64)), Go.AM.inRow a3 (z3.map (.int .i64))]) (ι := Go.AM.rowsI [Go.AM.inRow a0 (z0.map (.int .i64)), Go.AM.inRow a1 (z1.map (.int .i64)), Go.AM.inRow a3 (z3.map (.int .i64))]) (by rw [Go.AM.c27_nt]; simp)
    (Go.AM.plays_walk h0 h1 h3 w0.ok (by simp; omega) (by simp; omega) (by simp; omega)) (Go.AM.rows_HR fun r hr => ?_) (fun n => Go.AM.rows_fresh) ⟨w0.val (by decide) rfl, w1.val (by decide) rfl, by simp [Go.AM.V, Go.AM.Va, Go.AM.Vc, Go.AM.Vp], w3.val (by decide) rfl, trivial⟩
  simp at hr
  rcases hr with rfl | rfl | rfl
  · exact w0.row
  · exact w1.row
  · exact w3.row

set_option maxRecDepth 100000 in
theorem lifted (os : Os) (started : os.Started) (H : Type) (enc : TypeId × Value → H) :
    ReturnsInHanded {} Try.checked os 27 .any (Rows.verdictPlaysSpec.pre6 enc Try.prog Try.f27 Rows.verdictPlaysRow.domain false) (Rows.verdictPlaysSpec.post enc Try.prog Try.f27 false true false false) := by
  refine returnsInHanded_of_change (C := Try.checked) own started (by kernel_rfl) Try.func27
    (ChangeSpec.witness6 (enc := enc) (C := Try.checked) false ⟨#[], #[.slice none 0 0, .slice none 0 0, .int .i64 0, .slice none 0 0], []⟩ 8 (by kernel_rfl) (by kernel_rfl) (by kernel_rfl) (by kernel_rfl)) ?_
  intro W base args ds gs before hval0 hW hcnd _
  have hval : ∀ (j : Nat) t v, Try.f27.params[j]? = some t → args[j]? = some v → Value.okWide Try.prog W .any base t v := hval0
  have hW' := hW
  obtain ⟨p, q, hA0, hV, rfl, hfz, hnd⟩ := hW
  have hA : DataW.TrodAll enc Try.prog W 0 (fun _ => true) true Try.f27.params.toList args.toList ds p := hA0
  rw [Try.params27] at hA hval
  obtain ⟨v0, vs0, d0, ds0, p0, q0, hargs, rfl, rfl, h0, r0⟩ := trodAll_cons hA
  obtain ⟨v1, vs1, d1, ds1, p1, q1, rfl, rfl, rfl, h1, r1⟩ := trodAll_cons r0
  obtain ⟨v2, vs2, d2, ds2, p2, q2, rfl, rfl, rfl, h2, r2⟩ := trodAll_cons r1
  obtain ⟨v3, vs3, d3, ds3, p3, q3, rfl, rfl, rfl, h3, r3⟩ := trodAll_cons r2
  obtain ⟨rfl, rfl, rfl⟩ := trodAll_nil r3
  obtain rfl : args = #[v0, v1, v2, v3] := by cases args; simp_all
  obtain ⟨rfl, rfl⟩ := trodVars_none hV
  obtain ⟨a0, len0, cap0, rfl⟩ := okWide_slice Try.underlying30 (hval 0 30 v0 rfl rfl)
  have k0 := h0
  have lt0 : ∀ x ∈ p0, x.block < W.heap.size := by obtain ⟨m, hm⟩ := k0; exact DataW.trod_lt m _ _ _ hm
  obtain ⟨z0, w0, s0⟩ := Go.AM.in_ints Try.underlying30 Try.underlying3 (by kernel_rfl) h0
  obtain ⟨a1, len1, cap1, rfl⟩ := okWide_slice Try.underlying30 (hval 1 30 v1 rfl rfl)
  have k1 := h1
  have lt1 : ∀ x ∈ p1, x.block < W.heap.size := by obtain ⟨m, hm⟩ := k1; exact DataW.trod_lt m _ _ _ hm
  obtain ⟨z1, w1, s1⟩ := Go.AM.in_ints Try.underlying30 Try.underlying3 (by kernel_rfl) h1
  obtain ⟨a2, rfl, rfl, rfl, w2⟩ := open_int Try.underlying3 (hval 2 3 v2 rfl rfl) h2
  obtain ⟨a3, len3, cap3, rfl⟩ := okWide_slice Try.underlying30 (hval 3 30 v3 rfl rfl)
  have k3 := h3
  have lt3 : ∀ x ∈ p3, x.block < W.heap.size := by obtain ⟨m, hm⟩ := k3; exact DataW.trod_lt m _ _ _ hm
  obtain ⟨z3, w3, s3⟩ := Go.AM.in_ints Try.underlying30 Try.underlying3 (by kernel_rfl) h3
  clear hA0 hval0
  refine (walk a0 len0 cap0 z0 a1 len1 cap1 z1 a2 a3 len3 cap3 z3 W w0 s0 w1 s1 w2 w3 s3).mono fun e W' ⟨he, bel⟩ => ?_
  subst he
  exact ⟨_, rfl, _, _, _, [], _, [], hW', trodAll_mk1 (shut_bool Try.underlying4 _), (trodAll_cons_mk (Below.trod laidOut (by kernel_rfl) (of_decide_eq_true (by kernel_rfl)) k0 bel lt0) (trodAll_cons_mk (Below.trod laidOut (by kernel_rfl) (of_decide_eq_true (by kernel_rfl)) k1 bel lt1) (trodAll_cons_mk (shut_int Try.underlying3 w2) (trodAll_cons_mk (Below.trod laidOut (by kernel_rfl) (of_decide_eq_true (by kernel_rfl)) k3 bel lt3) trodAll_mk0)))), rfl, bel.frame _, fun h => by cases h⟩

/-- The row's closed facts; those on the whole program by 'Fit'. -/
theorem closed : joinedFacts Try.prog 27 Try.f27 Rows.verdictPlaysSpec Rows.verdictPlaysRow = true := by
  unfold joinedFacts
  rw [Go.AM.heard_ok, Go.AM.enter_ok, Go.AM.lifts_ok, Go.AM.make_ok]
  kernel_rfl

theorem over : Rows.verdictPlaysRow.holds Try.pinned (OpenSpec.ofChange Rows.verdictPlaysSpec) :=
  OpenClaim.holds_of_wide 27 Try.f27 rfl rfl rfl rfl rfl rfl rfl ⟨rfl, rfl, rfl, rfl, rfl⟩ rfl rfl rfl rfl rfl (by kernel_rfl) Try.func27 closed
    (of_decide_eq_true (by kernel_rfl)) (by unfold Func.isWrapper; first | (rw [if_pos (by decide +kernel)]; kernel_rfl) | (rw [if_neg (by decide +kernel)]; exact ⟨rfl, rfl⟩))
    (fun os started H enc _ => lifted os started H enc)

/-- The statement. -/
theorem proved : Rows.VerdictPlaysSaid := over
#print axioms proved
end Go.Proofs.Ytamidpfdiijjgaa.verdictPlays
