/-
  The law ScanCopies returns true for every input: the statement 'Rows.ScanCopiesSaid', without any condition.
-/
import Derived.Test.YtamidpfdiijjgaaRows
import Derived.Test.YtamidpfdiijjgaaQ19
import Derived.Test.YtamidpfdiijjgaaFit
import Derived.Test.YtamidpfdiijjgaaP11
import Derived.Test.YtamidpfdiijjgaaP13
import Derived.WalkKit
import Derived.ProofKit
import Derived.OpenShut
import Derived.ShutString
import Derived.ChangeOld
import Derived.Below
namespace Go.Proofs.Ytamidpfdiijjgaa.scanCopies
open Go.ChangeShapes Go.WideShapes Go.ChangeAt Go.RowKit
open Go.ChangeMaps (open_string shut_string)
set_option linter.unusedVariables false

theorem own : ownKnob Try.prog.godebug = none := by kernel_rfl
theorem laidOut : laidOutB Try.prog = true := by kernel_rfl

/-- The walk: the law returns true and turns nothing that was there. -/
theorem walk (a0 : Option Addr) (len0 cap0 : Nat) (z0 : List Go.AM.Txt) (a1 : Option Addr) (len1 cap1 : Nat) (z1 : List Bool) (a2 : ByteArray) (a3 : Int) (w : World) (w0 : Go.AM.SliceIn w 1 a0 len0 cap0 (Go.AM.strCells z0)) (s0 : ∀ s ∈ z0, s.length ≤ 9223372036854775807) (w1 : Go.AM.SliceIn w 1 a1 len1 cap1 (Go.AM.boolCells z1)) (s1 : True) (w2 : a2.size ≤ maxLen) (w3 : (Lit.int .i64 a3).wf = true) :
    Calls Try.prog 19 #[.slice a0 len0 cap0, .slice a1 len1 cap1, .string a2, .int .i64 a3] w fun e w' => e = .returned (.bool true) ∧ Below w.heap.size w w' := by
  obtain ⟨code, hb, hk⟩ := Go.AM.c19_eq
  have h0 := w0.reads (rows := [Go.AM.inRow a0 (Go.AM.strCells z0), Go.AM.inRow a1 (Go.AM.boolCells z1)]) (b := 0) rfl
  rw [show (Go.AM.strCells z0).take len0 = Go.AM.strCells (z0.take len0) by simp [Go.AM.strCells]] at h0
  have h1 := w1.reads (rows := [Go.AM.inRow a0 (Go.AM.strCells z0), Go.AM.inRow a1 (Go.AM.boolCells z1)]) (b := 1) rfl
  rw [show (Go.AM.boolCells z1).take len1 = Go.AM.boolCells (z1.take len1) by simp [Go.AM.boolCells]] at h1
  have b0 : ∀ c, Go.AM.slB (Go.AM.inSl 0 a0 len0 cap0 (Go.AM.strCells z0)) = some c → c < (Go.AM.rowsH [Go.AM.inRow a0 (Go.AM.strCells z0), Go.AM.inRow a1 (Go.AM.boolCells z1)]).length := fun c hc => by have := Go.AM.slB_inSl c hc; subst this; simp [Go.AM.rowsH]
  have n0 : len0 ≤ 9223372036854775807 := by
    rcases w0 with ⟨_, rfl, _, _⟩ | ⟨x, _, h1, h2, _⟩
    · omega
    · simp [maxLen] at h2; omega
  have b1 : ∀ c, Go.AM.slB (Go.AM.inSl 1 a1 len1 cap1 (Go.AM.boolCells z1)) = some c → c < (Go.AM.rowsH [Go.AM.inRow a0 (Go.AM.strCells z0), Go.AM.inRow a1 (Go.AM.boolCells z1)]).length := fun c hc => by have := Go.AM.slB_inSl c hc; subst this; simp [Go.AM.rowsH]
  have n1 : len1 ≤ 9223372036854775807 := by
    rcases w1 with ⟨_, rfl, _, _⟩ | ⟨x, _, h1, h2, _⟩
    · omega
    · simp [maxLen] at h2; omega
  have n2 : a2.data.toList.length ≤ 9223372036854775807 := by simp [maxLen] at w2; exact w2
  refine Go.AM.law_end (by kernel_rfl) (Go.AM.mixed_ok (Go.AM.D_ok Go.AM.cfg_ok)) Go.AM.c19_fn hb Go.AM.c19_ok hk Go.AM.c19_rs (args := [Go.AM.inSl 0 a0 len0 cap0 (Go.AM.strCells z0), Go.AM.inSl 1 a1 len1 cap1 (Go.AM.boolCells z1), .str a2.data.toList, .int .i64 a3]) (h := Go.AM.rowsH [Go.AM.inRow a0 (Go.AM.strCells z0), Go.AM.inRow a1 (Go.AM.boolCells z1)]) (ι := Go.AM.rowsI [Go.AM.inRow a0 (Go.AM.strCells z0), Go.AM.inRow a1 (Go.AM.boolCells z1)]) (by rw [Go.AM.c19_nt]; simp)
    (Go.AM.copies_walk h0 h1 (by simp; omega)) (Go.AM.rows_HR fun r hr => ?_) (fun n => Go.AM.rows_fresh) ⟨w0.val (by decide) rfl, w1.val (by decide) rfl, by simp [Go.AM.V, Go.AM.Va, Go.AM.Vc, Go.AM.Vp], by simp [Go.AM.V, Go.AM.Va, Go.AM.Vc, Go.AM.Vp], trivial⟩
  simp at hr
  rcases hr with rfl | rfl
  · exact w0.row
  · exact w1.row

set_option maxRecDepth 100000 in
theorem lifted (os : Os) (started : os.Started) (H : Type) (enc : TypeId × Value → H) :
    ReturnsInHanded {} Try.checked os 19 .any (Rows.scanCopiesSpec.pre6 enc Try.prog Try.f19 Rows.scanCopiesRow.domain false) (Rows.scanCopiesSpec.post enc Try.prog Try.f19 false true false false) := by
  refine returnsInHanded_of_change (C := Try.checked) own started (by kernel_rfl) Try.func19
    (ChangeSpec.witness6 (enc := enc) (C := Try.checked) false ⟨#[], #[.slice none 0 0, .slice none 0 0, .string ByteArray.empty, .int .i64 0], []⟩ 8 (by kernel_rfl) (by kernel_rfl) (by kernel_rfl) (by kernel_rfl)) ?_
  intro W base args ds gs before hval0 hW hcnd _
  have hval : ∀ (j : Nat) t v, Try.f19.params[j]? = some t → args[j]? = some v → Value.okWide Try.prog W .any base t v := hval0
  have hW' := hW
  obtain ⟨p, q, hA0, hV, rfl, hfz, hnd⟩ := hW
  have hA : DataW.TrodAll enc Try.prog W 0 (fun _ => true) true Try.f19.params.toList args.toList ds p := hA0
  rw [Try.params19] at hA hval
  obtain ⟨v0, vs0, d0, ds0, p0, q0, hargs, rfl, rfl, h0, r0⟩ := trodAll_cons hA
  obtain ⟨v1, vs1, d1, ds1, p1, q1, rfl, rfl, rfl, h1, r1⟩ := trodAll_cons r0
  obtain ⟨v2, vs2, d2, ds2, p2, q2, rfl, rfl, rfl, h2, r2⟩ := trodAll_cons r1
  obtain ⟨v3, vs3, d3, ds3, p3, q3, rfl, rfl, rfl, h3, r3⟩ := trodAll_cons r2
  obtain ⟨rfl, rfl, rfl⟩ := trodAll_nil r3
  obtain rfl : args = #[v0, v1, v2, v3] := by cases args; simp_all
  obtain ⟨rfl, rfl⟩ := trodVars_none hV
  obtain ⟨a0, len0, cap0, rfl⟩ := okWide_slice Try.underlying38 (hval 0 38 v0 rfl rfl)
  have k0 := h0
  have lt0 : ∀ x ∈ p0, x.block < W.heap.size := by obtain ⟨m, hm⟩ := k0; exact DataW.trod_lt m _ _ _ hm
  obtain ⟨z0, w0, s0⟩ := Go.AM.in_strs Try.underlying38 Try.underlying9 (by kernel_rfl) h0
  obtain ⟨a1, len1, cap1, rfl⟩ := okWide_slice Try.underlying68 (hval 1 68 v1 rfl rfl)
  have k1 := h1
  have lt1 : ∀ x ∈ p1, x.block < W.heap.size := by obtain ⟨m, hm⟩ := k1; exact DataW.trod_lt m _ _ _ hm
  obtain ⟨z1, w1, s1⟩ := Go.AM.in_bools Try.underlying68 Try.underlying4 (by kernel_rfl) h1
  obtain ⟨a2, rfl, rfl, rfl, w2⟩ := open_string Try.underlying9 (hval 2 9 v2 rfl rfl) h2
  obtain ⟨a3, rfl, rfl, rfl, w3⟩ := open_int Try.underlying3 (hval 3 3 v3 rfl rfl) h3
  clear hA0 hval0
  refine (walk a0 len0 cap0 z0 a1 len1 cap1 z1 a2 a3 W w0 s0 w1 s1 w2 w3).mono fun e W' ⟨he, bel⟩ => ?_
  subst he
  exact ⟨_, rfl, _, _, _, [], _, [], hW', trodAll_mk1 (shut_bool Try.underlying4 _), (trodAll_cons_mk (Below.trod laidOut (by kernel_rfl) (of_decide_eq_true (by kernel_rfl)) k0 bel lt0) (trodAll_cons_mk (Below.trod laidOut (by kernel_rfl) (of_decide_eq_true (by kernel_rfl)) k1 bel lt1) (trodAll_cons_mk (shut_string Try.underlying9 w2) (trodAll_cons_mk (shut_int Try.underlying3 w3) trodAll_mk0)))), rfl, bel.frame _, fun h => by cases h⟩

/-- The row's closed facts; those on the whole program by 'Fit'. -/
theorem closed : joinedFacts Try.prog 19 Try.f19 Rows.scanCopiesSpec Rows.scanCopiesRow = true := by
  unfold joinedFacts
  rw [Go.AM.heard_ok, Go.AM.enter_ok, Go.AM.lifts_ok, Go.AM.make_ok]
  kernel_rfl

theorem over : Rows.scanCopiesRow.holds Try.pinned (OpenSpec.ofChange Rows.scanCopiesSpec) :=
  OpenClaim.holds_of_wide 19 Try.f19 rfl rfl rfl rfl rfl rfl rfl ⟨rfl, rfl, rfl, rfl, rfl⟩ rfl rfl rfl rfl rfl (by kernel_rfl) Try.func19 closed
    (of_decide_eq_true (by kernel_rfl)) (by unfold Func.isWrapper; first | (rw [if_pos (by decide +kernel)]; kernel_rfl) | (rw [if_neg (by decide +kernel)]; exact ⟨rfl, rfl⟩))
    (fun os started H enc _ => lifted os started H enc)

/-- The statement. -/
theorem proved : Rows.ScanCopiesSaid := over
#print axioms proved
end Go.Proofs.Ytamidpfdiijjgaa.scanCopies
