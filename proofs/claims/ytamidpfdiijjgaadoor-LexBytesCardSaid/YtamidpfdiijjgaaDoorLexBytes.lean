/-
  The law LexBytes returns true for every input: the statement 'Rows.LexBytesCardSaid', without any condition.
-/
import Derived.Test.YtamidpfdiijjgaaDoorRows
import Derived.Test.YtamidpfdiijjgaaDoorCards
import Derived.Test.YtamidpfdiijjgaaDoorTie
import Derived.Test.YtamidpfdiijjgaaDoorQ5
import Derived.WalkKit
import Derived.ProofKit
import Derived.OpenShut
import Derived.ShutString
import Derived.ChangeOld
import Derived.LaidMore
import Derived.Lay
import Derived.SevenTiedAt
import Derived.Stop.Joined
import Derived.Below
namespace Go.Proofs.YtamidpfdiijjgaaDoor.lexBytes
open Go.ChangeShapes Go.WideShapes Go.ChangeAt Go.RowKit
open Go.ChangeMaps (open_string shut_string)
set_option linter.unusedVariables false

theorem own : ownKnob Tryd.prog.godebug = none := by kernel_rfl
theorem laidOut : laidOutB Tryd.prog = true := by kernel_rfl

/-- The walk: the law returns true and turns nothing that was there. -/
theorem walk (a0 : Option Addr) (len0 cap0 : Nat) (z0 : List Int) (a1 : Option Addr) (len1 cap1 : Nat) (z1 : List Int) (w : World) (w0 : Go.AM.SliceIn w 1 a0 len0 cap0 (z0.map (.int .u8))) (s0 : ∀ n ∈ z0, (Lit.int .u8 n).wf = true) (w1 : Go.AM.SliceIn w 1 a1 len1 cap1 (z1.map (.int .i64))) (s1 : ∀ n ∈ z1, (Lit.int .i64 n).wf = true) :
    Calls Tryd.prog 5 #[.slice a0 len0 cap0, .slice a1 len1 cap1] w fun e w' => e = .returned (.bool true) ∧ Below w.heap.size w w' := by
  obtain ⟨code, hb, hk⟩ := Go.AM.c5_eq
  have h0 := w0.reads (rows := [Go.AM.inRow a0 (z0.map (.int .u8)), Go.AM.inRow a1 (z1.map (.int .i64))]) (b := 0) rfl
  rw [← List.map_take] at h0
  have h1 := w1.reads (rows := [Go.AM.inRow a0 (z0.map (.int .u8)), Go.AM.inRow a1 (z1.map (.int .i64))]) (b := 1) rfl
  rw [← List.map_take] at h1
  have b0 : ∀ c, Go.AM.slB (Go.AM.inSl 0 a0 len0 cap0 (z0.map (.int .u8))) = some c → c < (Go.AM.rowsH [Go.AM.inRow a0 (z0.map (.int .u8)), Go.AM.inRow a1 (z1.map (.int .i64))]).length := fun c hc => by have := Go.AM.slB_inSl c hc; subst this; simp [Go.AM.rowsH]
  have n0 : len0 ≤ 9223372036854775807 := by
    rcases w0 with ⟨_, rfl, _, _⟩ | ⟨x, _, h1, h2, _⟩
    · omega
    · simp [maxLen] at h2; omega
  have b1 : ∀ c, Go.AM.slB (Go.AM.inSl 1 a1 len1 cap1 (z1.map (.int .i64))) = some c → c < (Go.AM.rowsH [Go.AM.inRow a0 (z0.map (.int .u8)), Go.AM.inRow a1 (z1.map (.int .i64))]).length := fun c hc => by have := Go.AM.slB_inSl c hc; subst this; simp [Go.AM.rowsH]
  have n1 : len1 ≤ 9223372036854775807 := by
    rcases w1 with ⟨_, rfl, _, _⟩ | ⟨x, _, h1, h2, _⟩
    · omega
    · simp [maxLen] at h2; omega
  refine Go.AM.law_end (by kernel_rfl) (Go.AM.D_ok Go.AM.cfg_ok) Go.AM.c5_fn hb Go.AM.c5_ok hk Go.AM.c5_rs (args := [Go.AM.inSl 0 a0 len0 cap0 (z0.map (.int .u8)), Go.AM.inSl 1 a1 len1 cap1 (z1.map (.int .i64))]) (h := Go.AM.rowsH [Go.AM.inRow a0 (z0.map (.int .u8)), Go.AM.inRow a1 (z1.map (.int .i64))]) (ι := Go.AM.rowsI [Go.AM.inRow a0 (z0.map (.int .u8)), Go.AM.inRow a1 (z1.map (.int .i64))]) (by rw [Go.AM.c5_nt]; simp)
    (Go.AM.bytes_walk h0 h1 (fun a n c e => by unfold Go.AM.inSl at e; split at e <;> simp at e; rw [← e.1]) (fun x hx => Go.AM.u8_wf (s0 x (List.mem_of_mem_take hx))) (by simp; omega) (by simp; omega)) (Go.AM.rows_HR fun r hr => ?_) (fun n => Go.AM.rows_fresh) ⟨w0.val (by decide) rfl, w1.val (by decide) rfl, trivial⟩
  simp at hr
  rcases hr with rfl | rfl
  · exact w0.row
  · exact w1.row

set_option maxRecDepth 100000 in
theorem lifted (os : Os) (started : os.Started) (H : Type) (enc : TypeId × Value → H) :
    ReturnsInHanded {} Tryd.checked os 5 .any (fun w args => (Rows.lexBytesSpec.pre enc Tryd.prog Tryd.f5 Rows.lexBytesRow.domain false w args ∧ laidMetH Tryd.prog Rows.lexBytesRow.laid w) ∧ sizedMet enc Tryd.prog Tryd.f5 (OpenSpec.ofChange Rows.lexBytesSpec) false w args) (Rows.lexBytesSpec.post enc Tryd.prog Tryd.f5 false true false false) := by
  refine returnsInHanded_of_change_and (C := Tryd.checked) (X := fun w _ => laidMetH Tryd.prog Rows.lexBytesRow.laid w) (fun _ _ _ hh h => h.of_heap hh) own started (by kernel_rfl) Tryd.func5
    (ChangeSpec.witness_shaped (enc := enc) (C := Tryd.checked) (os := os) (X := fun w _ => laidMetH Tryd.prog Rows.lexBytesRow.laid w) false (World.laidAll Tryd.prog os Rows.lexBytesRow.laid) #[.slice none 0 0, .slice none 0 0] 8 (World.laidAll_os _ _ _)
      (World.shaped_of_ZipB (by kernel_rfl) (by kernel_rfl)) (by kernel_rfl) (by kernel_rfl) (by kernel_rfl)
      (by rw [MakeChecks.laidMetH_plain _ _ _ (by kernel_rfl)]; exact laidMet_laidAll _ (by kernel_rfl) (by kernel_rfl))) ?_
  intro W base args ds gs before hval0 hW hcnd _ hL _
  have hval : ∀ (j : Nat) t v, Tryd.f5.params[j]? = some t → args[j]? = some v → Value.okWide Tryd.prog W .any base t v := hval0
  have hW' := hW
  obtain ⟨p, q, hA0, hV, rfl, hfz, hnd⟩ := hW
  have hA : DataW.TrodAll enc Tryd.prog W 0 (fun _ => true) true Tryd.f5.params.toList args.toList ds p := hA0
  rw [Tryd.params5] at hA hval
  obtain ⟨v0, vs0, d0, ds0, p0, q0, hargs, rfl, rfl, h0, r0⟩ := trodAll_cons hA
  obtain ⟨v1, vs1, d1, ds1, p1, q1, rfl, rfl, rfl, h1, r1⟩ := trodAll_cons r0
  obtain ⟨rfl, rfl, rfl⟩ := trodAll_nil r1
  obtain rfl : args = #[v0, v1] := by cases args; simp_all
  obtain ⟨rfl, rfl⟩ := trodVars_none hV
  obtain ⟨a0, len0, cap0, rfl⟩ := okWide_slice Tryd.underlying37 (hval 0 37 v0 rfl rfl)
  have k0 := h0
  have lt0 : ∀ x ∈ p0, x.block < W.heap.size := by obtain ⟨m, hm⟩ := k0; exact DataW.trod_lt m _ _ _ hm
  obtain ⟨z0, w0, s0⟩ := Go.AM.in_ints Tryd.underlying37 Tryd.underlying5 (by kernel_rfl) h0
  obtain ⟨a1, len1, cap1, rfl⟩ := okWide_slice Tryd.underlying38 (hval 1 38 v1 rfl rfl)
  have k1 := h1
  have lt1 : ∀ x ∈ p1, x.block < W.heap.size := by obtain ⟨m, hm⟩ := k1; exact DataW.trod_lt m _ _ _ hm
  obtain ⟨z1, w1, s1⟩ := Go.AM.in_ints Tryd.underlying38 Tryd.underlying3 (by kernel_rfl) h1
  clear hA0 hval0
  refine (walk a0 len0 cap0 z0 a1 len1 cap1 z1 W w0 s0 w1 s1).mono fun e W' ⟨he, bel⟩ => ?_
  subst he
  exact ⟨_, rfl, _, _, _, [], _, [], hW', trodAll_mk1 (shut_bool Tryd.underlying4 _), (trodAll_cons_mk (Below.trod laidOut (by kernel_rfl) (of_decide_eq_true (by kernel_rfl)) k0 bel lt0) (trodAll_cons_mk (Below.trod laidOut (by kernel_rfl) (of_decide_eq_true (by kernel_rfl)) k1 bel lt1) trodAll_mk0)), rfl, bel.frame _, fun h => by cases h⟩

theorem over : Rows.lexBytesRow.holds Tryd.pinned (OpenSpec.ofChange Rows.lexBytesSpec) :=
  OpenClaim.holds_of_wide 5 Tryd.f5 rfl rfl rfl rfl rfl rfl rfl ⟨rfl, rfl, rfl, rfl, rfl⟩ rfl rfl rfl rfl rfl (by kernel_rfl) Tryd.func5 (by kernel_rfl)
    (of_decide_eq_true (by kernel_rfl)) (by unfold Func.isWrapper; first | (rw [if_pos (by decide +kernel)]; kernel_rfl) | (rw [if_neg (by decide +kernel)]; exact ⟨rfl, rfl⟩))
    (fun os started H enc _ => lifted os started H enc)

/-- The tied card. -/
theorem proved : Rows.LexBytesCardSaid :=
  Claim7.holds_tied_plain_at .later [] [.data, .pinned, .pinned] true (true, "3e81c1bc683b3bdff90136a3b9451abcfa47785cfadcb66dfc063d9bc2a3244d") false over (fun _ h => by cases h) (by kernel_rfl) (fun _ h => by cases h) lexBytes_row_tie rfl ⟨rfl, rfl⟩ (by kernel_rfl) rfl
    (fun f fn hf hfn => by
      obtain rfl : f = 5 := Option.some.inj ((show Tryd.prog.funcNamed "rampart/rampartlaw08.LexBytes" = some 5 by kernel_rfl).symm.trans hf) |>.symm
      obtain rfl : fn = Tryd.f5 := (Option.some.inj (Tryd.func5.symm.trans hfn)).symm
      exact ⟨by kernel_rfl, fun j t ht => by
        rw [Tryd.params5] at ht
        have hm : t ∈ [37, 38] := by simpa using Array.mem_of_getElem? ht
        have hall : ([37, 38].all fun u => !Tryd.prog.wantsStandIn u) = true := by kernel_rfl
        exact (show Tryd.prog.wantsStandIn t = false by simpa using List.all_eq_true.1 hall t hm)⟩)
    (by kernel_rfl)
#print axioms proved
end Go.Proofs.YtamidpfdiijjgaaDoor.lexBytes
