/-
  The law TopNothing returns true for every input: the statement 'Rows.TopNothingCardSaid', without any condition.
-/
import Derived.Test.YtfmfkpmohlhajaaGreatDoorRows
import Derived.Test.YtfmfkpmohlhajaaGreatDoorCards
import Derived.Test.YtfmfkpmohlhajaaGreatDoorTie
import Derived.Test.YtfmfkpmohlhajaaGreatDoorW3d
import Derived.WalkKit
import Derived.ProofKit
import Derived.OpenShut
import Derived.ShutString
import Derived.ChangeOld
import Derived.LaidMore
import Derived.Lay
import Derived.SevenTiedAt
import Derived.Stop.Joined
import Derived.Below
namespace Go.Proofs.YtfmfkpmohlhajaaGreatDoor.topNothing
open Go.ChangeShapes Go.WideShapes Go.ChangeAt Go.RowKit
open Go.ChangeMaps (open_string shut_string)
set_option linter.unusedVariables false

theorem own : ownKnob Tryz.prog.godebug = none := by kernel_rfl
theorem laidOut : laidOutB Tryz.prog = true := Go.AM.laid_ok

/-- The walk: the law returns true and turns nothing that was there. -/
theorem walk (a0 : Option Addr) (len0 cap0 : Nat) (z0 : List Int) (a1 : Int) (a2 : Option Addr) (len2 cap2 : Nat) (z2 : List Int) (a3 : Option Addr) (len3 cap3 : Nat) (z3 : List Int) (w : World) (w0 : Go.AM.SliceIn w 1 a0 len0 cap0 (z0.map (.int .i64))) (s0 : ∀ n ∈ z0, (Lit.int .i64 n).wf = true) (w1 : (Lit.int .i64 a1).wf = true) (w2 : Go.AM.SliceIn w 1 a2 len2 cap2 (z2.map (.int .i64))) (s2 : ∀ n ∈ z2, (Lit.int .i64 n).wf = true) (w3 : Go.AM.SliceIn w 1 a3 len3 cap3 (z3.map (.int .i64))) (s3 : ∀ n ∈ z3, (Lit.int .i64 n).wf = true) :
    Calls Tryz.prog 3 #[.slice a0 len0 cap0, .int .i64 a1, .slice a2 len2 cap2, .slice a3 len3 cap3] w fun e w' => e = .returned (.bool true) ∧ Below w.heap.size w w' := by
  obtain ⟨code, hb, hk⟩ := Go.AM.c3_eq
  have h0 := w0.reads (rows := [Go.AM.inRow a0 (z0.map (.int .i64)), Go.AM.inRow a2 (z2.map (.int .i64)), Go.AM.inRow a3 (z3.map (.int .i64))]) (b := 0) rfl
  rw [← List.map_take] at h0
  have h2 := w2.reads (rows := [Go.AM.inRow a0 (z0.map (.int .i64)), Go.AM.inRow a2 (z2.map (.int .i64)), Go.AM.inRow a3 (z3.map (.int .i64))]) (b := 1) rfl
  rw [← List.map_take] at h2
  have h3 := w3.reads (rows := [Go.AM.inRow a0 (z0.map (.int .i64)), Go.AM.inRow a2 (z2.map (.int .i64)), Go.AM.inRow a3 (z3.map (.int .i64))]) (b := 2) rfl
  rw [← List.map_take] at h3
  refine Go.AM.law_end (by kernel_rfl) (Go.AM.D_ok Go.AM.cfg1_ok) Go.AM.c3_fn hb Go.AM.c3_ok hk Go.AM.c3_rs (args := [Go.AM.inSl 0 a0 len0 cap0 (z0.map (.int .i64)), .int .i64 a1, Go.AM.inSl 1 a2 len2 cap2 (z2.map (.int .i64)), Go.AM.inSl 2 a3 len3 cap3 (z3.map (.int .i64))]) (h := Go.AM.rowsH [Go.AM.inRow a0 (z0.map (.int .i64)), Go.AM.inRow a2 (z2.map (.int .i64)), Go.AM.inRow a3 (z3.map (.int .i64))]) (ι := Go.AM.rowsI [Go.AM.inRow a0 (z0.map (.int .i64)), Go.AM.inRow a2 (z2.map (.int .i64)), Go.AM.inRow a3 (z3.map (.int .i64))]) (by rw [Go.AM.c3_nt]; simp)
    (Go.AM.nothing_walk Go.AM.inSl_one h0 h2 h3 Go.AM.inSl_one Go.AM.inSl_one (fun x hx => Go.AM.i64_wf (s0 x (List.mem_of_mem_take hx))) (fun x hx => Go.AM.i64_wf (s2 x (List.mem_of_mem_take hx))) (fun x hx => Go.AM.i64_wf (s3 x (List.mem_of_mem_take hx))) (Go.AM.i64_wf w1).1 (Go.AM.i64_wf w1).2) (Go.AM.rows_HR fun r hr => ?_) (fun n => Go.AM.rows_fresh) ⟨w0.val (by decide) rfl, by simp [Go.AM.V, Go.AM.Va, Go.AM.Vc, Go.AM.Vp], w2.val (by decide) rfl, w3.val (by decide) rfl, trivial⟩
  simp at hr
  rcases hr with rfl | rfl | rfl
  · exact w0.row
  · exact w2.row
  · exact w3.row

set_option maxRecDepth 100000 in
theorem lifted (os : Os) (started : os.Started) (H : Type) (enc : TypeId × Value → H) :
    ReturnsInHanded {} Tryz.checked os 3 .any (fun w args => (Rows.topNothingSpec.pre enc Tryz.prog Tryz.f3 Rows.topNothingRow.domain false w args ∧ laidMetH Tryz.prog Rows.topNothingRow.laid w) ∧ sizedMet enc Tryz.prog Tryz.f3 (OpenSpec.ofChange Rows.topNothingSpec) false w args) (Rows.topNothingSpec.post enc Tryz.prog Tryz.f3 false true false false) := by
  refine returnsInHanded_of_change_and (C := Tryz.checked) (X := fun w _ => laidMetH Tryz.prog Rows.topNothingRow.laid w) (fun _ _ _ hh h => h.of_heap hh) own started (by kernel_rfl) Tryz.func3
    (ChangeSpec.witness_shaped (enc := enc) (C := Tryz.checked) (os := os) (X := fun w _ => laidMetH Tryz.prog Rows.topNothingRow.laid w) false (World.laidAll Tryz.prog os Rows.topNothingRow.laid) #[.slice none 0 0, .int .i64 0, .slice none 0 0, .slice none 0 0] 8 (World.laidAll_os _ _ _)
      (World.shaped_of_ZipB (by kernel_rfl) (by kernel_rfl)) (by kernel_rfl) (by kernel_rfl) (by kernel_rfl)
      (by rw [MakeChecks.laidMetH_plain _ _ _ (by kernel_rfl)]; exact laidMet_laidAll _ (by kernel_rfl) (by kernel_rfl))) ?_
  intro W base args ds gs before hval0 hW hcnd _ hL _
  have hval : ∀ (j : Nat) t v, Tryz.f3.params[j]? = some t → args[j]? = some v → Value.okWide Tryz.prog W .any base t v := hval0
  have hW' := hW
  obtain ⟨p, q, hA0, hV, rfl, hfz, hnd⟩ := hW
  have hA : DataW.TrodAll enc Tryz.prog W 0 (fun _ => true) true Tryz.f3.params.toList args.toList ds p := hA0
  rw [Tryz.params3] at hA hval
  obtain ⟨v0, vs0, d0, ds0, p0, q0, hargs, rfl, rfl, h0, r0⟩ := trodAll_cons hA
  obtain ⟨v1, vs1, d1, ds1, p1, q1, rfl, rfl, rfl, h1, r1⟩ := trodAll_cons r0
  obtain ⟨v2, vs2, d2, ds2, p2, q2, rfl, rfl, rfl, h2, r2⟩ := trodAll_cons r1
  obtain ⟨v3, vs3, d3, ds3, p3, q3, rfl, rfl, rfl, h3, r3⟩ := trodAll_cons r2
  obtain ⟨rfl, rfl, rfl⟩ := trodAll_nil r3
  obtain rfl : args = #[v0, v1, v2, v3] := by cases args; simp_all
  obtain ⟨rfl, rfl⟩ := trodVars_none hV
  obtain ⟨a0, len0, cap0, rfl⟩ := okWide_slice Tryz.underlying22 (hval 0 22 v0 rfl rfl)
  have k0 := h0
  have lt0 : ∀ x ∈ p0, x.block < W.heap.size := by obtain ⟨m, hm⟩ := k0; exact DataW.trod_lt m _ _ _ hm
  obtain ⟨z0, w0, s0⟩ := Go.AM.in_ints Tryz.underlying22 Tryz.underlying3 (by kernel_rfl) h0
  obtain ⟨a1, rfl, rfl, rfl, w1⟩ := open_int Tryz.underlying3 (hval 1 3 v1 rfl rfl) h1
  obtain ⟨a2, len2, cap2, rfl⟩ := okWide_slice Tryz.underlying22 (hval 2 22 v2 rfl rfl)
  have k2 := h2
  have lt2 : ∀ x ∈ p2, x.block < W.heap.size := by obtain ⟨m, hm⟩ := k2; exact DataW.trod_lt m _ _ _ hm
  obtain ⟨z2, w2, s2⟩ := Go.AM.in_ints Tryz.underlying22 Tryz.underlying3 (by kernel_rfl) h2
  obtain ⟨a3, len3, cap3, rfl⟩ := okWide_slice Tryz.underlying22 (hval 3 22 v3 rfl rfl)
  have k3 := h3
  have lt3 : ∀ x ∈ p3, x.block < W.heap.size := by obtain ⟨m, hm⟩ := k3; exact DataW.trod_lt m _ _ _ hm
  obtain ⟨z3, w3, s3⟩ := Go.AM.in_ints Tryz.underlying22 Tryz.underlying3 (by kernel_rfl) h3
  clear hA0 hval0
  refine (walk a0 len0 cap0 z0 a1 a2 len2 cap2 z2 a3 len3 cap3 z3 W w0 s0 w1 w2 s2 w3 s3).mono fun e W' ⟨he, bel⟩ => ?_
  subst he
  exact ⟨_, rfl, _, _, _, [], _, [], hW', trodAll_mk1 (shut_bool Tryz.underlying4 _), (trodAll_cons_mk (Below.trod laidOut (by kernel_rfl) (of_decide_eq_true (by kernel_rfl)) k0 bel lt0) (trodAll_cons_mk (shut_int Tryz.underlying3 w1) (trodAll_cons_mk (Below.trod laidOut (by kernel_rfl) (of_decide_eq_true (by kernel_rfl)) k2 bel lt2) (trodAll_cons_mk (Below.trod laidOut (by kernel_rfl) (of_decide_eq_true (by kernel_rfl)) k3 bel lt3) trodAll_mk0)))), rfl, bel.frame _, fun h => by cases h⟩

/-- The row's closed facts, one by one (all at once they need more than 10 GB). -/
theorem c_in : (Rows.topNothingRow.inPlace == Tryz.prog.inPlace 3) = true := by kernel_rfl
theorem c_un : (Rows.topNothingRow.unfollowed == Tryz.prog.unfollowed 3) = true := by kernel_rfl
theorem c_re : (Rows.topNothingRow.recurses == Tryz.prog.recurses 3) = true := by kernel_rfl
theorem c_na : (Rows.topNothingRow.named == Tryz.prog.varsNamed 3) = true := by kernel_rfl
theorem c_li : (Rows.topNothingRow.lifted == Tryz.prog.liftsFinal) = true := by kernel_rfl
theorem c_ma : (Tryz.prog.make == some Rows.topNothingRow.make) = true := by kernel_rfl
theorem c_pl : (Rows.topNothingRow.plainKeys == Tryz.prog.plainKeys) = true := by kernel_rfl
theorem closed : joinedFacts Tryz.prog 3 Tryz.f3 Rows.topNothingSpec Rows.topNothingRow = true := by
  unfold joinedFacts
  rw [Go.AM.laid_ok, Go.AM.maps_ok, c_in, c_un, c_re, c_na, c_pl, Go.AM.heard_ok, Go.AM.enter_ok, c_li, c_ma]
  kernel_rfl

theorem over : Rows.topNothingRow.holds Tryz.pinned (OpenSpec.ofChange Rows.topNothingSpec) :=
  OpenClaim.holds_of_wide 3 Tryz.f3 rfl rfl rfl rfl rfl rfl rfl ⟨rfl, rfl, rfl, rfl, rfl⟩ rfl rfl rfl rfl rfl (by kernel_rfl) Tryz.func3 closed
    (of_decide_eq_true (by kernel_rfl)) (by unfold Func.isWrapper; first | (rw [if_pos (by decide +kernel)]; kernel_rfl) | (rw [if_neg (by decide +kernel)]; exact ⟨rfl, rfl⟩))
    (fun os started H enc _ => lifted os started H enc)

/-- The tied card. -/
theorem proved : Rows.TopNothingCardSaid :=
  Claim7.holds_tied_plain_at .later [] [.data, .pinned, .pinned] true (true, "7d8e993a466b6749aff2d8d388591395134650294f05132b6792f7d5dc25ba83") true over (fun _ h => by cases h) (by kernel_rfl) (fun _ h => by cases h) topNothing_row_tie rfl ⟨rfl, rfl⟩ (by kernel_rfl) rfl
    (fun f fn hf hfn => by
      obtain rfl : f = 3 := Option.some.inj ((show Tryz.prog.funcNamed "rampart/ramparttop.TopNothing" = some 3 by kernel_rfl).symm.trans hf) |>.symm
      obtain rfl : fn = Tryz.f3 := (Option.some.inj (Tryz.func3.symm.trans hfn)).symm
      exact ⟨by kernel_rfl, fun j t ht => by
        rw [Tryz.params3] at ht
        have hm : t ∈ [22, 3, 22, 22] := by simpa using Array.mem_of_getElem? ht
        have hall : ([22, 3, 22, 22].all fun u => !Tryz.prog.wantsStandIn u) = true := by kernel_rfl
        exact (show Tryz.prog.wantsStandIn t = false by simpa using List.all_eq_true.1 hall t hm)⟩)
    (by kernel_rfl)
#print axioms proved
end Go.Proofs.YtfmfkpmohlhajaaGreatDoor.topNothing
