/-
  What the law VerdictEnds stands on, part 5.
-/
import Derived.Test.YtamidpfdiijjgaaW28d
import Derived.Test.YtamidpfdiijjgaaL28
namespace Go.AM
open Go Go.Proofs Go.RowKit
set_option linter.unusedVariables false
set_option linter.unusedSimpArgs false
set_option maxRecDepth 100000
theorem mid80 {h₀ h hR : Heap} {v : AV} {l : List Int} {rb bc i : Nat} {x : Int} {rs : List RuleV} {ac pr fl si re : Int} {bo : Bool} (hv : Sl1 h₀ v (intCells l)) (hok : slOK v) (hil : i + 4 ≤ l.length) (hi : i ≤ 100) (hx : 0 ≤ x ∧ x < 16777216)
  (RI : RulesIn hR rb rs) (hrl : rs.length ≤ 100) (hrb : rs.length ≠ 0 → h₀.length ≤ rb) (o0 : Only (fun _ => False) h₀ hR) (oR : Only (fun _ => False) hR h) (hbc : hR.length ≤ bc)
  (hb : h[bc]? = some (.cells (box80 ac pr false (.sl none 0 0) false (.sl none 0 0) bo fl (.sl none 0 0) si re) 107 false)) {Q : AExit → St → Prop}
  (hq : ∀ h' rb' cv zs rc, (⟨rc, ac, si, cv, zs⟩ : RuleV).ok → (∀ c ∈ zs, c.few) → zs.length ≤ 3 → RulesIn h' rb' (rs ++ [⟨rc, ac, si, cv, zs⟩]) → h₀.length ≤ rb' → Only (fun _ => False) h₀ h' → Q .normal ⟨env80 v (rulesSl rb' (rs ++ [⟨rc, ac, si, cv, zs⟩])) i, h'⟩) :
  Wt Try.prog (D cfg) c80_m ⟨[(0, v), (3, rulesSl rb rs), (4, .int .i64 i), (5, .int .i64 x), (6, .ptr (some ⟨bc, 0, 15⟩))], h⟩ Q := by
 have hvt : v.notTup = true := by rcases hv with ⟨rfl, _⟩ | ⟨_, _, _, _, _, rfl, _, _⟩ <;> rfl
 have n1 : (rulesSl rb rs).notTup = true := rulesSl_nt
 have g1 := div_fact hx.1 (n := 1536) (by decide)
 have g2 := div_fact hx.1 (n := 9216) (by decide)
 have g3 := div_fact hx.1 (n := 4608) (by decide)
 have g4 := div_fact hx.1 (n := 36864) (by decide)
 have g5 := div_fact hx.1 (n := 73728) (by decide)
 have m3 := mod_fact g3.1 (n := 2) (by decide)
 have m5 := mod_fact g5.1 (n := 3) (by decide)
 have w1 : IntKind.wrap .i64 (x.tdiv 1536) = x.tdiv 1536 := wrap_i64 (by omega) (by omega)
 have w2 : IntKind.wrap .i64 (x.tdiv 9216) = x.tdiv 9216 := wrap_i64 (by omega) (by omega)
 have w3 : IntKind.wrap .i64 (x.tdiv 4608) = x.tdiv 4608 := wrap_i64 (by omega) (by omega)
 have w4 : IntKind.wrap .i64 (x.tdiv 36864) = x.tdiv 36864 := wrap_i64 (by omega) (by omega)
 have w5 : IntKind.wrap .i64 (x.tdiv 73728) = x.tdiv 73728 := wrap_i64 (by omega) (by omega)
 obtain ⟨p, hp⟩ : ∃ p, 80 + (x.tdiv 4608).tmod 2 = p := ⟨_, rfl⟩
 have wp : IntKind.wrap .i64 p = p := wrap_i64 (by omega) (by omega)
 obtain ⟨q, hqq⟩ : ∃ q, 30 + (x.tdiv 73728).tmod 3 = q := ⟨_, rfl⟩
 have wq : IntKind.wrap .i64 q = q := wrap_i64 (by omega) (by omega)
 have hq3 : q = 30 ∨ q = 31 ∨ q = 32 := by omega
 have second : ∀ (h2 : Heap) (t1 : Bool) (ts : AV), ts.plain = true → Only (fun _ => False) hR h2 → h2[bc]? = some (.cells (box80 ac pr false (.sl none 0 0) t1 ts bo fl (.sl none 0 0) si re) 107 false) →
   Wt Try.prog (D cfg) (.seq (.seq (.reg c80_r9 none (some [0, 3, 4, 5, 6, 63])) (.cond (.tmp 63) (.reg c80_r10 none (some [0, 3, 4, 5, 6])) .skip (some [0, 3, 4, 5, 6]))) c80_t) ⟨[(0, v), (3, rulesSl rb rs), (4, .int .i64 i), (5, .int .i64 x), (6, .ptr (some ⟨bc, 0, 15⟩))], h2⟩ Q := by
  intro h2 t1 ts pts o2 b2
  have tone := plain_one pts
  by_cases hz : (x.tdiv 9216).tmod 4 = 0
  · obtain ⟨f1, hf1⟩ : ∃ f1, decide ((x.tdiv 36864).tmod 2 = 0) = f1 := ⟨_, rfl⟩
    obtain ⟨h3, hh3⟩ : ∃ h3, h2 ++ [.cells [.int .u32 167772161, .int .i64 q] 158 true] = h3 := ⟨_, rfl⟩
    have o3 : Only (fun _ => False) h2 h3 := by rw [← hh3]; exact .app
    have b3 := o3.at b2 id
    have g3 : h3[h2.length]? = some (.cells [.int .u32 167772161, .int .i64 q] 158 true) := by rw [← hh3]; simp
    have st : astore Try.prog (look h3) 102 (.ptr (some ⟨bc, 2, 15⟩)) (.agg [.bool f1, .sl (some ⟨h2.length, 0, 2⟩) 1 1]) = some (.set bc (.cells (box80 ac pr f1 (.sl (some ⟨h2.length, 0, 2⟩) 1 1) t1 ts bo fl (.sl none 0 0) si re) 107 false)) := by
     simp [astore, b3, box80, splice]
    obtain ⟨h4, hh4⟩ : ∃ h4, h3.set bc (.cells (box80 ac pr f1 (.sl (some ⟨h2.length, 0, 2⟩) 1 1) t1 ts bo fl (.sl none 0 0) si re) 107 false) = h4 := ⟨_, rfl⟩
    have o4 : Only (fun c => c = bc) h3 h4 := by rw [← hh4]; exact .set rfl
    have b4 : h4[bc]? = some (.cells (box80 ac pr f1 (.sl (some ⟨h2.length, 0, 2⟩) 1 1) t1 ts bo fl (.sl none 0 0) si re) 107 false) := by rw [← hh4]; exact at_same (lt_of_at b3)
    have g4 := o4.at g3 (by have := lt_of_at b2; omega)
    have ho4 : Only (fun _ => False) hR h4 := (o2.trans o3).fresh o4 fun c hc => by omega
    have T := tail80 (Q := Q) hv hok hil hi hx RI hrl hrb o0 ho4 hbc b4 (.one _ _ hq3 g4) pts hq
    generalize rulesSl rb rs = x1 at *
    simp [-AV.notTup, hvt, n1, notTup_ptr, c80_r9, c80_r10, abin_quo, abin_rem, w2, hz, w4, hf1, w5, hqq, wq, abuild, abuildSlice, afill, zeros, splice, hh3, fieldA, st, hh4]
    simpa using T
  · have T := tail80 (Q := Q) hv hok hil hi hx RI hrl hrb o0 o2 hbc b2 .none pts hq
    generalize rulesSl rb rs = x1 at *
    simp [-AV.notTup, hvt, n1, notTup_ptr, c80_r9, abin_quo, abin_rem, w2, hz]
    simpa using T
 by_cases hz : (x.tdiv 1536).tmod 3 = 0
 · obtain ⟨h3, hh3⟩ : ∃ h3, h ++ [.cells [.int .i64 80, .int .i64 p] 155 true] = h3 := ⟨_, rfl⟩
   have o3 : Only (fun _ => False) h h3 := by rw [← hh3]; exact .app
   have b3 := o3.at hb id
   have st : astore Try.prog (look h3) 105 (.ptr (some ⟨bc, 8, 15⟩)) (.agg [.bool false, .sl (some ⟨h.length, 0, 2⟩) 1 1]) = some (.set bc (.cells (box80 ac pr false (.sl none 0 0) false (.sl (some ⟨h.length, 0, 2⟩) 1 1) bo fl (.sl none 0 0) si re) 107 false)) := by
    simp [astore, b3, box80, splice]
   obtain ⟨h4, hh4⟩ : ∃ h4, h3.set bc (.cells (box80 ac pr false (.sl none 0 0) false (.sl (some ⟨h.length, 0, 2⟩) 1 1) bo fl (.sl none 0 0) si re) 107 false) = h4 := ⟨_, rfl⟩
   have o4 : Only (fun c => c = bc) h3 h4 := by rw [← hh4]; exact .set rfl
   have b4 : h4[bc]? = some (.cells (box80 ac pr false (.sl none 0 0) false (.sl (some ⟨h.length, 0, 2⟩) 1 1) bo fl (.sl none 0 0) si re) 107 false) := by rw [← hh4]; exact at_same (lt_of_at b3)
   have ho4 : Only (fun _ => False) hR h4 := (oR.trans o3).fresh o4 fun c hc => by omega
   have T := second h4 false (.sl (some ⟨h.length, 0, 2⟩) 1 1) rfl ho4 b4
   unfold c80_m
   generalize hU : (SC.seq (.seq (.reg c80_r9 none (some [0, 3, 4, 5, 6, 63])) (.cond (.tmp 63) (.reg c80_r10 none (some [0, 3, 4, 5, 6])) .skip (some [0, 3, 4, 5, 6]))) c80_t) = U at *
   generalize rulesSl rb rs = x1 at *
   simp [-AV.notTup, hvt, n1, notTup_ptr, c80_r7, c80_r8, abin_quo, abin_rem, w1, hz, w3, hp, wp, abuild, abuildSlice, afill, zeros, splice, hh3, fieldA, st, hh4]
   simpa using T
 · have T := second h false (.sl none 0 0) rfl oR hb
   unfold c80_m
   generalize hU : (SC.seq (.seq (.reg c80_r9 none (some [0, 3, 4, 5, 6, 63])) (.cond (.tmp 63) (.reg c80_r10 none (some [0, 3, 4, 5, 6])) .skip (some [0, 3, 4, 5, 6]))) c80_t) = U at *
   generalize rulesSl rb rs = x1 at *
   simp [-AV.notTup, hvt, n1, notTup_ptr, c80_r7, abin_quo, abin_rem, w1, hz]
   simpa using T
def In80 (h₀ : Heap) (v : AV) (l : List Int) (m : Nat) (σ : St) : Prop := ∃ rs rb h, m = 6 - rs.length ∧ RulesN rs ∧ σ = ⟨env80 v (rulesSl rb rs) (4 * rs.length), h⟩ ∧ RulesIn h rb rs ∧ (rs.length ≠ 0 → h₀.length ≤ rb) ∧ Only (fun _ => False) h₀ h
theorem rules_run {h : Heap} {v : AV} {l : List Int} (hv : Sl1 h v (intCells l)) (hok : slOK v) (hl : l.length ≤ 1000000) :
  ∃ rs rb h', D cfg 80 [v] h = some (rulesSl rb rs, h') ∧ RulesIn h' rb rs ∧ RulesN rs ∧ (rs.length ≠ 0 → h.length ≤ rb) ∧ Only (fun _ => False) h h' := by
 have hvt : v.notTup = true := by rcases hv with ⟨rfl, _⟩ | ⟨_, _, _, _, _, rfl, _, _⟩ <;> rfl
 have hlen := fun L => hv.len (t := 30) (e := 3) (by simp) (L := L)
 simp only [intCells_len] at hlen
 have key : ∃ r h', D cfg 80 [v] h = some (r, h') ∧ (∃ rs rb, r = rulesSl rb rs ∧ RulesIn h' rb rs ∧ RulesN rs ∧ (rs.length ≠ 0 → h.length ≤ rb) ∧ Only (fun _ => False) h h') := by
  refine call80 (R := fun r h' => ∃ rs rb, r = rulesSl rb rs ∧ RulesIn h' rb rs ∧ RulesN rs ∧ (rs.length ≠ 0 → h.length ≤ rb) ∧ Only (fun _ => False) h h') (args := [v]) (h := h) (by simp) ?_
  simp [-AV.notTup, hvt, c80, c80_r0, c80_r1, c80_r2]
  refine Wt.loop (In80 h v l) (m := 6) ⟨[], 0, h, rfl, ⟨by simp, fun k r hr => by simp at hr⟩, by simp [rulesSl, bufSl], ⟨fun e => absurd rfl e, fun r hr => by simp at hr, fun r hr => by simp at hr, fun r hr => by simp at hr⟩, fun e => absurd rfl e, .refl⟩ ?_
  rintro m σ ⟨rs, rb, h1, rfl, hN, rfl, RI, hrb, o1⟩
  have hcut : ∀ w i, cut (some [0, 3, 4]) (env80 v w i) = env80 v w i := fun _ _ => by simp
  simp only [hcut]
  have n1 : (rulesSl rb rs).notTup = true := rulesSl_nt
  obtain ⟨i, hi⟩ : ∃ i, 4 * rs.length = i := ⟨_, rfl⟩
  rw [hi]
  have h6 := hN.1
  have w3 : IntKind.wrap .i64 ((i : Int) + 3) = i + 3 := wrap_i64 (by omega) (by omega)
  have w4 : IntKind.wrap .i64 ((i : Int) + 4) = i + 4 := wrap_i64 (by omega) (by omega)
  by_cases hgo : i + 3 < l.length ∧ i < 24
  · obtain ⟨q1, q2⟩ := hgo
    have q1' : (i : Int) + 3 < l.length := by omega
    have q2' : (i : Int) < 24 := by omega
    have hi' : i < l.length := by omega
    have a1 := hv.at (t := 30) (e := 3) (by simp) (by simp) (i := i) (by rw [intCells_len]; exact hi')
    have b1 := (hv.same o1).load (e := 3) (by simp) (i := i) (by rw [intCells_len]; exact hi')
    rw [intCells_get] at b1
    have p1 := place_run (h := h1) (v := l[i]) (n := 16777216) (by decide) (by decide)
    obtain ⟨x, hx⟩ : ∃ x, x = l[i] % 16777216 := ⟨_, rfl⟩
    rw [← hx] at p1
    have hx0 : 0 ≤ x ∧ x < 16777216 := by omega
    have g8 := div_fact hx0.1 (n := 8) (by decide)
    have g32 := div_fact hx0.1 (n := 32) (by decide)
    have g128 := div_fact hx0.1 (n := 128) (by decide)
    have g512 := div_fact hx0.1 (n := 512) (by decide)
    obtain ⟨ac, ha1, ha4, hac⟩ := idx8 (mod_fact hx0.1 (n := 8) (by decide))
    obtain ⟨pr, hpr⟩ := idx4 (p := 6) (q := 6) (r := 0) (s := 17) (mod_fact g8.1 (n := 4) (by decide))
    obtain ⟨fl, hfl⟩ := idx4 (p := 0) (q := 1) (r := 2) (s := 0) (mod_fact g32.1 (n := 4) (by decide))
    have w8 : IntKind.wrap .i64 (x.tdiv 8) = x.tdiv 8 := wrap_i64 (by omega) (by omega)
    have w32 : IntKind.wrap .i64 (x.tdiv 32) = x.tdiv 32 := wrap_i64 (by omega) (by omega)
    have w128 : IntKind.wrap .i64 (x.tdiv 128) = x.tdiv 128 := wrap_i64 (by omega) (by omega)
    have w512 : IntKind.wrap .i64 (x.tdiv 512) = x.tdiv 512 := wrap_i64 (by omega) (by omega)
    obtain ⟨bo, hbo⟩ : ∃ bo, decide ((x.tdiv 128).tmod 4 = 0) = bo := ⟨_, rfl⟩
    obtain ⟨si, hsi⟩ : ∃ si, IntKind.wrap .i64 (100 + (i : Int)) = si := ⟨_, rfl⟩
    have hsi' : si = 100 + 4 * rs.length := by rw [← hsi, wrap_i64 (by omega) (by omega)]; omega
    obtain ⟨re, hre⟩ : ∃ re, IntKind.wrap .i64 (1 + (x.tdiv 512).tmod 3) = re := ⟨_, rfl⟩
    obtain ⟨h2, hh2⟩ : ∃ h2, h1 ++ [.cells (box80 ac pr false (.sl none 0 0) false (.sl none 0 0) bo fl (.sl none 0 0) si re) 107 false] = h2 := ⟨_, rfl⟩
    have o2 : Only (fun _ => False) h1 h2 := by rw [← hh2]; exact .app
    have b2 : h2[h1.length]? = some (.cells (box80 ac pr false (.sl none 0 0) false (.sl none 0 0) bo fl (.sl none 0 0) si re) 107 false) := by rw [← hh2]; simp
    have M := fun Q hq => mid80 (Q := Q) hv hok (i := i) (by omega) (by omega) hx0 RI (by omega) hrb o1 o2 (Nat.le_refl _) b2 hq
    simp only [box80] at hh2
    rw [c80_l3_eq]
    have l0 : rs.length < 6 := by omega
    simp only [env80] at M
    obtain ⟨x1, hx1⟩ : ∃ x1, rulesSl rb rs = x1 := ⟨_, rfl⟩
    rw [hx1] at n1 M ⊢
    simp [-AV.notTup, hvt, n1, notTup_ptr, c80_r3, c80_r5, c80_r6, len1, hlen, w3, q1', q2', q2, a1, b1, p1, abuild, afill, zeros, splice, abin_quo, abin_rem, hac, w8, hpr, w32, hfl, w128, hbo, hsi, w512, hre, astore, hh2]
    refine M _ fun h' rb' cv zs rc rok zf z3 J hb' o' => ?_
    have hnext : In80 h v l (6 - (rs.length + 1)) ⟨env80 v (rulesSl rb' (rs ++ [⟨rc, ac, si, cv, zs⟩])) (i + 4), h'⟩ := by
     refine ⟨rs ++ [⟨rc, ac, si, cv, zs⟩], rb', h', by simp, ⟨by simp; omega, fun k r hr => ?_⟩, by rw [List.length_append, ← hi]; simp [Nat.mul_add], J, fun _ => hb', o'⟩
     by_cases hk : k < rs.length
     · rw [List.getElem?_append_left hk] at hr
       exact hN.2 k r hr
     · rw [List.getElem?_append_right (by omega)] at hr
       have hk0 : k - rs.length = 0 := by
        by_cases e : k - rs.length = 0
        · exact e
        · rw [List.getElem?_eq_none (by simp; omega)] at hr; simp at hr
       rw [hk0] at hr
       simp at hr
       subst hr
       have hk2 : k = rs.length := by omega
       subst hk2
       exact ⟨hsi', ⟨ha1, ha4⟩, z3, zf⟩
    have n2 : (rulesSl rb' (rs ++ [⟨rc, ac, si, cv, zs⟩])).notTup = true := rulesSl_nt
    simp only [env80] at hnext
    generalize rulesSl rb' (rs ++ [⟨rc, ac, si, cv, zs⟩]) = x2 at *
    simp [-AV.notTup, hvt, n2, c80_r4, w4]
    exact ⟨6 - (rs.length + 1), by omega, by simpa using hnext⟩
  · have hfin : ∃ rs' rb', rulesSl rb rs = rulesSl rb' rs' ∧ RulesIn h1 rb' rs' ∧ RulesN rs' ∧ (rs'.length ≠ 0 → h.length ≤ rb') ∧ Only (fun _ => False) h h1 := ⟨rs, rb, rfl, RI, hN, hrb, o1⟩
    obtain ⟨x1, hx1⟩ : ∃ x1, rulesSl rb rs = x1 := ⟨_, rfl⟩
    rw [hx1] at n1 hfin ⊢
    by_cases q1 : i + 3 < l.length
    · have q2 : ¬ (i < 24) := fun h => hgo ⟨q1, h⟩
      have q1' : (i : Int) + 3 < l.length := by omega
      have q2' : ¬ ((i : Int) < 24) := by omega
      simp [-AV.notTup, hvt, n1, c80_l3, c80_r3, c80_r14, len1, hlen, w3, q1', q2, q2']
      simpa using hfin
    · have q1' : ¬ ((i : Int) + 3 < l.length) := by omega
      simp [-AV.notTup, hvt, n1, c80_l3, c80_r3, c80_r14, len1, hlen, w3, q1']
      simpa using hfin
 obtain ⟨r, h', e, rs, rb, rfl, h1, h2, h3, h4⟩ := key
 exact ⟨rs, rb, h', e, h1, h2, h3, h4⟩
theorem notes_flds {h : Heap} {v : AV} {ns : List Note} {nk : Nat} (h1 : v = notesSl nk ns) (h2 : ns.length ≠ 0 → h[nk]? = some (.cells (notesC ns) 99 true)) : ∀ (i : Nat) (x : Note), ns[i]? = some x →
  aindexAddr Try.prog 94 v (.int .i64 i) = some (.ptr (some ⟨nk, i * 4, (notesC ns).length⟩)) ∧
  aload Try.prog (look h) 3 (.ptr (some ⟨nk, i * 4, (notesC ns).length⟩)) = some (.int .i64 x.sid) ∧
  aload Try.prog (look h) 3 (.ptr (some ⟨nk, i * 4 + 1, (notesC ns).length⟩)) = some (.int .i64 0) ∧
  aload Try.prog (look h) 3 (.ptr (some ⟨nk, i * 4 + 2, (notesC ns).length⟩)) = some (.int .i64 x.at_) ∧
  aload Try.prog (look h) 3 (.ptr (some ⟨nk, i * 4 + 3, (notesC ns).length⟩)) = some (.int .i64 x.action) := by
 subst h1
 intro i x hx
 obtain ⟨hi, hxe⟩ := List.getElem?_eq_some_iff.1 hx
 have hne : ns.length ≠ 0 := by omega
 have hb := h2 hne
 have hd := notesC_drop hi
 rw [hxe] at hd
 have hi' : (i : Int) < ns.length := by omega
 have get : ∀ k, k < 4 → (notesC ns)[i * 4 + k]? = (noteC x)[k]? := fun k hk => by
  rw [← hd, List.getElem?_take, if_pos hk, List.getElem?_drop]
 have g0 := get 0 (by decide)
 have g1 := get 1 (by decide)
 have g2 := get 2 (by decide)
 have g3 := get 3 (by decide)
 rw [Nat.add_zero] at g0
 simp only [noteC] at g0 g1 g2 g3
 refine ⟨?_, ?_, ?_, ?_, ?_⟩
 · unfold notesSl bufSl
   rw [if_neg hne]
   simp [aindexAddr, hi, hi']
 · simp [aload, AM.row, hb, g0]
 · simp [aload, AM.row, hb, g1]
 · simp [aload, AM.row, hb, g2]
 · simp [aload, AM.row, hb, g3]
theorem stepT_atle {T : TS} {e : List Bool} : (stepT T e).at_ ≤ T.at_ + 1 := by
 unfold stepT
 split <;> simp
def keyA (s : AskS) : Int × Int × Bool := (s.sid, s.action, s.over)
theorem key_at {sl sl' : List AskS} (h : sl'.map keyA = sl.map keyA) {k : Nat} {s' : AskS} (hs : sl'[k]? = some s') : ∃ s, sl[k]? = some s ∧ keyA s' = keyA s := by
 have h1 : (sl'.map keyA)[k]? = some (keyA s') := by simp [hs]
 rw [h, List.getElem?_map] at h1
 cases h2 : sl[k]? with
 | none => rw [h2] at h1; simp at h1
 | some s => rw [h2] at h1; simp at h1; exact ⟨s, rfl, h1.symm⟩
theorem stepS_key {stp : AskS → TS} {n : Nat} {s : AskS} : (stepS stp s).sid = s.sid ∧ (stepS stp s).action = s.action ∧ (s.over = true → (stepS stp s).over = true) ∧ ((stepS stp s).over = true ∨ stepN stp n s = []) ∧ (s.over = false → stepN stp n s ≠ [] → (stepS stp s).over = true) := by
 unfold stepS stepN
 cases ho : s.over with
 | true => simp [ho]
 | false =>
  simp only [Bool.false_eq_true, if_false]
  unfold toldS toldN
  cases hh : (stp s).holds <;> cases hv : (stp s).over <;> simp [ho]
def SlN (k0 : Nat) (sl : List AskS) : Prop := ∀ k s, sl[k]? = some s → s.sid = 100 + 4 * ((k0 + k : Nat) : Int) ∧ 1 ≤ s.action ∧ s.action ≤ 4
theorem SlN.key {k0 : Nat} {sl sl' : List AskS} (H : SlN k0 sl) (h : sl'.map keyA = sl.map keyA) : SlN k0 sl' := fun k s hs => by
 obtain ⟨t, ht, e⟩ := key_at h hs
 have := H k t ht
 simp only [keyA, Prod.mk.injEq] at e
 rw [e.1, e.2.1]
 exact this
theorem SlN.step {k0 : Nat} {sl : List AskS} (H : SlN k0 sl) (stp : AskS → TS) : SlN k0 (sl.map (stepS stp)) := fun k s hs => by
 simp only [List.getElem?_map, Option.map_eq_some_iff] at hs
 obtain ⟨t, ht, rfl⟩ := hs
 obtain ⟨e1, e2, _⟩ := stepS_key (n := 0) (stp := stp) (s := t)
 rw [e1, e2]
 exact H k t ht
theorem SlN.tail {k0 : Nat} {s : AskS} {sl : List AskS} (H : SlN k0 (s :: sl)) : SlN (k0 + 1) sl := fun k t ht => by
 have := H (k + 1) t (by simpa using ht)
 rw [show k0 + (k + 1) = k0 + 1 + k by omega] at this
 exact this
def ToldBy (arr : List Bool) (sl : List AskS) : Prop := ∀ i : Nat, arr[i]? = some true → ∃ (k : Nat) (s : AskS), sl[k]? = some s ∧ s.sid = i ∧ s.over = true
theorem ToldBy.key {arr : List Bool} {sl sl' : List AskS} (H : ToldBy arr sl) (h : sl'.map keyA = sl.map keyA) : ToldBy arr sl' := fun i hi => by
 obtain ⟨k, s, hk, e1, e2⟩ := H i hi
 obtain ⟨t, ht, e⟩ := key_at h.symm hk
 simp only [keyA, Prod.mk.injEq] at e
 exact ⟨k, t, ht, by rw [← e.1]; exact e1, by rw [← e.2.2]; exact e2⟩
theorem selL_all {rs : List RuleV} : selL rs ((List.range rs.length).map fun (i : Nat) => (i : Int)) = rs := by
 have key : ∀ n, n ≤ rs.length → selL rs ((List.range n).map fun (i : Nat) => (i : Int)) = rs.take n := by
  intro n
  induction n with
  | zero => intro _; simp [selL]
  | succ n ih =>
   intro hn
   have h1 : selOne rs (n : Int) = some rs[n] := by
    unfold selOne
    rw [if_neg (by omega), Int.toNat_natCast]
    exact List.getElem?_eq_getElem (by omega)
   have h2 := ih (by omega)
   simp only [selL] at h2 ⊢
   rw [List.range_succ, List.map_append, List.filterMap_append, h2, List.take_succ_eq_append_getElem (by omega)]
   simp [h1]
 rw [key _ (Nat.le_refl _), List.take_length]
section
section
variable {h : Heap} {xb lb cb sb : Nat} {lv nv : AV} {BB : AB} {al : List AskH} {sl : List AskS} {ct : List (Nat × Nat)} {pl : List Txt} {nc : List Bool} {w : Txt} {tab : Nat → Nat → Nat} {fl ob : Nat → Nat} {ou : Nat → List Int}
theorem SideAt.keep (H : SideAt h xb lb cb sb lv nv BB al sl ct pl nc w tab fl ob ou) {h' : Heap} {fp : Nat → Prop} (ho : Only fp h h')
  (hk : ∀ c, fp c → ∀ cs t g, h[c]? = some (.cells cs t g) → t ≠ 144 ∧ t ≠ 147 ∧ t ≠ 181 ∧ t ≠ 166 ∧ t ≠ 4 ∧ t ≠ 148 ∧ t ≠ 164 ∧ t ≠ 163 ∧ t ≠ 168) (hs : ∀ c, scFoot sb lv nv BB (begs (pl.map fold)).length ob ou c → ¬ fp c) :
  SideAt h' xb lb cb sb lv nv BB al sl ct pl nc w tab fl ob ou := by
 have out : ∀ {c : Nat} {cs' : List AV} {t : TypeId} {g : Bool}, h[c]? = some (.cells cs' t g) → (t = 144 ∨ t = 147 ∨ t = 181 ∨ t = 166 ∨ t = 4 ∨ t = 148 ∨ t = 164 ∨ t = 163 ∨ t = 168) → ¬ fp c := fun hc ht e => by
  obtain ⟨q1, q2, q3, q4, q5, q6, q7, q8, q9⟩ := hk _ e _ _ _ hc
  rcases ht with rfl | rfl | rfl | rfl | rfl | rfl | rfl | rfl | rfl
  · exact q1 rfl
  · exact q2 rfl
  · exact q3 rfl
  · exact q4 rfl
  · exact q5 rfl
  · exact q6 rfl
  · exact q7 rfl
  · exact q8 rfl
  · exact q9 rfl
 refine ⟨H.r.keep ho (out H.r.kx (by simp)) (fun hne => out (H.r.kl hne) (by simp)) (fun k a ha => ?_) (fun c cs t ht hc => out hc (by rcases ht with rfl | rfl <;> simp)), fun hne => ho.at (H.c hne) (out (H.c hne) (by simp)), H.s.keep ho hs, H.ok, H.cl, fun c hc => ?_⟩
 · obtain ⟨s, _, A⟩ := H.r.ak.get ha
   refine ⟨out A.hdr (by simp), out A.ends (by simp), fun c hc => ?_⟩
   obtain ⟨cs, t, q1, q2⟩ := A.trk.typ hc
   exact out q1 (by rcases q2 with e | e | e <;> simp [e])
 · obtain ⟨p1, p2, p3, p4⟩ := H.ap c hc
   exact ⟨Nat.lt_of_lt_of_le p1 ho.1, p2, p3, p4⟩
theorem SideAt.same (H : SideAt h xb lb cb sb lv nv BB al sl ct pl nc w tab fl ob ou) {h' : Heap} (ho : Only (fun _ => False) h h') : SideAt h' xb lb cb sb lv nv BB al sl ct pl nc w tab fl ob ou :=
 H.keep ho (fun _ e => e.elim) fun _ _ => id
theorem SideAt.out (H : SideAt h xb lb cb sb lv nv BB al sl ct pl nc w tab fl ob ou) {h' : Heap} (ho : Only (fun c => sideF xb sb al c ∨ h.length ≤ c) h h') {c : Nat} {cs : List AV} {t : TypeId} {g : Bool} (hc : h[c]? = some (.cells cs t g))
  (ht : t ≠ 163 ∧ t ≠ 136 ∧ t ≠ 166 ∧ t ≠ 144 ∧ t ≠ 147 ∧ t ≠ 181 ∧ t ≠ 4) : h'[c]? = some (.cells cs t g) := by
 refine ho.at hc fun e => ?_
 rcases e with e | e
 · obtain ⟨cs', t', g', h1, h2, _⟩ := H.typ e
   rw [hc] at h1
   simp only [Option.some.injEq, AObj.cells.injEq] at h1
   rw [← h1.2.1] at h2
   obtain ⟨q1, q2, q3, q4, q5, q6, q7⟩ := ht
   rcases h2 with e | e | e | e | e | e | e
   · exact q1 e
   · exact q2 e
   · exact q3 e
   · exact q4 e
   · exact q5 e
   · exact q6 e
   · exact q7 e
 · have := lt_of_at hc; omega
end
theorem stepS_T {stp : AskS → TS} {s : AskS} : (stepS stp s).T = s.T ∨ (stepS stp s).T = stp s := by
 unfold stepS
 split
 · exact .inl rfl
 · unfold toldS
   split <;> exact .inr rfl
theorem stepSl_at {ct : List (Nat × Nat)} {sl : List AskS} {zs : List Int} {n : Nat} (h : ∀ s ∈ sl, s.T.at_ ≤ n) : ∀ s ∈ stepSl ct sl zs, s.T.at_ ≤ n + 1 := by
 intro s hs
 obtain ⟨t, ht, e⟩ := setsTo_T hs
 obtain ⟨u, hu, rfl⟩ := List.mem_map.1 ht
 obtain ⟨x, hx, e2⟩ := setsTo_T hu
 have h1 := h x hx
 rw [e]
 rcases stepS_T (stp := stpS) (s := u) with h3 | h3
 · rw [h3, e2]; omega
 · rw [h3]
   have := stepT_atle (T := u.T) (e := u.ends)
   rw [e2] at this
   show (stepT u.T u.ends).at_ ≤ n + 1
   rw [e2]; omega
theorem stepSl_len {ct : List (Nat × Nat)} {sl : List AskS} {zs : List Int} : (stepSl ct sl zs).length = sl.length := by
 unfold stepSl
 rw [setsTo_len, List.length_map, setsTo_len]
theorem newTo_at {l : List Cont} {most : Nat} : ∀ {k : Nat}, (newTo l most k).at_ = 0 := (newTo_most).2.1
end
section
structure SP where
 xb : Nat
 lb : Nat
 cb : Nat
 sb : Nat
 lv : AV
 nv : AV
 BB : AB
 tab : Nat → Nat → Nat
 fl : Nat → Nat
 ob : Nat → Nat
 ou : Nat → List Int
abbrev SQ (h : Heap) (p : SP) (al : List AskH) (sl : List AskS) (ct : List (Nat × Nat)) (pl : List Txt) (nc : List Bool) (w : Txt) : Prop := SideAt h p.xb p.lb p.cb p.sb p.lv p.nv p.BB al sl ct pl nc w p.tab p.fl p.ob p.ou
abbrev sF (p : SP) (al : List AskH) (c : Nat) : Prop := sideF p.xb p.sb al c
abbrev cF (p : SP) (pl : List Txt) (c : Nat) : Prop := scFoot p.sb p.lv p.nv p.BB (begs (pl.map fold)).length p.ob p.ou c
def Ap (p : SP) (al : List AskH) (q : SP) (al' : List AskH) (pl : List Txt) : Prop := ∀ c, sF p al c → ¬ sF q al' c ∧ ¬ cF q pl c
section
variable {h h' : Heap} {p q : SP} {al al' al2 : List AskH} {sl sl' : List AskS} {ct ct' : List (Nat × Nat)} {pl pl' : List Txt} {nc nc' : List Bool} {w w' : Txt}
theorem SQ.other (Z : SQ h q al' sl' ct' pl' nc' w') (X : SQ h p al sl ct pl nc w) (A : Ap p al q al' pl') (ho : Only (fun c => sF p al c ∨ h.length ≤ c) h h') : SQ h' q al' sl' ct' pl' nc' w' := by
 have grow : ∀ {c : Nat} {cs : List AV} {t : TypeId}, h[c]? = some (.cells cs t true) → t ≠ 4 → ¬ (sF p al c ∨ h.length ≤ c) := fun hc ht e => by
  rcases e with e | e
  · obtain ⟨cs', t', g', h1, _, h3⟩ := X.typ e
    rw [hc] at h1
    simp only [Option.some.injEq, AObj.cells.injEq] at h1
    exact ht (by rw [h1.2.1]; exact h3 h1.2.2.symm)
  · have := lt_of_at hc; omega
 have mine : ∀ {c : Nat}, sF q al' c → ¬ (sF p al c ∨ h.length ≤ c) := fun hc e => by
  rcases e with e | e
  · exact (A _ e).1 hc
  · have := Z.lt hc; omega
 refine ⟨Z.r.keep ho (mine (.inl rfl)) (fun hne => grow (Z.r.kl hne) (by decide)) (fun k a ha => ⟨mine (.inr (.inr (.inl ⟨k, a, ha, .inl rfl⟩))), mine (.inr (.inr (.inr ⟨k, a, ha, rfl⟩))), fun c hc => mine (.inr (.inr (.inl ⟨k, a, ha, .inr hc⟩)))⟩) (fun c cs t ht hc => grow hc (by rcases ht with rfl | rfl <;> decide)),
  fun hne => ho.at (Z.c hne) (grow (Z.c hne) (by decide)), Z.s.keep ho fun c hc e => ?_, Z.ok, Z.cl, fun c hc => ?_⟩
 · rcases e with e | e
   · exact (A _ e).2 hc
   · have := (Z.ap c hc).1; omega
 · obtain ⟨p1, p2, p3, p4⟩ := Z.ap c hc
   exact ⟨Nat.lt_of_lt_of_le p1 ho.1, p2, p3, p4⟩
theorem Ap.left (A : Ap p al q al' pl) (Q : SQ h q al' sl' ct' pl nc' w') (hf : ∀ c, sF p al2 c → sF p al c ∨ h.length ≤ c) : Ap p al2 q al' pl := fun c hc => by
 rcases hf c hc with e | e
 · exact A c e
 · exact ⟨fun e2 => by have := Q.lt e2; omega, fun e2 => by have := (Q.ap c e2).1; omega⟩
theorem Ap.right (A : Ap q al' p al pl) (Q : SQ h q al' sl' ct' pl' nc' w') (hf : ∀ c, sF p al2 c → sF p al c ∨ h.length ≤ c) : Ap q al' p al2 pl := fun c hc => by
 obtain ⟨h1, h2⟩ := A c hc
 refine ⟨fun e => ?_, h2⟩
 rcases hf c e with e | e
 · exact h1 e
 · have := Q.lt hc; omega
theorem Ap.new {h₀ : Heap} (Q : SQ h₀ q al' sl' ct' pl' nc' w') (hs : ∀ c, sF p al c → h₀.length ≤ c) (hc : ∀ c, cF p pl c → h₀.length ≤ c) : Ap p al q al' pl' ∧ Ap q al' p al pl :=
 ⟨fun c h1 => ⟨fun e => by have := Q.lt e; have := hs c h1; omega, fun e => by have := (Q.ap c e).1; have := hs c h1; omega⟩,
  fun c h1 => ⟨fun e => by have := Q.lt h1; have := hs c e; omega, fun e => by have := Q.lt h1; have := hc c e; omega⟩⟩
end
abbrev env89 (v u : AV) (i : Nat) : Env := [(0, v), (1, u), (5, .int .i64 i)]
def In89 (h : Heap) (v u : AV) (N : Nat) (m : Nat) (σ : St) : Prop := ∃ i, m = N - i ∧ i ≤ N ∧ σ = ⟨env89 v u i, h⟩
theorem same_notes {h : Heap} {v u : AV} {ns : List Note} (H : NotesAt h v ns) (H' : NotesAt h u ns) (hvt : v.notTup = true) (hut : u.notTup = true) (hl : ns.length ≤ 1000000) : D cfg 89 [v, u] h = some (.bool true, h) := by
 refine D_eq (call89 (R := fun r h' => r = _ ∧ h' = _) (by simp) ?_)
 have nl := fun L => H.len (L := L)
 have nl' := fun L => H'.len (L := L)
 obtain ⟨nk, hnv, hnb⟩ := H
 obtain ⟨mk, hmv, hmb⟩ := H'
 have hf := notes_flds hnv hnb
 have hf' := notes_flds hmv hmb
 simp [-AV.notTup, hvt, hut, c89, c89_r0, c89_r1, c89_r3, len1, nl, nl']
 refine Wt.loop (In89 h v u ns.length) (m := ns.length) ⟨0, rfl, Nat.zero_le _, rfl⟩ ?_
 rintro m σ ⟨i, rfl, hi, rfl⟩
 have hcut : cut (some [0, 1, 5]) (env89 v u i) = env89 v u i := by simp
 simp only [hcut]
 by_cases hil : i < ns.length
 · have hil' : (i : Int) < ns.length := by omega
   have hwr : IntKind.wrap .i64 ((i : Int) + 1) = i + 1 := wrap_i64 (by omega) (by omega)
   obtain ⟨x, hx⟩ : ∃ x, ns[i]? = some x := ⟨_, List.getElem?_eq_getElem hil⟩
   obtain ⟨a0, l0, l1, l2, l3⟩ := hf i x hx
   obtain ⟨b0, m0, m1, m2, m3⟩ := hf' i x hx
   have hnext : In89 h v u ns.length (ns.length - (i + 1)) ⟨env89 v u (i + 1), h⟩ := ⟨i + 1, rfl, hil, rfl⟩
   simp only [env89] at hnext
   generalize (notesC ns).length = G at *
   simp [-AV.notTup, hvt, hut, c89_l4, c89_r4, c89_r5, c89_r6, len1, nl, hil, hil', a0, b0, fieldA, l0, l1, l2, l3, m0, m1, m2, m3, hwr]
   exact ⟨ns.length - (i + 1), by omega, by simpa using hnext⟩
 · have hi2 : i = ns.length := by omega
   subst hi2
   simp [-AV.notTup, hvt, hut, c89_l4, c89_r4, c89_r8, len1, nl]
   rfl
end
section
structure E3 (h : Heap) (p q r : SP) (lp lq lr : List AskH) (sp sq sr : List AskS) (ct : List (Nat × Nat)) (pl : List Txt) (nc : List Bool) (wp wq wr : Txt) (n : Nat) : Prop where
 P : SQ h p lp sp ct pl nc wp
 Q : SQ h q lq sq ct pl nc wq
 R : SQ h r lr sr ct pl nc wr
 pq : Ap p lp q lq pl
 qp : Ap q lq p lp pl
 qr : Ap q lq r lr pl
 rq : Ap r lr q lq pl
 rp : Ap r lr p lp pl
 pr : Ap p lp r lr pl
 lenP : sp.length ≤ 1000
 lenQ : sq.length ≤ 1000
 lenR : sr.length ≤ 1000
 atP : ∀ s ∈ sp, s.T.at_ ≤ n
 atQ : ∀ s ∈ sq, s.T.at_ ≤ n
 atR : ∀ s ∈ sr, s.T.at_ ≤ n
section
variable {h h' : Heap} {p q r : SP} {lp lq lr : List AskH} {sp sq sr : List AskS} {ct : List (Nat × Nat)} {pl : List Txt} {nc : List Bool} {wp wq wr : Txt} {n : Nat}
theorem E3.rot (I : E3 h p q r lp lq lr sp sq sr ct pl nc wp wq wr n) : E3 h q r p lq lr lp sq sr sp ct pl nc wq wr wp n :=
 ⟨I.Q, I.R, I.P, I.qr, I.rq, I.rp, I.pr, I.pq, I.qp, I.lenQ, I.lenR, I.lenP, I.atQ, I.atR, I.atP⟩
theorem E3.same (I : E3 h p q r lp lq lr sp sq sr ct pl nc wp wq wr n) (ho : Only (fun _ => False) h h') : E3 h' p q r lp lq lr sp sq sr ct pl nc wp wq wr n :=
 ⟨SideAt.same I.P ho, SideAt.same I.Q ho, SideAt.same I.R ho, I.pq, I.qp, I.qr, I.rq, I.rp, I.pr, I.lenP, I.lenQ, I.lenR, I.atP, I.atQ, I.atR⟩
theorem E3.turn (I : E3 h p q r lp lq lr sp sq sr ct pl nc wp wq wr n) {lp' : List AskH} {sp' : List AskS} {wp' : Txt} {m : Nat} (hm : n ≤ m) (S : SQ h' p lp' sp' ct pl nc wp') (ho : Only (fun c => sF p lp c ∨ h.length ≤ c) h h') (hf : ∀ c, sF p lp' c → sF p lp c ∨ h.length ≤ c)
  (hl : sp'.length ≤ 1000) (ha : ∀ s ∈ sp', s.T.at_ ≤ m) : E3 h' p q r lp' lq lr sp' sq sr ct pl nc wp' wq wr m :=
 ⟨S, SQ.other I.Q I.P I.pq ho, SQ.other I.R I.P I.pr ho, I.pq.left I.Q hf, I.qp.right I.Q hf, I.qr, I.rq, I.rp.right I.R hf, I.pr.left I.R hf, hl, I.lenQ, I.lenR, ha, fun s hs => Nat.le_trans (I.atQ s hs) hm, fun s hs => Nat.le_trans (I.atR s hs) hm⟩
theorem E3.step (I : E3 h p q r lp lq lr sp sq sr ct pl nc wp wq wr n) (hn : n ≤ 100000) (hw : wp.length ≤ 100000) {b : UInt8} {zs : List Int} (hzs : zs = scHits nc (wp ++ [b]) pl 0) {ns : List Note} (hns : ns = toldNotes stpS (wp.length + 1) (setsTo true ct sp zs)) :
  ∃ v lp' h', D cfg1 83 [xPtr p.xb, .int .u8 b.toNat] h = some (.tup [v, .int .i64 (worstM ns)], h') ∧ NotesAt h' v ns ∧ v.notTup = true ∧ E3 h' p q r lp' lq lr (stepSl ct sp zs) sq sr ct pl nc (wp ++ [b]) wq wr (n + 1) ∧ ns.length ≤ 1001 ∧ (∀ u ms, NotesAt h u ms → NotesAt h' u ms) := by
 obtain ⟨v, lp', h', e, N, hv, S, ho, hf⟩ := step_side I.P I.lenP (fun s hs => by have := I.atP s hs; omega) hw hzs hns
 refine ⟨v, lp', h', e, N, hv, I.turn (by omega) S ho hf (by rw [stepSl_len]; exact I.lenP) (stepSl_at I.atP), ?_, fun u ms hu => hu.side I.P ho⟩
 have := toldNotes_len (stp := stpS) (n := wp.length + 1) (sl := setsTo true ct sp zs)
 rw [setsTo_len] at this
 have := I.lenP
 rw [hns]; omega
theorem E3.begin (I : E3 h p q r lp lq lr sp sq sr ct pl nc wp wq wr n) {ns : List Note} (hns : ns = toldNotes (fun s => s.T) wp.length sp) :
  ∃ v lp' h', D cfg1 82 [xPtr p.xb] h = some (.tup [v, .int .i64 (worstM ns)], h') ∧ NotesAt h' v ns ∧ v.notTup = true ∧ E3 h' p q r lp' lq lr (sp.map (stepS fun s => s.T)) sq sr ct pl nc wp wq wr n ∧ (∀ u ms, NotesAt h u ms → NotesAt h' u ms) := by
 obtain ⟨v, lp', h', e, N, hv, S, ho, hf⟩ := begin_side I.P I.lenP hns
 refine ⟨v, lp', h', e, N, hv, I.turn (Nat.le_refl _) S ho hf (by rw [List.length_map]; exact I.lenP) (fun s hs => ?_), fun u ms hu => hu.side I.P ho⟩
 obtain ⟨u, hu, rfl⟩ := List.mem_map.1 hs
 have := I.atP u hu
 rcases stepS_T (stp := fun s => s.T) (s := u) with e | e <;> rw [e] <;> omega
end
end
theorem SliceIn.ok {w : World} {k : Nat} {a : Option Addr} {len cap : Nat} {xs : List AV} {b : Nat} (h : SliceIn w k a len cap xs) : slOK (inSl b a len cap xs) := by
 rcases h with ⟨rfl, rfl, rfl, rfl⟩ | ⟨x, rfl, h1, _⟩
 · exact Nat.le_refl 0
 · exact h1
section
noncomputable abbrev F28 : CallF := mixed [79] (D cfg1)
theorem awake28c {h : Heap} : F28 79 [] h = some (.bool true, h) := awake24 rfl
theorem F28_D {f : FuncId} (hf : f ≠ 79) {args : List AV} {h : Heap} : F28 f args h = D cfg1 f args h := mixed_D (by simp [hf])
def upI (n : Nat) : List Int := (List.range n).map fun (i : Nat) => (i : Int)
theorem upI_len {n : Nat} : (upI n).length = n := by simp [upI]
theorem upI_succ {n : Nat} : upI (n + 1) = upI n ++ [(n : Int)] := by simp [upI, List.range_succ]
abbrev env28a (u u2 rv w : AV) (i : Nat) : Env := [(1, u), (2, u2), (7, rv), (8, w), (9, .int .i64 i)]
def In28a (h₀ : Heap) (u u2 rv : AV) (N : Nat) (m : Nat) (σ : St) : Prop := ∃ i b h, m = N - i ∧ i ≤ N ∧ σ = ⟨env28a u u2 rv (intSl b (upI i)) i, h⟩ ∧ (upI i ≠ [] → h[b]? = some (.cells (intCells (upI i)) 3 true) ∧ h₀.length ≤ b) ∧ Only (fun _ => False) h₀ h
theorem ups_loop {h₀ : Heap} {u u2 rv : AV} {N : Nat} (hN : N ≤ 100) (hut : u.notTup = true) (hu2 : u2.notTup = true) (hrt : rv.notTup = true) (hlen : ∀ L, alen Try.prog L 89 rv = some (.int .i64 N)) {Q : AExit → St → Prop}
  (hq : ∀ h b, (upI N ≠ [] → h[b]? = some (.cells (intCells (upI N)) 3 true)) → Only (fun _ => False) h₀ h → Q (.exit 0) ⟨env28a u u2 rv (intSl b (upI N)) N ++ [(39, .bool false)], h⟩) :
  Wt Try.prog F28 (.loop c28_l6 (some [1, 2, 7, 8, 9])) ⟨env28a u u2 rv (.sl none 0 0) 0, h₀⟩ Q := by
 refine Wt.loop (In28a h₀ u u2 rv N) (m := N) ⟨0, 0, h₀, rfl, Nat.zero_le _, by simp [upI, intSl, bufSl], fun e => absurd rfl e, .refl⟩ ?_
 rintro m σ ⟨i, b, h, rfl, hi, rfl, hb, ho⟩
 have hcut : ∀ w, cut (some [1, 2, 7, 8, 9]) (env28a u u2 rv w i) = env28a u u2 rv w i := fun _ => by simp
 simp only [hcut]
 have n1 : (intSl b (upI i)).notTup = true := intSl_notTup
 by_cases hil : i < N
 · have hil' : (i : Int) < N := by omega
   have hwr : IntKind.wrap .i64 ((i : Int) + 1) = i + 1 := wrap_i64 (by omega) (by omega)
   obtain ⟨δ, h', e1, e2, d, o⟩ := append_int (h := h) (b := b) (l := upI i) (x := (i : Int)) (fun hne => (hb hne).1) (by rw [upI_len]; omega)
   rw [← upI_succ] at e1 d
   obtain ⟨b', hb'⟩ : ∃ y, (if upI i = [] then h.length + 1 else b) = y := ⟨_, rfl⟩
   rw [hb'] at e1 d
   have hnext : In28a h₀ u u2 rv N (N - (i + 1)) ⟨env28a u u2 rv (intSl b' (upI (i + 1))) (i + 1), h'⟩ := by
    refine ⟨i + 1, b', h', rfl, hil, rfl, fun _ => ⟨d, ?_⟩, ho.fresh o fun c hc => by rw [hc.1]; exact (hb hc.2).2⟩
    rw [← hb']
    have := ho.1
    split
    · omega
    · rename_i hz; exact (hb hz).2
   have n2 : (intSl b' (upI (i + 1))).notTup = true := intSl_notTup
   simp only [env28a] at hnext
   generalize intSl b (upI i) = x1 at *
   generalize intSl b' (upI (i + 1)) = x2 at *
   simp [-AV.notTup, hut, hu2, hrt, n1, n2, notTup_ptr, c28_l6, c28_r6, c28_r7, c28_r8, len1, hlen, hil, hil', abuildSlice, afill, zeros, splice, e1, e2, hwr]
   exact ⟨N - (i + 1), by omega, by simpa using hnext⟩
 · have hi2 : i = N := by omega
   subst hi2
   have hfin := hq h b (fun hne => (hb hne).1) ho
   simp only [env28a] at hfin
   generalize intSl b (upI i) = x1 at *
   simp [-AV.notTup, hut, hu2, hrt, n1, notTup_ptr, c28_l6, c28_r6, len1, hlen]
   simpa using hfin
section
variable {px py pz : SP} {ct : List (Nat × Nat)} {pl : List Txt} {nc : List Bool}
abbrev env28 (px py pz : SP) (s t : Txt) (i : Nat) : Env := [(10, xPtr px.xb), (11, xPtr py.xb), (12, xPtr pz.xb), (13, .str s), (14, .str t), (15, .int .i64 i)]
def In28 (px py pz : SP) (ct : List (Nat × Nat)) (pl : List Txt) (nc : List Bool) (s t : Txt) (m : Nat) (σ : St) : Prop :=
 ∃ i lx ly lz sx sy h, m = max s.length t.length - i ∧ i ≤ max s.length t.length ∧ σ = ⟨env28 px py pz s t i, h⟩ ∧ E3 h px py pz lx ly lz sx sy sx ct pl nc (s.take i) (t.take i) (s.take i) (3 * i)
theorem both28 {h : Heap} {lx ly lz : List AskH} {sx sy : List AskS} {s wy : Txt} {i n : Nat} (hs : s.length ≤ 100) (hi : i < s.length) (hn : n ≤ 1000) (I : E3 h px py pz lx ly lz sx sy sx ct pl nc (s.take i) wy (s.take i) n) {b : UInt8} (hb : s[i]? = some b) :
  ∃ v u W lx' lz' sx' h1 h2 h3 h4, D cfg1 83 [xPtr px.xb, .int .u8 b.toNat] h = some (.tup [v, .int .i64 W], h1) ∧ D cfg1 83 [xPtr pz.xb, .int .u8 b.toNat] h1 = some (.tup [u, .int .i64 W], h2) ∧ v.notTup = true ∧ u.notTup = true ∧
   D cfg1 89 [v, u] h2 = some (.bool true, h2) ∧ D cfg1 85 [xPtr px.xb] h2 = some (.int .i64 (candsM sx'), h3) ∧ D cfg1 85 [xPtr pz.xb] h3 = some (.int .i64 (candsM sx'), h4) ∧
   E3 h4 px py pz lx' ly lz' sx' sy sx' ct pl nc (s.take (i + 1)) wy (s.take (i + 1)) (n + 2) := by
 have hwl : (s.take i).length = i := by rw [List.length_take]; omega
 have htk : s.take i ++ [b] = s.take (i + 1) := by
  rw [List.take_succ_eq_append_getElem hi, (List.getElem?_eq_some_iff.1 hb).2]
 obtain ⟨zs, hzs⟩ : ∃ zs, zs = scHits nc (s.take i ++ [b]) pl 0 := ⟨_, rfl⟩
 obtain ⟨ns, hns⟩ : ∃ ns, ns = toldNotes stpS ((s.take i).length + 1) (setsTo true ct sx zs) := ⟨_, rfl⟩
 obtain ⟨v, lx', h1, e1, N1, v1, I1, l1, k1⟩ := I.step (by omega) (by omega) hzs hns
 obtain ⟨u, lz', h2, e2, N2, v2, I2, l2, k2⟩ := I1.rot.rot.step (by omega) (by omega) hzs hns
 have I2' := I2.rot
 have e3 := lift (same_notes (k2 v ns N1) N2 v1 v2 (by omega))
 obtain ⟨h3, e4, _, o3⟩ := cands_run I2'.lenP I2'.P.r
 have I3 := I2'.same o3
 obtain ⟨h4, e5, _, o4⟩ := cands_run I3.lenR I3.R.r
 have I4 := I3.same o4
 rw [htk] at I4
 exact ⟨v, u, worstM ns, lx', lz', stepSl ct sx zs, h1, h2, h3, h4, e1, e2, v1, v2, e3, e4, e5, I4⟩
theorem ends_bytes {h : Heap} {s t : Txt} {lx ly lz : List AskH} {sx sy : List AskS} (hs : s.length ≤ 100) (ht : t.length ≤ 100) (I : E3 h px py pz lx ly lz sx sy sx ct pl nc [] [] [] 0) {Q : AExit → St → Prop}
  (hq : ∀ h' lx ly lz sx sy, E3 h' px py pz lx ly lz sx sy sx ct pl nc s t s 1000 → Q (.exit 2) ⟨env28 px py pz s t (max s.length t.length) ++ [(88, .bool false)], h'⟩) :
  Wt Try.prog F28 (.loop c28_l17 (some [10, 11, 12, 13, 14, 15])) ⟨env28 px py pz s t 0, h⟩ Q := by
 refine Wt.loop (In28 px py pz ct pl nc s t) (m := max s.length t.length) ⟨0, lx, ly, lz, sx, sy, h, rfl, Nat.zero_le _, rfl, by simpa using I⟩ ?_
 rintro m σ ⟨i, lx1, ly1, lz1, sx1, sy1, h1, rfl, hi, rfl, I1⟩
 have hcut : cut (some [10, 11, 12, 13, 14, 15]) (env28 px py pz s t i) = env28 px py pz s t i := by simp
 simp only [hcut]
 have hwr : IntKind.wrap .i64 ((i : Int) + 1) = i + 1 := wrap_i64 (by omega) (by omega)
 by_cases hit : i < t.length
 · have hit' : (i : Int) < t.length := by omega
   obtain ⟨c, hc⟩ : ∃ c, t[i]? = some c := ⟨_, List.getElem?_eq_getElem hit⟩
   have hix : aindex Try.prog 9 (.str t) (.int .i64 (i : Int)) = some (.int .u8 (c.toNat : Int)) := by simp [aindex, hc]
   have htk : t.take i ++ [c] = t.take (i + 1) := by
    rw [List.take_succ_eq_append_getElem hit, (List.getElem?_eq_some_iff.1 hc).2]
   have htl : (t.take i).length ≤ 100 := by rw [List.length_take]; omega
   obtain ⟨v0, ly2, h2, e2, _, v0t, I2, _, _⟩ := I1.rot.step (by omega) (by omega) (b := c) rfl rfl
   have I2' := I2.rot.rot
   rw [htk] at I2'
   obtain ⟨sy2, hsy2⟩ : ∃ y, stepSl ct sy1 (scHits nc (t.take (i + 1)) pl 0) = y := ⟨_, rfl⟩
   rw [hsy2] at I2'
   obtain ⟨W0, hW0⟩ : ∃ W, worstM (toldNotes stpS ((t.take i).length + 1) (setsTo true ct sy1 (scHits nc (t.take (i + 1)) pl 0))) = W := ⟨_, rfl⟩
   rw [htk, hW0] at e2
   by_cases his : i < s.length
   · have his' : (i : Int) < s.length := by omega
     have his2 : ¬ ((s.length : Int) ≤ i) := by omega
     have his3 : ¬ (s.length ≤ i) := by omega
     obtain ⟨b, hb⟩ : ∃ b, s[i]? = some b := ⟨_, List.getElem?_eq_getElem his⟩
     have hib : aindex Try.prog 9 (.str s) (.int .i64 (i : Int)) = some (.int .u8 (b.toNat : Int)) := by simp [aindex, hb]
     obtain ⟨v, u, W, lx', lz', sx', h3, h4, h5, h6, e3, e4, vt, ut, e5, e6, e7, I6⟩ := both28 hs his (by omega) I2' hb
     have hnext : In28 px py pz ct pl nc s t (max s.length t.length - (i + 1)) ⟨env28 px py pz s t (i + 1), h6⟩ := by
      refine ⟨i + 1, lx', ly2, lz', sx', sy2, h6, rfl, by omega, rfl, ?_⟩
      have : 3 * (i + 1) = 3 * i + 1 + 2 := by omega
      rw [this]; exact I6
     simp only [env28] at hnext
     generalize candsM sx' = C at *
     simp [-AV.notTup, v0t, vt, ut, notTup_ptr, c28_l17, c28_r17, c28_r18, c28_r19, c28_r20, c28_r21, c28_r22, c28_r23, c28_r24, len1, alenS, his, his', his2, his3, hit, hit', hix, hib, F28_D, e2, e3, e4, extractV, e5, e6, e7, hwr]
     exact ⟨max s.length t.length - (i + 1), by omega, by simpa using hnext⟩
   · have his' : ¬ ((i : Int) < s.length) := by omega
     have his2 : (s.length : Int) ≤ i := by omega
     have his3 : s.length ≤ i := by omega
     have hnext : In28 px py pz ct pl nc s t (max s.length t.length - (i + 1)) ⟨env28 px py pz s t (i + 1), h2⟩ := by
      refine ⟨i + 1, lx1, ly2, lz1, sx1, sy2, h2, rfl, by omega, rfl, ?_⟩
      have e1 : s.take (i + 1) = s.take i := by rw [List.take_of_length_le (by omega), List.take_of_length_le (by omega)]
      rw [e1]
      exact ⟨I2'.P, I2'.Q, I2'.R, I2'.pq, I2'.qp, I2'.qr, I2'.rq, I2'.rp, I2'.pr, I2'.lenP, I2'.lenQ, I2'.lenR, fun s hs => by have := I2'.atP s hs; omega, fun s hs => by have := I2'.atQ s hs; omega, fun s hs => by have := I2'.atR s hs; omega⟩
     simp only [env28] at hnext
     simp [-AV.notTup, v0t, notTup_ptr, c28_l17, c28_r17, c28_r18, c28_r19, c28_r20, c28_r21, len1, alenS, his, his', his2, his3, hit, hit', hix, F28_D, e2, hwr]
     exact ⟨max s.length t.length - (i + 1), by omega, by simpa using hnext⟩
 · have hit' : ¬ ((i : Int) < t.length) := by omega
   by_cases his : i < s.length
   · have his' : (i : Int) < s.length := by omega
     have his2 : ¬ ((s.length : Int) ≤ i) := by omega
     have his3 : ¬ (s.length ≤ i) := by omega
     obtain ⟨b, hb⟩ : ∃ b, s[i]? = some b := ⟨_, List.getElem?_eq_getElem his⟩
     have hib : aindex Try.prog 9 (.str s) (.int .i64 (i : Int)) = some (.int .u8 (b.toNat : Int)) := by simp [aindex, hb]
     obtain ⟨v, u, W, lx', lz', sx', h3, h4, h5, h6, e3, e4, vt, ut, e5, e6, e7, I6⟩ := both28 hs his (by omega) I1 hb
     have hnext : In28 px py pz ct pl nc s t (max s.length t.length - (i + 1)) ⟨env28 px py pz s t (i + 1), h6⟩ := by
      refine ⟨i + 1, lx', ly1, lz', sx', sy1, h6, rfl, by omega, rfl, ?_⟩
      have e1 : t.take (i + 1) = t.take i := by rw [List.take_of_length_le (by omega), List.take_of_length_le (by omega)]
      rw [e1]
      exact ⟨I6.P, I6.Q, I6.R, I6.pq, I6.qp, I6.qr, I6.rq, I6.rp, I6.pr, I6.lenP, I6.lenQ, I6.lenR, fun s hs => by have := I6.atP s hs; omega, fun s hs => by have := I6.atQ s hs; omega, fun s hs => by have := I6.atR s hs; omega⟩
     simp only [env28] at hnext
     generalize candsM sx' = C at *
     simp [-AV.notTup, vt, ut, notTup_ptr, c28_l17, c28_r17, c28_r18, c28_r19, c28_r21, c28_r22, c28_r23, c28_r24, len1, alenS, his, his', his2, his3, hit, hit', hib, F28_D, e3, e4, extractV, e5, e6, e7, hwr]
     exact ⟨max s.length t.length - (i + 1), by omega, by simpa using hnext⟩
   · have his' : ¬ ((i : Int) < s.length) := by omega
     have hi2 : i = max s.length t.length := by omega
     have hfin := hq h1 lx1 ly1 lz1 sx1 sy1 (by
      have e1 : s.take i = s := List.take_of_length_le (by omega)
      have e2 : t.take i = t := List.take_of_length_le (by omega)
      rw [e1, e2] at I1
      exact ⟨I1.P, I1.Q, I1.R, I1.pq, I1.qp, I1.qr, I1.rq, I1.rp, I1.pr, I1.lenP, I1.lenQ, I1.lenR, fun s hs => by have := I1.atP s hs; omega, fun s hs => by have := I1.atQ s hs; omega, fun s hs => by have := I1.atR s hs; omega⟩)
     rw [← hi2] at hfin
     simp only [env28] at hfin
     simp [c28_l17, c28_r17, len1, alenS, his, his', hit, hit']
     simpa using hfin
end
theorem selUp {rs : List RuleV} : selL rs (upI rs.length) = rs := selL_all
theorem ends_walk {h₀ : Heap} {v u w : AV} {l a b : List Int} (hv : Sl1 h₀ v (intCells l)) (hu : Sl1 h₀ u (intCells a)) (hw : Sl1 h₀ w (intCells b)) (hok : slOK v) (hl : l.length ≤ 9223372036854775807) (ha : a.length ≤ 9223372036854775807) (hb : b.length ≤ 9223372036854775807) :
  Wt Try.prog F28 c28 ⟨argsEnv 0 [v, u, w], h₀⟩ (Ends Try.prog [.tmp 6] fun r _ => r = .bool true) := by
 have hvt : v.notTup = true := by rcases hv with ⟨rfl, _⟩ | ⟨_, _, _, _, _, rfl, _, _⟩ <;> rfl
 have hut : u.notTup = true := by rcases hu with ⟨rfl, _⟩ | ⟨_, _, _, _, _, rfl, _, _⟩ <;> rfl
 have hwt : w.notTup = true := by rcases hw with ⟨rfl, _⟩ | ⟨_, _, _, _, _, rfl, _, _⟩ <;> rfl
 have hlen := fun L => hv.len (t := 30) (e := 3) (by simp) (L := L)
 have alen_ := fun L => hu.len (t := 30) (e := 3) (by simp) (L := L)
 have blen := fun L => hw.len (t := 30) (e := 3) (by simp) (L := L)
 simp only [intCells_len] at hlen alen_ blen
 by_cases h1 : 40 < l.length
 · have h1' : (40 : Int) < l.length := by omega
   simp [-AV.notTup, hvt, hut, hwt, c28, c28_r0, c28_r1, c28_r2, len1, hlen, alen_, blen, h1, h1', awake28c]
   rfl
 have h1' : ¬ ((40 : Int) < l.length) := by omega
 by_cases h2 : 40 < a.length
 · have h2' : (40 : Int) < a.length := by omega
   simp [-AV.notTup, hvt, hut, hwt, c28, c28_r0, c28_r1, c28_r2, len1, hlen, alen_, blen, h1, h1', h2, h2', awake28c]
   rfl
 have h2' : ¬ ((40 : Int) < a.length) := by omega
 by_cases h3 : 40 < b.length
 · have h3' : (40 : Int) < b.length := by omega
   simp [-AV.notTup, hvt, hut, hwt, c28, c28_r0, c28_r1, c28_r2, len1, hlen, alen_, blen, h1, h1', h2, h2', h3, h3', awake28c]
   rfl
 have h3' : ¬ ((40 : Int) < b.length) := by omega
 obtain ⟨rs, rb, hA, eA, RI, hN, _, oA⟩ := rules_run hv hok (by omega)
 replace eA := lift eA
 have n1 : (rulesSl rb rs).notTup = true := rulesSl_nt
 have rl := fun L => RI.len (L := L)
 have hr6 := hN.1
 obtain ⟨x1, hx1⟩ : ∃ x1, rulesSl rb rs = x1 := ⟨_, rfl⟩
 rw [hx1] at eA n1 rl
 have hups := fun Q hq => ups_loop (h₀ := hA) (u := u) (u2 := w) (rv := x1) (N := rs.length) (Q := Q) (by omega) hut hwt n1 rl hq
 simp only [env28a] at hups
 rw [show ((0 : Nat) : Int) = 0 from rfl] at hups
 simp [-AV.notTup, hvt, hut, hwt, n1, c28, c28_r0, c28_r1, c28_r3, c28_r4, c28_r5, len1, hlen, alen_, blen, h1, h1', h2, h2', h3, h3', F28_D, eA]
 refine hups _ fun hB bb hbb oB => ?_
 have hp : Sl1 hB (intSl bb (upI rs.length)) (intCells (upI rs.length)) := Sl1.ints hbb
 have hfew : ∀ r ∈ rs, r.conts.length ≤ 3 := fun r hr => by
  obtain ⟨k, hk, e⟩ := List.mem_iff_getElem.1 hr
  exact (hN.2 k r (by rw [← e]; exact List.getElem?_eq_getElem hk)).len
 have hit : (itF 0 (selL rs (upI rs.length))).length ≤ 200 := by
  rw [selUp]
  have := itF_len (B := 3) (rs := rs) (q := 0) hfew
  omega
 have few80 : ∀ r ∈ rs, r.conts.length ≤ 80 := fun r hr => by have := hfew r hr; omega
 have k1 : (upI rs.length).length ≤ 1000 := by rw [upI_len]; omega
 obtain ⟨xb, lb, cb, sb, lv, nv, BB, lx, tab, fl, ob, ou, hC, eC, X, oC, fx1, fx2⟩ := new_side (m0 := 8) (most := 8) (by decide) (RI.same oB) hp k1 few80 hit
 obtain ⟨xb', lb', cb', sb', lv', nv', BB', ly, tab', fl', ob', ou', hD, eD, Y, oD, fy1, fy2⟩ := new_side (m0 := 8) (most := 8) (by decide) ((RI.same oB).same oC) (hp.same oC) k1 few80 hit
 obtain ⟨xb2, lb2, cb2, sb2, lv2, nv2, BB2, lz, tab2, fl2, ob2, ou2, hE, eE, Z, oE, fz1, fz2⟩ := new_side (m0 := 8) (most := 8) (by decide) (((RI.same oB).same oC).same oD) ((hp.same oC).same oD) k1 few80 hit
 replace eC := lift eC
 replace eD := lift eD
 replace eE := lift eE
 rw [hx1] at eC eD eE
 rw [selUp] at X Y Z fx2 fy2 fz2
 have hsl : (rs.map (askOf 8)).length ≤ 1000 := by rw [List.length_map]; omega
 have hat : ∀ s ∈ rs.map (askOf 8), s.T.at_ ≤ 0 := fun s hs => by
  obtain ⟨r, _, rfl⟩ := List.mem_map.1 hs
  exact Nat.le_of_eq newTo_at
 obtain ⟨px, hpx⟩ : ∃ p : SP, p = ⟨xb, lb, cb, sb, lv, nv, BB, tab, fl, ob, ou⟩ := ⟨_, rfl⟩
 obtain ⟨py, hpy⟩ : ∃ p : SP, p = ⟨xb', lb', cb', sb', lv', nv', BB', tab', fl', ob', ou'⟩ := ⟨_, rfl⟩
 obtain ⟨pz, hpz⟩ : ∃ p : SP, p = ⟨xb2, lb2, cb2, sb2, lv2, nv2, BB2, tab2, fl2, ob2, ou2⟩ := ⟨_, rfl⟩
 have X' : SQ hC px lx (rs.map (askOf 8)) (ctI (itF 0 rs)) (plI (itF 0 rs)) (ncI (itF 0 rs)) [] := by rw [hpx]; exact X
 have Y' : SQ hD py ly (rs.map (askOf 8)) (ctI (itF 0 rs)) (plI (itF 0 rs)) (ncI (itF 0 rs)) [] := by rw [hpy]; exact Y
 have Z' : SQ hE pz lz (rs.map (askOf 8)) (ctI (itF 0 rs)) (plI (itF 0 rs)) (ncI (itF 0 rs)) [] := by rw [hpz]; exact Z
 have X2 : SQ hD px lx (rs.map (askOf 8)) (ctI (itF 0 rs)) (plI (itF 0 rs)) (ncI (itF 0 rs)) [] := SideAt.same X' oD
 have X3 : SQ hE px lx (rs.map (askOf 8)) (ctI (itF 0 rs)) (plI (itF 0 rs)) (ncI (itF 0 rs)) [] := SideAt.same X2 oE
 have Y3 : SQ hE py ly (rs.map (askOf 8)) (ctI (itF 0 rs)) (plI (itF 0 rs)) (ncI (itF 0 rs)) [] := SideAt.same Y' oE
 obtain ⟨a1, a2⟩ := Ap.new (p := py) (al := ly) (pl := plI (itF 0 rs)) X' (by rw [hpy]; exact fy1) (by rw [hpy]; exact fy2)
 obtain ⟨b1, b2⟩ := Ap.new (p := pz) (al := lz) (pl := plI (itF 0 rs)) X2 (by rw [hpz]; exact fz1) (by rw [hpz]; exact fz2)
 obtain ⟨d1, d2⟩ := Ap.new (p := pz) (al := lz) (pl := plI (itF 0 rs)) Y' (by rw [hpz]; exact fz1) (by rw [hpz]; exact fz2)
 have I0 : E3 hE px py pz lx ly lz (rs.map (askOf 8)) (rs.map (askOf 8)) (rs.map (askOf 8)) (ctI (itF 0 rs)) (plI (itF 0 rs)) (ncI (itF 0 rs)) [] [] [] 0 := ⟨X3, Y3, Z', a2, a1, d2, d1, b1, b2, hsl, hsl, hsl, hat, hat, hat⟩
 have hxb : xb = px.xb := by rw [hpx]
 have hyb : xb' = py.xb := by rw [hpy]
 have hzb : xb2 = pz.xb := by rw [hpz]
 rw [hxb] at eC
 rw [hyb] at eD
 rw [hzb] at eE
 have oo := (((oA.trans oB).trans oC).trans oD).trans oE
 obtain ⟨s, hF, eF, hs, oF⟩ := letters (hu.same oo) (n := a.length) (by omega) ha
 obtain ⟨t, hG, eG, ht, oG⟩ := letters ((hw.same oo).same oF) (n := b.length) (by omega) hb
 replace eF := lift eF
 replace eG := lift eG
 have I1 := (I0.same oF).same oG
 obtain ⟨v1, lx1, h1_, e1, _, t1, I2, _⟩ := I1.begin rfl
 obtain ⟨v2, ly1, h2_, e2, _, t2, I3, _⟩ := I2.rot.begin rfl
 obtain ⟨v3, lz1, h3_, e3, _, t3, I4, _⟩ := I3.rot.begin rfl
 have I5 := I4.rot
 have hloop := fun Q hq => ends_bytes (Q := Q) (s := s) (t := t) (by omega) (by omega) I5 hq
 simp only [env28] at hloop
 rw [show ((0 : Nat) : Int) = 0 from rfl] at hloop
 generalize worstM (toldNotes (fun s => s.T) ([] : Txt).length (rs.map (askOf 8))) = W0 at *
 have n2 : (intSl bb (upI rs.length)).notTup = true := intSl_notTup
 generalize intSl bb (upI rs.length) = x2 at *
 simp [-AV.notTup, hvt, hut, hwt, n1, n2, t1, t2, t3, notTup_ptr, c28_r9, c28_r10, c28_r12, c28_r13, c28_r14, c28_r15, c28_r16, len1, alen_, blen, F28_D, eC, eD, eE, eF, eG, e1, e2, e3]
 refine hloop _ fun h' lx2 ly2 lz2 sx2 sy2 I6 => ?_
 have f1 := lift (at_run I6.P.r)
 have f2 := lift (at_run I6.Q.r)
 simp [c28_r26, F28_D, f1, f2, len1, alenS, awake28c]
 try rfl
end
end Go.AM
