/-
  What the law TrackStays stands on, part 3.
-/
import Derived.Test.YtamidpfdiijjgaaW22b
import Derived.Test.YtamidpfdiijjgaaL22
namespace Go.AM
open Go Go.Proofs Go.RowKit
set_option linter.unusedVariables false
set_option linter.unusedSimpArgs false
set_option maxRecDepth 100000
theorem tC_1 {most at_ n : Nat} {pv nv : AV} {bad over : Bool} : (tC most at_ pv nv bad over).set 1 (.int .i64 n) = tC most n pv nv bad over := rfl
theorem tC_4 {most at_ : Nat} {pv nv : AV} {bad over b : Bool} : (tC most at_ pv nv bad over).set 4 (.bool b) = tC most at_ pv nv b over := rfl
theorem tC_5 {most at_ : Nat} {pv nv : AV} {bad over b : Bool} : (tC most at_ pv nv bad over).set 5 (.bool b) = tC most at_ pv nv bad b := rfl
theorem TrackAt.head {h h' : Heap} {tb pa nb : Nat} {T : TS} {fl : FL} (H : TrackAt h tb pa nb T fl) {n : Nat} {bad over : Bool} (e : h.set tb (.cells (tC T.most n (bufSl pa fl.length (ptrCells fl)) (bufSl nb T.nots.length (notCells T.nots)) bad over) 144 false) = h') : TrackAt h' tb pa nb { T with at_ := n, bad := bad, over := over } fl ∧ Only (fun c => c = tb) h h' := by
  have o : Only (fun c => c = tb) h h' := by rw [← e]; exact .set rfl
  refine ⟨⟨?_, fun hne => o.at (H.pv hne) fun e => ?_, fun hne => o.at (H.nv hne) fun e => ?_, H.ps.keep o fun c hc e => H.ps.not H.hdr (.inr (by decide)) (e ▸ hc)⟩, o⟩
  · rw [← e, List.getElem?_set_self (lt_of_at H.hdr)]
  · have h5 := H.pv hne
    rw [e, H.hdr] at h5
    injection h5 with h5; injection h5 with _ _ h5; exact absurd h5 (by simp)
  · have h5 := H.nv hne
    rw [e, H.hdr] at h5
    injection h5 with h5; injection h5 with _ _ h5; exact absurd h5 (by simp)
structure I14 (hB h : Heap) (tb pa nb : Nat) (T : TS) (fl fl' : FL) (hn : Nat → Bool) (k : Nat) : Prop where
  tr : TrackAt h tb pa nb { T with parts := keptTo T.at_ hn T.parts k, over := overTo T.at_ T.most hn T.parts T.over k } fl'
  same : ptrCells fl' = ptrCells fl
  only : Only (trF tb fl) hB h
  sub : ∀ c, flF fl' c → flF fl c ∨ hB.length ≤ c
abbrev env14 (bt eb hb N : Nat) (pv : AV) (k : Nat) : Env := [(2, boxP bt), (5, .fn (.func 108) [boxP eb, boxP bt]), (6, hereSl hb N), (87, pv), (88, .int .i64 N), (89, .int .i64 k)]
def In14 (hB : Heap) (bt eb hb : Nat) (pv : AV) (tb pa nb : Nat) (T : TS) (fl : FL) (hn : Nat → Bool) (m : Nat) (σ : St) : Prop := ∃ k h fl', m = T.parts.length - k ∧ k ≤ T.parts.length ∧ σ = ⟨env14 bt eb hb T.parts.length pv k, h⟩ ∧ I14 hB h tb pa nb T fl fl' hn k
theorem kept_loop {hB : Heap} {tb pa nb bt eb hb : Nat} {T : TS} {fl : FL} {ends : List Bool} (H : TrackAt hB tb pa nb T fl) (hbt : hB[bt]? = some (.cells [tPtr tb] 84 false)) (hsm : ∀ p ∈ T.parts, p.small) (hat : T.at_ ≤ 1000000) (hpl : T.parts.length ≤ 1000)
    (hg : hB[hb]? = some (.cells (fillC (hereV ends T.at_ T.parts) (.bool false) T.parts.length T.parts.length) 4 true)) {Q : AExit → St → Prop}
    (hq : ∀ h' fl', I14 hB h' tb pa nb T fl fl' (hereN ends T.at_ T.parts) T.parts.length → Q (.exit 2) ⟨env14 bt eb hb T.parts.length (bufSl pa fl.length (ptrCells fl)) T.parts.length ++ [(90, .bool false)], h'⟩) :
    Wt Try.prog (D cfg) (.loop c73_l14 (some [2, 5, 6, 87, 88, 89])) ⟨env14 bt eb hb T.parts.length (bufSl pa fl.length (ptrCells fl)) 0, hB⟩ Q := by
  have hs0 := H.sl
  obtain ⟨pv, hpv⟩ : ∃ pv, bufSl pa fl.length (ptrCells fl) = pv := ⟨_, rfl⟩
  rw [hpv] at hs0 hq ⊢
  have hnt : pv.notTup = true := by rw [← hpv]; exact bufSl_notTup
  obtain ⟨hn, hhn⟩ : ∃ hn, hereN ends T.at_ T.parts = hn := ⟨_, rfl⟩
  rw [hhn] at hq
  refine Wt.loop (In14 hB bt eb hb pv tb pa nb T fl hn) (m := T.parts.length) ⟨0, hB, fl, rfl, Nat.zero_le _, rfl, ⟨H, rfl, .refl, fun c hc => .inl hc⟩⟩ ?_
  rintro m σ ⟨k, h1, fl', rfl, hk, rfl, I⟩
  have hcut : cut (some [2, 5, 6, 87, 88, 89]) (env14 bt eb hb T.parts.length pv k) = env14 bt eb hb T.parts.length pv k := by simp
  simp only [hcut]
  obtain ⟨N, hN⟩ : ∃ N, T.parts.length = N := ⟨_, rfl⟩
  rw [hN] at hk hq hg ⊢
  have hnbt : ¬ trF tb fl bt := by
    rintro (e | e)
    · rw [e, H.hdr] at hbt; injection hbt with h5; injection h5 with _ h5 _; exact absurd h5 (by decide)
    · exact H.ps.not hbt (.inr (by decide)) e
  have hnhb : ¬ trF tb fl hb := by
    rintro (e | e)
    · rw [e, H.hdr] at hg; injection hg with h5; injection h5 with _ _ h5; exact absurd h5 (by simp)
    · exact H.ps.not hg (.inl rfl) e
  by_cases hkl : k < N
  · have hkl' : (k : Int) < N := by omega
    have hkp : k < T.parts.length := by omega
    have hlf : fl'.length = N := by have := I.tr.ps.len; rw [keptTo_len, hN] at this; exact this
    have hlf0 : fl.length = N := by rw [H.ps.len]; exact hN
    obtain ⟨p, hp⟩ : ∃ p, T.parts[k]? = some p := ⟨_, List.getElem?_eq_getElem hkp⟩
    obtain ⟨f, hf⟩ : ∃ f, fl'[k]? = some f := ⟨_, List.getElem?_eq_getElem (by omega)⟩
    have hps := hsm p (List.mem_of_getElem? hp)
    have hpk : (keptTo T.at_ hn T.parts k)[k]? = some p := by rw [keptTo_ge (Nat.le_refl _), hp]
    have hpa := I.tr.ps.at_ k p f hpk hf
    have hic : k < (ptrCells fl).length := by rw [ptrCells_len]; omega
    have hnpa : ∀ b, slB pv = some b → ¬ trF tb fl b := by
      intro b hb'
      rw [← hpv] at hb'
      obtain ⟨rfl, hne⟩ := slB_buf hb'
      have h5 := H.pv hne
      rintro (e | e)
      · rw [e, H.hdr] at h5; injection h5 with h5; injection h5 with _ _ h5; exact absurd h5 (by simp)
      · exact H.ps.not h5 (.inl rfl) e
    have a1 := hs0.at (t := 141) (e := 148) (by simp) (by simp) hic
    have l1 := (hs0.keep I.only hnpa).load (e := 148) (by simp) hic
    have hfc : (ptrCells fl)[k] = ptPtr f.1 := by
      have h6 : (ptrCells fl')[k]'(by rw [ptrCells_len]; omega) = ptPtr f.1 := ptrCells_get hf _
      simp only [I.same] at h6
      exact h6
    rw [hfc] at l1
    have hwr : IntKind.wrap .i64 ((k : Int) + 1) = k + 1 := wrap_i64 (by omega) (by omega)
    have henp : (elp pv k).notTup = true := by unfold elp; split <;> rfl
    have qb := cell_load (I.only.at hbt hnbt) (n := 1) rfl (t := 84) (by simp) (off := 0) rfl
    have qd1 := cell_load I.tr.hdr tC_len (t := 3) (by simp) (off := 1) rfl
    have qh := cell_load (I.only.at hg hnhb) fillC_len (t := 4) (by simp) (off := k) (v := .bool (hn k)) (by rw [fillC_get hkl, if_pos hkl, hereV, hhn])
    have a2 : aindexAddr Try.prog 68 (hereSl hb N) (.int .i64 k) = some (.ptr (some ⟨hb, k, N⟩)) := by simp [aindexAddr, hkl, hkl']
    obtain ⟨h2, kbs', e2, P2, o2, nd2, sub2⟩ := keep_run hpa (I.tr.ps.nd k f hf) hps (n := T.at_) (by omega) (ended := hn k)
    have PP := I.tr.ps.put hf o2 (fun c hc => by rcases hc with hc | hc; exact hc ▸ List.mem_cons_self ..; exact List.mem_cons_of_mem _ hc) P2 nd2 sub2
    have hkt : keptTo T.at_ hn T.parts (k + 1) = (keptTo T.at_ hn T.parts k).set k (p.keep T.at_ (hn k)) := by simp only [keptTo, hp]
    have hot : overTo T.at_ T.most hn T.parts T.over (k + 1) = (overTo T.at_ T.most hn T.parts T.over k || decide (T.most < (p.keep T.at_ (hn k)).kept.length)) := by simp only [overTo, hp]
    have hfm : ∀ c, (c = f.1 ∨ c ∈ f.2) → flF fl' c := fun c hc => ⟨k, f, hf, by rcases hc with hc | hc; exact hc ▸ List.mem_cons_self ..; exact List.mem_cons_of_mem _ hc⟩
    have hps' : ptrCells (fl'.set k (f.1, kbs')) = ptrCells fl := by rw [ptrCells_set hf, I.same]
    have T2 : TrackAt h2 tb pa nb { T with parts := keptTo T.at_ hn T.parts (k + 1), over := overTo T.at_ T.most hn T.parts T.over k } (fl'.set k (f.1, kbs')) := by
      refine ⟨?_, fun hne => ?_, fun hne => ?_, by rw [hkt]; exact PP⟩
      · rw [ptrCells_set hf, List.length_set]
        exact o2.at I.tr.hdr fun e => I.tr.ps.not I.tr.hdr (.inr (by decide)) (hfm _ e)
      · rw [ptrCells_set hf]
        rw [List.length_set] at hne
        exact o2.at (I.tr.pv hne) fun e => I.tr.ps.not (I.tr.pv hne) (.inl rfl) (hfm _ e)
      · exact o2.at (I.tr.nv hne) fun e => I.tr.ps.not (I.tr.nv hne) (.inl rfl) (hfm _ e)
    have ho2 : Only (trF tb fl) hB h2 := by
      refine ⟨Nat.le_trans I.only.1 o2.1, fun c hc hnc => ?_⟩
      rw [o2.2 c (Nat.lt_of_lt_of_le hc I.only.1) fun e => ?_, I.only.2 c hc hnc]
      rcases I.sub c (hfm c e) with h6 | h6
      · exact hnc (.inr h6)
      · omega
    have hsub : ∀ c, flF (fl'.set k (f.1, kbs')) c → flF fl c ∨ hB.length ≤ c := by
      rintro c ⟨i, g, hg', hc⟩
      by_cases hik : i = k
      · subst hik
        rw [List.getElem?_set_self (List.getElem?_eq_some_iff.1 hf).1] at hg'
        cases hg'
        rcases List.mem_cons.1 hc with hc | hc
        · exact I.sub c (hfm c (.inl hc))
        · rcases sub2 c hc with h6 | h6
          · exact I.sub c (hfm c (.inr h6))
          · have := I.only.1
            exact .inr (by omega)
      · rw [List.getElem?_set_ne (Ne.symm hik)] at hg'
        exact I.sub c ⟨i, g, hg', hc⟩
    have qb2 := cell_load (ho2.at hbt hnbt) (n := 1) rfl (t := 84) (by simp) (off := 0) rfl
    have qo := cell_load T2.hdr tC_len (t := 4) (by simp) (off := 5) rfl
    have qm := cell_load T2.hdr tC_len (t := 3) (by simp) (off := 0) rfl
    have qn := cell_load P2.hdr partC_len (t := 3) (by simp) (off := 13) rfl
    obtain ⟨ob, hob⟩ : ∃ ob, overTo T.at_ T.most hn T.parts T.over (k + 1) = ob := ⟨_, rfl⟩
    have so := cell_store T2.hdr tC_len (t := 4) (by simp) (v := .bool ob) rfl (off := 5) (by decide)
    rw [tC_5] at so
    obtain ⟨h3, hh3⟩ : ∃ h3, h2.set tb (.cells (tC T.most T.at_ (bufSl pa (fl'.set k (f.1, kbs')).length (ptrCells (fl'.set k (f.1, kbs')))) (bufSl nb T.nots.length (notCells T.nots)) T.bad ob) 144 false) = h3 := ⟨_, rfl⟩
    obtain ⟨T3, o3⟩ := T2.head hh3
    have hnext : In14 hB bt eb hb pv tb pa nb T fl hn (N - (k + 1)) ⟨env14 bt eb hb N pv (k + 1), h3⟩ := by
      refine ⟨k + 1, h3, fl'.set k (f.1, kbs'), by rw [hN], by omega, by rw [hN], ⟨?_, hps', ?_, hsub⟩⟩
      · rw [hob]; exact T3
      · exact ho2.trans (o3.mono fun c _ e => .inl e)
    rw [hps'] at so hh3
    have hl' : (fl'.set k (f.1, kbs')).length = fl.length := by rw [List.length_set]; omega
    rw [hl', hpv] at so hh3
    generalize bufSl nb T.nots.length (notCells T.nots) = nv at *
    simp only [env14] at hnext
    have hwt := @wrap_i64
    cases hov : overTo T.at_ T.most hn T.parts T.over k with
    | true =>
      rw [hov] at qo
      have hobt : ob = true := by rw [← hob, hot, hov]; rfl
      rw [hobt] at so
      simp only [hobt] at hh3
      simp [-AV.notTup, hnt, notTup_ptr, henp, c73_l14, c73_r14, c73_r15, c73_r16, c73_r17, c73_r18, hkl, hkl', a1, l1, qb, fieldA, qd1, a2, qh, e2, qb2, qo, so, hh3, hwr]
      refine ⟨N - (k + 1), by omega, ?_⟩
      simpa using hnext
    | false =>
      rw [hov] at qo
      have hobt : ob = decide (T.most < (p.keep T.at_ (hn k)).kept.length) := by rw [← hob, hot, hov]; rfl
      obtain ⟨kl, hkl2⟩ : ∃ kl, (p.keep T.at_ (hn k)).kept.length = kl := ⟨_, rfl⟩
      rw [hkl2] at qn hobt
      by_cases hmk : T.most < kl
      · have hmk' : (T.most : Int) < kl := by omega
        have hob1 : ob = true := by rw [hobt]; simp [hmk]
        rw [hob1] at so
        simp only [hob1] at hh3
        simp [-AV.notTup, hnt, notTup_ptr, henp, c73_l14, c73_r14, c73_r15, c73_r16, c73_r17, c73_r18, hkl, hkl', a1, l1, qb, fieldA, qd1, a2, qh, e2, qb2, qo, qm, qn, hmk, hmk', so, hh3, hwr]
        refine ⟨N - (k + 1), by omega, ?_⟩
        simpa using hnext
      · have hmk' : ¬ ((T.most : Int) < kl) := by omega
        have hob1 : ob = false := by rw [hobt]; simp [hmk]
        rw [hob1] at so
        simp only [hob1] at hh3
        simp [-AV.notTup, hnt, notTup_ptr, henp, c73_l14, c73_r14, c73_r15, c73_r16, c73_r17, c73_r18, hkl, hkl', a1, l1, qb, fieldA, qd1, a2, qh, e2, qb2, qo, qm, qn, hmk, hmk', so, hh3, hwr]
        refine ⟨N - (k + 1), by omega, ?_⟩
        simpa using hnext
  · have hk2 : k = N := by omega
    subst hk2
    have := hq h1 fl' (by rw [← hN]; rw [← hN] at I; exact I)
    simp only [env14] at this
    simp [-AV.notTup, hnt, notTup_ptr, c73_l14, c73_r14]
    simpa using this
abbrev env20 (bt eb M i : Nat) : Env := [(2, boxP bt), (5, .fn (.func 108) [boxP eb, boxP bt]), (127, .int .i64 M), (128, .int .i64 i)]
def In20 (hC : Heap) (tb pa nb bt eb : Nat) (T : TS) (fl : FL) (v : AV) (ends : List Bool) (m : Nat) (σ : St) : Prop := ∃ i h, m = T.nots.length - i ∧ i ≤ T.nots.length ∧ σ = ⟨env20 bt eb T.nots.length i, h⟩ ∧ TrackAt h tb pa nb { T with bad := badTo ends T.at_ T.nots T.bad i } fl ∧ Only (fun c => c = tb) hC h
theorem beq_boxT {tb : Nat} {t : TypeId} : AObj.beq (.cells [tPtr tb] t false) (.cells [tPtr tb] t false) = true := by
  simp [AObj.beq, beqL, AV.beq, AV.beqP, oAA, AA.beq]
theorem nots_loop {hC : Heap} {tb pa nb bt eb : Nat} {T : TS} {fl : FL} {v : AV} {ends : List Bool} (S : SB hC tb pa nb bt eb T fl v ends) (hev : ∀ b, slB v = some b → b ≠ tb) (hsm : ∀ p ∈ T.nots, p.c.small) (hat : T.at_ ≤ 1000000) (hpl : T.nots.length ≤ 1000) {Q : AExit → St → Prop}
    (hq : ∀ h', TrackAt h' tb pa nb { T with bad := badTo ends T.at_ T.nots T.bad T.nots.length } fl → Only (fun c => c = tb) hC h' → h'[bt]? = some (.cells [tPtr tb] 84 false) → Q (.exit 4) ⟨env20 bt eb T.nots.length T.nots.length ++ [(129, .bool false)], h'⟩) :
    Wt Try.prog (D cfg) (.loop c73_l20 (some [2, 5, 127, 128])) ⟨env20 bt eb T.nots.length 0, hC⟩ Q := by
  refine Wt.loop (In20 hC tb pa nb bt eb T fl v ends) (m := T.nots.length) ⟨0, hC, rfl, Nat.zero_le _, rfl, S.tr, .refl⟩ ?_
  rintro m σ ⟨i, h1, rfl, hi, rfl, T1, o1⟩
  have hcut : cut (some [2, 5, 127, 128]) (env20 bt eb T.nots.length i) = env20 bt eb T.nots.length i := by simp
  simp only [hcut]
  have hbtn : bt ≠ tb := fun e => by
    have h5 := S.bt_
    rw [e, S.tr.hdr] at h5; injection h5 with h5; injection h5 with _ h5 _; exact absurd h5 (by decide)
  have hebn : eb ≠ tb := fun e => by
    have h5 := S.eb_
    rw [e, S.tr.hdr] at h5; injection h5 with h5; injection h5 with _ h5 _; exact absurd h5 (by decide)
  have b1 := o1.at S.bt_ hbtn
  obtain ⟨M, hM⟩ : ∃ M, T.nots.length = M := ⟨_, rfl⟩
  have hq' := fun h' => hq h'
  rw [hM] at hi ⊢
  by_cases hil : i < M
  · have hil' : (i : Int) < M := by omega
    have him : i < T.nots.length := by omega
    obtain ⟨p, hp⟩ : ∃ p, T.nots[i]? = some p := ⟨_, List.getElem?_eq_getElem him⟩
    have hps := hsm p (List.mem_of_getElem? hp)
    have hM0 : M ≠ 0 := by omega
    have hnv := T1.nv (by show T.nots.length ≠ 0; omega)
    have S1 : SB h1 tb pa nb bt eb { T with bad := badTo ends T.at_ T.nots T.bad i } fl v ends := ⟨T1, b1, o1.at S.eb_ hebn, S.ev.keep o1 hev⟩
    obtain ⟨h2, e2, o2⟩ := says_run (off := i * 15) hnv rfl (notCells_drop hp) S1.eb_ S1.bt_ S1.tr.hdr tC_len rfl S1.ev hps hat
    have hdr1 := T1.hdr
    have qb := cell_load b1 (n := 1) rfl (t := 84) (by simp) (off := 0) rfl
    have q3 := cell_load hdr1 tC_len (t := 142) (by simp) (off := 3) rfl
    have q4 := cell_load hdr1 tC_len (t := 4) (by simp) (off := 4) rfl
    have hncl : (notCells T.nots).length = M * 15 := by rw [notCells_len, hM]
    have hnvE : bufSl nb T.nots.length (notCells T.nots) = .sl (some ⟨nb, 0, (notCells T.nots).length⟩) M M := by
      simp only [bufSl, hM]
      rw [if_neg hM0]
    have a1 : aindexAddr Try.prog 142 (.sl (some ⟨nb, 0, (notCells T.nots).length⟩) M M) (.int .i64 i) = some (.ptr (some ⟨nb, i * 15, (notCells T.nots).length⟩)) := by simp [aindexAddr, hil, hil']
    have hwr : IntKind.wrap .i64 ((i : Int) + 1) = i + 1 := wrap_i64 (by omega) (by omega)
    have hbt' : badTo ends T.at_ T.nots T.bad (i + 1) = (badTo ends T.at_ T.nots T.bad i || saysB ends T.at_ p) := by simp only [badTo, hp]
    obtain ⟨bb, hbb⟩ : ∃ bb, badTo ends T.at_ T.nots T.bad (i + 1) = bb := ⟨_, rfl⟩
    have next : ∀ h3, Only (fun _ => False) h1 h3 → ∃ h4, astore Try.prog (look h3) 4 (.ptr (some ⟨tb, 4, 6⟩)) (.bool bb) = some (.set tb (.cells (tC T.most T.at_ (bufSl pa fl.length (ptrCells fl)) (bufSl nb T.nots.length (notCells T.nots)) bb T.over) 144 false)) ∧ h3.set tb (.cells (tC T.most T.at_ (bufSl pa fl.length (ptrCells fl)) (bufSl nb T.nots.length (notCells T.nots)) bb T.over) 144 false) = h4 ∧ In20 hC tb pa nb bt eb T fl v ends (M - (i + 1)) ⟨env20 bt eb M (i + 1), h4⟩ := by
      intro h3 o3
      have T3 := T1.same o3
      have s3 := cell_store T3.hdr tC_len (t := 4) (by simp) (v := .bool bb) rfl (off := 4) (by decide)
      rw [tC_4] at s3
      obtain ⟨h4, hh4⟩ : ∃ h4, h3.set tb (.cells (tC T.most T.at_ (bufSl pa fl.length (ptrCells fl)) (bufSl nb T.nots.length (notCells T.nots)) bb T.over) 144 false) = h4 := ⟨_, rfl⟩
      obtain ⟨T4, o4⟩ := T3.head hh4
      refine ⟨h4, s3, hh4, i + 1, h4, by rw [hM], by omega, by rw [hM], ?_, (o1.trans (o3.mono fun _ _ => False.elim)).trans o4⟩
      rw [hbb]; exact T4
    rw [hnvE] at q3 next
    have qb2 := fun h3 (o3 : Only (fun _ => False) h1 h3) => cell_load (o3.at b1 id) (n := 1) rfl (t := 84) (by simp) (off := 0) rfl
    cases hbad : badTo ends T.at_ T.nots T.bad i with
    | true =>
      rw [hbad] at q4
      have hbt1 : bb = true := by rw [← hbb, hbt', hbad]; rfl
      obtain ⟨h4, s4, hh4, hnext⟩ := next h1 .refl
      rw [hbt1] at s4 hh4
      have hsame : sameAt h1 h1 bt = true := sameAt_of b1 b1 beq_boxT
      simp only [env20] at hnext
      simp [-AV.notTup, notTup_ptr, c73_l20, c73_r20, c73_r21, c73_r22, c73_r23, astep_callv, astepT_callv, callV, hil, hil', qb, fieldA, q4, hsame, s4, hh4, hwr]
      refine ⟨M - (i + 1), by omega, ?_⟩
      simpa using hnext
    | false =>
      rw [hbad] at q4
      obtain ⟨sb, hsb⟩ : ∃ sb, saysB ends T.at_ p = sb := ⟨_, rfl⟩
      have hbt1 : bb = sb := by rw [← hbb, hbt', hbad, hsb]; rfl
      rw [hsb] at e2
      obtain ⟨h4, s4, hh4, hnext⟩ := next h2 o2
      rw [hbt1] at s4 hh4
      have hsame : sameAt h1 h2 bt = true := sameAt_of b1 (o2.at b1 id) beq_boxT
      simp only [env20] at hnext
      simp [-AV.notTup, notTup_ptr, c73_l20, c73_r20, c73_r21, c73_r22, c73_r23, astep_callv, astepT_callv, callV, hil, hil', qb, fieldA, q3, q4, a1, e2, hsame, s4, hh4, hwr]
      refine ⟨M - (i + 1), by omega, ?_⟩
      simpa using hnext
  · have hk2 : i = M := by omega
    subst hk2
    have := hq h1 (by rw [hM]; exact T1) o1 b1
    simp only [env20, hM] at this
    simp [-AV.notTup, notTup_ptr, c73_l20, c73_r20]
    simpa using this
theorem step_rest {h2 : Heap} {tb pa nb bt eb : Nat} {T : TS} {fl : FL} {v : AV} {ends : List Bool} (S : SB h2 tb pa nb bt eb T fl v ends) (hev : ∀ b, slB v = some b → ¬ trF tb fl b) (hsm : ∀ p ∈ T.parts, p.small) (hsn : ∀ p ∈ T.nots, p.c.small) (hat : T.at_ ≤ 1000000) (hpl : T.parts.length ≤ 1000) (hnl : T.nots.length ≤ 1000) {R : AV → Heap → Prop}
    (hR : ∀ h' fl', TrackAt h' tb pa nb { T with parts := keptTo T.at_ (hereN ends T.at_ T.parts) T.parts T.parts.length, over := overTo T.at_ T.most (hereN ends T.at_ T.parts) T.parts T.over T.parts.length, bad := badTo ends T.at_ T.nots T.bad T.nots.length } fl' →
      Only (trF tb fl) h2 h' → (∀ c, flF fl' c → flF fl c ∨ h2.length ≤ c) → R (.bool (overTo T.at_ T.most (hereN ends T.at_ T.parts) T.parts T.over T.parts.length)) h') :
    Wt Try.prog (D cfg) (.seq (.reg c73_r4 none (some [2, 5])) (.seq (.reg c73_r5 none (some [2, 5, 6])) (.seq (.seq (.reg c73_r6 none (some [2, 5, 6, 33, 34, 35])) (.block 0 (.loop c73_l7 (some [2, 5, 6, 33, 34, 35])))) (.seq (.seq (.reg c73_r13 none (some [2, 5, 6, 87, 88, 89])) (.block 2 (.loop c73_l14 (some [2, 5, 6, 87, 88, 89])))) (.seq (.seq (.reg c73_r19 none (some [2, 5, 127, 128])) (.block 4 (.loop c73_l20 (some [2, 5, 127, 128])))) (.seq (.reg c73_r24 none (some [4])) .ret)))))) ⟨[(2, boxP bt), (3, boxP eb)], h2⟩ (Ends Try.prog [.tmp 4] R) := by
  have hs0 := S.tr.sl
  have hdr0 := S.tr.hdr
  obtain ⟨pv, hpv⟩ : ∃ pv, bufSl pa fl.length (ptrCells fl) = pv := ⟨_, rfl⟩
  have hnt : pv.notTup = true := by rw [← hpv]; exact bufSl_notTup
  obtain ⟨nv, hnv⟩ : ∃ nv, bufSl nb T.nots.length (notCells T.nots) = nv := ⟨_, rfl⟩
  have hnn : nv.notTup = true := by rw [← hnv]; exact bufSl_notTup
  rw [hpv] at hs0 hdr0
  have hlen := fun L => hs0.len (L := L) (t := 141) (e := 148) (by simp)
  rw [ptrCells_len, S.tr.ps.len] at hlen
  have hnlen : ∀ L, alen Try.prog L 142 nv = some (.int .i64 T.nots.length) := fun L => by
    rw [← hnv]
    unfold bufSl
    split
    · rename_i h0; simp [alen, h0]
    · simp [alen]
  have qb := cell_load S.bt_ (n := 1) rfl (t := 84) (by simp) (off := 0) rfl
  have q2 := cell_load hdr0 tC_len (t := 141) (by simp) (off := 2) rfl
  obtain ⟨h3, hh3⟩ : ∃ h3, h2 ++ [AObj.cells (zeros [.bool false] T.parts.length) 4 true] = h3 := ⟨_, rfl⟩
  have o3 : Only (fun _ => False) h2 h3 := by rw [← hh3]; exact .app
  have g3 : h3[h2.length]? = some (.cells (fillC (hereV ends T.at_ T.parts) (.bool false) T.parts.length 0) 4 true) := by rw [← hh3, ← fillC_zero]; simp
  have qb3 := cell_load (o3.at S.bt_ id) (n := 1) rfl (t := 84) (by simp) (off := 0) rfl
  have q23 := cell_load (o3.at hdr0 id) tC_len (t := 141) (by simp) (off := 2) rfl
  have hb1 : (T.parts.length : Int) ≤ 281474976710656 := by omega
  have hb2 : (T.parts.length : Int) ≤ 9223372036854775807 := by omega
  have hloop := fun Q hq => here_loop (Q := Q) S hsm hat hpl o3 g3 hq
  simp only [env7] at hloop
  rw [hpv] at hloop
  simp [-AV.notTup, hnt, notTup_ptr, c73_r4, c73_r5, c73_r6, AV.plain, qb, fieldA, q2, len1, hlen, amakeSlice, hb1, hb2, hh3, qb3, q23]
  refine hloop _ fun h4 o4 g4 => ?_
  have S4 := S.same o4
  have hdr4 := S4.tr.hdr
  rw [hpv] at hdr4
  have qb4 := cell_load S4.bt_ (n := 1) rfl (t := 84) (by simp) (off := 0) rfl
  have q24 := cell_load hdr4 tC_len (t := 141) (by simp) (off := 2) rfl
  have hloop2 := fun Q hq => kept_loop (Q := Q) (eb := eb) S4.tr S4.bt_ hsm hat hpl g4 hq
  simp only [env14] at hloop2
  rw [hpv] at hloop2
  simp [-AV.notTup, hnt, notTup_ptr, c73_r13, qb4, fieldA, q24, len1, hlen]
  refine hloop2 _ fun h5 fl' I => ?_
  have hnbt : ∀ b o, h4[b]? = some o → (∃ cs t g, o = .cells cs t g ∧ (g = true ∨ (t ≠ 147 ∧ t ≠ 181)) ∧ ¬ (t = 144 ∧ g = false)) → ¬ trF tb fl b := by
    rintro b o hb ⟨cs, t, g, rfl, ht, hx⟩ (e | e)
    · rw [e, S4.tr.hdr] at hb; injection hb with h5; injection h5 with h5 h6 h7; exact hx ⟨h6.symm, h7.symm⟩
    · exact S4.tr.ps.not hb ht e
  have bt5 := I.only.at S4.bt_ (hnbt _ _ S4.bt_ ⟨_, _, _, rfl, .inr (by decide), by decide⟩)
  have eb5 := I.only.at S4.eb_ (hnbt _ _ S4.eb_ ⟨_, _, _, rfl, .inr (by decide), by decide⟩)
  have S5 : SB h5 tb pa nb bt eb { T with parts := keptTo T.at_ (hereN ends T.at_ T.parts) T.parts T.parts.length, over := overTo T.at_ T.most (hereN ends T.at_ T.parts) T.parts T.over T.parts.length } fl' v ends := ⟨I.tr, bt5, eb5, S4.ev.keep I.only hev⟩
  have hdr5 := I.tr.hdr
  have hnv' : bufSl nb ({ T with parts := keptTo T.at_ (hereN ends T.at_ T.parts) T.parts T.parts.length, over := overTo T.at_ T.most (hereN ends T.at_ T.parts) T.parts T.over T.parts.length } : TS).nots.length (notCells ({ T with parts := keptTo T.at_ (hereN ends T.at_ T.parts) T.parts T.parts.length, over := overTo T.at_ T.most (hereN ends T.at_ T.parts) T.parts T.over T.parts.length } : TS).nots) = nv := hnv
  rw [hnv'] at hdr5
  have qb5 := cell_load bt5 (n := 1) rfl (t := 84) (by simp) (off := 0) rfl
  have q35 := cell_load hdr5 tC_len (t := 142) (by simp) (off := 3) rfl
  have hloop3 := fun Q hq => nots_loop (Q := Q) S5 (fun b hb e => hev b hb (.inl e)) hsn hat hnl hq
  simp only [env20] at hloop3
  simp [-AV.notTup, hnn, notTup_ptr, c73_r19, qb5, fieldA, q35, len1, hnlen]
  refine hloop3 _ fun h6 T6 o6 bt6 => ?_
  have qb6 := cell_load bt6 (n := 1) rfl (t := 84) (by simp) (off := 0) rfl
  have q56 := cell_load T6.hdr tC_len (t := 4) (by simp) (off := 5) rfl
  have hlen4 := o4.1
  have := hR h6 fl' T6 (((o4.mono fun _ _ => False.elim).trans I.only).trans (o6.mono fun c _ e => .inl e)) fun c hc => by
    rcases I.sub c hc with h7 | h7
    · exact .inl h7
    · exact .inr (by omega)
  simp [c73_r24, qb6, fieldA, q56]
  simpa using this
theorem step_track {h : Heap} {tb pa nb : Nat} {T : TS} {fl : FL} {v : AV} {ends : List Bool} (H : TrackAt h tb pa nb T fl) (hv : Sl1 h v (boolCells ends)) (hev : ∀ b, slB v = some b → ¬ trF tb fl b) (hsm : ∀ p ∈ T.parts, p.small) (hsn : ∀ p ∈ T.nots, p.c.small) (hat : T.at_ ≤ 900000) (hpl : T.parts.length ≤ 1000) (hnl : T.nots.length ≤ 1000) :
    ∃ fl' h', D cfg 73 [tPtr tb, v] h = some (.bool (stepT T ends).over, h') ∧ TrackAt h' tb pa nb (stepT T ends) fl' ∧ Only (trF tb fl) h h' ∧ (∀ c, flF fl' c → flF fl c ∨ h.length ≤ c) := by
  have key : ∃ r h', D cfg 73 [tPtr tb, v] h = some (r, h') ∧ (∃ fl', r = .bool (stepT T ends).over ∧ TrackAt h' tb pa nb (stepT T ends) fl' ∧ Only (trF tb fl) h h' ∧ (∀ c, flF fl' c → flF fl c ∨ h.length ≤ c)) := by
    refine call73 (R := fun r h' => ∃ fl', r = .bool (stepT T ends).over ∧ TrackAt h' tb pa nb (stepT T ends) fl' ∧ Only (trF tb fl) h h' ∧ (∀ c, flF fl' c → flF fl c ∨ h.length ≤ c)) (args := [tPtr tb, v]) (h := h) (by simp) ?_
    have hvt : v.notTup = true := by rcases hv with ⟨rfl, _⟩ | ⟨_, _, _, _, _, rfl, _, _⟩ <;> rfl
    have hvc : v.cells = [v] := by rcases hv with ⟨rfl, _⟩ | ⟨_, _, _, _, _, rfl, _, _⟩ <;> rfl
    have hvo : v.one = true := by rcases hv with ⟨rfl, _⟩ | ⟨_, _, _, _, _, rfl, _, _⟩ <;> rfl
    obtain ⟨h1, hh1⟩ : ∃ h1, h ++ [AObj.cells [tPtr tb] 84 false] ++ [AObj.cells [v] 68 false] = h1 := ⟨_, rfl⟩
    have o1 : Only (fun _ => False) h h1 := by rw [← hh1, List.append_assoc]; exact .app
    have b1 : h1[h.length]? = some (.cells [tPtr tb] 84 false) := by rw [← hh1]; simp
    have eb1 : h1[h.length + 1]? = some (.cells [v] 68 false) := by rw [← hh1]; simp
    have T1 := H.same o1
    have q1 := cell_load b1 (n := 1) rfl (t := 84) (by simp) (off := 0) rfl
    have q5 := cell_load T1.hdr tC_len (t := 4) (by simp) (off := 5) rfl
    have hh1' : h ++ [AObj.cells [tPtr tb] 84 false, AObj.cells [v] 68 false] = h1 := by rw [← hh1]; simp
    cases hov : T.over with
    | true =>
      rw [hov] at q5
      have hst : stepT T ends = T := by simp only [stepT, hov, if_true]
      simp [-AV.notTup, -AV.cells, -AV.one, hvt, hvc, hvo, notTup_ptr, cells_ptr, one_ptr, c73, c73_r0, c73_r1, c73_r2, hh1, hh1', q1, fieldA, q5]
      rw [hst, hov]
      exact ⟨rfl, rfl, fl, T1, o1.mono fun _ _ => False.elim, fun c hc => .inl hc⟩
    | false =>
      rw [hov] at q5
      have q0 := cell_load T1.hdr tC_len (t := 3) (by simp) (off := 1) rfl
      obtain ⟨A, hA⟩ : ∃ A, T.at_ + 1 = A := ⟨_, rfl⟩
      have hwr : IntKind.wrap .i64 ((T.at_ : Int) + 1) = A := by rw [wrap_i64 (by omega) (by omega)]; omega
      have s1 := cell_store T1.hdr tC_len (t := 3) (by simp) (v := .int .i64 A) rfl (off := 1) (by decide)
      rw [tC_1] at s1
      obtain ⟨h2, hh2⟩ : ∃ h2, h1.set tb (.cells (tC T.most A (bufSl pa fl.length (ptrCells fl)) (bufSl nb T.nots.length (notCells T.nots)) T.bad T.over) 144 false) = h2 := ⟨_, rfl⟩
      obtain ⟨T2, o2⟩ := T1.head hh2
      have htl := lt_of_at H.hdr
      have S2 : SB h2 tb pa nb h.length (h.length + 1) { T with at_ := A, bad := T.bad, over := T.over } fl v ends := ⟨T2, o2.at b1 (by omega), o2.at eb1 (by omega), (hv.same o1).keep o2 fun b hb e => hev b hb (.inl e)⟩
      have hst : stepT T ends = { T with at_ := A, parts := keptTo A (hereN ends A T.parts) T.parts T.parts.length, over := overTo A T.most (hereN ends A T.parts) T.parts T.over T.parts.length, bad := badTo ends A T.nots T.bad T.nots.length } := by
        simp only [stepT, hov, hA]
        simp
      have hrest := step_rest (R := fun r h' => ∃ fl', r = .bool (stepT T ends).over ∧ TrackAt h' tb pa nb (stepT T ends) fl' ∧ Only (trF tb fl) h h' ∧ (∀ c, flF fl' c → flF fl c ∨ h.length ≤ c)) S2 hev hsm hsn (by show A ≤ 1000000; omega) hpl hnl fun h' fl' T' o' s' => by
        refine ⟨fl', by rw [hst], by rw [hst]; exact T', ((o1.mono fun _ _ => False.elim).trans (o2.mono fun c _ e => .inl e)).trans o', fun c hc => ?_⟩
        rcases s' c hc with h7 | h7
        · exact .inl h7
        · have h8 := o1.1
          have h9 := o2.1
          exact .inr (by omega)
      rw [hov] at s1 hh2
      generalize bufSl pa fl.length (ptrCells fl) = pv at *
      generalize bufSl nb T.nots.length (notCells T.nots) = nv at *
      simp [-AV.notTup, -AV.cells, -AV.one, hvt, hvc, hvo, notTup_ptr, cells_ptr, one_ptr, c73, c73_r0, c73_r1, c73_r3, hh1, hh1', q1, fieldA, q5, q0, hwr, s1, hh2]
      simpa using hrest
  obtain ⟨r, h', h1, fl', rfl, h2, h3, h4⟩ := key
  exact ⟨fl', h', h1, h2, h3, h4⟩
structure PS.ok (p : PS) (n : Nat) : Prop where
  c : p.c.small
  by_ : -2000000 ≤ p.by_ ∧ p.by_ ≤ 2000000
  kept : ∀ a ∈ p.kept, 0 ≤ a ∧ a ≤ n
  len : p.kept.length ≤ n
structure TS.ok (T : TS) : Prop where
  parts : ∀ p ∈ T.parts, p.ok T.at_
  nots : ∀ p ∈ T.nots, p.c.small
theorem PS.ok.mono {p : PS} {n m : Nat} (h : p.ok n) (hm : n ≤ m) : p.ok m := ⟨h.c, h.by_, fun a ha => by have := h.kept a ha; omega, by have := h.len; omega⟩
theorem PS.ok.small {p : PS} {n : Nat} (h : p.ok n) (hn : n ≤ 1000000) : p.small := ⟨h.c, by have := h.by_; omega, fun a ha => by have := h.kept a ha; omega, by have := h.len; omega⟩
theorem PS.ok.keep {p : PS} {n : Nat} (h : p.ok n) {b : Bool} : (p.keep ((n + 1 : Nat) : Int) b).ok (n + 1) := by
  have hk : ∀ a ∈ (p.keep ((n + 1 : Nat) : Int) b).kept, a ∈ p.kept ∨ a = ((n + 1 : Nat) : Int) := by
    intro a ha
    simp only [PS.keep] at ha
    split at ha
    · split at ha
      · exact .inr (by simpa using ha)
      · exact .inl ha
    · rcases List.mem_append.1 ha with ha | ha
      · exact .inl (List.mem_filter.1 ha).1
      · split at ha
        · exact .inr (by simpa using ha)
        · simp at ha
  refine ⟨h.c, h.by_, fun a ha => ?_, ?_⟩
  · rcases hk a ha with h1 | h1
    · have := h.kept a h1; omega
    · omega
  · have hl := h.len
    have hf : (keepL p ((n + 1 : Nat) : Int)).length ≤ p.kept.length := List.length_filter_le _ _
    simp only [PS.keep]
    split
    · split
      · simp
      · omega
    · obtain ⟨L, hL⟩ : ∃ L, (keepL p ((n + 1 : Nat) : Int)).length = L := ⟨_, rfl⟩
      rw [List.length_append, hL]
      split
      · show L + 1 ≤ n + 1; omega
      · show L + 0 ≤ n + 1; omega
theorem keptTo_mem {n : Nat} {hn : Nat → Bool} {ps : List PS} {q : PS} : ∀ {k : Nat}, q ∈ keptTo n hn ps k → ∃ p ∈ ps, q = p ∨ ∃ b, q = p.keep n b
  | 0, h => ⟨q, h, .inl rfl⟩
  | k + 1, h => by
    simp only [keptTo] at h
    split at h
    · rename_i p hp
      rcases List.mem_or_eq_of_mem_set h with h | h
      · exact keptTo_mem h
      · exact ⟨p, List.mem_of_getElem? hp, .inr ⟨_, h⟩⟩
    · exact keptTo_mem h
theorem TS.ok.step {T : TS} (h : T.ok) {ends : List Bool} : (stepT T ends).ok := by
  unfold stepT
  split
  · exact h
  · refine ⟨fun q hq => ?_, h.nots⟩
    obtain ⟨p, hp, e | ⟨b, e⟩⟩ := keptTo_mem hq
    · rw [e]; exact (h.parts p hp).mono (Nat.le_succ _)
    · rw [e]; exact (h.parts p hp).keep
theorem addT_ok {T : TS} (h : T.ok) {i : Nat} {c : Cont} (hc : c.small) : (addT T i c).ok := by
  have hdi := hc.di
  have hw := hc.w
  unfold addT
  split
  · refine ⟨h.parts, fun p hp => ?_⟩
    rcases List.mem_append.1 hp with hp | hp
    · exact h.nots p hp
    · simp at hp; subst hp; exact hc
  · refine ⟨fun p hp => ?_, h.nots⟩
    rcases List.mem_append.1 hp with hp | hp
    · unfold relL at hp
      split at hp
      · split at hp
        · rename_i q hq
          rcases List.mem_or_eq_of_mem_set hp with hp | hp
          · exact h.parts p hp
          · subst hp
            have := h.parts q (List.mem_of_getElem? hq)
            exact ⟨this.c, ⟨by show -2000000 ≤ c.distance + c.within; omega, by show c.distance + c.within ≤ 2000000; omega⟩, this.kept, this.len⟩
        · exact h.parts p hp
      · exact h.parts p hp
    · simp at hp
      subst hp
      exact ⟨hc, ⟨by show -2000000 ≤ (0 : Int); decide, by show (0 : Int) ≤ 2000000; decide⟩, fun a ha => by simp [newPS] at ha, by simp [newPS]⟩
theorem newTo_ok {l : List Cont} {most : Nat} (hl : ∀ c ∈ l, c.small) : ∀ {k : Nat}, (newTo l most k).ok
  | 0 => ⟨fun p hp => by simp [newTo] at hp, fun p hp => by simp [newTo] at hp⟩
  | k + 1 => by
    simp only [newTo]
    split
    · rename_i c hc
      exact addT_ok (newTo_ok hl) (hl c (List.mem_of_getElem? hc))
    · exact newTo_ok hl
theorem stepT_len {T : TS} {ends : List Bool} : (stepT T ends).parts.length = T.parts.length ∧ (stepT T ends).nots.length = T.nots.length ∧ (stepT T ends).at_ ≤ T.at_ + 1 := by
  unfold stepT
  split
  · exact ⟨rfl, rfl, by omega⟩
  · exact ⟨keptTo_len, rfl, Nat.le_refl _⟩
theorem step_ok {h : Heap} {tb pa nb : Nat} {T : TS} {fl : FL} {v : AV} {ends : List Bool} (H : TrackAt h tb pa nb T fl) (hv : Sl1 h v (boolCells ends)) (hev : ∀ b, slB v = some b → ¬ trF tb fl b) (hok : T.ok) (hat : T.at_ ≤ 900000) (hpl : T.parts.length + T.nots.length ≤ 1000) :
    ∃ fl' h', D cfg 73 [tPtr tb, v] h = some (.bool (stepT T ends).over, h') ∧ TrackAt h' tb pa nb (stepT T ends) fl' ∧ Only (trF tb fl) h h' ∧ (∀ c, flF fl' c → flF fl c ∨ h.length ≤ c) :=
  step_track H hv hev (fun p hp => (hok.parts p hp).small (by omega)) hok.nots hat (by omega) (by omega)
def allTo (hs : Nat → List Int) : Nat → List (Int × Int)
  | 0 => []
  | n + 1 => allTo hs n ++ (hs (n + 1)).map fun z => (z, ((n + 1 : Nat) : Int))
def endsOf (N : Nat) (zs : List Int) : List Bool := (List.range N).map fun (i : Nat) => decide ((i : Int) ∈ zs)
theorem endsOf_len {N : Nat} {zs : List Int} : (endsOf N zs).length = N := by simp [endsOf]
def stS (T0 : TS) (hs : Nat → List Int) (N : Nat) : Nat → TS
  | 0 => T0
  | n + 1 => stepT (stS T0 hs N n) (endsOf N (hs (n + 1)))
def runR (f : Nat → TS) (n : Nat) : Nat → Int × Bool × Int
  | 0 => (0, false, 0)
  | m + 1 => if (f n).holds then (n, true, if (f n).over then n else 0) else if (f n).over then (0, false, n) else runR f (n + 1) m
def runT (f : Nat → TS) (len : Nat) : Int × Bool × Int := if (f 0).holds then (0, true, 0) else runR f 1 len
theorem allTo_le {hs : Nat → List Int} {n : Nat} : ∀ k, ∃ r, allTo hs (n + k) = allTo hs n ++ r ∧ ∀ p ∈ r, (n : Int) < p.2
  | 0 => ⟨[], by simp, fun p hp => by simp at hp⟩
  | k + 1 => by
    obtain ⟨r, hr, h2⟩ := allTo_le (hs := hs) (n := n) k
    refine ⟨r ++ (hs (n + k + 1)).map fun z => (z, ((n + k + 1 : Nat) : Int)), by rw [show n + (k + 1) = (n + k) + 1 by omega]; simp only [allTo]; rw [hr, List.append_assoc], fun p hp => ?_⟩
    rcases List.mem_append.1 hp with hp | hp
    · exact h2 p hp
    · simp at hp
      obtain ⟨z, _, rfl⟩ := hp
      show (n : Int) < _
      omega
theorem allTo_at {hs : Nat → List Int} {n m t : Nat} (hm : n + 1 ≤ m) {z : Int} (ht : (hs (n + 1))[t]? = some z) : (allTo hs m)[(allTo hs n).length + t]? = some (z, ((n + 1 : Nat) : Int)) := by
  obtain ⟨r, hr, _⟩ := allTo_le (hs := hs) (n := n + 1) (m - (n + 1))
  rw [show n + 1 + (m - (n + 1)) = m by omega] at hr
  have htl := (List.getElem?_eq_some_iff.1 ht).1
  rw [hr]
  simp only [allTo]
  rw [List.append_assoc, List.getElem?_append_right (by omega), Nat.add_sub_cancel_left, List.getElem?_append_left (by simpa using htl)]
  simp [ht]
theorem allTo_after {hs : Nat → List Int} {n m : Nat} (hm : n ≤ m) {p : Int × Int} (hp : (allTo hs m)[(allTo hs n).length]? = some p) : (n : Int) < p.2 := by
  obtain ⟨r, hr, h2⟩ := allTo_le (hs := hs) (n := n) (m - n)
  rw [show n + (m - n) = m by omega] at hr
  rw [hr, List.getElem?_append_right (by omega)] at hp
  exact h2 p (List.mem_of_getElem? hp)
theorem stS_len {T0 : TS} {hs : Nat → List Int} {N : Nat} : ∀ {n : Nat}, (stS T0 hs N n).parts.length = T0.parts.length ∧ (stS T0 hs N n).nots.length = T0.nots.length ∧ (stS T0 hs N n).at_ ≤ T0.at_ + n
  | 0 => ⟨rfl, rfl, Nat.le_refl _⟩
  | n + 1 => by
    obtain ⟨a, b, c⟩ := stS_len (T0 := T0) (hs := hs) (N := N) (n := n)
    obtain ⟨d, e, f⟩ := stepT_len (T := stS T0 hs N n) (ends := endsOf N (hs (n + 1)))
    exact ⟨d.trans a, e.trans b, by simp only [stS]; omega⟩
theorem stS_ok {T0 : TS} {hs : Nat → List Int} {N : Nat} (h : T0.ok) : ∀ {n : Nat}, (stS T0 hs N n).ok
  | 0 => h
  | n + 1 => (stS_ok h).step
theorem endsOf_set {N : Nat} {zs : List Int} {t i : Nat} (ht : zs[t]? = some (i : Int)) (hi : i < N) : (boolCells (endsOf N (zs.take t))).set i (.bool true) = boolCells (endsOf N (zs.take (t + 1))) := by
  have htl := (List.getElem?_eq_some_iff.1 ht).1
  have htk : zs.take (t + 1) = zs.take t ++ [(i : Int)] := by
    rw [List.take_add_one, ht]; rfl
  apply List.ext_getElem?
  intro j
  by_cases hj : j < N
  · by_cases hji : j = i
    · subst hji
      rw [List.getElem?_set_self (by rw [boolCells_len, endsOf_len]; exact hj)]
      simp [boolCells, endsOf, hj, htk]
    · rw [List.getElem?_set_ne (Ne.symm hji)]
      have : ¬ ((j : Int) = (i : Int)) := by omega
      simp [boolCells, endsOf, hj, htk, this, hji]
  · rw [List.getElem?_eq_none (by rw [List.length_set, boolCells_len, endsOf_len]; omega), List.getElem?_eq_none (by rw [boolCells_len, endsOf_len]; omega)]
def hitCells (l : List (Int × Int)) : List AV := l.flatMap fun p => [.int .i64 p.1, .int .i64 p.2]
theorem hitCells_len {l : List (Int × Int)} : (hitCells l).length = l.length * 2 := by
  induction l with
  | nil => rfl
  | cons x r ih => simp only [hitCells, List.flatMap_cons, List.length_append, List.length_cons, List.length_nil] at ih ⊢; omega
theorem hitCells_app {a b : List (Int × Int)} : hitCells (a ++ b) = hitCells a ++ hitCells b := by simp [hitCells]
def hitSl (b : Nat) (l : List (Int × Int)) : AV := bufSl b l.length (hitCells l)
def hitsTo (nc : List Bool) (t : Txt) (l : List Txt) : Nat → List (Int × Int)
  | 0 => []
  | n + 1 => hitsTo nc t l n ++ (scHits nc (t.take (n + 1)) l 0).map fun z => (z, ((n + 1 : Nat) : Int))
theorem hitsTo_len {nc : List Bool} {t : Txt} {l : List Txt} : ∀ {n : Nat}, (hitsTo nc t l n).length ≤ n * l.length
  | 0 => by simp [hitsTo]
  | n + 1 => by
    have h1 := hitsTo_len (nc := nc) (t := t) (l := l) (n := n)
    have h2 := scHits_len (nc := nc) (w := t.take (n + 1)) (l := l) (i := 0)
    simp only [hitsTo, List.length_append, List.length_map, Nat.add_mul]
    omega
structure HitH (h₀ : Heap) (l : List (Int × Int)) (b : Nat) (h : Heap) : Prop where
  at_ : l.length ≠ 0 → h[b]? = some (.cells (hitCells l) 75 true) ∧ h₀.length ≤ b
theorem HitH.step {h₀ h : Heap} {l : List (Int × Int)} {b : Nat} (H : HitH h₀ l b h) (hh : h₀.length ≤ h.length) (hn : l.length ≤ 1000000) {p : Int × Int} :
    ∃ δ h' b', b' = (if l.length = 0 then h.length + 1 else b) ∧ append2 Try.prog (look (h ++ [AObj.cells [.int .i64 p.1, .int .i64 p.2] 75 true])) (h.length + 1) 71 71 [hitSl b l, .sl (some ⟨h.length, 0, 2⟩) 1 1] = some (hitSl b' (l ++ [p]), δ) ∧ Heap.apply (h ++ [AObj.cells [.int .i64 p.1, .int .i64 p.2] 75 true]) δ = h' ∧
      HitH h₀ (l ++ [p]) b' h' ∧ Only (fun c => c = b ∧ l.length ≠ 0) h h' := by
  obtain ⟨δ, h', e1, e2, e3, e4⟩ := append_buf (t := 71) (e := 75) (k := 2) (by simp) (by simp) (by decide) (by simp) (by simp) (h := h) (b := b) (n := l.length) (xs := hitCells l) (ys := [.int .i64 p.1, .int .i64 p.2]) (by simp) (by rw [hitCells_len]) (fun hne => (H.at_ hne).1) hn
  have e : hitCells l ++ [AV.int .i64 p.1, AV.int .i64 p.2] = hitCells (l ++ [p]) := by rw [hitCells_app]; rfl
  rw [e] at e1 e3
  refine ⟨δ, h', if l.length = 0 then h.length + 1 else b, rfl, ?_, e2, ⟨fun _ => ⟨e3, ?_⟩⟩, e4⟩
  · simp only [hitSl, List.length_append, List.length_cons, List.length_nil]
    exact e1
  · split
    · omega
    · rename_i hne; exact (H.at_ hne).2
theorem HitH.keep {h₀ h h' : Heap} {l : List (Int × Int)} {b : Nat} {fp : Nat → Prop} (H : HitH h₀ l b h) (ho : Only fp h h') (hf : l.length ≠ 0 → ¬ fp b) : HitH h₀ l b h' :=
  ⟨fun hne => ⟨ho.at (H.at_ hne).1 (hf hne), (H.at_ hne).2⟩⟩
theorem take_map {l : List Txt} {i : Nat} (hi : i < l.length) : (l.map fold).take (i + 1) = (l.map fold).take i ++ [fold (txt l i)] := by
  rw [List.take_succ_eq_append_getElem (by simpa using hi)]
  simp [txt_eq hi]
def Fo64 (h₀ : Heap) (v u : AV) (l : List Txt) (t : Txt) (m : Nat) (σ : St) : Prop :=
  ∃ i b h, m = l.length - i ∧ i ≤ l.length ∧ σ = ⟨[(0, v), (1, u), (2, .str t), (7, txtSl b ((l.map fold).take i)), (18, v), (19, .int .i64 l.length), (20, .int .i64 i)], h⟩ ∧ PatH h₀ ((l.map fold).take i) b h
theorem folds_loop {h₀ : Heap} {v u : AV} {l : List Txt} {t : Txt} (hv : Sl1 h₀ v (strCells l)) (hl : l.length ≤ 200) (hp : ∀ p ∈ l, p.length ≤ 9223372036854775800) {Q : AExit → St → Prop}
    (hq : ∀ b h, PatH h₀ (l.map fold) b h → Q (.exit 0) ⟨[(0, v), (1, u), (2, .str t), (7, txtSl b (l.map fold)), (18, v), (19, .int .i64 l.length), (20, .int .i64 l.length), (21, .bool false)], h⟩) :
    Wt Try.prog (D cfg) (.loop c64_l3 (some [0, 1, 2, 7, 18, 19, 20])) ⟨[(0, v), (1, u), (2, .str t), (7, .sl none 0 0), (18, v), (19, .int .i64 l.length), (20, .int .i64 0)], h₀⟩ Q := by
  refine Wt.loop (Fo64 h₀ v u l t) (m := l.length) ⟨0, 0, h₀, rfl, Nat.zero_le _, rfl, fun h => absurd rfl h, .refl⟩ ?_
  rintro m σ ⟨i, b, h, rfl, hi, rfl, H⟩
  have hcut : cut (some [0, 1, 2, 7, 18, 19, 20]) [(0, v), (1, u), (2, .str t), (7, txtSl b ((l.map fold).take i)), (18, v), (19, .int .i64 l.length), (20, .int .i64 (i : Int))] = [(0, v), (1, u), (2, .str t), (7, txtSl b ((l.map fold).take i)), (18, v), (19, .int .i64 l.length), (20, .int .i64 i)] := by simp
  simp only [hcut]
  by_cases hil : i < l.length
  · have hil' : (i : Int) < l.length := by omega
    have hwr : IntKind.wrap .i64 ((i : Int) + 1) = i + 1 := wrap_i64 (by omega) (by omega)
    have a1 := hv.at (t := 38) (e := 9) (by simp) (by simp) (i := i) (by rw [strCells_len]; exact hil)
    have b1 := (hv.same H.only).load (e := 9) (by simp) (i := i) (by rw [strCells_len]; exact hil)
    rw [strCells_get, txt_eq] at b1
    obtain ⟨h1, e1, o1⟩ := fold_auto (h := h) (s := txt l i) (hp _ (by rw [← txt_eq hil]; exact List.getElem_mem hil))
    have H1 : PatH h₀ ((l.map fold).take i) b h1 := ⟨fun hne => ⟨o1.at (H.at_ hne).1 id, (H.at_ hne).2⟩, H.only.trans o1⟩
    obtain ⟨δ, h2, b2, e2, e3, H2⟩ := H1.step (by simp; omega) (p := fold (txt l i))
    rw [← take_map hil] at e2 H2
    have hnext : Fo64 h₀ v u l t (l.length - (i + 1)) ⟨[(0, v), (1, u), (2, .str t), (7, txtSl b2 ((l.map fold).take (i + 1))), (18, v), (19, .int .i64 l.length), (20, .int .i64 (i + 1 : Nat))], h2⟩ := ⟨i + 1, b2, h2, rfl, hil, rfl, H2⟩
    simp [-List.map_take, c64_l3, c64_r3, c64_r4, c64_r5, c64_r6, hil, hil', a1, b1, e1, abuildSlice, afill, zeros, e2, e3, hwr]
    exact ⟨l.length - (i + 1), by omega, by simpa [-List.map_take] using hnext⟩
  · have : i = l.length := by omega
    subst this
    rw [show (l.map fold).take l.length = l.map fold by rw [← List.length_map (f := fold), List.take_length]] at H ⊢
    have := hq b h H
    simp [c64_l3, c64_r3]
    simpa using this
section
variable {h₀ : Heap} {sb : Nat} {lv nv : AV} {B : AB} {l : List Txt} {nc : List Bool} {t : Txt} {tab : Nat → Nat → Nat} {fl ob : Nat → Nat} {ou : Nat → List Int}
structure AllI (h₁ : Heap) (sb : Nat) (lv nv : AV) (B : AB) (l : List Txt) (nc : List Bool) (w : Txt) (tab : Nat → Nat → Nat) (fl ob : Nat → Nat) (ou : Nat → List Int) (hs : List (Int × Int)) (b : Nat) (h : Heap) : Prop where
  sc : ScanX h sb lv nv B l nc w tab fl ob ou
  hit : HitH h₁ hs b h
  only : Only (fun c => c = sb) h₁ h
theorem AllI.more {h₁ h : Heap} {w : Txt} {hs : List (Int × Int)} {b : Nat} (H : AllI h₁ sb lv nv B l nc w tab fl ob ou hs b h) (hlt : ∀ c, scFoot sb lv nv B (begs (l.map fold)).length ob ou c → c < h₁.length) (hn : hs.length ≤ 1000000) {p : Int × Int} :
    ∃ δ h' b', b' = (if hs.length = 0 then h.length + 1 else b) ∧ append2 Try.prog (look (h ++ [AObj.cells [.int .i64 p.1, .int .i64 p.2] 75 true])) (h.length + 1) 71 71 [hitSl b hs, .sl (some ⟨h.length, 0, 2⟩) 1 1] = some (hitSl b' (hs ++ [p]), δ) ∧ Heap.apply (h ++ [AObj.cells [.int .i64 p.1, .int .i64 p.2] 75 true]) δ = h' ∧
      AllI h₁ sb lv nv B l nc w tab fl ob ou (hs ++ [p]) b' h' ∧ Only (fun c => c = b ∧ hs.length ≠ 0) h h' := by
  obtain ⟨δ, h2, b2, e0, e2, e3, H2, o2⟩ := H.hit.step H.only.1 hn (p := p)
  refine ⟨δ, h2, b2, e0, e2, e3, ⟨H.sc.keep o2 fun c hc hb => ?_, H2, ⟨Nat.le_trans H.only.1 o2.1, fun c hc hne => ?_⟩⟩, o2⟩
  · have h1 := hlt c hc
    have h2 := (H.hit.at_ hb.2).2
    have := hb.1
    omega
  · rw [o2.2 c (Nat.lt_of_lt_of_le hc H.only.1) (fun hb => by have h2 := (H.hit.at_ hb.2).2; have := hb.1; omega), H.only.2 c hc hne]
abbrev inEnv64 (hv : AV) (sb tb n i : Nat) (ov : AV) (m k : Nat) : Env := [(12, hv), (13, scPtr sb), (42, byteSl tb n), (43, .int .i64 n), (44, .int .i64 i), (50, ov), (51, .int .i64 m), (52, .int .i64 k)]
def mk64 (n : Nat) (O : List Int) : List (Int × Int) := O.map fun z => (z, (n : Int))
theorem mk64_len {n : Nat} {O : List Int} : (mk64 n O).length = O.length := by simp [mk64]
theorem mk64_snoc {n : Nat} {O : List Int} {z : Int} : mk64 n (O ++ [z]) = mk64 n O ++ [(z, (n : Int))] := by simp [mk64]
def In64 (h₁ : Heap) (sb : Nat) (lv nv : AV) (B : AB) (l : List Txt) (nc : List Bool) (w : Txt) (tab : Nat → Nat → Nat) (fl ob : Nat → Nat) (ou : Nat → List Int) (hs : List (Int × Int)) (tb n i : Nat) (ov : AV) (O : List Int) (m : Nat) (σ : St) : Prop :=
  ∃ k b h, m = O.length - k ∧ k ≤ O.length ∧ σ = ⟨inEnv64 (hitSl b (hs ++ mk64 w.length (O.take k))) sb tb n i ov O.length k, h⟩ ∧ AllI h₁ sb lv nv B l nc w tab fl ob ou (hs ++ mk64 w.length (O.take k)) b h ∧ Sl1 h ov (intCells O) ∧
    ((hs ++ mk64 w.length (O.take k)).length ≠ 0 → slB ov ≠ some b) ∧ (∀ c, slB ov = some c → c < h.length)
theorem in64_loop {h₁ h : Heap} {w : Txt} {hs : List (Int × Int)} {b tb n i : Nat} {ov : AV} {O : List Int} (hlt : ∀ c, scFoot sb lv nv B (begs (l.map fold)).length ob ou c → c < h₁.length) (H : AllI h₁ sb lv nv B l nc w tab fl ob ou hs b h) (hov : Sl1 h ov (intCells O)) (hb : hs.length ≠ 0 → slB ov ≠ some b) (hn : hs.length + O.length ≤ 1000000) (hovl : ∀ c, slB ov = some c → c < h.length) {Q : AExit → St → Prop}
    (hq : ∀ b' h', AllI h₁ sb lv nv B l nc w tab fl ob ou (hs ++ mk64 w.length O) b' h' → Q (.exit 4) ⟨inEnv64 (hitSl b' (hs ++ mk64 w.length O)) sb tb n i ov O.length O.length ++ [(53, .bool false)], h'⟩) :
    Wt Try.prog (D cfg) (.loop c64_l16 (some [12, 13, 42, 43, 44, 50, 51, 52])) ⟨inEnv64 (hitSl b hs) sb tb n i ov O.length 0, h⟩ Q := by
  have h00 : hs ++ mk64 w.length (O.take 0) = hs := by simp [mk64]
  refine Wt.loop (In64 h₁ sb lv nv B l nc w tab fl ob ou hs tb n i ov O) (m := O.length) ⟨0, b, h, rfl, Nat.zero_le _, by rw [h00], by rw [h00]; exact H, hov, by rw [h00]; exact hb, hovl⟩ ?_
  rintro m σ ⟨k, b1, h1, rfl, hk, rfl, H1, hov1, hb1, hl1⟩
  have hcut : cut (some [12, 13, 42, 43, 44, 50, 51, 52]) (inEnv64 (hitSl b1 (hs ++ mk64 w.length (O.take k))) sb tb n i ov O.length k) = inEnv64 (hitSl b1 (hs ++ mk64 w.length (O.take k))) sb tb n i ov O.length k := by simp
  simp only [hcut]
  by_cases hkO : k < O.length
  · have hkO' : (k : Int) < O.length := by omega
    have hwr : IntKind.wrap .i64 ((k : Int) + 1) = k + 1 := wrap_i64 (by omega) (by omega)
    have a1 := hov1.at (t := 30) (e := 3) (by simp) (by simp) (i := k) (by rw [intCells_len]; exact hkO)
    have c1 := hov1.load (e := 3) (by simp) (i := k) (by rw [intCells_len]; exact hkO)
    rw [intCells_get] at c1
    have e1 := scan_at H1.sc.sc
    have htk : mk64 w.length (O.take (k + 1)) = mk64 w.length (O.take k) ++ [(O[k], (w.length : Int))] := by
      rw [List.take_succ_eq_append_getElem hkO, mk64_snoc]
    obtain ⟨hs1, hhs1⟩ : ∃ x, hs ++ mk64 w.length (O.take k) = x := ⟨_, rfl⟩
    have hs2 : hs ++ mk64 w.length (O.take (k + 1)) = hs1 ++ [(O[k], (w.length : Int))] := by rw [htk, ← hhs1, List.append_assoc]
    have hsl : hs1.length ≤ 1000000 := by rw [← hhs1]; simp [mk64_len]; omega
    rw [hhs1] at H1 hb1 ⊢
    obtain ⟨δ, h2, b2, e0, e2, e3, H2, o2⟩ := H1.more hlt hsl (p := (O[k], (w.length : Int)))
    have hov2 := hov1.keep o2 fun c hc hb => hb1 hb.2 (by rw [hc, hb.1])
    have hnext : In64 h₁ sb lv nv B l nc w tab fl ob ou hs tb n i ov O (O.length - (k + 1)) ⟨inEnv64 (hitSl b2 (hs1 ++ [(O[k], (w.length : Int))])) sb tb n i ov O.length (k + 1), h2⟩ := by
      refine ⟨k + 1, b2, h2, rfl, hkO, by rw [hs2], by rw [hs2]; exact H2, hov2, fun _ hc => ?_, fun c hc => Nat.lt_of_lt_of_le (hl1 c hc) o2.1⟩
      have h5 := hl1 _ hc
      rw [e0] at hc h5
      split at hc
      · rename_i h6
        rw [if_pos h6] at h5
        omega
      · rename_i h6; exact hb1 h6 hc
    simp only [inEnv64] at hnext
    simp [c64_l16, c64_r16, c64_r17, c64_r18, c64_r19, hkO, hkO', a1, c1, e1, abuild, abuildSlice, afill, zeros, splice, e2, e3, hwr]
    exact ⟨O.length - (k + 1), by omega, by simpa using hnext⟩
  · have : k = O.length := by omega
    subst this
    rw [List.take_length] at H1 ⊢
    have := hq b1 h1 H1
    simp only [inEnv64] at this
    simp [c64_l16, c64_r16]
    simpa using this
abbrev outEnv64 (hv : AV) (sb tb n i : Nat) : Env := [(12, hv), (13, scPtr sb), (42, byteSl tb n), (43, .int .i64 n), (44, .int .i64 i)]
def Ot64 (h₁ : Heap) (sb : Nat) (lv nv : AV) (B : AB) (l : List Txt) (nc : List Bool) (t : Txt) (tab : Nat → Nat → Nat) (fl ob : Nat → Nat) (ou : Nat → List Int) (tb : Nat) (m : Nat) (σ : St) : Prop :=
  ∃ i b h, m = t.length - i ∧ i ≤ t.length ∧ σ = ⟨outEnv64 (hitSl b (hitsTo nc t l i)) sb tb t.length i, h⟩ ∧ AllI h₁ sb lv nv B l nc (t.take i) tab fl ob ou (hitsTo nc t l i) b h
theorem hitsTo_succ {i : Nat} : hitsTo nc t l (i + 1) = hitsTo nc t l i ++ mk64 (i + 1) (scHits nc (t.take (i + 1)) l 0) := rfl
theorem out64_loop {h₁ : Heap} {tb : Nat} (hlt : ∀ c, scFoot sb lv nv B (begs (l.map fold)).length ob ou c → c < h₁.length) (H : ScanX h₁ sb lv nv B l nc [] tab fl ob ou) (htb : h₁[tb]? = some (.cells (byteCells t) 5 true)) (hts : tb ≠ sb) (hn : t.length * l.length ≤ 1000000) (hn2 : t.length ≤ 1000000) {Q : AExit → St → Prop}
    (hq : ∀ b' h', AllI h₁ sb lv nv B l nc t tab fl ob ou (hitsTo nc t l t.length) b' h' → Q (.exit 2) ⟨outEnv64 (hitSl b' (hitsTo nc t l t.length)) sb tb t.length t.length ++ [(45, .bool false)], h'⟩) :
    Wt Try.prog (D cfg) (.loop c64_l13 (some [12, 13, 42, 43, 44])) ⟨outEnv64 (.sl none 0 0) sb tb t.length 0, h₁⟩ Q := by
  refine Wt.loop (Ot64 h₁ sb lv nv B l nc t tab fl ob ou tb) (m := t.length) ⟨0, 0, h₁, rfl, Nat.zero_le _, rfl, ⟨H, ⟨fun h => absurd rfl h⟩, .refl⟩⟩ ?_
  rintro m σ ⟨i, b, h, rfl, hi, rfl, HI⟩
  have hcut : cut (some [12, 13, 42, 43, 44]) (outEnv64 (hitSl b (hitsTo nc t l i)) sb tb t.length i) = outEnv64 (hitSl b (hitsTo nc t l i)) sb tb t.length i := by simp
  simp only [hcut]
  by_cases hit : i < t.length
  · have hit' : (i : Int) < t.length := by omega
    have hwr : IntKind.wrap .i64 ((i : Int) + 1) = i + 1 := wrap_i64 (by omega) (by omega)
    have g1 : h[tb]? = some (.cells (byteCells t) 5 true) := HI.only.at htb hts
    have hcl : (byteCells t).length = t.length := byteCells_len
    have hb : (byteCells t)[i]? = some (.int .u8 t[i].toNat) := by simp [byteCells, hit]
    have q1 := cell_load g1 hcl (t := 5) (by simp) hb
    have hwl : (t.take i).length = i := by simp; omega
    obtain ⟨bo, h2, e1, H2, o2, d2⟩ := scan_step HI.sc (by omega) (b := t[i])
    have htk : t.take i ++ [t[i]] = t.take (i + 1) := (List.take_succ_eq_append_getElem hit).symm
    rw [htk] at e1 H2 d2
    obtain ⟨O, hO⟩ : ∃ O, scHits nc (t.take (i + 1)) l 0 = O := ⟨_, rfl⟩
    have hOl : O.length ≤ l.length := by rw [← hO]; exact scHits_len
    rw [hO] at e1 d2
    have hsb : h₁.length ≤ h.length := HI.only.1
    have hsb1 : sb < h₁.length := hlt sb (.inl rfl)
    have A2 : AllI h₁ sb lv nv B l nc (t.take (i + 1)) tab fl ob ou (hitsTo nc t l i) b h2 := ⟨H2, HI.hit.keep o2 fun hne => by have := (HI.hit.at_ hne).2; omega, HI.only.trans o2⟩
    have hov : Sl1 h2 (intSl bo O) (intCells O) := Sl1.ints fun hne => (d2 hne).2
    have hov2 : ∀ c, slB (intSl bo O) = some c → h.length ≤ c ∧ c < h2.length := fun c hc => by
      by_cases h0 : O = []
      · rw [h0, intSl_nil] at hc; simp [slB] at hc
      · rw [intSl_ne h0] at hc
        simp [slB] at hc
        subst hc
        exact ⟨(d2 h0).1, lt_of_at (d2 h0).2⟩
    have hlen := hitsTo_len (nc := nc) (t := t) (l := l) (n := i)
    have hmul : (i + 1) * l.length ≤ t.length * l.length := Nat.mul_le_mul_right _ hit
    rw [Nat.add_mul] at hmul
    have hin := fun Q hq => in64_loop (tb := tb) (n := t.length) (i := i) (Q := Q) hlt A2 hov (fun hne hc => by
      have h5 := lt_of_at (HI.hit.at_ hne).1
      have := (hov2 _ hc).1
      omega) (by omega) (fun c hc => (hov2 c hc).2) hq
    have hwl1 : (t.take (i + 1)).length = i + 1 := by simp; omega
    rw [hwl1] at hin
    have hlO := fun L => intSl_lenA (L := L) (b := bo) (l := O)
    simp only [inEnv64, byteSl] at hin
    simp [c64_l13, c64_r13, c64_r14, c64_r15, hit, hit', aindexAddr, q1, e1, len1, hlO]
    refine hin _ fun b' h' A3 => ?_
    rw [← hO, ← hitsTo_succ] at A3
    have hnext : Ot64 h₁ sb lv nv B l nc t tab fl ob ou tb (t.length - (i + 1)) ⟨outEnv64 (hitSl b' (hitsTo nc t l (i + 1))) sb tb t.length (i + 1), h'⟩ := ⟨i + 1, b', h', rfl, hit, rfl, A3⟩
    rw [← hO, ← hitsTo_succ]
    simp only [outEnv64, byteSl] at hnext
    simp [c64_r20, hwr]
    exact ⟨t.length - (i + 1), by omega, by simpa using hnext⟩
  · have : i = t.length := by omega
    subst this
    rw [List.take_length] at HI
    have := hq b h HI
    simp only [outEnv64] at this
    simp [c64_l13, c64_r13]
    simpa using this
end
section
variable {h : Heap} {v u : AV} {l : List Txt} {nc : List Bool} {t : Txt}
theorem begs_fold_le (hg : bgood l = true) (hl : l.length ≤ 200) : (begs (l.map fold)).length ≤ 4096 := by
  have := bgood_begs (l := l.map fold) (by rw [bgood_fold]; exact hg)
  simp at this
  omega
theorem PatH.slB {h₀ h : Heap} {l : List Txt} {b : Nat} (H : PatH h₀ l b h) : ∀ c, slB (txtSl b l) = some c → c < h.length := fun c hc => by
  simp only [txtSl] at hc
  obtain ⟨rfl, hne⟩ := slB_buf hc
  exact lt_of_at (H.at_ hne).1
theorem scan_all_bad (hv : Sl1 h v (strCells l)) (hp : ∀ p ∈ l, p.length ≤ 9223372036854775800) (hl : l.length ≤ 200) (hg : bgood l = false) :
    ∃ h', D cfg 64 [v, u, .str t] h = some (.sl none 0 0, h') ∧ Only (fun _ => False) h h' := by
  have key : ∃ r h', D cfg 64 [v, u, .str t] h = some (r, h') ∧ (r = .sl none 0 0 ∧ Only (fun _ => False) h h') := by
    refine call64 (R := fun r h' => r = .sl none 0 0 ∧ Only (fun _ => False) h h') (args := [v, u, .str t]) (h := h) (by simp) ?_
    have hlen := fun L => hv.len (t := 38) (e := 9) (by simp) (L := L)
    simp only [strCells_len] at hlen
    have hf := fun Q hq => folds_loop (u := u) (t := t) (Q := Q) hv hl hp hq
    simp [c64, c64_r0, c64_r1, c64_r2, len1, hlen]
    refine hf _ fun b h1 H1 => ?_
    obtain ⟨h2, e2, o2⟩ := build_bad (bud := 4096) (Sl1.txt (s := true) fun hne => (H1.at_ hne).1) H1.slB (by simp; omega) (by rw [bgood_fold]; exact hg)
    simp [c64_r7, c64_r8, c64_r9, e2, extractV]
    exact H1.only.trans o2
  obtain ⟨r, h', h1, rfl, h2⟩ := key
  exact ⟨h', h1, h2⟩
theorem scan_all (hv : Sl1 h v (strCells l)) (hu : Sl1 h u (boolCells nc)) (hl : l.length ≤ 200) (hg : bgood l = true) (hn : nc.length ≤ 1000000000) (ht : t.length * l.length ≤ 1000000) (ht2 : t.length ≤ 1000000) :
    ∃ b h', D cfg 64 [v, u, .str t] h = some (hitSl b (hitsTo nc t l t.length), h') ∧ Only (fun _ => False) h h' ∧ ((hitsTo nc t l t.length).length ≠ 0 → h'[b]? = some (.cells (hitCells (hitsTo nc t l t.length)) 75 true)) := by
  have key : ∃ r h', D cfg 64 [v, u, .str t] h = some (r, h') ∧ (∃ b, r = hitSl b (hitsTo nc t l t.length) ∧ Only (fun _ => False) h h' ∧ ((hitsTo nc t l t.length).length ≠ 0 → h'[b]? = some (.cells (hitCells (hitsTo nc t l t.length)) 75 true))) := by
    refine call64 (R := fun r h' => ∃ b, r = hitSl b (hitsTo nc t l t.length) ∧ Only (fun _ => False) h h' ∧ ((hitsTo nc t l t.length).length ≠ 0 → h'[b]? = some (.cells (hitCells (hitsTo nc t l t.length)) 75 true))) (args := [v, u, .str t]) (h := h) (by simp) ?_
    have hlen := fun L => hv.len (t := 38) (e := 9) (by simp) (L := L)
    simp only [strCells_len] at hlen
    have hf := fun Q hq => folds_loop (u := u) (t := t) (Q := Q) hv hl (fun p hp => by have := (bgood_at hg hp).2; omega) hq
    simp [c64, c64_r0, c64_r1, c64_r2, len1, hlen]
    refine hf _ fun b h1 H1 => ?_
    have hb := begs_fold_le hg hl
    obtain ⟨B, tab, fl, ob, ou, h2, e2, o2, A, fA⟩ := build_ok (bud := 4096) (Sl1.txt (s := true) fun hne => (H1.at_ hne).1) H1.slB (by simp; omega) (by rw [bgood_fold]; exact hg) (by omega) hb
    have o02 := H1.only.trans o2
    obtain ⟨sb, lv, nv, h3, e3, X3, o3, f3, n3⟩ := scan_new A (hv.same o02) (hu.same o02) hg hl hn
    have o4 : Only (fun _ => False) h3 (h3 ++ [.cells (byteCells t) 5 true]) := .app
    have hlt : ∀ c, scFoot sb lv nv B (begs (l.map fold)).length ob ou c → c < (h3 ++ [AObj.cells (byteCells t) 5 true]).length := by
      intro c hc
      have : c < h3.length := by
        rcases hc with rfl | hc | hc | hc
        · obtain ⟨ring, _, g⟩ := X3.sc.hdr; exact lt_of_at g
        · rcases X3.l_ with ⟨rfl, _⟩ | ⟨b', o', g', c', cs', rfl, hr, _⟩
          · simp [AM.slB] at hc
          · simp [AM.slB] at hc; subst hc
            rcases Nat.lt_or_ge b' h3.length with h5 | h5
            · exact h5
            · simp [row, look_at, List.getElem?_eq_none h5] at hr
        · rcases X3.n_ with ⟨rfl, _⟩ | ⟨b', o', g', c', cs', rfl, hr, _⟩
          · simp [AM.slB] at hc
          · simp [AM.slB] at hc; subst hc
            rcases Nat.lt_or_ge b' h3.length with h5 | h5
            · exact h5
            · simp [row, look_at, List.getElem?_eq_none h5] at hr
        · exact X3.auto.at_.foot_lt hc
      simp; omega
    have hsb : h.length ≤ sb := by have := o02.1; omega
    have hsl : sb < h3.length := by obtain ⟨ring, _, g⟩ := X3.sc.hdr; exact lt_of_at g
    have hout := fun Q hq => out64_loop (tb := h3.length) (Q := Q) hlt (X3.same o4) (by simp) (by omega) ht ht2 hq
    simp only [outEnv64] at hout
    simp [c64_r7, c64_r8, c64_r10, c64_r11, c64_r12, e2, extractV, e3, aconv, len1, alen]
    refine hout _ fun b' h5 H5 => ?_
    have o05 : Only (fun _ => False) h h5 := ((o02.trans o3).trans o4).fresh H5.only fun c hc => by rw [hc]; exact hsb
    have hnt : (hitSl b' (hitsTo nc t l t.length)).notTup = true := bufSl_notTup
    simp [c64_r21, -AV.notTup, hnt]
    exact ⟨b', rfl, o05, fun hne => (H5.hit.at_ (fun e => hne (List.length_eq_zero_iff.1 e))).1⟩
  obtain ⟨r, h', h1, b, rfl, h2, h3⟩ := key
  exact ⟨b, h', h1, h2, h3⟩
end
theorem hitCells_at : ∀ {l : List (Int × Int)} {i : Nat} {p : Int × Int}, l[i]? = some p → (hitCells l)[i * 2]? = some (.int .i64 p.1) ∧ (hitCells l)[i * 2 + 1]? = some (.int .i64 p.2)
  | [], i, p, h => by simp at h
  | x :: r, 0, p, h => by simp at h; subst h; simp [hitCells]
  | x :: r, i + 1, p, h => by
    have ih := hitCells_at (l := r) (i := i) (p := p) (by simpa using h)
    have e : hitCells (x :: r) = .int .i64 x.1 :: .int .i64 x.2 :: hitCells r := rfl
    rw [e, show (i + 1) * 2 = i * 2 + 2 by omega, show i * 2 + 2 + 1 = i * 2 + 1 + 2 by omega]
    simpa using ih
section
variable {h : Heap} {b : Nat} {l : List (Int × Int)}
theorem hit_load (hb : l.length ≠ 0 → h[b]? = some (.cells (hitCells l) 75 true)) {i : Nat} {p : Int × Int} (hp : l[i]? = some p) :
    aload Try.prog (look h) 3 (.ptr (some ⟨b, i * 2, l.length * 2⟩)) = some (.int .i64 p.1) ∧ aload Try.prog (look h) 3 (.ptr (some ⟨b, i * 2 + 1, l.length * 2⟩)) = some (.int .i64 p.2) := by
  have hi := (List.getElem?_eq_some_iff.1 hp).1
  have h1 := hb (by omega)
  obtain ⟨h2, h3⟩ := hitCells_at hp
  exact ⟨cell_load h1 hitCells_len (by simp) h2, cell_load h1 hitCells_len (by simp) h3⟩
end
def hd (b : Nat) (all : List (Int × Int)) (k : Nat) : AV := if all.length = 0 then .sl none 0 0 else .sl (some ⟨b, k * 2, all.length * 2⟩) (all.length - k) (all.length - k)
theorem hd_zero {b : Nat} {all : List (Int × Int)} : hitSl b all = hd b all 0 := by
  unfold hitSl bufSl hd
  split <;> simp [hitCells_len]
theorem hd_nt {b : Nat} {all : List (Int × Int)} {k : Nat} : (hd b all k).notTup = true := by unfold hd; split <;> rfl
theorem hd_len {b : Nat} {all : List (Int × Int)} {k : Nat} {L : Look} : alen Try.prog L 71 (hd b all k) = some (.int .i64 (all.length - k : Nat)) := by
  unfold hd
  split
  · rename_i h; simp [alen, h]
  · simp [alen]
theorem hd_at {b : Nat} {all : List (Int × Int)} {k : Nat} (hk : k < all.length) : aindexAddr Try.prog 71 (hd b all k) (.int .i64 0) = some (.ptr (some ⟨b, k * 2, all.length * 2⟩)) := by
  have h0 : ¬ (all.length = 0) := by omega
  have h1 : (0 : Int) < ((all.length - k : Nat) : Int) := by omega
  unfold hd
  rw [if_neg h0]
  simp only [aindexAddr, tk_71, tsz_75]
  rw [if_pos ⟨by omega, h1, by decide⟩]
  rfl
theorem hd_next {b : Nat} {all : List (Int × Int)} {k : Nat} (hk : k < all.length) : aslice Try.prog 71 (hd b all k) (some (.int .i64 1)) none none = some (hd b all (k + 1)) := by
  have h0 : ¬ (all.length = 0) := by omega
  have h1 : (0 : Int) ≤ 1 ∧ (1 : Int) ≤ ((all.length - k : Nat) : Int) := by omega
  unfold hd
  rw [if_neg h0, if_neg h0]
  simp only [aslice, tk_71, tsz_75, bound]
  rw [if_pos h1]
  simp
  omega
abbrev env16 (v : AV) (s : Txt) (tb : Nat) (w : AV) (n hb N : Nat) : Env := [(0, v), (2, .str s), (8, .int .i64 0), (9, tPtr tb), (14, w), (15, .int .i64 n), (16, .sl (some ⟨hb, 0, N⟩) N N)]
def In16 (hA : Heap) (v : AV) (s : Txt) (tb b : Nat) (hs : Nat → List Int) (n N : Nat) (m : Nat) (σ : St) : Prop := ∃ t h, m = (hs (n + 1)).length - t ∧ t ≤ (hs (n + 1)).length ∧ σ = ⟨env16 v s tb (hd b (allTo hs s.length) ((allTo hs n).length + t)) (n + 1) hA.length N, h⟩ ∧ Only (fun _ => False) hA h ∧ h[hA.length]? = some (.cells (boolCells (endsOf N ((hs (n + 1)).take t))) 4 true)
theorem ends_loop {hA h : Heap} {v : AV} {s : Txt} {tb b n N : Nat} {hs : Nat → List Int} (hn : n < s.length) (hz : ∀ z ∈ hs (n + 1), 0 ≤ z ∧ z < N) (hb : (allTo hs s.length).length ≠ 0 → hA[b]? = some (.cells (hitCells (allTo hs s.length)) 75 true)) (ho : Only (fun _ => False) hA h)
    (hg : h[hA.length]? = some (.cells (boolCells (endsOf N [])) 4 true)) {Q : AExit → St → Prop}
    (hq : ∀ h', Only (fun _ => False) hA h' → h'[hA.length]? = some (.cells (boolCells (endsOf N (hs (n + 1)))) 4 true) → Q (.exit 4) ⟨env16 v s tb (hd b (allTo hs s.length) (allTo hs (n + 1)).length) (n + 1) hA.length N ++ [(62, .bool false)], h'⟩) (hvt : v.notTup = true) :
    Wt Try.prog (D cfg) (.loop c70_l16 (some [0, 2, 8, 9, 14, 15, 16])) ⟨env16 v s tb (hd b (allTo hs s.length) (allTo hs n).length) (n + 1) hA.length N, h⟩ Q := by
  refine Wt.loop (In16 hA v s tb b hs n N) (m := (hs (n + 1)).length) ⟨0, h, rfl, Nat.zero_le _, rfl, ho, hg⟩ ?_
  rintro m σ ⟨t, h1, rfl, ht, rfl, o1, g1⟩
  obtain ⟨all, hall⟩ : ∃ all, allTo hs s.length = all := ⟨_, rfl⟩
  obtain ⟨K, hK⟩ : ∃ K, (allTo hs n).length + t = K := ⟨_, rfl⟩
  rw [hall] at hb hq
  rw [hall, hK]
  have hcut : cut (some [0, 2, 8, 9, 14, 15, 16]) (env16 v s tb (hd b all K) (n + 1) hA.length N) = env16 v s tb (hd b all K) (n + 1) hA.length N := by simp
  simp only [hcut]
  have v1 : (hd b all K).notTup = true := hd_nt
  have v2 : (hd b all (K + 1)).notTup = true := hd_nt
  have hl := fun L => hd_len (L := L) (b := b) (all := all) (k := K)
  by_cases htl : t < (hs (n + 1)).length
  · obtain ⟨z, hz1⟩ : ∃ z, (hs (n + 1))[t]? = some z := ⟨_, List.getElem?_eq_getElem htl⟩
    have hzb := hz z (List.mem_of_getElem? hz1)
    obtain ⟨i, rfl⟩ : ∃ i : Nat, z = i := ⟨z.toNat, by omega⟩
    have hiN : i < N := by omega
    have hiN' : (i : Int) < N := by omega
    have hp := allTo_at (m := s.length) hn hz1
    rw [hall, hK] at hp
    have hKl : K < all.length := (List.getElem?_eq_some_iff.1 hp).1
    have a1 := hd_at (b := b) hKl
    have b1 := hd_next (b := b) hKl
    obtain ⟨l0, l1⟩ := hit_load (fun hne => o1.at (hb hne) id) hp
    have hlen : (boolCells (endsOf N ((hs (n + 1)).take t))).length = N := by rw [boolCells_len, endsOf_len]
    have s1 := cell_store g1 hlen (t := 4) (by simp) (v := .bool true) rfl (off := i) hiN
    rw [endsOf_set hz1 hiN] at s1
    obtain ⟨h2, hh2⟩ : ∃ h2, h1.set hA.length (.cells (boolCells (endsOf N ((hs (n + 1)).take (t + 1)))) 4 true) = h2 := ⟨_, rfl⟩
    have g2 : h2[hA.length]? = some (.cells (boolCells (endsOf N ((hs (n + 1)).take (t + 1)))) 4 true) := by rw [← hh2, List.getElem?_set_self (lt_of_at g1)]
    have o2 : Only (fun c => c = hA.length) h1 h2 := by rw [← hh2]; exact .set rfl
    have hpos : 0 < all.length - K := by omega
    have hpos' : (0 : Int) < ((all.length - K : Nat) : Int) := by omega
    have a2 : aindexAddr Try.prog 68 (.sl (some ⟨hA.length, 0, N⟩) N N) (.int .i64 i) = some (.ptr (some ⟨hA.length, i, N⟩)) := by simp [aindexAddr, hiN, hiN']
    obtain ⟨n1, hn1⟩ : ∃ n1, n + 1 = n1 := ⟨_, rfl⟩
    obtain ⟨r, hr⟩ : ∃ r, all.length - K = r := ⟨_, rfl⟩
    rw [hn1] at l1
    rw [hr] at hl hpos hpos'
    obtain ⟨w, hw⟩ : ∃ w, hd b all K = w := ⟨_, rfl⟩
    obtain ⟨w', hw'⟩ : ∃ w', hd b all (K + 1) = w' := ⟨_, rfl⟩
    rw [hw] at v1 hl a1 b1 ⊢
    rw [hw'] at v2 b1
    have hnext : In16 hA v s tb b hs n N ((hs (n + 1)).length - (t + 1)) ⟨env16 v s tb w' n1 hA.length N, h2⟩ := ⟨t + 1, h2, rfl, htl, by rw [← hw', ← hn1, ← hK, hall, Nat.add_assoc], o1.fresh o2 fun c e => by omega, g2⟩
    simp only [env16] at hnext
    rw [hn1]
    simp [-AV.notTup, hvt, v1, v2, notTup_ptr, c70_l16, c70_r16, c70_r17, c70_r18, len1, hl, hpos, hpos', a1, fieldA, l0, l1, a2, s1, hh2, b1]
    exact ⟨(hs (n + 1)).length - (t + 1), by rw [← hn1]; omega, by simpa using hnext⟩
  · have ht2 : t = (hs (n + 1)).length := by omega
    subst ht2
    rw [List.take_length] at g1
    have hKe : (allTo hs (n + 1)).length = K := by rw [← hK]; simp [allTo]
    have hfin := hq h1 o1 g1
    rw [hKe] at hfin
    simp only [env16] at hfin
    by_cases hKl : K < all.length
    · obtain ⟨p, hp⟩ : ∃ p, all[K]? = some p := ⟨_, List.getElem?_eq_getElem hKl⟩
      have hp2 := allTo_after (hs := hs) (n := n + 1) (m := s.length) hn (p := p) (by rw [hall, hKe]; exact hp)
      obtain ⟨l0, l1⟩ := hit_load (fun hne => o1.at (hb hne) id) hp
      have a1 := hd_at (b := b) hKl
      have hpos : 0 < all.length - K := by omega
      have hpos' : (0 : Int) < ((all.length - K : Nat) : Int) := by omega
      obtain ⟨n1, hn1⟩ : ∃ n1, n + 1 = n1 := ⟨_, rfl⟩
      have hne : ¬ (p.2 = (n1 : Int)) := by rw [← hn1]; omega
      obtain ⟨r, hr⟩ : ∃ r, all.length - K = r := ⟨_, rfl⟩
      rw [hr] at hl hpos hpos'
      obtain ⟨w, hw⟩ : ∃ w, hd b all K = w := ⟨_, rfl⟩
      rw [hw] at v1 hl a1 hfin ⊢
      rw [hn1] at hfin ⊢
      simp [-AV.notTup, hvt, v1, notTup_ptr, c70_l16, c70_r16, len1, hl, hpos, hpos', a1, fieldA, l1, hne]
      simpa using hfin
    · have hpos : all.length - K = 0 := by omega
      rw [hpos] at hl
      obtain ⟨n1, hn1⟩ : ∃ n1, n + 1 = n1 := ⟨_, rfl⟩
      obtain ⟨w, hw⟩ : ∃ w, hd b all K = w := ⟨_, rfl⟩
      rw [hw] at v1 hl hfin ⊢
      rw [hn1] at hfin ⊢
      have hl' : ∀ L, alen Try.prog L 71 w = some (.int .i64 0) := hl
      simp [-AV.notTup, hvt, v1, notTup_ptr, c70_l16, c70_r16, len1, hl']
      simpa using hfin
def patsOf (l : List Cont) : List Txt := l.map fun c => c.bytes
def ncOf (l : List Cont) : List Bool := l.map fun c => c.nocase
def hsOf (l : List Cont) (s : Txt) (n : Nat) : List Int := if bgood (patsOf l) then scHits (ncOf l) (s.take n) (patsOf l) 0 else []
theorem allTo_hsOf {l : List Cont} {s : Txt} : ∀ {n : Nat}, allTo (hsOf l s) n = if bgood (patsOf l) then hitsTo (ncOf l) s (patsOf l) n else []
  | 0 => by simp [allTo, hitsTo]
  | n + 1 => by
    simp only [allTo, allTo_hsOf (n := n), hsOf, hitsTo]
    split <;> rfl
theorem scHits_range {nc : List Bool} {w : Txt} : ∀ {l : List Txt} {i : Nat}, ∀ z ∈ scHits nc w l i, (i : Int) ≤ z ∧ z < i + l.length
  | [], i, z, h => by simp [scHits] at h
  | p :: r, i, z, h => by
    simp only [scHits] at h
    have ih : z ∈ scHits nc w r (i + 1) → (i : Int) ≤ z ∧ z < i + (p :: r).length := fun h => by
      have := scHits_range (i := i + 1) z h
      simp only [List.length_cons]
      omega
    split at h
    · rcases List.mem_cons.1 h with rfl | h
      · simp only [List.length_cons]; omega
      · exact ih h
    · exact ih h
structure R13 (h₀ h : Heap) (tb pa nb b : Nat) (T : TS) (fl : FL) (all : List (Int × Int)) : Prop where
  tr : TrackAt h tb pa nb T fl
  only : Only (fun _ => False) h₀ h
  fresh : ∀ c, trF tb fl c → h₀.length ≤ c
  hit : all.length ≠ 0 → h[b]? = some (.cells (hitCells all) 75 true)
abbrev env13 (v : AV) (s : Txt) (tb : Nat) (w : AV) (n : Nat) : Env := [(0, v), (2, .str s), (8, .int .i64 0), (9, tPtr tb), (14, w), (15, .int .i64 n)]
def In13 (h₀ : Heap) (v : AV) (s : Txt) (tb pa nb b : Nat) (f : Nat → TS) (hs : Nat → List Int) (m : Nat) (σ : St) : Prop := ∃ n fl h, m = s.length - n ∧ n ≤ s.length ∧ σ = ⟨env13 v s tb (hd b (allTo hs s.length) (allTo hs n).length) (n + 1), h⟩ ∧ R13 h₀ h tb pa nb b (f n) fl (allTo hs s.length) ∧ runT f s.length = runR f (n + 1) (s.length - n)
theorem run_loop {h₀ h : Heap} {v : AV} {l : List Cont} {s : Txt} {tb pa nb b : Nat} {fl : FL} {hs : Nat → List Int} {T0 : TS} {f : Nat → TS} (hf : f = stS T0 hs l.length) (hv : SlC h₀ v l) (hll : l.length ≤ 100) (hsl : s.length ≤ 1000) (hz : ∀ n, ∀ z ∈ hs n, 0 ≤ z ∧ z < l.length) (hok : T0.ok) (hat : T0.at_ = 0) (hpl : T0.parts.length + T0.nots.length ≤ 1000) (h0 : T0.holds = false)
    (H : R13 h₀ h tb pa nb b T0 fl (allTo hs s.length)) {Q : AExit → St → Prop}
    (hret : ∀ h' (a c : Int) (k : Bool), (a, k, c) = runT f s.length → Only (fun _ => False) h₀ h' → Q .ret ⟨[(6, .int .i64 a), (7, .bool k), (8, .int .i64 c)], h'⟩)
    (hq : ∀ h' n w, (0, false, 0) = runT f s.length → Only (fun _ => False) h₀ h' → w.notTup = true → Q (.exit 2) ⟨env13 v s tb w n ++ [(46, .bool false)], h'⟩) :
    Wt Try.prog (D cfg) (.loop c70_l13 (some [0, 2, 8, 9, 14, 15])) ⟨env13 v s tb (hd b (allTo hs s.length) 0) 1, h⟩ Q := by
  have hvt : v.notTup = true := by rcases hv with ⟨rfl, _⟩ | ⟨_, _, _, _, rfl, _, _⟩ <;> rfl
  have hlen := fun L => hv.len (L := L)
  refine Wt.loop (In13 h₀ v s tb pa nb b f hs) (m := s.length) ⟨0, fl, h, rfl, Nat.zero_le _, rfl, ?_, ?_⟩ ?_
  · rw [hf]; exact H
  · have : (f 0).holds = false := by rw [hf]; exact h0
    simp only [runT, this]; rfl
  rintro m σ ⟨n, fl1, h1, rfl, hn, rfl, R, hrun⟩
  have hcut : cut (some [0, 2, 8, 9, 14, 15]) (env13 v s tb (hd b (allTo hs s.length) (allTo hs n).length) (n + 1)) = env13 v s tb (hd b (allTo hs s.length) (allTo hs n).length) (n + 1) := by simp
  simp only [hcut]
  have v1 : (hd b (allTo hs s.length) (allTo hs n).length).notTup = true := hd_nt
  by_cases hns : n < s.length
  · have hle : ((n + 1 : Nat) : Int) ≤ s.length := by omega
    have hle' : (n : Int) + 1 ≤ s.length := by omega
    have hle2 : n + 1 ≤ s.length := hns
    obtain ⟨h2, hh2⟩ : ∃ h2, h1 ++ [AObj.cells (zeros [.bool false] l.length) 4 true] = h2 := ⟨_, rfl⟩
    have o12 : Only (fun _ => False) h1 h2 := by rw [← hh2]; exact .app
    have g2 : h2[h1.length]? = some (.cells (boolCells (endsOf l.length [])) 4 true) := by
      rw [← hh2]
      simp only [List.getElem?_concat_length]
      rw [fillC_zero (f := fun _ => .bool false), fillC]
      congr 2
      simp [boolCells, endsOf]
    have hb1 : (l.length : Int) ≤ 281474976710656 := by omega
    have hb2 : (l.length : Int) ≤ 9223372036854775807 := by omega
    have hloop := fun Q hq => ends_loop (Q := Q) (v := v) (tb := tb) (b := b) (N := l.length) hns (hz (n + 1)) R.hit o12 g2 hq hvt
    simp only [env16] at hloop
    obtain ⟨w, hw⟩ : ∃ w, hd b (allTo hs s.length) (allTo hs n).length = w := ⟨_, rfl⟩
    obtain ⟨n1, hn1⟩ : ∃ n1, n + 1 = n1 := ⟨_, rfl⟩
    rw [hw] at v1
    rw [hw, hn1] at hloop
    rw [hw]
    simp only [hn1] at hle hle2 ⊢
    simp [-AV.notTup, hvt, v1, notTup_ptr, c70_l13, c70_r13, c70_r15, len1, alen9, hle, hle2, hlen, amakeSlice, hb1, hb2, hh2]
    refine hloop _ fun h3 o3 g3 => ?_
    have hT1 : f n1 = stepT (f n) (endsOf l.length (hs n1)) := by rw [← hn1, hf]; rfl
    have hfl : (f n).ok := by rw [hf]; exact stS_ok hok
    have hfn := stS_len (T0 := T0) (hs := hs) (N := l.length) (n := n)
    rw [← hf] at hfn
    have R3 := R.tr.same o3
    have hbv := Sl1.cells g3
    rw [boolCells_len, endsOf_len] at hbv
    obtain ⟨fl4, h4, e4, T4, o4, s4⟩ := step_ok (ends := endsOf l.length (hs n1)) R3 hbv (fun c hc => by
      simp only [slB] at hc
      cases hc
      rintro (e | e)
      · rw [e, R3.hdr] at g3; injection g3 with h5; injection h5 with _ _ h5; exact absurd h5 (by simp)
      · exact R3.ps.not g3 (.inl rfl) e) hfl (by omega) (by omega)
    rw [← hT1] at e4 T4
    have hp4 : (f n1).parts.length ≤ 1000000 := by
      have := stS_len (T0 := T0) (hs := hs) (N := l.length) (n := n1)
      rw [← hf] at this
      omega
    have e5 := holds_run T4 hp4
    have o04 : Only (fun _ => False) h₀ h4 := (R.only.trans o3).fresh o4 fun c hc => R.fresh c hc
    have hrun2 : runT f s.length = if (f n1).holds then ((n1 : Int), true, if (f n1).over then (n1 : Int) else 0) else if (f n1).over then (0, false, (n1 : Int)) else runR f (n1 + 1) (s.length - n1) := by
      rw [hrun, hn1, show s.length - n = (s.length - n1) + 1 by omega]; rfl
    obtain ⟨w3, hw3⟩ : ∃ w3, hd b (allTo hs s.length) (allTo hs (n + 1)).length = w3 := ⟨_, rfl⟩
    have v3 : w3.notTup = true := by rw [← hw3]; exact hd_nt
    rw [← hn1, hw3, hn1]
    cases hov : (f n1).over with
    | true =>
      rw [hov] at e4 hrun2
      cases hho : (f n1).holds with
      | true =>
        rw [hho] at e5 hrun2
        have := hret h4 n1 n1 true (by rw [hrun2]; rfl) o04
        simp [-AV.notTup, hvt, v3, notTup_ptr, c70_r19, c70_r20, c70_r21, c70_r22, e4, e5]
        simpa using this
      | false =>
        rw [hho] at e5 hrun2
        have := hret h4 0 n1 false (by rw [hrun2]; rfl) o04
        have hpos : 0 < n1 := by omega
        have hpos' : (0 : Int) < n1 := by omega
        simp [-AV.notTup, hvt, v3, notTup_ptr, c70_r19, c70_r20, c70_r21, c70_r23, c70_r24, e4, e5, hpos, hpos']
        simpa using this
    | false =>
      rw [hov] at e4 hrun2
      cases hho : (f n1).holds with
      | true =>
        rw [hho] at e5 hrun2
        have := hret h4 n1 0 true (by rw [hrun2]; rfl) o04
        simp [-AV.notTup, hvt, v3, notTup_ptr, c70_r19, c70_r20, c70_r21, c70_r22, e4, e5]
        simpa using this
      | false =>
        rw [hho] at e5 hrun2
        have hwr : IntKind.wrap .i64 ((n1 : Int) + 1) = n1 + 1 := wrap_i64 (by omega) (by omega)
        have hl3 := o3.1
        have hnext : In13 h₀ v s tb pa nb b f hs (s.length - n1) ⟨env13 v s tb w3 (n1 + 1), h4⟩ := by
          refine ⟨n1, fl4, h4, rfl, by omega, by rw [← hw3, hn1], ⟨T4, o04, ?_, fun hne => ?_⟩, by rw [hrun2]; rfl⟩
          · rintro c (e | e)
            · exact R.fresh c (.inl e)
            · rcases s4 c e with h6 | h6
              · exact R.fresh c (.inr h6)
              · have := R.only.1; omega
          · have h5 := o3.at (R.hit hne) id
            refine o4.at h5 ?_
            rintro (e | e)
            · rw [e, R3.hdr] at h5; injection h5 with h5; injection h5 with _ _ h5; exact absurd h5 (by simp)
            · exact R3.ps.not h5 (.inl rfl) e
        simp only [env13] at hnext
        simp [-AV.notTup, hvt, v3, notTup_ptr, c70_r14, c70_r19, c70_r20, c70_r21, c70_r23, e4, e5, hwr]
        exact ⟨s.length - n1, by omega, by simpa using hnext⟩
  · have hns2 : n = s.length := by omega
    subst hns2
    have := hq h1 (s.length + 1) (hd b (allTo hs s.length) (allTo hs s.length).length) (by rw [hrun]; simp [runR]) R.only hd_nt
    simp only [env13] at this
    have hnl : ¬ ((s.length : Int) + 1 ≤ s.length) := by omega
    obtain ⟨w, hw⟩ : ∃ w, hd b (allTo hs s.length) (allTo hs s.length).length = w := ⟨_, rfl⟩
    rw [hw] at v1 this ⊢
    simp [-AV.notTup, hvt, v1, notTup_ptr, c70_l13, c70_r13, len1, alen9, hnl]
    simpa using this
structure R7 (h₀ h : Heap) (tb pa nb : Nat) (T : TS) (fl : FL) (b1 b2 : Nat) (ps : List Txt) (ns : List Bool) : Prop where
  tr : TrackAt h tb pa nb T fl
  only : Only (fun _ => False) h₀ h
  fresh : ∀ c, trF tb fl c → h₀.length ≤ c
  p1 : ps.length ≠ 0 → h[b1]? = some (.cells (strCells ps) 9 true) ∧ h₀.length ≤ b1
  p2 : ns.length ≠ 0 → h[b2]? = some (.cells (boolCells ns) 4 true) ∧ h₀.length ≤ b2
abbrev env70 (v : AV) (s : Txt) (tb : Nat) (w1 w2 : AV) (N i : Nat) : Env := [(0, v), (2, .str s), (8, .int .i64 0), (9, tPtr tb), (10, w1), (11, w2), (22, v), (23, .int .i64 N), (24, .int .i64 i)]
def In70 (h₀ : Heap) (v : AV) (s : Txt) (tb pa nb : Nat) (T : TS) (fl : FL) (l : List Cont) (m : Nat) (σ : St) : Prop := ∃ i b1 b2 h, m = l.length - i ∧ i ≤ l.length ∧ σ = ⟨env70 v s tb (txtSl b1 (patsOf (l.take i))) (boolSl b2 (ncOf (l.take i))) l.length i, h⟩ ∧ R7 h₀ h tb pa nb T fl b1 b2 (patsOf (l.take i)) (ncOf (l.take i))
theorem append_buf3 {t e k : Nat} (ht : tk Try.prog t = .slice e) (hk : tsz Try.prog e = k) (hk0 : 0 < k) (hz : zeroOK Try.prog e = true) (hby : Try.prog.bytesOf e ≤ 100) {h : Heap} {b n : Nat} {xs ys : List AV} (hys : ys.length = k) (hxs : xs.length = n * k)
    (hb : n ≠ 0 → h[b]? = some (.cells xs e true)) (hn : n ≤ 1000000) :
    ∃ δ h', append2 Try.prog (look (h ++ [AObj.cells ys e true])) (h.length + 1) t t [bufSl b n xs, .sl (some ⟨h.length, 0, k⟩) 1 1] = some (bufSl (if n = 0 then h.length + 1 else b) (n + 1) (xs ++ ys), δ) ∧ Heap.apply (h ++ [AObj.cells ys e true]) δ = h' ∧
      h'[if n = 0 then h.length + 1 else b]? = some (.cells (xs ++ ys) e true) ∧ Only (fun c => c = b ∧ n ≠ 0) h h' ∧ ((n = 0 ∧ ∃ o, δ = .new o) ∨ (n ≠ 0 ∧ ∃ o, δ = .set b o)) := by
  have hsrc : srcCells Try.prog (look (h ++ [AObj.cells ys e true])) e (.sl (some ⟨h.length, 0, k⟩) 1 1) = some (1, ys) := by
    simp [srcCells, slCells, row, hk, hys]
    exact List.take_of_length_le (by omega)
  have hroom : ∀ m, m ≤ 1000001 → m * Try.prog.bytesOf e ≤ roomMax := fun m hm => by
    have := Nat.mul_le_mul hm hby
    simp only [roomMax]
    omega
  by_cases hn0 : n = 0
  · subst hn0
    have hxs0 : xs = [] := List.length_eq_zero_iff.1 (by simpa using hxs)
    subst hxs0
    refine ⟨.new (.cells ys e true), h ++ [AObj.cells ys e true] ++ [AObj.cells ys e true], ?_, rfl, ?_, ?_, .inl ⟨rfl, _, rfl⟩⟩
    · have h1 := hroom 1 (by omega)
      simp only [append2, aappend, ht, hk, hsrc, hk0, if_true, bufSl, aappendE]
      simp at h1
      simp [h1, hz]
    · simp
    · rw [List.append_assoc]; exact .app
  · have hb1 := hb hn0
    have hlt := lt_of_at hb1
    have hb2 : (h ++ [AObj.cells ys e true])[b]? = some (.cells xs e true) := by rw [List.getElem?_append_left hlt]; exact hb1
    rw [if_neg hn0]
    refine ⟨.set b (.cells (xs ++ ys) e true), (h ++ [AObj.cells ys e true]).set b (.cells (xs ++ ys) e true), ?_, rfl, ?_, ?_, .inr ⟨hn0, _, rfl⟩⟩
    · have h1 := hroom (n + 1) (by omega)
      have h2 : ¬ (n + 1 ≤ n) := by omega
      have h3 : n + 1 ≤ 9223372036854775807 := by omega
      have h4 : xs.take (n * k) = xs := List.take_of_length_le (by omega)
      simp only [append2, aappend, ht, hk, hsrc, hk0, if_true, bufSl, hn0, if_false, aappendE, look_at, hb2]
      simp [h1, hz, h2, h3, hxs, h4]
    · rw [List.getElem?_set_self (by simp; omega)]
    · exact Only.app.trans (.set ⟨rfl, hn0⟩)
theorem boolSl_nt {b : Nat} {l : List Bool} : (boolSl b l).notTup = true := bufSl_notTup
theorem txtSl_nt {b : Nat} {l : List Txt} : (txtSl b l).notTup = true := bufSl_notTup
theorem collect_loop {h₀ h : Heap} {v : AV} {l : List Cont} {s : Txt} {tb pa nb : Nat} {fl : FL} {T : TS} (hv : SlC h₀ v l) (hll : l.length ≤ 100) (H : R7 h₀ h tb pa nb T fl 0 0 [] []) {Q : AExit → St → Prop}
    (hq : ∀ h' b1 b2, R7 h₀ h' tb pa nb T fl b1 b2 (patsOf l) (ncOf l) → Q (.exit 0) ⟨env70 v s tb (txtSl b1 (patsOf l)) (boolSl b2 (ncOf l)) l.length l.length ++ [(25, .bool false)], h'⟩) :
    Wt Try.prog (D cfg) (.loop c70_l7 (some [0, 2, 8, 9, 10, 11, 22, 23, 24])) ⟨env70 v s tb (.sl none 0 0) (.sl none 0 0) l.length 0, h⟩ Q := by
  have hvt : v.notTup = true := by rcases hv with ⟨rfl, _⟩ | ⟨_, _, _, _, rfl, _, _⟩ <;> rfl
  refine Wt.loop (In70 h₀ v s tb pa nb T fl l) (m := l.length) ⟨0, 0, 0, h, rfl, Nat.zero_le _, rfl, H⟩ ?_
  rintro m σ ⟨i, b1, b2, h1, rfl, hi, rfl, R⟩
  have hcut : cut (some [0, 2, 8, 9, 10, 11, 22, 23, 24]) (env70 v s tb (txtSl b1 (patsOf (l.take i))) (boolSl b2 (ncOf (l.take i))) l.length i) = env70 v s tb (txtSl b1 (patsOf (l.take i))) (boolSl b2 (ncOf (l.take i))) l.length i := by simp
  simp only [hcut]
  by_cases hil : i < l.length
  · have hil' : (i : Int) < l.length := by omega
    have hwr : IntKind.wrap .i64 ((i : Int) + 1) = i + 1 := wrap_i64 (by omega) (by omega)
    obtain ⟨c, hc⟩ : ∃ c, c = l[i] := ⟨_, rfl⟩
    have a1 := hv.at hil
    have l1 := (hv.same R.only).load hil
    rw [← hc] at l1
    have htk : l.take (i + 1) = l.take i ++ [c] := by rw [List.take_succ_eq_append_getElem hil, hc]
    have hp' : patsOf (l.take (i + 1)) = patsOf (l.take i) ++ [c.bytes] := by rw [htk]; simp [patsOf]
    have hn' : ncOf (l.take (i + 1)) = ncOf (l.take i) ++ [c.nocase] := by rw [htk]; simp [ncOf]
    have hpl : (patsOf (l.take i)).length = i := by simp [patsOf]; omega
    have hnl : (ncOf (l.take i)).length = i := by simp [ncOf]; omega
    obtain ⟨h2, hh2⟩ : ∃ h2, h1 ++ [.cells (contCell c) 52 false] = h2 := ⟨_, rfl⟩
    have o2 : Only (fun _ => False) h1 h2 := by rw [← hh2]; exact .app
    have bx2 : h2[h1.length]? = some (.cells (contCell c) 52 false) := by rw [← hh2]; simp
    obtain ⟨c0, _⟩ := contLoads bx2
    obtain ⟨δ, h3, e1, e2, d3, o3, hδ⟩ := append_buf3 (t := 38) (e := 9) (k := 1) (by simp) (by simp) (by decide) (by simp) (by simp) (h := h2) (b := b1) (n := (patsOf (l.take i)).length) (xs := strCells (patsOf (l.take i))) (ys := [.str c.bytes]) (by simp) (by simp [strCells]) (fun hne => o2.at (R.p1 hne).1 id) (by omega)
    have hsc : strCells (patsOf (l.take i)) ++ [AV.str c.bytes] = strCells (patsOf (l.take (i + 1))) := by rw [hp']; simp [strCells]
    have hpl' : (patsOf (l.take i)).length + 1 = (patsOf (l.take (i + 1))).length := by rw [hp']; simp
    rw [hsc, hpl'] at e1
    rw [hsc] at d3
    have hne1 : (patsOf (l.take i)).length ≠ 0 → b1 ≠ h1.length := fun hne e => by have := lt_of_at (R.p1 hne).1; omega
    have bx3 := o3.at bx2 fun e => hne1 e.2 e.1.symm
    obtain ⟨_, c1, _⟩ := contLoads bx3
    obtain ⟨w1, hw1⟩ : ∃ w1, (if (patsOf (l.take i)).length = 0 then h2.length + 1 else b1) = w1 := ⟨_, rfl⟩
    rw [hw1] at e1 d3
    have hl2 : h2.length = h1.length + 1 := by rw [← hh2]; simp
    have hw1c : w1 = b1 ∧ (patsOf (l.take i)).length ≠ 0 ∨ w1 = h2.length + 1 := by
      rw [← hw1]
      by_cases h0 : (patsOf (l.take i)).length = 0
      · exact .inr (by rw [if_pos h0])
      · exact .inl ⟨by rw [if_neg h0], h0⟩
    have hb12 : (ncOf (l.take i)).length ≠ 0 → ¬ (b2 = b1 ∧ (patsOf (l.take i)).length ≠ 0) := fun hne e => by
      have h5 := (R.p1 e.2).1
      have h6 := (R.p2 hne).1
      rw [e.1, h5] at h6
      injection h6 with h6; injection h6 with _ h6 _; exact absurd h6 (by decide)
    have p23 : (ncOf (l.take i)).length ≠ 0 → h3[b2]? = some (.cells (boolCells (ncOf (l.take i))) 4 true) := fun hne => o3.at (o2.at (R.p2 hne).1 id) (hb12 hne)
    obtain ⟨δ2, h4, f1, f2, d4, o4⟩ := append_buf (t := 68) (e := 4) (k := 1) (by simp) (by simp) (by decide) (by simp) (by simp) (h := h3) (b := b2) (n := (ncOf (l.take i)).length) (xs := boolCells (ncOf (l.take i))) (ys := [.bool c.nocase]) (by simp) (by simp [boolCells_len]) p23 (by omega)
    have hbc : boolCells (ncOf (l.take i)) ++ [AV.bool c.nocase] = boolCells (ncOf (l.take (i + 1))) := by rw [hn']; simp [boolCells]
    obtain ⟨w2, hw2⟩ : ∃ w2, (if (ncOf (l.take i)).length = 0 then h3.length + 1 else b2) = w2 := ⟨_, rfl⟩
    have hnl' : (ncOf (l.take i)).length + 1 = (ncOf (l.take (i + 1))).length := by rw [hn']; simp
    rw [hw2, hbc, hnl'] at f1
    rw [hw2, hbc] at d4
    have hw2c : w2 = b2 ∧ (ncOf (l.take i)).length ≠ 0 ∨ w2 = h3.length + 1 := by
      rw [← hw2]
      by_cases h0 : (ncOf (l.take i)).length = 0
      · exact .inr (by rw [if_pos h0])
      · exact .inl ⟨by rw [if_neg h0], h0⟩
    have o04 : Only (fun _ => False) h₀ h4 := ((R.only.trans o2).fresh o3 fun x hx => by rw [hx.1]; exact (R.p1 hx.2).2).fresh o4 fun x hx => by rw [hx.1]; exact (R.p2 hx.2).2
    have l01 := R.only.1
    have l23 := o3.1
    have T2 := R.tr.same o2
    have hTno : ∀ {h' : Heap} {T : TS} {fl : FL} {x : Nat} {cs : List AV} {t : TypeId}, TrackAt h' tb pa nb T fl → h'[x]? = some (.cells cs t true) → (t = 9 ∨ t = 4) → tb ≠ x ∧ (fl.length ≠ 0 → pa ≠ x) ∧ (T.nots.length ≠ 0 → nb ≠ x) ∧ ∀ c, flF fl c → c ≠ x := by
      intro h' T fl x cs t HT hx ht
      refine ⟨fun e => ?_, fun hne e => ?_, fun hne e => ?_, fun c hc e => HT.ps.not hx (.inl rfl) (e ▸ hc)⟩
      · have := HT.hdr; rw [e, hx] at this; injection this with this; injection this with _ _ this; exact absurd this (by simp)
      · have := HT.pv hne; rw [e, hx] at this; injection this with this; injection this with _ this _; rcases ht with ht | ht <;> rw [ht] at this <;> exact absurd this (by decide)
      · have := HT.nv hne; rw [e, hx] at this; injection this with this; injection this with _ this _; rcases ht with ht | ht <;> rw [ht] at this <;> exact absurd this (by decide)
    have T3 : TrackAt h3 tb pa nb T fl := by
      by_cases hne : (patsOf (l.take i)).length = 0
      · exact T2.keep o3 (fun e => e.2 hne) (fun _ e => e.2 hne) (fun _ e => e.2 hne) fun c _ e => e.2 hne
      · obtain ⟨x1, x2, x3, x4⟩ := hTno T2 (o2.at (R.p1 hne).1 id) (.inl rfl)
        exact T2.keep o3 (fun e => x1 e.1) (fun h e => x2 h e.1) (fun h e => x3 h e.1) fun c hc e => x4 c hc e.1
    have T4 : TrackAt h4 tb pa nb T fl := by
      by_cases hne : (ncOf (l.take i)).length = 0
      · exact T3.keep o4 (fun e => e.2 hne) (fun _ e => e.2 hne) (fun _ e => e.2 hne) fun c _ e => e.2 hne
      · obtain ⟨x1, x2, x3, x4⟩ := hTno T3 (p23 hne) (.inr rfl)
        exact T3.keep o4 (fun e => x1 e.1) (fun h e => x2 h e.1) (fun h e => x3 h e.1) fun c hc e => x4 c hc e.1
    have hd3l := lt_of_at d3
    have hw12 : ¬ (w1 = b2 ∧ (ncOf (l.take i)).length ≠ 0) := fun e => by
      have h6 := p23 e.2
      rw [← e.1, d3] at h6
      injection h6 with h6; injection h6 with _ h6 _; exact absurd h6 (by decide)
    have hnext : In70 h₀ v s tb pa nb T fl l (l.length - (i + 1)) ⟨env70 v s tb (txtSl w1 (patsOf (l.take (i + 1)))) (boolSl w2 (ncOf (l.take (i + 1)))) l.length (i + 1), h4⟩ := by
      refine ⟨i + 1, w1, w2, h4, rfl, hil, rfl, ⟨T4, o04, R.fresh, fun _ => ⟨o4.at d3 hw12, ?_⟩, fun _ => ⟨d4, ?_⟩⟩⟩
      · rcases hw1c with ⟨e, hne⟩ | e
        · rw [e]; exact (R.p1 hne).2
        · omega
      · rcases hw2c with ⟨e, hne⟩ | e
        · rw [e]; exact (R.p2 hne).2
        · omega
    have h9 : (h1.length != h2.length) = true := by simp [hl2]
    replace e1 : append2 Try.prog (look (h2 ++ [AObj.cells [.str c.bytes] 9 true])) (h2.length + 1) 38 38 [txtSl b1 (patsOf (l.take i)), .sl (some ⟨h2.length, 0, 1⟩) 1 1] = some (txtSl w1 (patsOf (l.take (i + 1))), δ) := e1
    have n1 : (txtSl b1 (patsOf (l.take i))).notTup = true := txtSl_nt
    have n2 : (boolSl b2 (ncOf (l.take i))).notTup = true := boolSl_nt
    have n3 : (txtSl w1 (patsOf (l.take (i + 1)))).notTup = true := txtSl_nt
    have n4 : (boolSl w2 (ncOf (l.take (i + 1)))).notTup = true := boolSl_nt
    have f1' : append2 Try.prog (look (h3 ++ [AObj.cells [.bool c.nocase] 4 true])) (h3.length + 1) 68 68 [boolSl b2 (ncOf (l.take i)), .sl (some ⟨h3.length, 0, 1⟩) 1 1] = some (boolSl w2 (ncOf (l.take (i + 1))), δ2) := f1
    obtain ⟨x1, hx1⟩ : ∃ x, txtSl b1 (patsOf (l.take i)) = x := ⟨_, rfl⟩
    obtain ⟨x2, hx2⟩ : ∃ x, boolSl b2 (ncOf (l.take i)) = x := ⟨_, rfl⟩
    obtain ⟨x3, hx3⟩ : ∃ x, txtSl w1 (patsOf (l.take (i + 1))) = x := ⟨_, rfl⟩
    obtain ⟨x4, hx4⟩ : ∃ x, boolSl w2 (ncOf (l.take (i + 1))) = x := ⟨_, rfl⟩
    rw [hx3, hx4] at hnext
    rw [hx1] at e1 n1 ⊢
    rw [hx2] at f1' n2 ⊢
    rw [hx3] at e1 n3
    rw [hx4] at f1' n4
    simp only [contCell, Cont.av] at l1 hh2
    simp only [env70] at hnext
    rcases hδ with ⟨_, o, rfl⟩ | ⟨hne, o, rfl⟩
    · have h8 : (h1.length != h2.length + 1) = true := by simp; omega
      simp [-AV.notTup, hvt, n1, n2, n3, n4, notTup_ptr, c70_l7, c70_r7, c70_r8, c70_r9, c70_r10, hil, hil', a1, l1, zeros, store_box, splice, hh2, fieldA, c0, abuildSlice, afill, e1, e2, c1, h8, h9, f1', f2, hwr]
      exact ⟨l.length - (i + 1), by omega, by simpa using hnext⟩
    · have := hne1 hne
      have h8 : (h1.length != b1) = true := by simp; omega
      simp [-AV.notTup, hvt, n1, n2, n3, n4, notTup_ptr, c70_l7, c70_r7, c70_r8, c70_r9, c70_r10, hil, hil', a1, l1, zeros, store_box, splice, hh2, fieldA, c0, abuildSlice, afill, e1, e2, c1, h8, h9, f1', f2, hwr]
      exact ⟨l.length - (i + 1), by omega, by simpa using hnext⟩
  · have hi2 : i = l.length := by omega
    subst hi2
    rw [List.take_length] at R ⊢
    have := hq h1 b1 b2 R
    have n1 : (txtSl b1 (patsOf l)).notTup = true := txtSl_nt
    have n2 : (boolSl b2 (ncOf l)).notTup = true := boolSl_nt
    obtain ⟨x1, hx1⟩ : ∃ x, txtSl b1 (patsOf l) = x := ⟨_, rfl⟩
    obtain ⟨x2, hx2⟩ : ∃ x, boolSl b2 (ncOf l) = x := ⟨_, rfl⟩
    rw [hx1] at n1 this ⊢
    rw [hx2] at n2 this ⊢
    simp only [env70] at this
    simp [-AV.notTup, hvt, n1, n2, notTup_ptr, c70_l7, c70_r7]
    simpa using this
def runOf (l : List Cont) (most : Nat) (s : Txt) : Int × Bool × Int := runT (stS (newTo l most l.length) (hsOf l s) l.length) s.length
theorem run_track {h : Heap} {v : AV} {l : List Cont} {s : Txt} {m : Int} {most : Nat} (hv : SlC h v l) (hsm : ∀ c ∈ l, c.small) (hll : l.length ≤ 100) (hsl : s.length ≤ 1000) (hm : (most : Int) = max 1 (min m 32)) :
    ∃ h', D cfg 70 [v, .int .i64 m, .str s] h = some (.tup [.int .i64 (runOf l most s).1, .bool (runOf l most s).2.1, .int .i64 (runOf l most s).2.2], h') ∧ Only (fun _ => False) h h' := by
  have key : ∃ r h', D cfg 70 [v, .int .i64 m, .str s] h = some (r, h') ∧ (r = .tup [.int .i64 (runOf l most s).1, .bool (runOf l most s).2.1, .int .i64 (runOf l most s).2.2] ∧ Only (fun _ => False) h h') := by
    refine call70 (R := fun r h' => r = .tup [.int .i64 (runOf l most s).1, .bool (runOf l most s).2.1, .int .i64 (runOf l most s).2.2] ∧ Only (fun _ => False) h h') (args := [v, .int .i64 m, .str s]) (h := h) (by simp) ?_
    have hvt : v.notTup = true := by rcases hv with ⟨rfl, _⟩ | ⟨_, _, _, _, rfl, _, _⟩ <;> rfl
    obtain ⟨tb, pa, nb, fl, h1, e1, T1, o1, f1⟩ := new_run hv hsm (by omega) hm
    have hok : (newTo l most l.length).ok := newTo_ok hsm
    have hln := newTo_len (l := l) (most := most) (k := l.length)
    obtain ⟨_, hat, _⟩ := newTo_most (l := l) (most := most) (k := l.length)
    have e2 := holds_run T1 (by omega)
    have hlen := fun L => hv.len (L := L)
    obtain ⟨T, hT⟩ : ∃ T, newTo l most l.length = T := ⟨_, rfl⟩
    have hrun : runOf l most s = runT (stS T (hsOf l s) l.length) s.length := by rw [runOf, hT]
    rw [hT] at T1 hok hln hat e2
    cases hho : T.holds with
    | true =>
      rw [hho] at e2
      have hr : runOf l most s = (0, true, 0) := by
        rw [hrun]
        simp only [runT]
        rw [if_pos (show (stS T (hsOf l s) l.length 0).holds = true from hho)]
      rw [hr]
      simp [-AV.notTup, hvt, notTup_ptr, c70, c70_r0, c70_r1, c70_r2, c70_r3, e1, e2]
      simp [AV.notTup]
      exact o1
    | false =>
      rw [hho] at e2
      have R0 : R7 h h1 tb pa nb T fl 0 0 [] [] := ⟨T1, o1, f1, fun e => absurd rfl e, fun e => absurd rfl e⟩
      have hcol := fun Q hq => collect_loop (s := s) (Q := Q) hv hll R0 hq
      simp only [env70] at hcol
      simp [-AV.notTup, hvt, notTup_ptr, c70, c70_r0, c70_r1, c70_r2, c70_r4, c70_r5, c70_r6, e1, e2, len1, hlen]
      refine hcol _ fun h2 b1 b2 R => ?_
      have hpl : (patsOf l).length = l.length := by simp [patsOf]
      have hnl : (ncOf l).length = l.length := by simp [ncOf]
      have hsx : Sl1 h2 (txtSl b1 (patsOf l)) (strCells (patsOf l)) := Sl1.txt (s := true) fun hne => (R.p1 hne).1
      have hbx : Sl1 h2 (boolSl b2 (ncOf l)) (boolCells (ncOf l)) := by
        have := Sl1.buf (h := h2) (b := b2) (e := 4) (s := true) (xs := boolCells (ncOf l)) (fun hne => (R.p2 (by rwa [boolCells_len] at hne)).1)
        rwa [boolCells_len] at this
      have hscan : ∃ b h3, D cfg 64 [txtSl b1 (patsOf l), boolSl b2 (ncOf l), .str s] h2 = some (hd b (allTo (hsOf l s) s.length) 0, h3) ∧ Only (fun _ => False) h2 h3 ∧ ((allTo (hsOf l s) s.length).length ≠ 0 → h3[b]? = some (.cells (hitCells (allTo (hsOf l s) s.length)) 75 true)) := by
        rw [allTo_hsOf]
        cases hg : bgood (patsOf l) with
        | true =>
          obtain ⟨b, h3, e3, o3, d3⟩ := scan_all (t := s) hsx hbx (by omega) hg (by omega) (by rw [hpl]; exact Nat.le_trans (Nat.mul_le_mul hsl hll) (by decide)) (by omega)
          rw [hd_zero] at e3
          exact ⟨b, h3, e3, o3, d3⟩
        | false =>
          obtain ⟨h3, e3, o3⟩ := scan_all_bad (u := boolSl b2 (ncOf l)) (t := s) hsx (fun p hp => by
            simp only [patsOf, List.mem_map] at hp
            obtain ⟨c, hc, rfl⟩ := hp
            have := (hsm c hc).b
            omega) (by omega) hg
          exact ⟨0, h3, e3, o3, fun e => absurd rfl e⟩
      obtain ⟨b, h3, e3, o3, d3⟩ := hscan
      have hz : ∀ n, ∀ z ∈ hsOf l s n, 0 ≤ z ∧ z < l.length := by
        intro n z hz
        simp only [hsOf] at hz
        split at hz
        · have := scHits_range z hz
          rw [hpl] at this
          omega
        · simp at hz
      have n1 : (txtSl b1 (patsOf l)).notTup = true := txtSl_nt
      have n2 : (boolSl b2 (ncOf l)).notTup = true := boolSl_nt
      have n3 : (hd b (allTo (hsOf l s) s.length) 0).notTup = true := hd_nt
      have RR : R13 h h3 tb pa nb b T fl (allTo (hsOf l s) s.length) := ⟨R.tr.same o3, R.only.trans o3, R.fresh, d3⟩
      have hlp := fun Q hret hq => run_loop (Q := Q) (f := stS T (hsOf l s) l.length) rfl hv hll hsl hz hok hat (by omega) hho RR hret hq
      rw [← hrun] at hlp
      simp only [env13] at hlp
      obtain ⟨x1, hx1⟩ : ∃ x, txtSl b1 (patsOf l) = x := ⟨_, rfl⟩
      obtain ⟨x2, hx2⟩ : ∃ x, boolSl b2 (ncOf l) = x := ⟨_, rfl⟩
      obtain ⟨x3, hx3⟩ : ∃ x, hd b (allTo (hsOf l s) s.length) 0 = x := ⟨_, rfl⟩
      rw [hx1] at n1 e3 ⊢
      rw [hx2] at n2 e3 ⊢
      rw [hx3] at n3 e3 hlp
      simp [-AV.notTup, hvt, n1, n2, n3, notTup_ptr, c70_r11, c70_r12, e3]
      refine hlp _ (fun h' a c k hr ho => ?_) fun h' n w hr ho hw => ?_
      · rw [← hr]
        simp [AV.notTup]
        exact ho
      · rw [← hr]
        simp [-AV.notTup, hvt, hw, notTup_ptr, c70_r25]
        simp [AV.notTup]
        exact ho
  obtain ⟨r, h', h1, rfl, h2⟩ := key
  exact ⟨h', h1, h2⟩



theorem LL.sl {h₀ h : Heap} {B : Nat} {bs : List Nat} {ls : List (List Int)} (H : LL h₀ h B bs ls) : Sl1 h (llSl B bs ls) (List.zipWith intSl bs ls) := by
  have hz : (List.zipWith intSl bs ls).length = ls.length := by simp [H.len]
  have := Sl1.buf (h := h) (b := B) (e := 30) (s := true) (xs := List.zipWith intSl bs ls) (fun hn => (H.top (by omega)).1)
  rw [hz] at this
  exact this
theorem LL.get {h₀ h : Heap} {B : Nat} {bs : List Nat} {ls : List (List Int)} (H : LL h₀ h B bs ls) {i : Nat} (hi : i < ls.length) :
    ∃ b, aindexAddr Try.prog 44 (llSl B bs ls) (.int .i64 i) = some (elp (llSl B bs ls) i) ∧ aload Try.prog (look h) 30 (elp (llSl B bs ls) i) = some (intSl b ls[i]) ∧ (ls[i] ≠ [] → h[b]? = some (.cells (intCells ls[i]) 3 true)) := by
  have hz : (List.zipWith intSl bs ls).length = ls.length := by simp [H.len]
  have hb : i < bs.length := by rw [H.len]; exact hi
  have a1 := H.sl.at (t := 44) (e := 30) (by simp) (by simp) (i := i) (by omega)
  have b1 := H.sl.load (e := 30) (by simp) (i := i) (by omega)
  rw [List.getElem_zipWith] at b1
  exact ⟨bs[i], a1, b1, fun hne => (H.each i ls[i] bs[i] (List.getElem?_eq_getElem hi) (List.getElem?_eq_getElem hb) hne).1⟩
theorem SlC.cells {h : Heap} {b : Nat} {e : TypeId} {g : Bool} {l : List Cont} (hl : l ≠ []) (hb : h[b]? = some (.cells (l.flatMap contCell) e g)) : SlC h (.sl (some ⟨b, 0, l.length * 8⟩) l.length l.length) l := by
  have hlen : ∀ l : List Cont, (l.flatMap contCell).length = l.length * 8 := by
    intro l
    induction l with
    | nil => rfl
    | cons c r ih => simp only [List.flatMap_cons, List.length_append, ih, List.length_cons]; simp [contCell]; omega
  refine .inr ⟨b, l.length * 8, l.length, l.flatMap contCell, rfl, by simp only [AM.row, look_at, hb]; rw [if_pos (hlen l)], ?_⟩
  have key : ∀ (l : List Cont) i c, l[i]? = some c → ((l.flatMap contCell).drop (i * 8)).take 8 = contCell c := by
    intro l
    induction l with
    | nil => intro i c h; simp at h
    | cons d r ih =>
      intro i c h
      cases i with
      | zero => simp at h; subst h; rfl
      | succ i =>
        have := ih i c (by simpa using h)
        rw [← this, show (i + 1) * 8 = 8 + i * 8 by omega, ← List.drop_drop]
        rfl
  exact key l


abbrev contSl (b : Nat) (zs : List Cont) : AV := bufSl b zs.length (zs.flatMap contCell)
theorem flat_len {l : List Cont} : (l.flatMap contCell).length = l.length * 8 := by
  induction l with
  | nil => rfl
  | cons c r ih => simp only [List.flatMap_cons, List.length_append, ih, List.length_cons]; simp [contCell]; omega
theorem SlC.buf {h : Heap} {b : Nat} {zs : List Cont} (hb : zs.length ≠ 0 → h[b]? = some (.cells (zs.flatMap contCell) 52 true)) : SlC h (contSl b zs) zs := by
  by_cases hz : zs.length = 0
  · have : zs = [] := List.length_eq_zero_iff.1 hz
    subst this
    exact .inl ⟨by simp [bufSl], rfl⟩
  · have hne : zs ≠ [] := fun e => hz (by rw [e]; rfl)
    have := SlC.cells hne (hb hz)
    simp only [bufSl, if_neg hz, flat_len]
    exact this
def contOf (t : Txt) : Cont := ⟨t, false, false, 0, 0, false, 0, 0⟩
theorem contOf_small {t : Txt} (ht : t.length ≤ 1000000) : (contOf t).small := ⟨ht, by simp [contOf], by simp [contOf], by simp [contOf], by simp [contOf]⟩
theorem awake16w : ∃ h', D cfg 68 [] [] = some (.bool true, h') := by
  have key : ∃ r h', D cfg 68 [] [] = some (r, h') ∧ (r = .bool true) := by
    refine call68 (R := fun r h' => r = .bool true) (args := []) (h := []) (by simp) ?_
    have hv : SlC [.cells ([contOf [97]].flatMap contCell) 52 true] (contSl 0 [contOf [97]]) [contOf [97]] := SlC.buf fun _ => rfl
    obtain ⟨h1, e1, _⟩ := run_track (s := [98, 97]) (m := 4) (most := 4) hv (by simp; exact contOf_small (by simp)) (by simp) (by simp) (by decide)
    have hr : runOf [contOf [97]] 4 [98, 97] = (2, true, 0) := by decide
    rw [hr] at e1
    have e1' : D cfg 70 [.sl (some ⟨0, 0, 8⟩) 1 1, .int .i64 4, .str [98, 97]] [.cells [.str [97], .bool false, .bool false, .int .i64 0, .int .i64 0, .bool false, .int .i64 0, .int .i64 0] 52 true] = some (.tup [.int .i64 2, .bool true, .int .i64 0], h1) := e1
    simp [c68, c68_r0, c68_r1, c68_r2, abuild, abuildSlice, afill, zeros, splice, e1', extractV]
  obtain ⟨r, h', h1, rfl⟩ := key
  exact ⟨h', h1⟩
theorem awake16c {fs : List FuncId} (hf : fs.contains 68 = true) {h : Heap} : mixed fs (D cfg) 68 [] h = some (.bool true, h) := by
  obtain ⟨h', hx⟩ := awake16w
  exact awake_ofD hx hf
noncomputable abbrev F22 : CallF := mixed [68] (D cfg)
theorem awake22 {h : Heap} : F22 68 [] h = some (.bool true, h) := awake16c rfl
theorem F22_D {f : FuncId} (hf : f ≠ 68) {args : List AV} {h : Heap} : F22 f args h = D cfg f args h := mixed_D (by simp [hf])
def contA2 : Cont := contOf [97]
def contB2 (w : Nat) : Cont := ⟨[98], false, false, 0, 0, true, 0, w⟩
def TT (k w n : Nat) (l1 : List Int) (s1 : Bool) (ov : Bool) : TS := ⟨k, n, [⟨contA2, 0, true, w, false, l1, s1⟩, ⟨contB2 w, 1, false, 0, true, [], false⟩], [], false, ov⟩
def lastW (n w : Nat) : List Int := (List.range' (n + 1 - min n w) (min n w)).map fun x : Nat => (x : Int)
def sT (k w n : Nat) : TS := if n ≤ k ∨ w ≤ k then TT k w n (lastW n w) (decide (0 < n)) false else TT k w (k + 1) (lastW (k + 1) w) true true
theorem lastW_len {n w : Nat} : (lastW n w).length = min n w := by simp [lastW]
theorem lastW_last {n w : Nat} (hn : 0 < n) (hw : 0 < w) : (n : Int) ∈ lastW n w := by
  simp only [lastW, List.mem_map, List.mem_range']
  exact ⟨n, ⟨min n w - 1, by omega, by omega⟩, rfl⟩
theorem lastW_step {n w : Nat} (hw : 1 ≤ w) : ((lastW n w).filter fun a => decide (((n + 1 : Nat) : Int) < a + w)) ++ [((n + 1 : Nat) : Int)] = lastW (n + 1) w := by
  have hf : ∀ (s m : Nat), n + 1 < s + w → (((List.range' s m).map fun x : Nat => (x : Int)).filter fun a => decide (((n + 1 : Nat) : Int) < a + w)) = (List.range' s m).map fun x : Nat => (x : Int) := by
    intro s m hs
    rw [List.filter_eq_self]
    intro a ha
    simp only [List.mem_map, List.mem_range'] at ha
    obtain ⟨x, ⟨i, hi, rfl⟩, rfl⟩ := ha
    simp only [decide_eq_true_eq]
    omega
  unfold lastW
  by_cases h : n < w
  · have h1 : min n w = n := by omega
    have h2 : min (n + 1) w = n + 1 := by omega
    rw [h1, h2, hf _ _ (by omega), show n + 1 - n = 1 by omega, show n + 1 + 1 - (n + 1) = 1 by omega, List.range'_concat]
    simp
    omega
  · have h1 : min n w = w := by omega
    have h2 : min (n + 1) w = w := by omega
    obtain ⟨w', rfl⟩ : ∃ w', w = w' + 1 := ⟨w - 1, by omega⟩
    rw [h1, h2, List.range'_succ, List.map_cons, List.filter_cons, if_neg (by simp only [decide_eq_true_eq]; omega), hf _ _ (by omega), show n + 1 + 1 - (w' + 1) = n + 1 - (w' + 1) + 1 by omega, List.range'_concat]
    simp
    omega
theorem newTT {k w : Nat} (hw : 1 ≤ w) : newTo [contA2, contB2 w] k 2 = sT k w 0 := by
  have h0 : (0 : Int) < w := by omega
  have h1 : 0 < w := by omega
  have hs : sT k w 0 = TT k w 0 [] false false := by simp [sT, lastW]
  rw [hs]
  simp [newTo, addT, contA2, contB2, contOf, relL, relB, newPS, relPS, TT, h0, h1]
theorem placedA2 {n : Nat} : placed contA2 (n + 1) = true := by
  simp [placed, contA2, contOf]
theorem stepTT {k w n : Nat} (hw : 1 ≤ w) (hk : 1 ≤ k) : stepT (TT k w n (lastW n w) (decide (0 < n)) false) [true, false] = TT k w (n + 1) (lastW (n + 1) w) true (decide (k < min (n + 1) w)) := by
  have h1 : saysB [true, false] (n + 1) ⟨contA2, 0, true, w, false, lastW n w, decide (0 < n)⟩ = true := by
    show (nth [true, false] 0 && placed contA2 (n + 1)) = true
    rw [placedA2]; rfl
  have h2 : saysB [true, false] (n + 1) ⟨contB2 w, 1, false, 0, true, [], false⟩ = false := rfl
  have hr : contA2.rel = false := rfl
  have hh0 : hereN [true, false] (n + 1) [⟨contA2, 0, true, w, false, lastW n w, decide (0 < n)⟩, ⟨contB2 w, 1, false, 0, true, [], false⟩] 0 = true := by
    simp only [hereN, List.getElem?_cons_zero, h1, hr]; rfl
  have hh1 : hereN [true, false] (n + 1) [⟨contA2, 0, true, w, false, lastW n w, decide (0 < n)⟩, ⟨contB2 w, 1, false, 0, true, [], false⟩] 1 = false := by
    simp only [hereN, List.getElem?_cons_zero, List.getElem?_cons_succ, h2, Bool.false_and]
  have hp0 : PS.keep ⟨contA2, 0, true, w, false, lastW n w, decide (0 < n)⟩ ((n + 1 : Nat) : Int) true = ⟨contA2, 0, true, w, false, lastW (n + 1) w, true⟩ := by
    have hlt : decide (((n + 1 : Nat) : Int) < ((n + 1 : Nat) : Int) + (w : Int)) = true := by simp only [decide_eq_true_eq]; omega
    simp only [PS.keep, keepL, Bool.or_true, Bool.false_eq_true, if_false, Bool.true_and, hlt, if_true, lastW_step hw]
  have hp1 : PS.keep ⟨contB2 w, 1, false, 0, true, [], false⟩ ((n + 1 : Nat) : Int) false = ⟨contB2 w, 1, false, 0, true, [], false⟩ := rfl
  have hov : (0 : Nat) = ([] : List Int).length := rfl
  have hk0 : ¬ (k < 0) := by omega
  simp only [stepT, TT, Bool.false_eq_true, if_false, List.length_cons, List.length_nil, Nat.zero_add, keptTo, overTo, badTo, List.getElem?_cons_zero, List.getElem?_cons_succ, hh0, hh1, hp0, hp1, List.set_cons_zero, List.set_cons_succ, lastW_len, decide_eq_false hk0, Bool.or_false, Bool.false_or]
theorem stepS {k w n : Nat} (hw : 1 ≤ w) (hk : 1 ≤ k) : stepT (sT k w n) [true, false] = sT k w (n + 1) := by
  unfold sT
  by_cases h : n ≤ k ∨ w ≤ k
  · rw [if_pos h, stepTT hw hk]
    by_cases h2 : n + 1 ≤ k ∨ w ≤ k
    · rw [if_pos h2]
      have h3 : ¬ (k < min (n + 1) w) := by omega
      rw [decide_eq_false h3]
      simp
    · rw [if_neg h2]
      have h3 : n = k := by omega
      subst h3
      have h4 : n < min (n + 1) w := by omega
      rw [decide_eq_true h4]
  · have h2 : ¬ (n + 1 ≤ k ∨ w ≤ k) := by omega
    rw [if_neg h, if_neg h2]
    rfl
theorem sT_over {k w n : Nat} : (sT k w n).over = decide (k < min n w) := by
  unfold sT
  by_cases h : n ≤ k ∨ w ≤ k
  · rw [if_pos h]
    have : ¬ (k < min n w) := by omega
    rw [decide_eq_false this]; rfl
  · rw [if_neg h]
    have : k < min n w := by omega
    rw [decide_eq_true this]; rfl
theorem sT_nums {k w n : Nat} (h : ¬ (k < min n w)) : (sT k w n).nums = [((min n w : Nat) : Int), 0] := by
  unfold sT
  rw [if_pos (by omega)]
  simp [TS.nums, TT, lastW_len]
theorem sT_nums_len {k w n : Nat} : (sT k w n).nums.length = 2 := by
  unfold sT
  split <;> rfl
theorem lastS {k w n : Nat} (hw : 1 ≤ w) : (stepT (sT k w n) [false, true]).holds = (decide (0 < n) && !decide (k < min n w)) := by
  by_cases h : k < min n w
  · have h2 : ¬ (n ≤ k ∨ w ≤ k) := by omega
    rw [decide_eq_true h]
    unfold sT
    rw [if_neg h2]
    have : stepT (TT k w (k + 1) (lastW (k + 1) w) true true) [false, true] = TT k w (k + 1) (lastW (k + 1) w) true true := rfl
    rw [this]
    simp [TT, TS.holds]
  · have h2 : n ≤ k ∨ w ≤ k := by omega
    rw [decide_eq_false h]
    unfold sT
    rw [if_pos h2]
    have h1 : saysB [false, true] (n + 1) ⟨contA2, 0, true, w, false, lastW n w, decide (0 < n)⟩ = false := rfl
    have h3 : saysB [false, true] (n + 1) ⟨contB2 w, 1, false, 0, true, [], false⟩ = true := rfl
    have hh0 : hereN [false, true] (n + 1) [⟨contA2, 0, true, w, false, lastW n w, decide (0 < n)⟩, ⟨contB2 w, 1, false, 0, true, [], false⟩] 0 = false := by
      simp only [hereN, List.getElem?_cons_zero, h1]; rfl
    have haft : afterB (contB2 w) ⟨contA2, 0, true, w, false, lastW n w, decide (0 < n)⟩ false ((n + 1 : Nat) : Int) = decide (0 < n) := by
      simp only [afterB, Bool.false_and, Bool.or_false]
      by_cases hn : 0 < n
      · rw [decide_eq_true hn, List.any_eq_true]
        refine ⟨n, lastW_last hn hw, ?_⟩
        simp [followsT, contB2]
        omega
      · have hn0 : n = 0 := by omega
        subst hn0
        simp [lastW]
    have hh1 : hereN [false, true] (n + 1) [⟨contA2, 0, true, w, false, lastW n w, decide (0 < n)⟩, ⟨contB2 w, 1, false, 0, true, [], false⟩] 1 = decide (0 < n) := by
      have hr : (contB2 w).rel = true := rfl
      simp only [hereN, List.getElem?_cons_zero, List.getElem?_cons_succ, h1, Bool.false_and, h3, haft, hr, Bool.not_true, Bool.false_or, Bool.true_and]
    simp only [stepT, TT, Bool.false_eq_true, if_false, List.length_cons, List.length_nil, Nat.zero_add, keptTo, overTo, badTo, List.getElem?_cons_zero, List.getElem?_cons_succ, hh0, hh1, List.set_cons_zero, List.set_cons_succ, TS.holds, PS.keep, List.all_cons, List.all_nil, Bool.or_false, Bool.false_or, Bool.and_true, Bool.not_false, Bool.and_self]
theorem step_lit {h : Heap} {tb pa nb : Nat} {T : TS} {fl : FL} (H : TrackAt h tb pa nb T fl) (hok : T.ok) (hat : T.at_ ≤ 1000) (hl : T.parts.length + T.nots.length ≤ 1000) {x y : Bool} :
    ∃ fl' h', D cfg 73 [tPtr tb, .sl (some ⟨h.length, 0, 2⟩) 2 2] (h ++ [AObj.cells [.bool x, .bool y] 4 true]) = some (.bool (stepT T [x, y]).over, h') ∧ TrackAt h' tb pa nb (stepT T [x, y]) fl' := by
  obtain ⟨h2, hh2⟩ : ∃ h2, h ++ [AObj.cells [.bool x, .bool y] 4 true] = h2 := ⟨_, rfl⟩
  have o2 : Only (fun _ => False) h h2 := by rw [← hh2]; exact .app
  have g2 : h2[h.length]? = some (.cells [.bool x, .bool y] 4 true) := by rw [← hh2]; simp
  have hsl := Sl1.cells g2
  have T2 := H.same o2
  obtain ⟨fl', h3, e3, T3, _, _⟩ := step_ok (ends := [x, y]) T2 hsl (fun c hc => by
    simp only [slB] at hc
    cases hc
    rintro (e | e)
    · have := T2.hdr; rw [← e, g2] at this; injection this with this; injection this with _ _ this; exact absurd this (by simp)
    · exact T2.ps.not g2 (.inl rfl) e) hok (by omega) hl
  rw [hh2]
  exact ⟨fl', h3, e3, T3⟩
theorem sT_small {k w n : Nat} : (sT k w n).parts.length = 2 ∧ (sT k w n).nots.length = 0 ∧ ((sT k w n).at_ = n ∨ (sT k w n).at_ = k + 1) := by
  unfold sT
  split
  · exact ⟨rfl, rfl, .inl rfl⟩
  · exact ⟨rfl, rfl, .inr rfl⟩
abbrev env22 (k w m tb i : Nat) : Env := [(7, .int .i64 k), (8, .int .i64 w), (9, tPtr tb), (10, .int .i64 m), (11, .int .i64 i)]
def In22 (k w mm tb pa nb : Nat) (m : Nat) (σ : St) : Prop := ∃ n fl h, m = mm - n ∧ n ≤ mm ∧ σ = ⟨env22 k w mm tb (n + 1), h⟩ ∧ TrackAt h tb pa nb (sT k w n) fl ∧ (sT k w n).ok
theorem stays_walk {mo nn wi : Int} : Wt Try.prog F22 c22 ⟨argsEnv 0 [.int .i64 mo, .int .i64 nn, .int .i64 wi], []⟩ (Ends Try.prog [.tmp 6] fun r _ => r = .bool true) := by
  have p1 := place_run (h := []) (v := mo) (n := 32) (by decide) (by decide)
  have p2 := place_run (h := []) (v := wi) (n := 50) (by decide) (by decide)
  obtain ⟨k', hk'⟩ : ∃ a : Nat, mo % 32 = a := ⟨(mo % 32).toNat, by omega⟩
  obtain ⟨w', hw'⟩ : ∃ b : Nat, wi % 50 = b := ⟨(wi % 50).toNat, by omega⟩
  obtain ⟨M, hM⟩ : ∃ o : Nat, nn % 80 = o := ⟨(nn % 80).toNat, by omega⟩
  rw [hk'] at p1
  rw [hw'] at p2
  obtain ⟨k, hk⟩ : ∃ k, 1 + k' = k := ⟨_, rfl⟩
  obtain ⟨w, hw⟩ : ∃ w, 1 + w' = w := ⟨_, rfl⟩
  have hwk : IntKind.wrap .i64 (1 + (k' : Int)) = k := by rw [wrap_i64 (by omega) (by omega)]; omega
  have hww : IntKind.wrap .i64 (1 + (w' : Int)) = w := by rw [wrap_i64 (by omega) (by omega)]; omega
  have hk32 : k ≤ 32 := by omega
  have hw50 : w ≤ 50 := by omega
  have hM80 : M < 80 := by omega
  have hk1 : 1 ≤ k := by omega
  have hw1 : 1 ≤ w := by omega
  have hv : SlC [.cells ([contA2, contB2 w].flatMap contCell) 52 true] (contSl 0 [contA2, contB2 w]) [contA2, contB2 w] := SlC.buf fun _ => rfl
  have hsm : ∀ c ∈ [contA2, contB2 w], c.small := by
    intro c hc
    simp at hc
    rcases hc with rfl | rfl
    · exact contOf_small (by simp)
    · exact ⟨by simp [contB2], by simp [contB2], by simp [contB2], by simp [contB2], by simp [contB2]; omega⟩
  obtain ⟨tb, pa, nb, fl, h1, e1, T1, o1, f1⟩ := new_run (m := (k : Int)) (most := k) hv hsm (by simp) (by omega)
  have hn2 : newTo [contA2, contB2 w] k [contA2, contB2 w].length = sT k w 0 := newTT hw1
  have hok : (sT k w 0).ok := by rw [← hn2]; exact newTo_ok hsm
  rw [hn2] at T1
  have e1' : D cfg 72 [.sl (some ⟨0, 0, 16⟩) 2 2, .int .i64 k] [.cells [.str [97], .bool false, .bool false, .int .i64 0, .int .i64 0, .bool false, .int .i64 0, .int .i64 0, .str [98], .bool false, .bool false, .int .i64 0, .int .i64 0, .bool true, .int .i64 0, .int .i64 w] 52 true] = some (tPtr tb, h1) := e1
  have p3 := place_run (h := h1) (v := nn) (n := 80) (by decide) (by decide)
  rw [hM] at p3
  simp [c22, c22_r0, c22_r1, c22_r2, c22_r3, c22_r4, c22_r6, c22_r7, F22_D, p1, p2, p3, hwk, hww, abuild, abuildSlice, afill, zeros, splice, e1']
  refine Wt.loop (In22 k w M tb pa nb) (m := M) ⟨0, fl, h1, rfl, Nat.zero_le _, rfl, T1, hok⟩ ?_
  rintro m σ ⟨n, fl2, h2, rfl, hn, rfl, T2, hok2⟩
  have hcut : cut (some [7, 8, 9, 10, 11]) (env22 k w M tb (n + 1)) = env22 k w M tb (n + 1) := by simp
  simp only [hcut]
  obtain ⟨z1, z2, z3⟩ := sT_small (k := k) (w := w) (n := n)
  by_cases hnM : n < M
  · have hle : (n : Int) + 1 ≤ M := by omega
    have hle2 : n + 1 ≤ M := by omega
    obtain ⟨fl3, h3, e3, T3⟩ := step_lit T2 hok2 (by omega) (by omega) (x := true) (y := false)
    have hok3 : (stepT (sT k w n) [true, false]).ok := hok2.step
    rw [stepS hw1 hk1] at e3 T3 hok3
    rw [sT_over] at e3
    obtain ⟨n1, hn1⟩ : ∃ n1, n + 1 = n1 := ⟨_, rfl⟩
    rw [hn1] at e3 T3 hok3 hle2 ⊢
    have hle' : (n1 : Int) ≤ M := by omega
    obtain ⟨y1, y2, y3⟩ := sT_small (k := k) (w := w) (n := n1)
    obtain ⟨v, h4, e4, hs4, o4⟩ := kept_run T3 (by omega)
    have hvt : v.notTup = true := by rcases hs4 with ⟨rfl, _⟩ | ⟨_, _, _, _, _, rfl, _, _⟩ <;> rfl
    have hcl : (intCells (sT k w n1).nums).length = 2 := by rw [← sT_nums_len (k := k) (w := w) (n := n1)]; simp [intCells]
    have hlen : ∀ L, alen Try.prog L 30 v = some (.int .i64 2) := fun L => by
      rw [hs4.len (L := L) (t := 30) (e := 3) (by simp), hcl]; rfl
    have hwr : IntKind.wrap .i64 ((n1 : Int) + 1) = n1 + 1 := wrap_i64 (by omega) (by omega)
    have hnext : In22 k w M tb pa nb (M - n1) ⟨env22 k w M tb (n1 + 1), h4⟩ := ⟨n1, fl3, h4, rfl, by omega, rfl, T3.same o4, hok3⟩
    simp only [env22] at hnext
    obtain ⟨mn, hmn⟩ : ∃ mn, min n1 w = mn := ⟨_, rfl⟩
    rw [hmn] at e3
    have hmin : amin [.int .i64 n1, .int .i64 w] = some (.int .i64 mn) := by
      simp only [amin, List.foldl, amin1, if_true]
      congr 2
      split <;> omega
    by_cases hov : k < mn
    · rw [decide_eq_true hov] at e3
      have hov' : (k : Int) < mn := by omega
      have hwk2 : ¬ (w ≤ k) := by omega
      simp [-AV.notTup, hvt, notTup_ptr, c22_l8, c22_r8, c22_r9, c22_r10, c22_r11, c22_r12, F22_D, hle', hle2, abuildSlice, afill, zeros, splice, e3, e4, hmin, hov, hov', hwk2, len1, hlen, hwr]
      exact ⟨M - n1, by omega, by simpa using hnext⟩
    · rw [decide_eq_false hov] at e3
      have hov' : ¬ ((k : Int) < mn) := by omega
      have hnum := sT_nums (k := k) (w := w) (n := n1) (by rw [hmn]; exact hov)
      rw [hnum, hmn] at hs4
      have a0 : aindexAddr Try.prog 30 v (.int .i64 0) = some (elp v 0) := hs4.at (t := 30) (e := 3) (by simp) (by simp) (i := 0) (by simp [intCells])
      have l0 : aload Try.prog (look h4) 3 (elp v 0) = some (.int .i64 mn) := hs4.load (e := 3) (by simp) (i := 0) (by simp [intCells])
      have a1 : aindexAddr Try.prog 30 v (.int .i64 1) = some (elp v 1) := hs4.at (t := 30) (e := 3) (by simp) (by simp) (i := 1) (by simp [intCells])
      have l1 : aload Try.prog (look h4) 3 (elp v 1) = some (.int .i64 0) := hs4.load (e := 3) (by simp) (i := 1) (by simp [intCells])
      have en0 : (elp v 0).notTup = true := by unfold elp; split <;> rfl
      have en1 : (elp v 1).notTup = true := by unfold elp; split <;> rfl
      simp [-AV.notTup, hvt, en0, en1, notTup_ptr, c22_l8, c22_r8, c22_r9, c22_r10, c22_r11, c22_r12, F22_D, hle', hle2, abuildSlice, afill, zeros, splice, e3, e4, hmin, hov, hov', len1, hlen, a0, l0, a1, l1, hwr]
      exact ⟨M - n1, by omega, by simpa using hnext⟩
  · have hn2 : n = M := by omega
    subst hn2
    have e2 := over_run T2
    rw [sT_over] at e2
    obtain ⟨fl3, h3, e3, T3⟩ := step_lit T2 hok2 (by omega) (by omega) (x := false) (y := true)
    have hlen3 := stepT_len (T := sT k w n) (ends := [false, true])
    have e4 := holds_run T3 (by omega)
    have e5 := over_run T3
    rw [lastS hw1] at e4
    have hnl : ¬ ((n : Int) + 1 ≤ n) := by omega
    by_cases hov : k < min n w
    · rw [decide_eq_true hov] at e2 e4
      have e4' : D cfg 76 [tPtr tb] h3 = some (.bool false, h3) := by rw [e4]; simp
      have hst : (stepT (sT k w n) [false, true]).over = true := by
        have h5 : (sT k w n).over = true := by rw [sT_over]; exact decide_eq_true hov
        simp only [stepT, h5, if_true]
      rw [hst] at e3 e5
      simp [c22_l8, c22_r8, c22_r14, c22_r15, c22_r16, F22_D, hnl, e2, abuildSlice, afill, zeros, splice, e3, e4', e5, awake22]
    · rw [decide_eq_false hov] at e2 e4
      obtain ⟨ob, hob⟩ : ∃ ob, (stepT (sT k w n) [false, true]).over = ob := ⟨_, rfl⟩
      rw [hob] at e3
      by_cases hn0 : 0 < n
      · have hn0' : (0 : Int) < n := by omega
        have e4' : D cfg 76 [tPtr tb] h3 = some (.bool true, h3) := by rw [e4]; simp [hn0]
        simp [c22_l8, c22_r8, c22_r14, c22_r17, c22_r18, F22_D, hnl, e2, abuildSlice, afill, zeros, splice, e3, e4', hn0, hn0', awake22]
      · have hn0' : ¬ ((0 : Int) < n) := by omega
        have e4' : D cfg 76 [tPtr tb] h3 = some (.bool false, h3) := by rw [e4]; simp [hn0]
        simp [c22_l8, c22_r8, c22_r14, c22_r17, c22_r18, F22_D, hnl, e2, abuildSlice, afill, zeros, splice, e3, e4', hn0, hn0', awake22]
end Go.AM
