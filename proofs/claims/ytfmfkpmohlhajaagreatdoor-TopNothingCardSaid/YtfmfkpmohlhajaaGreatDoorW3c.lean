/-
  What the law TopNothing stands on, part 3.
-/
import Derived.Test.YtfmfkpmohlhajaaGreatDoorW3b
import Derived.Below
import Derived.ProofKit
import Derived.OpenShut
import Derived.SliceStrings
namespace Go.AM
open Go Go.Proofs Go.RowKit
set_option linter.unusedVariables false
set_option linter.unusedSimpArgs false
set_option maxRecDepth 100000
section
def stagesC (e : Nat) : List AV := [.bm 55 (ePtr e), .bm 56 (ePtr e), .bm 57 (ePtr e), .bm 58 (ePtr e), .bm 59 (ePtr e), .bm 60 (ePtr e), .bm 61 (ePtr e), .bm 62 (ePtr e), .bm 63 (ePtr e), .bm 64 (ePtr e)]
abbrev segB (x fl seq ack : Nat) (body : Txt) : Txt := tcpB (srcA x) (dstA x) (tcpHd (srcP x) (dstP x) seq ack fl 1000) body
section
variable {h : Heap} {x e fg tb bk fm a b c d fl seq ack : Nat} {body : Txt}
def Last (h1 : Heap) (e p : Nat) (fp : Nat → Prop) (Q : List AV → Heap → Prop) : Prop :=
 ∃ outs h2 h3 cs2 cs3 fcs fb, D cfg1 61 [ePtr e, pPtr p] h1 = some (.bool true, h2) ∧ PkAt h2 p cs2 ∧ cs2.length = 47 ∧ cs2[42]? = some (fPtr fb) ∧ h2[fb]? = some (.cells fcs 190 false) ∧ fcs.length = 13 ∧ fcs[12]? = some (.bool false) ∧ cs2[34]? = some (.int .i64 6) ∧ Only fp h1 h2 ∧
  D cfg1 64 [ePtr e, pPtr p] h2 = some (.bool false, h3) ∧ PkAt h3 p cs3 ∧ cs3.length = 47 ∧ (cs3.drop 43).take 4 = outs ∧ outs.all AV.one = true ∧ Only fp h2 h3 ∧ Q outs h3
theorem frame_run {fp : Nat → Prop} {Q : List AV → Heap → Prop} (hx : x < 2) (hfl : fl < 64) (hs : seq < 4294967296) (ha : ack < 4294967296) (hb : body.length ≤ 1900) (E : EnAt h e fg tb bk fm a b c d) (haa : a < 1000000) (B : BlkAt h bk) (hbe : bk ≠ e)
  (hfp : ∀ c, fp c → c ≠ h.length ∧ c ≠ h.length + 2) (hQ : ∀ o h3 h', Q o h3 → Only (fun c => c = h.length) h3 h' → Q o h')
  (hk : ∀ h1, Only (fun c => c = e) h h1 → h.length + 3 ≤ h1.length → EnAt h1 e fg tb bk fm (a + 1) b c d → PkAt h1 (h.length + 1) (pkM x (frB x fl seq ack body) (segB x fl seq ack body) fl seq ack body 0 0 false (.ptr none) (.sl none 0 0)) → Last h1 e (h.length + 1) fp Q) :
  ∃ outs h', D cfg1 35 [ePtr e, .int .i64 x, .str (frB x fl seq ack body)] h = some (.agg outs, h') ∧ Q outs h' ∧ Only (fun c => fp c ∨ c = e) h h' := by
 have le := lt_of_at E
 obtain ⟨p1, p2, p3, p4⟩ := portsX x
 have hbk : bk < h.length := by obtain ⟨f, hf⟩ := B; exact lt_of_at hf
 obtain ⟨h1, hh1, n1, k1, O1⟩ := app1 (h := h) (.cells [.sl none 0 0, .sl none 0 0, .int .i64 0, .int .i64 0] 70 false)
 have E1 : EnAt h1 e fg tb bk fm a b c d := O1.at E not_false
 have l15 : aload Tryz.prog (look h1) 3 (.ptr (some ⟨e, 15, 29⟩)) = some (.int .i64 a) := cell_load E1 rfl (by simp) rfl
 have w : IntKind.wrap .i64 ((a : Int) + 1) = (a + 1 : Nat) := by rw [wrap_i64 (by omega) (by omega)]; omega
 obtain ⟨h2, hh2, s2, E2, O2⟩ := st1 (off := 15) (v := .int .i64 (a + 1 : Nat)) (us := engC fg tb bk fm (cntC (a + 1) b c d)) E1 3 29 rfl (by simp) rfl (by omega) rfl
 have k2 : h2.length = h.length + 1 := by rw [hh2]; simp [k1]
 obtain ⟨fr, hfr⟩ : ∃ fr, fr = frB x fl seq ack body := ⟨_, rfl⟩
 rw [← hfr] at hk ⊢
 have hbu : abuild Tryz.prog 130 [(0, .int .i64 x), (1, .str fr)] = some (.agg (pkC x fr et0 ip0 [] sg0 [] tup0 0 0 false (.ptr none) (.sl none 0 0))) := by simp [abuild, afill, zeros, pkC, et0, ip0, sg0, tup0]
 have hpa : (pkC x fr et0 ip0 [] sg0 [] tup0 0 0 false (.ptr none) (.sl none 0 0)).all AV.one = true := by simp [pkC, et0, ip0, sg0, tup0]
 have hpl : (pkC x fr et0 ip0 [] sg0 [] tup0 0 0 false (.ptr none) (.sl none 0 0)).length = 47 := rfl
 obtain ⟨h3, hh3, n3, k3, O3⟩ := app1 (h := h2) (.cells (pkC x fr et0 ip0 [] sg0 [] tup0 0 0 false (.ptr none) (.sl none 0 0)) 130 false)
 obtain ⟨h4, hh4, n4, k4, O4⟩ := app1 (h := h3) (.cells (stagesC e) 131 true)
 obtain ⟨p, hp⟩ : ∃ p, p = h.length + 1 := ⟨_, rfl⟩
 obtain ⟨q, hq⟩ : ∃ q, q = h3.length := ⟨_, rfl⟩
 have hpq : p < q := by omega
 have P4 : PkAt h4 p _ := O4.at (by rw [k2, ← hp] at n3; exact n3) not_false
 rw [← hq] at n4
 have hif : (ipB (srcA x) (dstA x) (segB x fl seq ack body)).length ≤ 2900 := by rw [ipB_len, tcpB_len _ _ _ _ (tcpHd_len ..)]; omega
 have hfe : fr = ethB (ethD x) (ethS x) (ipB (srcA x) (dstA x) (segB x fl seq ack body)) := hfr
 obtain ⟨h5, e5, P5, O5⟩ := st55_run (e := e) hx hif (hfe ▸ P4)
 rw [← hfe] at P5
 have e6 := st56_run (e := e) (p := p) (h := h5) P5
 have hlb : (segB x fl seq ack body).length ≤ 2000 := by rw [tcpB_len _ _ _ _ (tcpHd_len ..)]; omega
 obtain ⟨h6, e7, P6, O6⟩ := st57_run (e := e) hx hlb (IpS.of p3 p4 hlb) P5
 have e8 := st58_run (e := e) (p := p) (h := h6) P6
 obtain ⟨h7, e9, P7, O7⟩ := st59_run (e := e) hx hfl hs ha hb (TcpS.of p1 p2 (by omega) hs ha) P6
 have O57 : Only (fun c => c = p) h4 h7 := (O5.trans O6).trans O7
 have hl4 : h.length + 2 < h4.length := by omega
 have O24 : Only (fun c => c = e) h h4 := (((O1.mono fun _ _ e => e.elim).next O2 fun _ _ e => e).next O3 fun _ _ e => e.elim).next O4 fun _ _ e => e.elim
 have O47 : Only (fun c => c = e) h h7 := O24.next O57 fun _ _ e => by omega
 have E7 : EnAt h7 e fg tb bk fm (a + 1) b c d := O57.at (O4.at (O3.at E2 not_false) not_false) (by omega)
 have B7 : BlkAt h7 bk := B.keep O47 hbe
 obtain ⟨h8, e10, g8⟩ := st60_run (cs := pkM x fr (segB x fl seq ack body) fl seq ack body 0 0 false (.ptr none) (.sl none 0 0)) (x := x) rfl E7 B7 P7 rfl
 have O8 : Only (fun _ => False) h7 h8 := g8.only
 have hl8 : h.length + 3 ≤ h8.length := by have := O57.1; have := O8.1; omega
 obtain ⟨outs, h9, h10, cs2, cs3, fcs, fb, e11, P9, c1, c2, F9, c3, c4, c5, O9, e12, P10, c6, c7, c8, O10, hQ10⟩ := hk h8 (O47.next O8 fun _ _ e => e.elim) hl8 (O8.at E7 not_false) (by rw [← hp]; exact O8.at P7 not_false)
 rw [← hp] at e11 P9 e12 P10
 have e13 := st62_run (e := e) c1 P9 c2 F9 c3 c4
 have e14 := st63_run (e := e) c1 P9 c5
 have hfq : ¬ fp q := fun hc => by have := hfp q hc; omega
 have hfr0 : ¬ fp h.length := fun hc => by have := hfp _ hc; omega
 have hll : h.length < q := by omega
 have m4 := n4
 have m5 := O5.at m4 (by omega)
 have m6 := O6.at m5 (by omega)
 have m7 := O7.at m6 (by omega)
 have m8 := O8.at m7 not_false
 have m9 := O9.at m8 hfq
 have r10 := O10.at (O9.at (O8.at (O57.at (O4.at (O3.at (O2.at n1 (by omega)) not_false) not_false) (by omega)) not_false) hfr0) hfr0
 have fl_ : ∀ {hh : Heap} {i : Nat} {v : AV}, hh[q]? = some (.cells (stagesC e) 131 true) → (stagesC e)[i]? = some v → aload Tryz.prog (look hh) 131 (.ptr (some ⟨q, i, 10⟩)) = some v := fun hm hv => cell_load hm rfl (by simp) hv
 have ix : ∀ {hh : Heap} (i : Nat), i < 10 → aindexAddr Tryz.prog 132 (.sl (some ⟨q, 0, 10⟩) 10 10) (.int .i64 i) = some (.ptr (some ⟨q, i, 10⟩)) := fun i hi => by
  have q1 : (i : Int) < 10 := by omega
  simp [aindexAddr]; omega
 obtain ⟨h11, hh11, s11, n11, O11⟩ := stN (off := 0) (vs := outs) (us := outs) r10 70 4 4 rfl (by simp) (by rw [← c7]; simp [c6]) c8 (by omega) (by omega) (by
  have : outs.length = 4 := by rw [← c7]; simp [c6]
  simp [splice, this])
 have lo : aload Tryz.prog (look h10) 70 (.ptr (some ⟨p, 43, 47⟩)) = some (.agg outs) := ld_sub P10 c6 (by simp) (k := 4) (by simp) (by omega) c7
 have lr : aload Tryz.prog (look h11) 70 (.ptr (some ⟨h.length, 0, 4⟩)) = some (.agg outs) := ld_all n11 (by rw [← c7]; simp [c6]) (by simp) (by simp)
 have hsl : abuildSlice Tryz.prog h3.length 132 10 [(0, .bm 55 (ePtr e)), (1, .bm 56 (ePtr e)), (2, .bm 57 (ePtr e)), (3, .bm 58 (ePtr e)), (4, .bm 59 (ePtr e)), (5, .bm 60 (ePtr e)), (6, .bm 61 (ePtr e)), (7, .bm 62 (ePtr e)), (8, .bm 63 (ePtr e)), (9, .bm 64 (ePtr e))] = some (.sl (some ⟨q, 0, 10⟩) 10 10, .new (.cells (stagesC e) 131 true)) := by
  simp [abuildSlice, afill, zeros, hq, stagesC]
 obtain ⟨r, h', q1, q2⟩ : ∃ r h', D cfg1 35 [ePtr e, .int .i64 x, .str fr] h = some (r, h') ∧ (r = .agg outs ∧ h' = h11) := by
  refine call1_35 (by simp) ?_
  simp [c35, c35_r0, zeros, ← hh1, c35_r1, l15, w, s2, ← hh2, c35_r2, hbu, hpa, hpl, ← hh3, k2, ← hp, c35_r3, hsl, ← hh4, alen, -Int.natCast_add]
  have j0 : aindexAddr Tryz.prog 132 (.sl (some ⟨q, 0, 10⟩) 10 10) (.int .i64 0) = some (.ptr (some ⟨q, 0, 10⟩)) := ix (hh := h) 0 (by omega)
  have f0 : aload Tryz.prog (look h4) 131 (.ptr (some ⟨q, 0, 10⟩)) = some (.bm 55 (ePtr e)) := fl_ m4 rfl
  have j1 : aindexAddr Tryz.prog 132 (.sl (some ⟨q, 0, 10⟩) 10 10) (.int .i64 1) = some (.ptr (some ⟨q, 1, 10⟩)) := ix (hh := h) 1 (by omega)
  have f1 : aload Tryz.prog (look h5) 131 (.ptr (some ⟨q, 1, 10⟩)) = some (.bm 56 (ePtr e)) := fl_ m5 rfl
  have w1 : IntKind.wrap .i64 1 = 1 := rfl
  have j2 : aindexAddr Tryz.prog 132 (.sl (some ⟨q, 0, 10⟩) 10 10) (.int .i64 2) = some (.ptr (some ⟨q, 2, 10⟩)) := ix (hh := h) 2 (by omega)
  have f2 : aload Tryz.prog (look h5) 131 (.ptr (some ⟨q, 2, 10⟩)) = some (.bm 57 (ePtr e)) := fl_ m5 rfl
  have w2 : IntKind.wrap .i64 2 = 2 := rfl
  have j3 : aindexAddr Tryz.prog 132 (.sl (some ⟨q, 0, 10⟩) 10 10) (.int .i64 3) = some (.ptr (some ⟨q, 3, 10⟩)) := ix (hh := h) 3 (by omega)
  have f3 : aload Tryz.prog (look h6) 131 (.ptr (some ⟨q, 3, 10⟩)) = some (.bm 58 (ePtr e)) := fl_ m6 rfl
  have w3 : IntKind.wrap .i64 3 = 3 := rfl
  have j4 : aindexAddr Tryz.prog 132 (.sl (some ⟨q, 0, 10⟩) 10 10) (.int .i64 4) = some (.ptr (some ⟨q, 4, 10⟩)) := ix (hh := h) 4 (by omega)
  have f4 : aload Tryz.prog (look h6) 131 (.ptr (some ⟨q, 4, 10⟩)) = some (.bm 59 (ePtr e)) := fl_ m6 rfl
  have w4 : IntKind.wrap .i64 4 = 4 := rfl
  have j5 : aindexAddr Tryz.prog 132 (.sl (some ⟨q, 0, 10⟩) 10 10) (.int .i64 5) = some (.ptr (some ⟨q, 5, 10⟩)) := ix (hh := h) 5 (by omega)
  have f5 : aload Tryz.prog (look h7) 131 (.ptr (some ⟨q, 5, 10⟩)) = some (.bm 60 (ePtr e)) := fl_ m7 rfl
  have w5 : IntKind.wrap .i64 5 = 5 := rfl
  have j6 : aindexAddr Tryz.prog 132 (.sl (some ⟨q, 0, 10⟩) 10 10) (.int .i64 6) = some (.ptr (some ⟨q, 6, 10⟩)) := ix (hh := h) 6 (by omega)
  have f6 : aload Tryz.prog (look h8) 131 (.ptr (some ⟨q, 6, 10⟩)) = some (.bm 61 (ePtr e)) := fl_ m8 rfl
  have w6 : IntKind.wrap .i64 6 = 6 := rfl
  have j7 : aindexAddr Tryz.prog 132 (.sl (some ⟨q, 0, 10⟩) 10 10) (.int .i64 7) = some (.ptr (some ⟨q, 7, 10⟩)) := ix (hh := h) 7 (by omega)
  have f7 : aload Tryz.prog (look h9) 131 (.ptr (some ⟨q, 7, 10⟩)) = some (.bm 62 (ePtr e)) := fl_ m9 rfl
  have w7 : IntKind.wrap .i64 7 = 7 := rfl
  have j8 : aindexAddr Tryz.prog 132 (.sl (some ⟨q, 0, 10⟩) 10 10) (.int .i64 8) = some (.ptr (some ⟨q, 8, 10⟩)) := ix (hh := h) 8 (by omega)
  have f8 : aload Tryz.prog (look h9) 131 (.ptr (some ⟨q, 8, 10⟩)) = some (.bm 63 (ePtr e)) := fl_ m9 rfl
  have w8 : IntKind.wrap .i64 8 = 8 := rfl
  have j9 : aindexAddr Tryz.prog 132 (.sl (some ⟨q, 0, 10⟩) 10 10) (.int .i64 9) = some (.ptr (some ⟨q, 9, 10⟩)) := ix (hh := h) 9 (by omega)
  have f9 : aload Tryz.prog (look h9) 131 (.ptr (some ⟨q, 9, 10⟩)) = some (.bm 64 (ePtr e)) := fl_ m9 rfl
  have w9 : IntKind.wrap .i64 9 = 9 := rfl
  refine Wt.unr 10 ?_
  simp [Unr, c35_l4, c35_r4, c35_r5, c35_r6, c35_r7, callV, j0, f0, j1, f1, j2, f2, j3, f3, j4, f4, j5, f5, j6, f6, j7, f7, j8, f8, j9, f9, w1, w2, w3, w4, w5, w6, w7, w8, w9, lift e5, lift e6, lift e7, lift e8, lift e9, lift e10, e11, lift e13, lift e14, e12, c35_r8, lo, s11, ← hh11, lr]
 obtain ⟨rfl, rfl⟩ := q2
 exact ⟨_, _, q1, hQ _ _ _ hQ10 O11, ((((O47.mono fun _ _ e => .inr e).next O8 fun _ _ e => e.elim).next O9 fun _ _ e => .inl e).next O10 fun _ _ e => .inl e).next O11 fun c h1 h2 => by omega⟩
end
end
section
def opC (x : Nat) (fr : Txt) : List AV := [.int .i64 1, .int .i64 x, .str fr]
section
variable {h : Heap} {x e : Nat} {fr : Txt}
theorem do_run {fp : Nat → Prop} {Q : List AV → Heap → Prop} (he : e < h.length) (hfp : ∀ c, h.length ≤ c → c < h.length + 5 → ¬ fp c)
  (hF : ∀ h1, Only (fun _ => False) h h1 → h1.length = h.length + 5 → ∃ outs h2, D cfg1 35 [ePtr e, .int .i64 x, .str fr] h1 = some (.agg outs, h2) ∧ outs.length = 4 ∧ outs.all AV.one = true ∧ Only fp h1 h2 ∧ Q outs h2)
  (hQ : ∀ o h3 h', Q o h3 → Only (fun c => h.length ≤ c ∧ c < h.length + 5) h3 h' → Q o h') :
  ∃ outs h', D cfg1 22 [ePtr e, .agg (opC x fr)] h = some (.agg outs, h') ∧ Q outs h' ∧ Only fp h h' := by
 obtain ⟨h1, hh1, n1, k1, O1⟩ := app1 (h := h) (.cells [ePtr e] 65 false)
 obtain ⟨h2, hh2, n2, k2, O2⟩ := app1 (h := h1) (.cells (opC x fr) 32 false)
 obtain ⟨h3, hh3, n3, k3, O3⟩ := app1 (h := h2) (.cells [.sl none 0 0, .sl none 0 0, .int .i64 0, .int .i64 0] 70 false)
 obtain ⟨fs, hfs⟩ : ∃ fs : List AV, fs = [.fn (.func 33) [], .fn (.func 34) [.ptr (some ⟨h.length, 0, 1⟩), .ptr (some ⟨h1.length, 0, 3⟩)], .fn (.func 36) [.ptr (some ⟨h.length, 0, 1⟩), .ptr (some ⟨h1.length, 0, 3⟩)], .fn (.func 38) [.ptr (some ⟨h.length, 0, 1⟩), .ptr (some ⟨h1.length, 0, 3⟩)], .bm 40 (ePtr e), .bm 41 (ePtr e)] := ⟨_, rfl⟩
 have fl : fs.length = 6 := by rw [hfs]; rfl
 obtain ⟨h4, h4', hh4, hh4', s4, q4, n4, O4⟩ := fresh (h := h3) [.nilf, .nilf, .nilf, .nilf, .nilf, .nilf] fs 99 6 rfl fl (by rw [hfs]; rfl) (by omega) (by simp) (by simp)
 have k4 : h4'.length = h3.length + 1 := by rw [hh4', hh4]; simp
 obtain ⟨h5, hh5, n5, k5, O5⟩ := app1 (h := h4') (.cells [.sl none 0 0, .sl none 0 0, .int .i64 0, .int .i64 0] 70 false)
 have O15 := (((O1.trans O2).trans O3).trans O4).trans O5
 obtain ⟨outs, h6, e6, ho, ho1, O6, hq6⟩ := hF h5 O15 (by omega)
 have r5 := O6.at n5 (hfp _ (by omega) (by omega))
 obtain ⟨h7, hh7, s7, n7, O7⟩ := stN (off := 0) (vs := outs) (us := outs) r5 70 4 4 rfl (by simp) ho ho1 (by omega) (by omega) (by simp [splice, ho])
 have lr7 : aload Tryz.prog (look h7) 70 (.ptr (some ⟨h4'.length, 0, 4⟩)) = some (.agg outs) := ld_all n7 ho (by simp) (by simp)
 have a0 : aload Tryz.prog (look h5) 65 (.ptr (some ⟨h.length, 0, 1⟩)) = some (ePtr e) := cell_load (((O2.trans O3).trans O4).trans O5 |>.at n1 not_false) rfl (by simp) rfl
 have m2 := (O3.trans O4).at n2 not_false
 have m2' := O5.at m2 not_false
 have a1 : aload Tryz.prog (look h5) 3 (.ptr (some ⟨h1.length, 1, 3⟩)) = some (.int .i64 x) := cell_load m2' rfl (by simp) rfl
 have a2 : aload Tryz.prog (look h5) 9 (.ptr (some ⟨h1.length, 2, 3⟩)) = some (.str fr) := cell_load m2' rfl (by simp) rfl
 have e34 : D cfg1 34 [.ptr (some ⟨h.length, 0, 1⟩), .ptr (some ⟨h1.length, 0, 3⟩)] h4' = some (.agg outs, h7) := by
  obtain ⟨r, h', q1, q2⟩ : ∃ r h', D cfg1 34 [.ptr (some ⟨h.length, 0, 1⟩), .ptr (some ⟨h1.length, 0, 3⟩)] h4' = some (r, h') ∧ (r = .agg outs ∧ h' = h7) := by
   refine call1_34 (by simp) ?_
   simp [c34, c34_r0, zeros, ← hh5, c34_r1, a0, a1, a2, e6, s7, ← hh7, lr7]
  obtain ⟨rfl, rfl⟩ := q2
  exact q1
 have r3 := O7.at (O6.at (O5.at (O4.at n3 not_false) not_false) (hfp _ (by omega) (by omega))) (by omega)
 obtain ⟨h8, hh8, s8, n8, O8⟩ := stN (off := 0) (vs := outs) (us := outs) r3 70 4 4 rfl (by simp) ho ho1 (by omega) (by omega) (by simp [splice, ho])
 have lr8 : aload Tryz.prog (look h8) 70 (.ptr (some ⟨h2.length, 0, 4⟩)) = some (.agg outs) := ld_all n8 ho (by simp) (by simp)
 have b0 : aload Tryz.prog (look h3) 3 (.ptr (some ⟨h1.length, 0, 3⟩)) = some (.int .i64 1) := cell_load (O3.at n2 not_false) rfl (by simp) rfl
 have b0' : aload Tryz.prog (look h4') 3 (.ptr (some ⟨h1.length, 0, 3⟩)) = some (.int .i64 1) := cell_load m2 rfl (by simp) rfl
 have be : aload Tryz.prog (look h3) 65 (.ptr (some ⟨h.length, 0, 1⟩)) = some (ePtr e) := cell_load ((O2.trans O3).at n1 not_false) rfl (by simp) rfl
 have hix : aindexAddr Tryz.prog 99 (.ptr (some ⟨h3.length, 0, 6⟩)) (.int .i64 1) = some (.ptr (some ⟨h3.length, 1, 6⟩)) := by simp [aindexAddr]
 have hfn : aload Tryz.prog (look h4') 95 (.ptr (some ⟨h3.length, 1, 6⟩)) = some (.fn (.func 34) [.ptr (some ⟨h.length, 0, 1⟩), .ptr (some ⟨h1.length, 0, 3⟩)]) := cell_load n4 fl (by simp) (by rw [hfs]; rfl)
 have hbu : abuild Tryz.prog 99 [(0, .fn (.func 33) []), (1, .fn (.func 34) [.ptr (some ⟨h.length, 0, 1⟩), .ptr (some ⟨h1.length, 0, 3⟩)]), (2, .fn (.func 36) [.ptr (some ⟨h.length, 0, 1⟩), .ptr (some ⟨h1.length, 0, 3⟩)]), (3, .fn (.func 38) [.ptr (some ⟨h.length, 0, 1⟩), .ptr (some ⟨h1.length, 0, 3⟩)]), (4, .bm 40 (ePtr e)), (5, .bm 41 (ePtr e))] = some (.agg fs) := by
  rw [hfs]; simp [abuild, afill, zeros]
 have hO : Only (fun c => h.length ≤ c ∧ c < h.length + 5) h6 h8 := (O7.mono fun _ _ e => by omega).next O8 fun _ _ e => by omega
 obtain ⟨r, h', q1, q2⟩ : ∃ r h', D cfg1 22 [ePtr e, .agg (opC x fr)] h = some (r, h') ∧ (r = .agg outs ∧ h' = h8) := by
  refine call1_22 (by simp) ?_
  have hoc : (opC x fr).all AV.one = true := rfl
  have hol : (opC x fr).length = 3 := rfl
  simp [c22, c22_r0, ← hh1, hoc, hol, ← k1, ← hh2, zeros, ← k2, ← hh3, c22_r1, b0, c22_r3, be, hbu, ← k3, ← hh4, s4, ← hh4', c22_r4, b0', hix, hfn, e34, s8, ← hh8, lr8]
 obtain ⟨rfl, rfl⟩ := q2
 exact ⟨_, _, q1, hQ _ _ _ hq6 hO, ((O15.mono fun _ _ e => e.elim).next O6 fun _ _ e => e).next hO fun c h1 h2 => by omega⟩
variable {fg tb bk fm a b c d fl seq ack : Nat} {body : Txt}
theorem op_run {F : Nat → Prop} {Q : List AV → Heap → Prop} (hx : x < 2) (hfl : fl < 64) (hs : seq < 4294967296) (ha : ack < 4294967296) (hb : body.length ≤ 1900) (E : EnAt h e fg tb bk fm a b c d) (haa : a < 1000000) (B : BlkAt h bk) (hbe : bk ≠ e)
  (hF : ∀ c, F c → c < h.length) (hFe : F e) (hQ4 : ∀ o h', Q o h' → o.length = 4 ∧ o.all AV.one = true) (hQ : ∀ o h3 h', Q o h3 → Only (fun c => h.length ≤ c ∧ c < h.length + 6) h3 h' → Q o h')
  (hk : ∀ g1, Only (fun c => c = e) h g1 → h.length + 8 ≤ g1.length → EnAt g1 e fg tb bk fm (a + 1) b c d → PkAt g1 (h.length + 6) (pkM x (frB x fl seq ack body) (segB x fl seq ack body) fl seq ack body 0 0 false (.ptr none) (.sl none 0 0)) → Last g1 e (h.length + 6) (fun c => F c ∨ c = h.length + 6 ∨ h.length + 8 ≤ c) Q) :
  ∃ o h', D cfg1 22 [ePtr e, .agg (opC x (frB x fl seq ack body))] h = some (.agg o, h') ∧ Q o h' ∧ Only F h h' := by
 have key := do_run (h := h) (x := x) (e := e) (fr := frB x fl seq ack body) (fp := fun c => F c ∨ c = h.length + 6 ∨ h.length + 8 ≤ c) (Q := Q) (lt_of_at E) (fun c h1 h2 h3 => by
  rcases h3 with h3 | h3 | h3
  · have := hF c h3; omega
  · omega
  · omega) ?hF ?hQ
 case hQ => exact fun o h3 h' q g => hQ o h3 h' q (g.mono fun c _ hc => by omega)
 case hF =>
  intro h1 O1 k1
  have q := frame_run (h := h1) (x := x) (e := e) (fl := fl) (seq := seq) (ack := ack) (body := body) (fp := fun c => F c ∨ c = h.length + 6 ∨ h.length + 8 ≤ c) (Q := Q) hx hfl hs ha hb (O1.at E not_false) haa (let ⟨f, hf⟩ := B; ⟨f, O1.at hf not_false⟩) hbe (fun c hc => by
   rcases hc with hc | hc | hc
   · have := hF c hc; omega
   · omega
   · omega) ?hQ2 ?hk
  case hQ2 => exact fun o h3 h' q g => hQ o h3 h' q (g.mono fun c _ hc => by omega)
  case hk =>
   intro g1 Og1 hl Eg1 Pg1
   rw [k1] at Pg1 hl ⊢
   exact hk g1 ((O1.mono fun _ _ e => e.elim).next Og1 fun _ _ e => e) (by omega) Eg1 Pg1
  obtain ⟨o, h2, e2, q1, q2⟩ := q
  exact ⟨o, h2, e2, (hQ4 o h2 q1).1, (hQ4 o h2 q1).2, q2.mono fun c _ hc => by
   rcases hc with hc | hc
   · exact hc
   · exact .inl (hc ▸ hFe), q1⟩
 obtain ⟨o, h', e1, q1, q2⟩ := key
 exact ⟨o, h', e1, q1, q2.mono fun c hc1 hc => by
  rcases hc with hc | hc | hc
  · exact hc
  · omega
  · omega⟩
end
end
section
abbrev Em := Option (Nat × Txt)
def outC (k : Nat) : Em → List AV
 | none => [.sl none 0 0, .sl none 0 0, .int .i64 0, .int .i64 0]
 | some _ => [frS k, .sl none 0 0, .int .i64 0, .int .i64 0]
def EmAt (h : Heap) (F : Nat → Prop) (k : Nat) : Em → Prop
 | none => True
 | some yf => Fr1 h k yf.1 yf.2 ∧ ¬ F k
theorem outC_len {k : Nat} {em : Em} : (outC k em).length = 4 := by cases em <;> rfl
theorem outC_all {k : Nat} {em : Em} : (outC k em).all AV.one = true := by cases em <;> rfl
def F0 (A : Ad) (c : Nat) : Prop := A.r ≤ c ∧ c ≤ A.e
def F1 (A : Ad) (m0 c0 : Nat) (c : Nat) : Prop := (A.r ≤ c ∧ c ≤ A.e) ∨ c = A.nf ∨ c = A.fb ∨ (m0 ≤ c ∧ c ≤ c0)
def F2 (A : Ad) (m0 c0 m1 c1 : Nat) (c : Nat) : Prop := (A.r ≤ c ∧ c ≤ A.e) ∨ c = A.nf ∨ c = A.fb ∨ (m0 ≤ c ∧ c ≤ c0) ∨ (m1 ≤ c ∧ c ≤ c1)
structure Half (h : Heap) (A : Ad) (ca cb cc cd m0 d0 x0 c0 a0 : Nat) : Prop where
 en : Eng1 h A ca cb cc cd (dPtr d0) (.ptr none) (siPtr x0) (.ptr none)
 m : h[m0]? = some (.map 73 [] 0)
 d : h[d0]? = some (.cells (dirC 101 0 m0 []) 329 false)
 s : SideAt h x0 c0 a0 0
 o1 : A.fb < m0
 o2 : m0 < d0
 o3 : d0 < x0
theorem Eng1.keepF {h h' : Heap} {A : Ad} {a b c d : Nat} {d0 d1 s0 s1 : AV} {fp : Nat → Prop} (H : Eng1 h A a b c d d0 d1 s0 s1) (g : Only fp h h') (hn : ∀ c, (A.r ≤ c ∧ c ≤ A.e) ∨ c = A.nf ∨ c = A.fb → ¬ fp c) : Eng1 h' A a b c d d0 d1 s0 s1 := by
 obtain ⟨o1, o2, o3, o4, o5⟩ := H.o
 have o6 := H.o6
 have o7 := H.o7
 exact ⟨g.at H.en (hn _ (by omega)), H.bl.keep g (hn _ (by omega)), H.tab.keep g (hn _ (by omega)) (hn _ (by omega)) (hn _ (by omega)) (hn _ (by omega)), g.at H.fm (hn _ (by omega)), g.at H.fl (hn _ (by omega)), H.o, H.o6, H.o7⟩
theorem Eng0.keepF {h h' : Heap} {A : Ad} {a b c d : Nat} {fp : Nat → Prop} (H : Eng0 h A a b c d) (g : Only fp h h') (hn : ∀ c, F0 A c → ¬ fp c) : Eng0 h' A a b c d := by
 obtain ⟨o1, o2, o3, o4, o5⟩ := H.o
 unfold F0 at hn
 exact ⟨g.at H.en (hn _ (by omega)), H.bl.keep g (hn _ (by omega)), H.tab.keep g (hn _ (by omega)) (hn _ (by omega)) (hn _ (by omega)), g.at H.fm (hn _ (by omega)), H.o⟩
theorem Half.keep {h h' : Heap} {A : Ad} {ca cb cc cd m0 d0 x0 c0 a0 : Nat} {fp : Nat → Prop} (H : Half h A ca cb cc cd m0 d0 x0 c0 a0) (g : Only fp h h') (hn : ∀ c, F1 A m0 c0 c → ¬ fp c) : Half h' A ca cb cc cd m0 d0 x0 c0 a0 := by
 have h1 := H.o1
 have h2 := H.o2
 have h3 := H.o3
 have h4 := H.s.xa
 have h5 := H.s.ac
 unfold F1 at hn
 exact ⟨H.en.keepF g fun c hc => hn _ (by omega), g.at H.m (hn _ (by omega)), g.at H.d (hn _ (by omega)), H.s.keep g fun b _ hb => hn _ (by omega), h1, h2, h3⟩
theorem EmAt.keep {h h' : Heap} {F fp : Nat → Prop} {k : Nat} {em : Em} (H : EmAt h F k em) (g : Only fp h h') (hn : em ≠ none → ¬ fp k) : EmAt h' F k em := by
 cases em with
 | none => trivial
 | some yf => exact ⟨g.at H.1 (hn (by simp)), H.2⟩
section
variable {h : Heap} {A : Ad} {ca cb cc cd : Nat}
theorem step_syn (H : Eng0 h A ca cb cc cd) (hca : ca < 1000000) (hcb : cb < 1000000) :
  ∃ h' A' m0 d0 x0 c0 a0 k, D cfg1 22 [ePtr A.e, .agg (opC 0 (frB 0 2 100 0 []))] h = some (.agg (outC k (some (1, frB 0 2 100 0 []))), h') ∧ A'.e = A.e ∧ Half h' A' (ca + 1) (cb + 1) cc cd m0 d0 x0 c0 a0 ∧ EmAt h' (F1 A' m0 c0) k (some (1, frB 0 2 100 0 [])) ∧ Only (F0 A) h h' ∧ (∀ c, F1 A' m0 c0 c → F0 A c ∨ h.length ≤ c) := by
 obtain ⟨o1, o2, o3, o4, o5⟩ := H.o
 have le := lt_of_at H.en
 have key := op_run (h := h) (x := 0) (e := A.e) (fl := 2) (seq := 100) (ack := 0) (body := []) (F := F0 A)
  (Q := fun o h' => ∃ A' m0 d0 x0 c0 a0 k, o = outC k (some (1, frB 0 2 100 0 [])) ∧ A'.e = A.e ∧ Half h' A' (ca + 1) (cb + 1) cc cd m0 d0 x0 c0 a0 ∧ EmAt h' (F1 A' m0 c0) k (some (1, frB 0 2 100 0 [])) ∧ (∀ c, F1 A' m0 c0 c → F0 A c ∨ h.length + 8 ≤ c) ∧ h.length + 8 ≤ k)
  (by omega) (by omega) (by omega) (by omega) (by simp) H.en hca H.bl (by omega) (fun c hc => by unfold F0 at hc; omega) (by unfold F0; omega) ?hQ4 ?hQ ?hk
 case hQ4 =>
  rintro o h' ⟨A', m0, d0, x0, c0, a0, k, rfl, _⟩
  exact ⟨outC_len, outC_all⟩
 case hQ =>
  rintro o h3 h' ⟨A', m0, d0, x0, c0, a0, k, ho, q1, q2, q3, q5, q6⟩ g
  exact ⟨A', m0, d0, x0, c0, a0, k, ho, q1, q2.keep g (fun c hc e => by have := q5 c hc; unfold F0 at this; omega), q3.keep g (fun _ => by omega), q5, q6⟩
 case hk =>
  intro g1 Og1 hg1 Eg1 Pg1
  have HG := H.count Og1 (fun c h1 h2 h3 => h2 h3) Eg1
  obtain ⟨g2, nf, fb, e1, E1, hnf, K2, O2⟩ := known0_run HG (by omega) Pg1
  have u7 : nf < fb := E1.o7
  have ltf := lt_of_at E1.fl
  obtain ⟨g3, e3, k, x0, c0, a0, E3, K3, Fr3, Fl3, M3, D3, S3, hx0, hck, O3⟩ := seg_new (x := 0) (e := A.e) (fb := fb) (by omega) (by omega) (by omega) (by omega) E1.en hcb (by omega) (by omega) (by omega) K2 E1.fl rfl rfl rfl
  have hxa := S3.xa
  have hac := S3.ac
  have l2 := O2.1
  have ltf' : fb < g2.length := ltf
  have nE : Eng1 g3 ⟨A.r, A.m, A.tb, A.bk, A.fm, A.e, A.fg, nf, fb⟩ (ca + 1) (cb + 1) cc cd (dPtr (g2.length + 1)) (.ptr none) (siPtr x0) (.ptr none) :=
   ⟨E3, E1.bl.keep O3 (by show ¬ (A.bk = _ ∨ A.bk = _ ∨ A.bk = _); omega), E1.tab.keep O3 (by show ¬ (A.tb = _ ∨ A.tb = _ ∨ A.tb = _); omega) (by show ¬ (A.r = _ ∨ A.r = _ ∨ A.r = _); omega) (by show ¬ (A.m = _ ∨ A.m = _ ∨ A.m = _); omega) (by show ¬ (nf = _ ∨ nf = _ ∨ nf = _); omega), O3.at E1.fm (by show ¬ (A.fm = _ ∨ A.fm = _ ∨ A.fm = _); omega), Fl3, E1.o, E1.o6, E1.o7⟩
  refine ⟨[frS k, .sl none 0 0, .int .i64 0, .int .i64 0], g2, g3, _, _, _, fb, lift e1, K2, rfl, rfl, E1.fl, rfl, rfl, rfl, O2.mono fun c _ hc => by unfold F0; omega, e3, K3, rfl, rfl, rfl, O3.mono fun c _ hc => by unfold F0; omega, ?_⟩
  refine ⟨⟨A.r, A.m, A.tb, A.bk, A.fm, A.e, A.fg, nf, fb⟩, g2.length, g2.length + 1, x0, c0, a0, k, rfl, rfl, ⟨nE, M3, D3, S3, ltf, by omega, by omega⟩, ⟨Fr3, ?_⟩, ?_, ?_⟩
  · show ¬ ((A.r ≤ k ∧ k ≤ A.e) ∨ k = nf ∨ k = fb ∨ (g2.length ≤ k ∧ k ≤ c0)); omega
  · intro c hc
    have hc' : (A.r ≤ c ∧ c ≤ A.e) ∨ c = nf ∨ c = fb ∨ (g2.length ≤ c ∧ c ≤ c0) := hc
    unfold F0; omega
  · omega
 obtain ⟨o, h', e1, ⟨A', m0, d0, x0, c0, a0, k, rfl, q1, q2, q3, q5, q6⟩, q4⟩ := key
 exact ⟨h', A', m0, d0, x0, c0, a0, k, e1, q1, q2, q3, q4, fun c hc => (q5 c hc).imp id fun h => by omega⟩
end
end
section
structure Ld where
 (m0 d0 x0 c0 a0 m1 d1 x1 c1 a1 : Nat)
abbrev FL (A : Ad) (D : Ld) : Nat → Prop := F2 A D.m0 D.c0 D.m1 D.c1
structure Live (h : Heap) (A : Ad) (D : Ld) (ca cb cc cd : Nat) (s u : Txt) (n : Nat) (L : List (Nat × Nat)) (n' : Nat) (L' : List (Nat × Nat)) : Prop where
 en : Eng1 h A ca cb cc cd (dPtr D.d0) (dPtr D.d1) (siPtr D.x0) (siPtr D.x1)
 u0 : DirU h D.d0 D.m0 101 s n n L
 s0 : SideAt h D.x0 D.c0 D.a0 n
 u1 : DirU h D.d1 D.m1 5001 u n' n' L'
 s1 : SideAt h D.x1 D.c1 D.a1 n'
 o1 : A.fb < D.m0
 o2 : D.m0 < D.d0
 o3 : D.d0 < D.x0
 o4 : D.c0 < D.m1
 o5 : D.m1 < D.d1
 o6 : D.d1 < D.x1
theorem Live.chain {h : Heap} {A : Ad} {D : Ld} {ca cb cc cd : Nat} {s u : Txt} {n : Nat} {L : List (Nat × Nat)} {n' : Nat} {L' : List (Nat × Nat)} (H : Live h A D ca cb cc cd s u n L n' L') :
  (A.r < A.m ∧ A.m < A.tb ∧ A.tb < A.bk ∧ A.bk < A.fm ∧ A.fm < A.e ∧ A.e < A.nf ∧ A.nf < A.fb) ∧ (A.fb < D.m0 ∧ D.m0 < D.d0 ∧ D.d0 < D.x0 ∧ D.x0 + 3 < D.a0 ∧ D.a0 < D.c0) ∧ (D.c0 < D.m1 ∧ D.m1 < D.d1 ∧ D.d1 < D.x1 ∧ D.x1 + 3 < D.a1 ∧ D.a1 < D.c1) ∧ D.c1 < h.length := by
 obtain ⟨o1, o2, o3, o4, o5⟩ := H.en.o
 exact ⟨⟨o1, o2, o3, o4, o5, H.en.o6, H.en.o7⟩, ⟨H.o1, H.o2, H.o3, H.s0.xa, H.s0.ac⟩, ⟨H.o4, H.o5, H.o6, H.s1.xa, H.s1.ac⟩, lt_of_at H.s1.scan.choose_spec.2⟩
theorem Live.keep {h h' : Heap} {A : Ad} {D : Ld} {ca cb cc cd : Nat} {s u : Txt} {n : Nat} {L : List (Nat × Nat)} {n' : Nat} {L' : List (Nat × Nat)} {fp : Nat → Prop} (H : Live h A D ca cb cc cd s u n L n' L') (g : Only fp h h') (hn : ∀ c, FL A D c → ¬ fp c) : Live h' A D ca cb cc cd s u n L n' L' := by
 obtain ⟨⟨_, _, _, _, _, _, _⟩, ⟨_, _, _, _, _⟩, ⟨_, _, _, _, _⟩, _⟩ := H.chain
 simp only [FL, F2] at hn
 exact ⟨H.en.keepF g fun c hc => hn _ (by omega), H.u0.keep g (hn _ (by omega)) (hn _ (by omega)), H.s0.keep g fun b _ _ => hn _ (by omega), H.u1.keep g (hn _ (by omega)) (hn _ (by omega)), H.s1.keep g fun b _ _ => hn _ (by omega), H.o1, H.o2, H.o3, H.o4, H.o5, H.o6⟩
section
variable {h : Heap} {A : Ad} {ca cb cc cd : Nat}
theorem step_synack {m0 d0 x0 c0 a0 : Nat} {s u : Txt} (hsl : s.length ≤ 1000) (hul : u.length ≤ 1000) (H : Half h A ca cb cc cd m0 d0 x0 c0 a0) (hca : ca < 1000000) (hcb : cb < 1000000) :
  ∃ h' D k, D.m0 = m0 ∧ D.c0 = c0 ∧ Go.AM.D cfg1 22 [ePtr A.e, .agg (opC 1 (frB 1 18 5000 101 []))] h = some (.agg (outC k (some (0, frB 1 18 5000 101 []))), h') ∧ Live h' A D (ca + 1) (cb + 1) cc cd s u 0 [] 0 [] ∧ EmAt h' (FL A D) k (some (0, frB 1 18 5000 101 [])) ∧ Only (F1 A m0 c0) h h' ∧ (∀ c, FL A D c → F1 A m0 c0 c ∨ h.length ≤ c) := by
 obtain ⟨p1, p2, p3, p4, p5⟩ := H.en.o
 have p6 := H.en.o6
 have p7 := H.en.o7
 have q1 := H.o1
 have q2 := H.o2
 have q3 := H.o3
 have q4 := H.s.xa
 have q5 := H.s.ac
 have lc0 := lt_of_at H.s.scan.choose_spec.2
 have key := op_run (h := h) (x := 1) (e := A.e) (fl := 18) (seq := 5000) (ack := 101) (body := []) (F := F1 A m0 c0)
  (Q := fun o h' => ∃ D k, D.m0 = m0 ∧ D.c0 = c0 ∧ o = outC k (some (0, frB 1 18 5000 101 [])) ∧ Live h' A D (ca + 1) (cb + 1) cc cd s u 0 [] 0 [] ∧ EmAt h' (FL A D) k (some (0, frB 1 18 5000 101 [])) ∧ (∀ c, FL A D c → F1 A m0 c0 c ∨ h.length + 8 ≤ c) ∧ h.length + 8 ≤ k)
  (by omega) (by omega) (by omega) (by omega) (by simp) H.en.en hca H.en.bl (by omega) (fun c hc => by unfold F1 at hc; omega) (by unfold F1; omega) ?hQ4 ?hQ ?hk
 case hQ4 =>
  rintro o h' ⟨D, k, _, _, rfl, _⟩
  exact ⟨outC_len, outC_all⟩
 case hQ =>
  rintro o h3 h' ⟨D, k, r1, r2, ho, r3, r4, r5, r6⟩ g
  exact ⟨D, k, r1, r2, ho, r3.keep g (fun c hc e => by have := r5 c hc; unfold F1 at this; omega), r4.keep g (fun _ => by omega), r5, r6⟩
 case hk =>
  intro g1 Og1 hg1 Eg1 Pg1
  have HG := H.en.count Og1 (fun c h1 h2 h3 => h2 h3) Eg1
  obtain ⟨g2, e1, E1, K2, O2⟩ := known1_run (x := 1) (by omega) HG (by omega) Pg1
  have Og12 : Only (fun c => c = A.e ∨ c = A.r ∨ c = A.nf ∨ c = h.length + 6) h g2 := (Og1.mono fun _ _ e => .inl e).next O2 fun _ _ e => .inr e
  have D2 := Og12.at H.d (by omega)
  obtain ⟨g3, e3, k, x1, c1, a1, E3, K3, Fr3, Fl3, M3, D3, S3, hx1, hck, O3⟩ := seg_syn (e := A.e) (fb := A.fb) (by omega) (by omega) E1.en hcb (by omega) (by omega) (by omega) K2 E1.fl rfl rfl rfl rfl rfl D2
  have hxa := S3.xa
  have hac := S3.ac
  have l2 := O2.1
  have Og13 : Only (fun c => c = A.e ∨ c = A.r ∨ c = A.nf ∨ c = A.fb ∨ c = h.length + 6) h g3 := (Og12.mono fun _ _ e => by omega).next O3 fun _ _ e => by omega
  have nE : Eng1 g3 A (ca + 1) (cb + 1) cc cd (dPtr d0) (dPtr (g2.length + 1)) (siPtr x0) (siPtr x1) :=
   ⟨E3, E1.bl.keep O3 (by omega), E1.tab.keep O3 (by omega) (by omega) (by omega) (by omega), O3.at E1.fm (by omega), Fl3, E1.o, E1.o6, E1.o7⟩
  have U0 : DirU g3 d0 m0 101 s 0 0 [] := ⟨by simpa using Og13.at H.d (by omega), ⟨_, Og13.at H.m (by omega)⟩, by simp [keys], by omega, by omega, hsl⟩
  have U1 : DirU g3 (g2.length + 1) g2.length 5001 u 0 0 [] := ⟨by simpa using D3, ⟨_, M3⟩, by simp [keys], by omega, by omega, hul⟩
  have S0 := H.s.keep Og13 fun b h1 h2 => by omega
  refine ⟨outC k (some (0, frB 1 18 5000 101 [])), g2, g3, _, _, _, A.fb, lift e1, K2, rfl, rfl, E1.fl, rfl, rfl, rfl, O2.mono fun c _ hc => by unfold F1; omega, e3, K3, rfl, rfl, outC_all, O3.mono fun c _ hc => by unfold F1; omega, ?_⟩
  refine ⟨⟨m0, d0, x0, c0, a0, g2.length, g2.length + 1, x1, c1, a1⟩, k, rfl, rfl, rfl, ⟨nE, U0, S0, U1, S3, by omega, by omega, by omega, by show c0 < g2.length; omega, by show g2.length < g2.length + 1; omega, by show g2.length + 1 < x1; omega⟩, ⟨Fr3, ?_⟩, ?_, ?_⟩
  · show ¬ ((A.r ≤ k ∧ k ≤ A.e) ∨ k = A.nf ∨ k = A.fb ∨ (m0 ≤ k ∧ k ≤ c0) ∨ (g2.length ≤ k ∧ k ≤ c1)); omega
  · intro c hc
    have hc' : (A.r ≤ c ∧ c ≤ A.e) ∨ c = A.nf ∨ c = A.fb ∨ (m0 ≤ c ∧ c ≤ c0) ∨ (g2.length ≤ c ∧ c ≤ c1) := hc
    unfold F1; omega
  · omega
 obtain ⟨o, h', e1, ⟨D, k, r1, r2, rfl, r3, r4, r5, r6⟩, r7⟩ := key
 exact ⟨h', D, k, r1, r2, e1, r3, r4, r7, fun c hc => (r5 c hc).imp id fun h => by omega⟩
end
end
section
section
variable {h : Heap} {A : Ad} {B : Ld} {ca cb cc cd n n' : Nat} {s u : Txt} {L L' : List (Nat × Nat)}
theorem step_ack (H : Live h A B ca cb cc cd s u n L n' L') (hca : ca < 1000000) (hcb : cb < 1000000) :
  ∃ h' k, D cfg1 22 [ePtr A.e, .agg (opC 0 (frB 0 16 101 5001 []))] h = some (.agg (outC k (some (1, frB 0 16 101 5001 []))), h') ∧ Live h' A B (ca + 1) (cb + 1) cc cd s u n L n' L' ∧ EmAt h' (FL A B) k (some (1, frB 0 16 101 5001 [])) ∧ Only (FL A B) h h' := by
 obtain ⟨⟨p1, p2, p3, p4, p5, p6, p7⟩, ⟨q1, q2, q3, q4, q5⟩, ⟨r1, r2, r3, r4, r5⟩, lc⟩ := H.chain
 have key := op_run (h := h) (x := 0) (e := A.e) (fl := 16) (seq := 101) (ack := 5001) (body := []) (F := FL A B)
  (Q := fun o h' => ∃ k, o = outC k (some (1, frB 0 16 101 5001 [])) ∧ Live h' A B (ca + 1) (cb + 1) cc cd s u n L n' L' ∧ EmAt h' (FL A B) k (some (1, frB 0 16 101 5001 [])) ∧ h.length + 8 ≤ k)
  (by omega) (by omega) (by omega) (by omega) (by simp) H.en.en hca H.en.bl (by omega) (fun c hc => by simp only [FL, F2] at hc; omega) (by simp only [FL, F2]; omega) ?hQ4 ?hQ ?hk
 case hQ4 =>
  rintro o h' ⟨k, rfl, _⟩
  exact ⟨outC_len, outC_all⟩
 case hQ =>
  rintro o h3 h' ⟨k, ho, w3, w4, w6⟩ g
  exact ⟨k, ho, w3.keep g (fun c hc e => by simp only [FL, F2] at hc; omega), w4.keep g (fun _ => by omega), w6⟩
 case hk =>
  intro g1 Og1 hg1 Eg1 Pg1
  have HG := H.en.count Og1 (fun c h1 h2 h3 => h2 h3) Eg1
  obtain ⟨g2, e1, E1, K2, O2⟩ := known1_run (x := 0) (by omega) HG (by omega) Pg1
  have Og12 : Only (fun c => c = A.e ∨ c = A.r ∨ c = A.nf ∨ c = h.length + 6) h g2 := (Og1.mono fun _ _ e => .inl e).next O2 fun _ _ e => .inr e
  have U2 := H.u0.keep Og12 (by omega) (by omega)
  obtain ⟨g3, k, e3, E3, K3, Fr3, hk3, O3⟩ := push_none (a := 0) (start := 101) (e := A.e) (fb := A.fb) (x := 0) (fl := 16) (by omega) (.inl rfl) (by omega) E1.en hcb (by omega) K2 E1.fl rfl rfl rfl rfl U2 (by omega)
  have hl1 := Og12.1
  have hE := E1.count O3 (fun c h1 h2 h3 => by omega) E3
  have Og13 : Only (fun c => c = A.e ∨ c = A.r ∨ c = A.nf ∨ c = h.length + 6) h g3 := Og12.next O3 fun _ _ e => by omega
  have hg2 : h.length + 8 ≤ g2.length := by have := O2.1; omega
  refine ⟨outC k (some (1, frB 0 16 101 5001 [])), g2, g3, _, _, _, A.fb, lift e1, K2, rfl, rfl, E1.fl, rfl, rfl, rfl, O2.mono fun c _ hc => by simp only [FL, F2]; omega, seg_push (R := fun _ _ => True) (.inl rfl) K2 e3, K3, rfl, rfl, outC_all, O3.mono fun c _ hc => by simp only [FL, F2]; omega, ?_⟩
  refine ⟨k, rfl, ⟨hE, H.u0.keep Og13 (by omega) (by omega), H.s0.keep Og13 fun b _ _ => by omega, H.u1.keep Og13 (by omega) (by omega), H.s1.keep Og13 fun b _ _ => by omega, H.o1, H.o2, H.o3, H.o4, H.o5, H.o6⟩, ⟨Fr3, ?_⟩, by omega⟩
  simp only [FL, F2]; omega
 obtain ⟨o, h', e1, ⟨k, rfl, w3, w4, w6⟩, w7⟩ := key
 exact ⟨h', k, e1, w3, w4, w7⟩
def emF (x fl start ack : Nat) (s : Txt) (ft : Option (Nat × Nat)) : Em := ft.map fun ft => (1 - x, frB x fl ((start + ft.1) % 4294967296) ack ((s.drop ft.1).take (ft.2 - ft.1)))
theorem step_data0 {fl ack a b : Nat} (hfl : fl = 16 ∨ fl = 24) (ha : ack < 4294967296) (hab : a < b) (hb : b ≤ s.length) (H : Live h A B ca cb cc cd s u n L n' L') (hca : ca < 1000000) (hcb : cb < 1000000) (hcc : cc < 1000000) (hcd : cd < 1000000) :
  ∃ h' k n2 L2 cb' cc' cd', D cfg1 22 [ePtr A.e, .agg (opC 0 (frB 0 fl ((101 + a) % 4294967296) ack ((s.drop a).take (b - a))))] h = some (.agg (outC k (emF 0 fl 101 ack s (emOf n n2 a b))), h') ∧ Live h' A B (ca + 1) cb' cc' cd' s u n2 L2 n' L' ∧ Psh s n n2 a b L L2 ∧
   EmAt h' (FL A B) k (emF 0 fl 101 ack s (emOf n n2 a b)) ∧ Only (FL A B) h h' ∧ cb' = cb + (if (emOf n n2 a b).isSome then 1 else 0) ∧ cc' ≤ cc + 1 ∧ cd' ≤ cd + 1 := by
 obtain ⟨⟨p1, p2, p3, p4, p5, p6, p7⟩, ⟨q1, q2, q3, q4, q5⟩, ⟨r1, r2, r3, r4, r5⟩, lc⟩ := H.chain
 have hsh := H.u0.short
 have key := op_run (h := h) (x := 0) (e := A.e) (fl := fl) (seq := (101 + a) % 4294967296) (ack := ack) (body := (s.drop a).take (b - a)) (F := FL A B)
  (Q := fun o h' => ∃ k n2 L2 cb' cc' cd', o = outC k (emF 0 fl 101 ack s (emOf n n2 a b)) ∧ Live h' A B (ca + 1) cb' cc' cd' s u n2 L2 n' L' ∧ Psh s n n2 a b L L2 ∧ EmAt h' (FL A B) k (emF 0 fl 101 ack s (emOf n n2 a b)) ∧ h.length + 8 ≤ k ∧ cb' = cb + (if (emOf n n2 a b).isSome then 1 else 0) ∧ cc' ≤ cc + 1 ∧ cd' ≤ cd + 1)
  (by omega) (by omega) (by omega) ha (by simp; omega) H.en.en hca H.en.bl (by omega) (fun c hc => by simp only [FL, F2] at hc; omega) (by simp only [FL, F2]; omega) ?hQ4 ?hQ ?hk
 case hQ4 =>
  rintro o h' ⟨k, n2, L2, _, _, _, rfl, _⟩
  exact ⟨outC_len, outC_all⟩
 case hQ =>
  rintro o h3 h' ⟨k, n2, L2, cb', cc', cd', ho, w3, w4, w5, w6, w7⟩ g
  exact ⟨k, n2, L2, cb', cc', cd', ho, w3.keep g (fun c hc e => by simp only [FL, F2] at hc; omega), w4, w5.keep g (fun _ => by omega), w6, w7⟩
 case hk =>
  intro g1 Og1 hg1 Eg1 Pg1
  have HG := H.en.count Og1 (fun c h1 h2 h3 => h2 h3) Eg1
  obtain ⟨g2, e1, E1, K2, O2⟩ := known1_run (x := 0) (by omega) HG (by omega) Pg1
  have Og12 : Only (fun c => c = A.e ∨ c = A.r ∨ c = A.nf ∨ c = h.length + 6) h g2 := (Og1.mono fun _ _ e => .inl e).next O2 fun _ _ e => .inr e
  have U2 := H.u0.keep Og12 (by omega) (by omega)
  have S2 := H.s0.keep Og12 fun b _ _ => by omega
  obtain ⟨g3, n2, L2, e3, U3, S3, P3, ⟨cb', cc', cd', E3, hc1, hc2, hc3⟩, K3, O3⟩ := push_data (a := a) (b := b) (start := 101) (e := A.e) (fb := A.fb) (x := 0) (fl := fl) (by omega) hfl ha E1.en hcb hcc hcd K2 E1.fl rfl rfl rfl rfl rfl U2 (.inl rfl) S2 hab hb (by omega) (by omega) (by omega) (by omega) (by omega) (by omega) (by omega)
  have hl1 := Og12.1
  have hE := E1.count O3 (fun c h1 h2 h3 => by omega) E3
  have Og13 : Only (fun c => c = A.e ∨ c = A.r ∨ c = A.nf ∨ c = h.length + 6 ∨ c = B.d0 ∨ c = B.m0 ∨ c = B.x0 ∨ c = B.c0) h g3 := (Og12.mono fun _ _ e => by omega).next O3 fun _ _ e => by omega
  have hg2 : h.length + 8 ≤ g2.length := by have := O2.1; omega
  have hlive : Live g3 A B (ca + 1) cb' cc' cd' s u n2 L2 n' L' := ⟨hE, U3, S3, H.u1.keep Og13 (by omega) (by omega), H.s1.keep Og13 fun b _ _ => by omega, H.o1, H.o2, H.o3, H.o4, H.o5, H.o6⟩
  have e3' := seg_push (R := fun _ _ => True) hfl K2 e3
  have oF : Only (fun c => FL A B c ∨ c = h.length + 6 ∨ h.length + 8 ≤ c) g2 g3 := O3.mono fun c _ hc => by simp only [FL, F2]; omega
  have oF1 : Only (fun c => FL A B c ∨ c = h.length + 6 ∨ h.length + 8 ≤ c) g1 g2 := O2.mono fun c _ hc => by simp only [FL, F2]; omega
  rcases hem : emOf n n2 a b with _ | ft
  · rw [hem] at K3
    refine ⟨outC 0 none, g2, g3, _, _, _, A.fb, lift e1, K2, rfl, rfl, E1.fl, rfl, rfl, rfl, oF1, e3', K3, rfl, rfl, outC_all, oF, ?_⟩
    exact ⟨h.length + 8, n2, L2, cb', cc', cd', by rw [hem]; rfl, hlive, P3, by rw [hem]; trivial, by omega, hc1, hc2, hc3⟩
  · rw [hem] at K3
    obtain ⟨k, hk3, K3, Fr3⟩ := K3
    refine ⟨[frS k, .sl none 0 0, .int .i64 0, .int .i64 0], g2, g3, _, _, _, A.fb, lift e1, K2, rfl, rfl, E1.fl, rfl, rfl, rfl, oF1, e3', K3, rfl, rfl, rfl, oF, ?_⟩
    exact ⟨k, n2, L2, cb', cc', cd', by rw [hem]; rfl, hlive, P3, by rw [hem]; exact ⟨Fr3, by simp only [FL, F2]; omega⟩, by omega, hc1, hc2, hc3⟩
 obtain ⟨o, h', e1, ⟨k, n2, L2, cb', cc', cd', rfl, w3, w4, w5, w6, w7⟩, w8⟩ := key
 exact ⟨h', k, n2, L2, cb', cc', cd', e1, w3, w4, w5, w8, w7⟩
theorem step_data1 {fl ack a b : Nat} (hfl : fl = 16 ∨ fl = 24) (ha : ack < 4294967296) (hab : a < b) (hb : b ≤ u.length) (H : Live h A B ca cb cc cd s u n L n' L') (hca : ca < 1000000) (hcb : cb < 1000000) (hcc : cc < 1000000) (hcd : cd < 1000000) :
  ∃ h' k n2 L2 cb' cc' cd', D cfg1 22 [ePtr A.e, .agg (opC 1 (frB 1 fl ((5001 + a) % 4294967296) ack ((u.drop a).take (b - a))))] h = some (.agg (outC k (emF 1 fl 5001 ack u (emOf n' n2 a b))), h') ∧ Live h' A B (ca + 1) cb' cc' cd' s u n L n2 L2 ∧ Psh u n' n2 a b L' L2 ∧
   EmAt h' (FL A B) k (emF 1 fl 5001 ack u (emOf n' n2 a b)) ∧ Only (FL A B) h h' ∧ cb' = cb + (if (emOf n' n2 a b).isSome then 1 else 0) ∧ cc' ≤ cc + 1 ∧ cd' ≤ cd + 1 := by
 obtain ⟨⟨p1, p2, p3, p4, p5, p6, p7⟩, ⟨q1, q2, q3, q4, q5⟩, ⟨r1, r2, r3, r4, r5⟩, lc⟩ := H.chain
 have hsh := H.u1.short
 have key := op_run (h := h) (x := 1) (e := A.e) (fl := fl) (seq := (5001 + a) % 4294967296) (ack := ack) (body := (u.drop a).take (b - a)) (F := FL A B)
  (Q := fun o h' => ∃ k n2 L2 cb' cc' cd', o = outC k (emF 1 fl 5001 ack u (emOf n' n2 a b)) ∧ Live h' A B (ca + 1) cb' cc' cd' s u n L n2 L2 ∧ Psh u n' n2 a b L' L2 ∧ EmAt h' (FL A B) k (emF 1 fl 5001 ack u (emOf n' n2 a b)) ∧ h.length + 8 ≤ k ∧ cb' = cb + (if (emOf n' n2 a b).isSome then 1 else 0) ∧ cc' ≤ cc + 1 ∧ cd' ≤ cd + 1)
  (by omega) (by omega) (by omega) ha (by simp; omega) H.en.en hca H.en.bl (by omega) (fun c hc => by simp only [FL, F2] at hc; omega) (by simp only [FL, F2]; omega) ?hQ4 ?hQ ?hk
 case hQ4 =>
  rintro o h' ⟨k, n2, L2, _, _, _, rfl, _⟩
  exact ⟨outC_len, outC_all⟩
 case hQ =>
  rintro o h3 h' ⟨k, n2, L2, cb', cc', cd', ho, w3, w4, w5, w6, w7⟩ g
  exact ⟨k, n2, L2, cb', cc', cd', ho, w3.keep g (fun c hc e => by simp only [FL, F2] at hc; omega), w4, w5.keep g (fun _ => by omega), w6, w7⟩
 case hk =>
  intro g1 Og1 hg1 Eg1 Pg1
  have HG := H.en.count Og1 (fun c h1 h2 h3 => h2 h3) Eg1
  obtain ⟨g2, e1, E1, K2, O2⟩ := known1_run (x := 1) (by omega) HG (by omega) Pg1
  have Og12 : Only (fun c => c = A.e ∨ c = A.r ∨ c = A.nf ∨ c = h.length + 6) h g2 := (Og1.mono fun _ _ e => .inl e).next O2 fun _ _ e => .inr e
  have U2 := H.u1.keep Og12 (by omega) (by omega)
  have S2 := H.s1.keep Og12 fun b _ _ => by omega
  obtain ⟨g3, n2, L2, e3, U3, S3, P3, ⟨cb', cc', cd', E3, hc1, hc2, hc3⟩, K3, O3⟩ := push_data (a := a) (b := b) (start := 5001) (e := A.e) (fb := A.fb) (x := 1) (fl := fl) (by omega) hfl ha E1.en hcb hcc hcd K2 E1.fl rfl rfl rfl rfl rfl U2 (.inr ⟨by omega, by omega, _, _, _, _, (H.u0.keep Og12 (by omega) (by omega)).dir⟩) S2 hab hb (by omega) (by omega) (by omega) (by omega) (by omega) (by omega) (by omega)
  have hl1 := Og12.1
  have hE := E1.count O3 (fun c h1 h2 h3 => by omega) E3
  have Og13 : Only (fun c => c = A.e ∨ c = A.r ∨ c = A.nf ∨ c = h.length + 6 ∨ c = B.d1 ∨ c = B.m1 ∨ c = B.x1 ∨ c = B.c1) h g3 := (Og12.mono fun _ _ e => by omega).next O3 fun _ _ e => by omega
  have hg2 : h.length + 8 ≤ g2.length := by have := O2.1; omega
  have hlive : Live g3 A B (ca + 1) cb' cc' cd' s u n L n2 L2 := ⟨hE, H.u0.keep Og13 (by omega) (by omega), H.s0.keep Og13 fun b _ _ => by omega, U3, S3, H.o1, H.o2, H.o3, H.o4, H.o5, H.o6⟩
  have e3' := seg_push (R := fun _ _ => True) hfl K2 e3
  have oF : Only (fun c => FL A B c ∨ c = h.length + 6 ∨ h.length + 8 ≤ c) g2 g3 := O3.mono fun c _ hc => by simp only [FL, F2]; omega
  have oF1 : Only (fun c => FL A B c ∨ c = h.length + 6 ∨ h.length + 8 ≤ c) g1 g2 := O2.mono fun c _ hc => by simp only [FL, F2]; omega
  rcases hem : emOf n' n2 a b with _ | ft
  · rw [hem] at K3
    refine ⟨outC 0 none, g2, g3, _, _, _, A.fb, lift e1, K2, rfl, rfl, E1.fl, rfl, rfl, rfl, oF1, e3', K3, rfl, rfl, outC_all, oF, ?_⟩
    exact ⟨h.length + 8, n2, L2, cb', cc', cd', by rw [hem]; rfl, hlive, P3, by rw [hem]; trivial, by omega, hc1, hc2, hc3⟩
  · rw [hem] at K3
    obtain ⟨k, hk3, K3, Fr3⟩ := K3
    refine ⟨[frS k, .sl none 0 0, .int .i64 0, .int .i64 0], g2, g3, _, _, _, A.fb, lift e1, K2, rfl, rfl, E1.fl, rfl, rfl, rfl, oF1, e3', K3, rfl, rfl, rfl, oF, ?_⟩
    exact ⟨k, n2, L2, cb', cc', cd', by rw [hem]; rfl, hlive, P3, by rw [hem]; exact ⟨Fr3, by simp only [FL, F2]; omega⟩, by omega, hc1, hc2, hc3⟩
 obtain ⟨o, h', e1, ⟨k, n2, L2, cb', cc', cd', rfl, w3, w4, w5, w6, w7⟩, w8⟩ := key
 exact ⟨h', k, n2, L2, cb', cc', cd', e1, w3, w4, w5, w8, w7⟩
end
end
section
section
variable {h : Heap}
theorem in51_run {v lo hi : Int} (h1 : lo ≤ v) (h2 : v ≤ hi) : D cfg 51 [.int .i64 v, .int .i64 lo, .int .i64 hi] h = some (.bool true, h) := by
 refine D_eq (call51 (by simp) ?_)
 simp [c51, c51_r0, c51_r1, h1, h2]
theorem check29_run : D cfg 29 [.agg confC] h = some (.bool true, h ++ [.cells confC 40 false]) := by
 obtain ⟨h1, hh1, n1, k1, O1⟩ := app1 (h := h) (.cells confC 40 false)
 have l : ∀ {i : Nat} {v : AV}, confC[i]? = some v → aload Tryz.prog (look h1) 3 (.ptr (some ⟨h.length, i, 9⟩)) = some v := fun hv => cell_load n1 rfl (by simp) hv
 have l0 := l (i := 0) rfl
 have l1 := l (i := 1) rfl
 have l2 := l (i := 2) rfl
 have l3 := l (i := 3) rfl
 have l4 := l (i := 4) rfl
 have l5 := l (i := 5) rfl
 have l6 := l (i := 6) rfl
 have l7 := l (i := 7) rfl
 have l8 := l (i := 8) rfl
 have hc : confC.all AV.one = true := rfl
 have hl : confC.length = 9 := rfl
 rw [← hh1]
 refine D_eq (call29 (by simp) ?_)
 simp [c29, c29_r0, hc, hl, ← hh1, c29_r1, l0, l1, l2, l3, l4, l5, in51_run, c29_r2, l6, l7, l8]
theorem new_run : ∃ h' A, D cfg 21 [.agg confC] h = some (.tup [ePtr A.e, .int .i64 0], h') ∧ Eng0 h' A 0 0 0 0 ∧ Grow h h' ∧ h.length ≤ A.r := by
 obtain ⟨h1, hh1, n1, k1, O1⟩ := app1 (h := h) (.cells confC 40 false)
 have hc : confC.all AV.one = true := rfl
 have hl : confC.length = 9 := rfl
 have lc : aload Tryz.prog (look h1) 40 (.ptr (some ⟨h.length, 0, 9⟩)) = some (.agg confC) := ld_all n1 rfl (by simp) (by simp)
 obtain ⟨h2, hh2, n2, k2, O2⟩ := app1 (h := h1) (.cells confC 40 false)
 have e29 : D cfg 29 [.agg confC] h1 = some (.bool true, h2) := by rw [hh2]; exact check29_run
 have l : ∀ {hh : Heap}, Only (fun _ => False) h1 hh → ∀ {i : Nat} {v : AV}, confC[i]? = some v → aload Tryz.prog (look hh) 3 (.ptr (some ⟨h.length, i, 9⟩)) = some v := fun g _ _ hv => cell_load (g.at n1 not_false) rfl (by simp) hv
 have lc2 : aload Tryz.prog (look h2) 40 (.ptr (some ⟨h.length, 0, 9⟩)) = some (.agg confC) := ld_all (O2.at n1 not_false) rfl (by simp) (by simp)
 have e30 := fnew_run (h := h2)
 obtain ⟨h3, hh3, O3⟩ := gro (f := 30) (args := [.int .i64 30, .int .i64 100000]) (h := h2)
 rw [← hh3] at e30
 obtain ⟨h4, e31, T4, g4⟩ := tnew_run (h := h3)
 have O4 : Only (fun _ => False) h3 h4 := g4.only
 obtain ⟨h5, e32, B5, g5⟩ := bnew_run (h := h4)
 have O5 : Only (fun _ => False) h4 h5 := g5.only
 obtain ⟨h6, hh6, n6, k6, O6⟩ := app1 (h := h5) (.map 91 [] 0)
 obtain ⟨h7, hh7, n7, k7, O7⟩ := app1 (h := h6) (.cells (engC (h2.length + 1) (h3.length + 2) (h4.length + 1) h5.length (cntC 0 0 0 0)) 94 false)
 have T7 := T4.keep ((O5.trans O6).trans O7) not_false not_false not_false
 have B7 := B5.keep (O6.trans O7) not_false
 have lt4 := lt_of_at T4.tab
 have lt5 : h4.length + 1 < h5.length := by obtain ⟨f, hf⟩ := B5; exact lt_of_at hf
 have lf2 := O3.1
 have hE : Eng0 h7 ⟨h3.length, h3.length + 1, h3.length + 2, h4.length + 1, h5.length, h6.length, h2.length + 1, 0, 0⟩ 0 0 0 0 :=
  ⟨n7, B7, T7, O7.at n6 not_false, ⟨by show h3.length < h3.length + 1; omega, by show h3.length + 1 < h3.length + 2; omega, by show h3.length + 2 < h4.length + 1; omega, by show h4.length + 1 < h5.length; omega, by show h5.length < h6.length; omega⟩⟩
 have hg : Grow h h7 := (((((((O1.trans O2).trans O3).trans O4).trans O5).trans O6).trans O7).grow fun c hc => hc.elim)
 have lt1 : h.length < h1.length := by omega
 have lt2 : h.length < h2.length := by omega
 have lt3 : h.length < h3.length := by omega
 have lt4' : h.length < h4.length := by have := O4.1; omega
 have lt5' : h.length < h5.length := by omega
 have a23 := O3.same lt2
 have a34 := O4.same lt3
 have a45 := O5.same lt4'
 have a24 := (O3.trans O4).same lt2
 have a25 := ((O3.trans O4).trans O5).same lt2
 have a35 := (O4.trans O5).same lt3
 have c1 := l O2 (i := 1) rfl
 have c7 := l O2 (i := 7) rfl
 have c0 := l (O2.trans O3) (i := 0) rfl
 have c6 := l (O2.trans O3) (i := 6) rfl
 have c8 := l ((O2.trans O3).trans O4) (i := 8) rfl
 have hbu : abuild Tryz.prog 94 [(0, .agg confC), (2, .int .i64 1), (3, .ptr (some ⟨h2.length + 1, 0, 3⟩)), (4, .ptr (some ⟨h3.length + 2, 0, 6⟩)), (5, .ptr (some ⟨h4.length + 1, 0, 3⟩)), (6, .map (some h5.length))] = some (.agg (engC (h2.length + 1) (h3.length + 2) (h4.length + 1) h5.length (cntC 0 0 0 0))) := by
  simp [abuild, afill, zeros, splice, confC, engC, cntC]
 have hea : (engC (h2.length + 1) (h3.length + 2) (h4.length + 1) h5.length (cntC 0 0 0 0)).all AV.one = true := by simp [engC, confC, cntC]
 have hel : (engC (h2.length + 1) (h3.length + 2) (h4.length + 1) h5.length (cntC 0 0 0 0)).length = 29 := rfl
 obtain ⟨r, h', q1, q2⟩ : ∃ r h', D cfg 21 [.agg confC] h = some (r, h') ∧ (r = .tup [ePtr h6.length, .int .i64 0] ∧ h' = h7) := by
  refine call21 (by simp) ?_
  simp [c21, c21_r0, hc, hl, ← hh1, c21_r1, lc, e29, c21_r3, lc2, c1, c7, e30, c0, c6, e31, c8, e32, a23, a34, a45, a24, a25, a35, op_makeMap (P := Tryz.prog) (t := 91) (kt := 3) (et := 128) tk_91 (by simp), ← hh6, hbu, hea, hel, ← hh7]
 obtain ⟨rfl, rfl⟩ := q2
 exact ⟨_, _, q1, hE, hg, by show h.length ≤ h3.length; omega⟩
end
end
section
def opsC : List (Nat × Txt) → List AV
 | [] => []
 | o :: l => opC o.1 o.2 ++ opsC l
theorem opsC_len : ∀ {l : List (Nat × Txt)}, (opsC l).length = 3 * l.length
 | [] => rfl
 | o :: l => by
  have := opsC_len (l := l)
  simp only [opsC, List.length_append, List.length_cons, this, show (opC o.1 o.2).length = 3 from rfl]; omega
theorem opsC_at : ∀ {l : List (Nat × Txt)} {i : Nat} (h : i < l.length), ((opsC l).drop (3 * i)).take 3 = opC l[i].1 l[i].2
 | o :: l, 0, _ => rfl
 | o :: l, i + 1, h => by
  have := opsC_at (l := l) (i := i) (by simpa using h)
  rw [show 3 * (i + 1) = 3 + 3 * i by omega, ← List.drop_drop]
  exact this
theorem opsC_app : ∀ {a b : List (Nat × Txt)}, opsC (a ++ b) = opsC a ++ opsC b
 | [], b => rfl
 | o :: a, b => by simp only [List.cons_append, opsC, opsC_app (a := a), List.append_assoc]
def outsC : List Nat → List Em → List AV
 | k :: ks, em :: ems => outC k em ++ outsC ks ems
 | _, _ => []
theorem outsC_app : ∀ {ks : List Nat} {ems : List Em} {k : Nat} {em : Em}, ks.length = ems.length → outsC (ks ++ [k]) (ems ++ [em]) = outsC ks ems ++ outC k em
 | [], [], k, em, _ => by simp [outsC]
 | k0 :: ks, e0 :: ems, k, em, h => by
  simp only [List.cons_append, outsC, outsC_app (ks := ks) (ems := ems) (by simpa using h), List.append_assoc]
section
variable {h : Heap} {e fg tb bk fm a b c d : Nat}
def cnt0 : List AV := [.int .i64 0, .int .i64 0, .int .i64 0, .int .i64 0, .int .i64 0, .int .i64 0, .int .i64 0, .int .i64 0, .int .i64 0, .int .i64 0, .int .i64 0, .int .i64 0, .int .i64 0, .int .i64 0]
theorem counts_run (E : EnAt h e fg tb bk fm a b c d) : ∃ h', D cfg 23 [ePtr e] h = some (.agg (cntC a b c d), h') ∧ Only (fun _ => False) h h' := by
 obtain ⟨h1, h1', hh1, hh1', s1, q1, n1, O1⟩ := fresh (h := h) cnt0 (cntC a b c d) 35 14 rfl rfl rfl (by omega) (by simp) (by simp)
 simp only [cnt0] at hh1
 have E1 : EnAt h1 e fg tb bk fm a b c d := by
  rw [hh1]; exact (Only.app (fp := fun _ => False)).at E not_false
 have l : aload Tryz.prog (look h1) 35 (.ptr (some ⟨e, 15, 29⟩)) = some (.agg (cntC a b c d)) := ld_sub E1 rfl (by simp) (k := 14) (by simp) (by omega) rfl
 obtain ⟨r, h', e1, e2⟩ : ∃ r h', D cfg 23 [ePtr e] h = some (r, h') ∧ (r = .agg (cntC a b c d) ∧ h' = h1') := by
  refine call23 (by simp) ?_
  simp [c23, c23_r0, zeros, ← hh1, c23_r1, l, s1, ← hh1', q1]
 obtain ⟨rfl, rfl⟩ := e2
 exact ⟨_, e1, O1⟩
end
end
section
theorem slice4 {n : Nat} {ys : List AV} (hy : ys.length = 4) (ho : ys.all AV.one = true) : abuildSlice Tryz.prog n 33 1 [(0, .agg ys)] = some (.sl (some ⟨n, 0, 4⟩) 1 1, .new (.cells ys 70 true)) := by
 have sp : splice [AV.sl none 0 0, .sl none 0 0, .int .i64 0, .int .i64 0] 0 ys = ys := by simp [splice, hy]
 simp [abuildSlice, afill, zeros, sp, hy, ho, -List.all_eq_true, -List.all_eq_false]
structure Mach (e : Nat) (ops : List (Nat × Txt)) (M : Nat → Heap → (Nat → Prop) → List Nat → List Em → Prop) : Prop where
 low : ∀ i h F ks ems, M i h F ks ems → ∀ c, F c → c < h.length
 keep : ∀ i h h' F ks ems fp, M i h F ks ems → Only fp h h' → (∀ c, F c → ¬ fp c) → (∀ c cs, h[c]? = some (.cells cs 102 true) → ¬ fp c) → M i h' F ks ems
 step : ∀ i (hi : i < ops.length) h F ks ems, M i h F ks ems → ∃ h' F' k em, D cfg1 22 [ePtr e, .agg (opC ops[i].1 ops[i].2)] h = some (.agg (outC k em), h') ∧ M (i + 1) h' F' (ks ++ [k]) (ems ++ [em]) ∧ Only F h h' ∧ (∀ c, F' c → F c ∨ h.length ≤ c)
 cnt : ∀ i h F ks ems, M i h F ks ems → ∃ fg tb bk fm a b c d, EnAt h e fg tb bk fm a b c d
def RunI (e c5 ob : Nat) (ops : List (Nat × Txt)) (M : Nat → Heap → (Nat → Prop) → List Nat → List Em → Prop) (m : Nat) (σ : St) : Prop :=
 ∃ i h b F ks ems, m = ops.length - i ∧ i ≤ ops.length ∧ σ = ⟨[(5, .ptr (some ⟨c5, 0, 14⟩)), (7, ePtr e), (9, bufSl b i (outsC ks ems)), (25, .sl (some ⟨ob, 0, 3 * ops.length⟩) ops.length ops.length), (26, .int .i64 (ops.length : Nat)), (27, .int .i64 (i : Nat))], h⟩ ∧
  M i h F ks ems ∧ ks.length = i ∧ ems.length = i ∧ (i ≠ 0 → h[b]? = some (.cells (outsC ks ems) 70 true) ∧ ¬ F b) ∧ h[ob]? = some (.cells (opsC ops) 32 true) ∧ ¬ F ob ∧ h[c5]? = some (.cells cnt0 35 false) ∧ ¬ F c5
theorem outsC_len : ∀ {ks : List Nat} {ems : List Em}, ks.length = ems.length → (outsC ks ems).length = ks.length * 4
 | [], [], _ => rfl
 | k :: ks, em :: ems, h => by
  have := outsC_len (ks := ks) (ems := ems) (by simpa using h)
  simp only [outsC, List.length_append, List.length_cons, outC_len, this]; omega
section
variable {h : Heap} {e : Nat} {ops : List (Nat × Txt)} {M : Nat → Heap → (Nat → Prop) → List Nat → List Em → Prop}
theorem loop_run {c5 ob : Nat} {Q : AExit → St → Prop} (hM : Mach e ops M) (hN : ops.length ≤ 300) (hob : c5 ≠ ob)
  (hq : ∀ h b F ks ems, M ops.length h F ks ems → ks.length = ops.length → ems.length = ops.length → (ops.length ≠ 0 → h[b]? = some (.cells (outsC ks ems) 70 true)) → h[c5]? = some (.cells cnt0 35 false) → ¬ F c5 →
   Q (.exit 0) ⟨[(5, .ptr (some ⟨c5, 0, 14⟩)), (7, ePtr e), (9, bufSl b ops.length (outsC ks ems)), (25, .sl (some ⟨ob, 0, 3 * ops.length⟩) ops.length ops.length), (26, .int .i64 (ops.length : Nat)), (27, .int .i64 (ops.length : Nat)), (28, .bool false)], h⟩)
  {σ : St} (hσ : RunI e c5 ob ops M ops.length σ) : Wt Tryz.prog (D cfg1) (.loop c12_l6 (some [5, 7, 9, 25, 26, 27])) σ Q := by
 refine Wt.loop (RunI e c5 ob ops M) (m := ops.length) hσ ?_
 rintro m σ ⟨i, h, b, F, ks, ems, rfl, hi, rfl, hm, hks, hems, hb, hop, hfo, hc5, hfc⟩
 by_cases hlt : i < ops.length
 · have hol := opsC_len (l := ops)
   have hix : aindexAddr Tryz.prog 26 (.sl (some ⟨ob, 0, 3 * ops.length⟩) ops.length ops.length) (.int .i64 (i : Nat)) = some (.ptr (some ⟨ob, 3 * i, 3 * ops.length⟩)) := by
    have q : (i : Int) < (ops.length : Nat) := by omega
    simp [aindexAddr, q]; omega
   have lo : aload Tryz.prog (look h) 32 (.ptr (some ⟨ob, 3 * i, 3 * ops.length⟩)) = some (.agg (opC ops[i].1 ops[i].2)) := ld_sub hop hol (by simp) (k := 3) (by simp) (by omega) (opsC_at hlt)
   obtain ⟨h1, h2, hh1, hh2, s2, l2, n2, O2⟩ := fresh (h := h) [.int .i64 0, .int .i64 0, .str []] (opC ops[i].1 ops[i].2) 32 3 rfl rfl rfl (by omega) (by simp) (by simp)
   have m2 := hM.keep _ _ _ _ _ _ _ hm O2 (fun _ _ => not_false) (fun _ _ _ => not_false)
   have low2 := hM.low _ _ _ _ _ hm
   obtain ⟨h3, F', k, em, e3, m3, O3, g3⟩ := hM.step i hlt h2 F ks ems m2
   have hl2 := O2.1
   have hblt : i ≠ 0 → b < h.length := fun hi0 => lt_of_at (hb hi0).1
   have hb3 : i ≠ 0 → h3[b]? = some (.cells (outsC ks ems) 70 true) := fun hi0 => O3.at (O2.at (hb hi0).1 not_false) (hb hi0).2
   obtain ⟨δ, h4, e4, a4, b4, O4⟩ := append_buf (t := 33) (e := 70) (k := 4) (by simp) (by simp) (by omega) (by simp) (by simp) (h := h3) (b := b) (n := i) (xs := outsC ks ems) (ys := outC k em) outC_len (by rw [outsC_len (by omega), hks]) hb3 (by omega)
   obtain ⟨b', hb'⟩ : ∃ b', b' = (if i = 0 then h3.length + 1 else b) := ⟨_, rfl⟩
   rw [← hb', ← outsC_app (by omega)] at e4 b4
   have nF' : ∀ c, c < h2.length → ¬ F c → ¬ F' c := fun c hc hn hf => by
    rcases g3 c hf with hf | hf
    · exact hn hf
    · omega
   have low3 := hM.low _ _ _ _ _ m3
   have m4 : M (i + 1) h4 F' (ks ++ [k]) (ems ++ [em]) := hM.keep _ _ _ _ _ _ _ m3 O4 (fun c hc hf => by
     obtain ⟨rfl, hi0⟩ := hf
     exact nF' _ (by have := hblt hi0; omega) (hb hi0).2 hc) (fun c cs hc hf => by
     obtain ⟨rfl, hi0⟩ := hf
     rw [hb3 hi0] at hc
     simp at hc)
   have hol2 := lt_of_at hop
   have hcl2 := lt_of_at hc5
   have op4 : h4[ob]? = some (.cells (opsC ops) 32 true) := O4.at (O3.at (O2.at hop not_false) hfo) (fun hf => by
    obtain ⟨rfl, hi0⟩ := hf
    have := (hb hi0).1
    rw [hop] at this
    simp at this)
   have c54 : h4[c5]? = some (.cells cnt0 35 false) := O4.at (O3.at (O2.at hc5 not_false) hfc) (fun hf => by
    obtain ⟨rfl, hi0⟩ := hf
    have := (hb hi0).1
    rw [hc5] at this
    simp at this)
   have v := i64s (n := i) (by omega)
   have hnext : RunI e c5 ob ops M (ops.length - (i + 1)) ⟨[(5, .ptr (some ⟨c5, 0, 14⟩)), (7, ePtr e), (9, bufSl b' (i + 1) (outsC (ks ++ [k]) (ems ++ [em]))), (25, .sl (some ⟨ob, 0, 3 * ops.length⟩) ops.length ops.length), (26, .int .i64 (ops.length : Nat)), (27, .int .i64 (i + 1 : Nat))], h4⟩ := by
    refine ⟨i + 1, h4, b', F', ks ++ [k], ems ++ [em], rfl, by omega, rfl, m4, by simp [hks], by simp [hems], fun _ => ⟨b4, fun hf => ?_⟩, op4, nF' _ (by omega) hfo, c54, nF' _ (by omega) hfc⟩
    by_cases hi0 : i = 0
    · rw [hb', if_pos hi0] at hf
      have := low3 _ hf
      omega
    · rw [hb', if_neg hi0] at hf
      exact nF' _ (by have := hblt hi0; omega) (hb hi0).2 hf
   have hcst : ((i : Int) < (ops.length : Nat)) := by omega
   simp [c12_l6, c12_r6, hlt, c12_r7, hix, lo, zeros, ← hh1, s2, ← hh2, c12_r8, l2, e3, slice4 (outC_len (k := k) (em := em)) outC_all, e4, a4, bufSl_one, bufSl_notTup, bufSl_cells, c12_r9, v]
   exact ⟨_, by omega, hnext⟩
 · have hie : i = ops.length := by omega
   subst hie
   simp [c12_l6, c12_r6]
   exact hq h b F ks ems hm hks hems (fun hne => (hb hne).1) hc5 hfc
theorem run_run {ob : Nat} (hN : ops.length ≤ 300) (h0 : 0 < ops.length) (hop : h[ob]? = some (.cells (opsC ops) 32 true))
  {MM : Ad → Nat → Heap → (Nat → Prop) → List Nat → List Em → Prop} (hM : ∀ (A : Ad) h1, Eng0 h1 A 0 0 0 0 → Mach A.e ops (MM A) ∧ MM A 0 h1 (F0 A) [] []) {R : AV → Heap → Prop}
  (hR : ∀ (A : Ad) h' b F ks ems fg tb bk fm a' b' c' d', MM A ops.length h' F ks ems → ks.length = ops.length → ems.length = ops.length → h'[b]? = some (.cells (outsC ks ems) 70 true) → EnAt h' A.e fg tb bk fm a' b' c' d' → R (.tup [bufSl b ops.length (outsC ks ems), .agg (cntC a' b' c' d'), .int .i64 0]) h') :
  ∃ r h', D cfg1 12 [.agg confC, .sl (some ⟨ob, 0, 3 * ops.length⟩) ops.length ops.length] h = some (r, h') ∧ R r h' := by
 refine call1_12 (by simp) ?_
 have hc : confC.all AV.one = true := rfl
 have hl : confC.length = 9 := rfl
 have hlt := lt_of_at hop
 obtain ⟨h1, hh1, n1, k1, O1⟩ := app1 (h := h) (.cells confC 40 false)
 obtain ⟨h2, hh2, n2, k2, O2⟩ := app1 (h := h1) (.cells cnt0 35 false)
 simp only [cnt0] at hh2
 have l2 : aload Tryz.prog (look h2) 40 (.ptr (some ⟨h.length, 0, 9⟩)) = some (.agg confC) := ld_all (O2.at n1 not_false) rfl (by simp) (by simp)
 obtain ⟨h3, A, e3, E3, g3, hr⟩ := new_run (h := h2)
 have O3 : Only (fun _ => False) h2 h3 := g3.only
 obtain ⟨hMM, m3⟩ := hM A h3 E3
 obtain ⟨o1, o2, o3, o4, o5⟩ := E3.o
 have hol := opsC_len (l := ops)
 have op3 := ((O1.trans O2).trans O3).at hop not_false
 have c3 := O3.at n2 not_false
 have hmin : ∀ L, aslice Tryz.prog L 26 (.sl (some ⟨ob, 0, 3 * ops.length⟩) ops.length ops.length) none (some (.int .i64 (ops.length : Nat))) none = some (.sl (some ⟨ob, 0, 3 * ops.length⟩) ops.length ops.length) := fun L => by simp [aslice, bound]
 have hmn : ¬ (300 : Int) < (ops.length : Nat) := by omega
 simp [c12, c12_r0, hc, hl, ← hh1, zeros, ← hh2, c12_r1, l2, lift e3, c12_r2, c12_r4, c12_r5, alen, amin, amin1, hmn, hmin]
 refine loop_run (c5 := h1.length) (ob := ob) (e := A.e) (M := MM A) hMM hN (by omega) ?_ ?_
 · intro h4 b F ks ems m4 hks hems hb hc5 hfc
   obtain ⟨fg, tb, bk, fm, a', b', c', d', E4⟩ := hMM.cnt _ _ _ _ _ m4
   obtain ⟨h5, e5, O5⟩ := counts_run E4
   obtain ⟨h6, hh6, s6, n6, O6⟩ := stN (off := 0) (vs := cntC a' b' c' d') (us := cntC a' b' c' d') (O5.at hc5 not_false) 35 14 14 rfl (by simp) rfl rfl (by omega) (by omega) rfl
   have l6 : aload Tryz.prog (look h6) 35 (.ptr (some ⟨h1.length, 0, 14⟩)) = some (.agg (cntC a' b' c' d')) := ld_all n6 rfl (by simp) (by simp)
   have hb4 := hb (by omega)
   have O46 : Only (fun c => c = h1.length) h4 h6 := (O5.mono fun _ _ e => e.elim).next O6 fun _ _ e => e
   have b6 : h6[b]? = some (.cells (outsC ks ems) 70 true) := O46.at hb4 (fun e => by
    subst e
    rw [hc5] at hb4
    simp at hb4)
   have m6 := hMM.keep _ _ _ _ _ _ _ m4 O46 (fun c hc hf => hfc (hf ▸ hc)) (fun c cs hc hf => by
    subst hf
    rw [hc5] at hc
    simp at hc)
   have E6 : EnAt h6 A.e fg tb bk fm a' b' c' d' := O46.at E4 (fun e => by
    rw [← e, E4] at hc5
    simp at hc5)
   simp [c12_r10, lift e5, s6, ← hh6, l6, bufSl_notTup]
   refine ⟨show (bufSl b ops.length (outsC ks ems)).notTup = true from bufSl_notTup, ?_⟩
   exact hR A h6 b F ks ems fg tb bk fm a' b' c' d' m6 hks hems b6 E6
 · refine ⟨0, h3, 0, F0 A, [], [], rfl, by omega, by simp [bufSl], m3, rfl, rfl, fun h => absurd rfl h, op3, ?_, c3, ?_⟩
   · unfold F0; omega
   · unfold F0; omega
end
end
section
structure DOp where
 (x a b : Nat)
abbrev dfr0 (fl0 : Nat) (s : Txt) (f t : Nat) : Txt := frB 0 fl0 ((101 + f) % 4294967296) 5001 ((s.drop f).take (t - f))
abbrev dfr1 (u : Txt) (f t : Nat) : Txt := frB 1 16 ((5001 + f) % 4294967296) 101 ((u.drop f).take (t - f))
def dopF (fl0 : Nat) (s u : Txt) (o : DOp) : Nat × Txt := if o.x = 0 then (0, dfr0 fl0 s o.a o.b) else (1, dfr1 u o.a o.b)
def OkD (s u : Txt) (o : DOp) : Prop := o.x < 2 ∧ o.a < o.b ∧ (o.x = 0 → o.b ≤ s.length) ∧ (o.x = 1 → o.b ≤ u.length)
def helloO : List (Nat × Txt) := [(0, frB 0 2 100 0 []), (1, frB 1 18 5000 101 []), (0, frB 0 16 101 5001 [])]
def Good (fl0 : Nat) (s u : Txt) : Em → Prop
 | none => True
 | some yf => yf = (1, frB 0 2 100 0 []) ∨ yf = (0, frB 1 18 5000 101 []) ∨ yf = (1, frB 0 16 101 5001 []) ∨ (∃ f t, f < t ∧ t ≤ s.length ∧ yf = (1, dfr0 fl0 s f t)) ∨ (∃ f t, f < t ∧ t ≤ u.length ∧ yf = (0, dfr1 u f t))
structure PL (fl0 : Nat) (s u : Txt) (done : List DOp) (n : Nat) (L : List (Nat × Nat)) (n' : Nat) (L' : List (Nat × Nat)) (ems : List Em) : Prop where
 p1 : ∀ o ∈ done, o.x = 0 → ∀ k, o.a ≤ k → k < o.b → k < n ∨ k ∈ keys L
 p2 : ∀ o ∈ done, o.x = 1 → ∀ k, o.a ≤ k → k < o.b → k < n' ∨ k ∈ keys L'
 p3 : n ∉ keys L
 p4 : n' ∉ keys L'
 p5 : ∀ k, k < n → ∃ f t, f ≤ k ∧ k < t ∧ t ≤ s.length ∧ some (1, dfr0 fl0 s f t) ∈ ems
 p6 : ∀ k, k < n' → ∃ f t, f ≤ k ∧ k < t ∧ t ≤ u.length ∧ some (0, dfr1 u f t) ∈ ems
 p7 : ∀ em ∈ ems, Good fl0 s u em
section
variable {fl0 n n' : Nat} {s u : Txt} {done : List DOp} {L L' : List (Nat × Nat)} {ems : List Em}
theorem emF_0 {ft : Option (Nat × Nat)} : emF 0 fl0 101 5001 s ft = ft.map fun ft => (1, dfr0 fl0 s ft.1 ft.2) := by cases ft <;> rfl
theorem emF_1 {ft : Option (Nat × Nat)} : emF 1 16 5001 101 u ft = ft.map fun ft => (0, dfr1 u ft.1 ft.2) := by cases ft <;> rfl
theorem PL.data0 {n2 a b : Nat} {L2 : List (Nat × Nat)} (H : PL fl0 s u done n L n' L' ems) (P : Psh s n n2 a b L L2) (hn : n2 ≤ s.length) (hab : a < b) (hb : b ≤ s.length) : PL fl0 s u (done ++ [⟨0, a, b⟩]) n2 L2 n' L' (ems ++ [emF 0 fl0 101 5001 s (emOf n n2 a b)]) where
 p1 := fun o ho hx k h1 h2 => by
  rcases List.mem_append.1 ho with ho | ho
  · rcases H.p1 o ho hx k h1 h2 with h | h
    · exact .inl (Nat.lt_of_lt_of_le h P.le)
    · exact P.all k (.inl h)
  · simp at ho; subst ho
    exact P.all k (.inr ⟨h1, h2⟩)
 p2 := fun o ho hx k h1 h2 => by
  rcases List.mem_append.1 ho with ho | ho
  · exact H.p2 o ho hx k h1 h2
  · simp at ho; subst ho; simp at hx
 p3 := P.out
 p4 := H.p4
 p5 := fun k hk => by
  by_cases hkn : k < n
  · obtain ⟨f, t, h1, h2, h3, h4⟩ := H.p5 k hkn
    exact ⟨f, t, h1, h2, h3, List.mem_append.2 (.inl h4)⟩
  · have he : emOf n n2 a b = some (n, n2) := by unfold emOf; rw [if_pos (by omega)]
    exact ⟨n, n2, by omega, hk, hn, by rw [he, emF_0]; simp⟩
 p6 := fun k hk => let ⟨f, t, h1, h2, h3, h4⟩ := H.p6 k hk; ⟨f, t, h1, h2, h3, List.mem_append.2 (.inl h4)⟩
 p7 := fun em he => by
  rcases List.mem_append.1 he with he | he
  · exact H.p7 em he
  · simp at he; subst he
    rw [emF_0]
    unfold emOf
    split
    · rename_i h1; exact .inr (.inr (.inr (.inl ⟨n, n2, h1, hn, rfl⟩)))
    · split
      · trivial
      · exact .inr (.inr (.inr (.inl ⟨a, b, hab, hb, rfl⟩)))
theorem PL.data1 {n2 a b : Nat} {L2 : List (Nat × Nat)} (H : PL fl0 s u done n L n' L' ems) (P : Psh u n' n2 a b L' L2) (hn : n2 ≤ u.length) (hab : a < b) (hb : b ≤ u.length) : PL fl0 s u (done ++ [⟨1, a, b⟩]) n L n2 L2 (ems ++ [emF 1 16 5001 101 u (emOf n' n2 a b)]) where
 p2 := fun o ho hx k h1 h2 => by
  rcases List.mem_append.1 ho with ho | ho
  · rcases H.p2 o ho hx k h1 h2 with h | h
    · exact .inl (Nat.lt_of_lt_of_le h P.le)
    · exact P.all k (.inl h)
  · simp at ho; subst ho
    exact P.all k (.inr ⟨h1, h2⟩)
 p1 := fun o ho hx k h1 h2 => by
  rcases List.mem_append.1 ho with ho | ho
  · exact H.p1 o ho hx k h1 h2
  · simp at ho; subst ho; simp at hx
 p4 := P.out
 p3 := H.p3
 p6 := fun k hk => by
  by_cases hkn : k < n'
  · obtain ⟨f, t, h1, h2, h3, h4⟩ := H.p6 k hkn
    exact ⟨f, t, h1, h2, h3, List.mem_append.2 (.inl h4)⟩
  · have he : emOf n' n2 a b = some (n', n2) := by unfold emOf; rw [if_pos (by omega)]
    exact ⟨n', n2, by omega, hk, hn, by rw [he, emF_1]; simp⟩
 p5 := fun k hk => let ⟨f, t, h1, h2, h3, h4⟩ := H.p5 k hk; ⟨f, t, h1, h2, h3, List.mem_append.2 (.inl h4)⟩
 p7 := fun em he => by
  rcases List.mem_append.1 he with he | he
  · exact H.p7 em he
  · simp at he; subst he
    rw [emF_1]
    unfold emOf
    split
    · rename_i h1; exact .inr (.inr (.inr (.inr ⟨n', n2, h1, hn, rfl⟩)))
    · split
      · trivial
      · exact .inr (.inr (.inr (.inr ⟨a, b, hab, hb, rfl⟩)))
end
def EmsAt (h : Heap) (F : Nat → Prop) (ks : List Nat) (ems : List Em) : Prop := ∀ (i k : Nat) (em : Em), ks[i]? = some k → ems[i]? = some em → EmAt h F k em
theorem EmsAt.nil {h : Heap} {F : Nat → Prop} : EmsAt h F [] [] := fun i k em h1 => by simp at h1
theorem EmsAt.snoc {h : Heap} {F : Nat → Prop} {ks : List Nat} {ems : List Em} {k : Nat} {em : Em} (H : EmsAt h F ks ems) (hl : ks.length = ems.length) (he : EmAt h F k em) : EmsAt h F (ks ++ [k]) (ems ++ [em]) := fun i k' em' h1 h2 => by
 rcases Nat.lt_trichotomy i ks.length with hi | hi | hi
 · rw [List.getElem?_append_left hi] at h1
   rw [List.getElem?_append_left (by omega)] at h2
   exact H i k' em' h1 h2
 · subst hi
   rw [List.getElem?_append_right (by omega)] at h1
   rw [hl, List.getElem?_append_right (by omega)] at h2
   simp at h1 h2
   subst h1 h2
   exact he
 · rw [List.getElem?_eq_none (by simp; omega)] at h1
   simp at h1
theorem EmsAt.keep {h h' : Heap} {F fp : Nat → Prop} {ks : List Nat} {ems : List Em} (H : EmsAt h F ks ems) (g : Only fp h h') (hn : ∀ c cs, h[c]? = some (.cells cs 102 true) → ¬ fp c) : EmsAt h' F ks ems := fun i k em h1 h2 => (H i k em h1 h2).keep g fun hne => by
 have := H i k em h1 h2
 cases em with
 | none => exact absurd rfl hne
 | some yf => exact hn _ _ this.1
theorem EmsAt.turn {h h' : Heap} {F F' : Nat → Prop} {ks : List Nat} {ems : List Em} (H : EmsAt h F ks ems) (g : Only F h h') (hF : ∀ c, F' c → F c ∨ h.length ≤ c) : EmsAt h' F' ks ems := fun i k em h1 h2 => by
 have := H i k em h1 h2
 cases em with
 | none => trivial
 | some yf =>
  refine ⟨g.at this.1 this.2, fun hf => ?_⟩
  rcases hF k hf with hf | hf
  · exact this.2 hf
  · have := lt_of_at this.1; omega
end
section
def cntS (ems : List Em) : Nat := (ems.filter Option.isSome).length
theorem cntS_snoc {ems : List Em} {em : Em} : cntS (ems ++ [em]) = cntS ems + (if em.isSome then 1 else 0) := by
 cases em <;> simp [cntS]
def helloE : List Em := [some (1, frB 0 2 100 0 []), some (0, frB 1 18 5000 101 []), some (1, frB 0 16 101 5001 [])]
theorem beg_snoc {ems : List Em} {i : Nat} {em : Em} (H : ems.length = i ∧ ems.take 3 = helloE.take i) (hi : 3 ≤ i) : (ems ++ [em]).length = i + 1 ∧ (ems ++ [em]).take 3 = helloE.take (i + 1) := by
 refine ⟨by simp [H.1], ?_⟩
 rw [List.take_append_of_le_length (by omega), H.2, List.take_of_length_le (by simp [helloE]; omega), List.take_of_length_le (by simp [helloE]; omega)]
def MM (fl0 : Nat) (s u : Txt) (dops : List DOp) (A0 : Ad) (i : Nat) (h : Heap) (F : Nat → Prop) (ks : List Nat) (ems : List Em) : Prop :=
 ks.length = ems.length ∧ EmsAt h F ks ems ∧
 ((i = 0 ∧ Eng0 h A0 0 0 0 0 ∧ F = F0 A0 ∧ ems = []) ∨
  (i = 1 ∧ ∃ A m0 d0 x0 c0 a0, A.e = A0.e ∧ Half h A 1 1 0 0 m0 d0 x0 c0 a0 ∧ F = F1 A m0 c0 ∧ ems = [some (1, frB 0 2 100 0 [])]) ∨
  (2 ≤ i ∧ i ≤ 3 + dops.length ∧ ∃ A B cc cd n L n' L', A.e = A0.e ∧ Live h A B i (cntS ems) cc cd s u n L n' L' ∧ F = FL A B ∧ cc ≤ i ∧ cd ≤ i ∧ cntS ems ≤ i ∧ (i = 2 → n = 0 ∧ L = [] ∧ n' = 0 ∧ L' = []) ∧ (ems.length = i ∧ ems.take 3 = helloE.take i) ∧ PL fl0 s u (dops.take (i - 3)) n L n' L' ems))
section
variable {fl0 : Nat} {s u : Txt} {dops : List DOp} {A0 : Ad}
theorem mach (hfl : fl0 = 16 ∨ fl0 = 24) (hsl : s.length ≤ 1000) (hul : u.length ≤ 1000) (hN : dops.length ≤ 290) (hD : ∀ o ∈ dops, OkD s u o) : Mach A0.e (helloO ++ dops.map (dopF fl0 s u)) (MM fl0 s u dops A0) where
 low := by
  rintro i h F ks ems ⟨_, _, h1 | ⟨_, A, m0, d0, x0, c0, a0, _, H, rfl, _⟩ | ⟨_, _, A, B, cc, cd, n, L, n', L', _, H, rfl, _⟩⟩ c hc
  · obtain ⟨_, H, rfl, _⟩ := h1
    have := lt_of_at H.en
    unfold F0 at hc; omega
  · have h1 := lt_of_at H.s.scan.choose_spec.2
    have h2 := lt_of_at H.en.en
    have h3 := lt_of_at H.en.fl
    have h4 := H.en.o7
    unfold F1 at hc; omega
  · obtain ⟨⟨p1, p2, p3, p4, p5, p6, p7⟩, ⟨q1, q2, q3, q4, q5⟩, ⟨r1, r2, r3, r4, r5⟩, lc⟩ := H.chain
    simp only [FL, F2] at hc; omega
 keep := by
  rintro i h h' F ks ems fp ⟨hl, he, h1 | ⟨hi, A, m0, d0, x0, c0, a0, hA, H, rfl, hems⟩ | ⟨hi, hi2, A, B, cc, cd, n, L, n', L', hA, H, rfl, h1, h2, h3, h4, hbg, h5⟩⟩ g hn hf
  · obtain ⟨hi, H, rfl, hems⟩ := h1
    exact ⟨hl, he.keep g hf, .inl ⟨hi, H.keepF g hn, rfl, hems⟩⟩
  · exact ⟨hl, he.keep g hf, .inr (.inl ⟨hi, A, m0, d0, x0, c0, a0, hA, H.keep g hn, rfl, hems⟩)⟩
  · exact ⟨hl, he.keep g hf, .inr (.inr ⟨hi, hi2, A, B, cc, cd, n, L, n', L', hA, H.keep g hn, rfl, h1, h2, h3, h4, hbg, h5⟩)⟩
 cnt := by
  rintro i h F ks ems ⟨_, _, h1 | ⟨_, A, m0, d0, x0, c0, a0, hA, H, rfl, _⟩ | ⟨_, _, A, B, cc, cd, n, L, n', L', hA, H, rfl, _⟩⟩
  · obtain ⟨_, H, rfl, _⟩ := h1
    exact ⟨_, _, _, _, _, _, _, _, H.en⟩
  · exact ⟨_, _, _, _, _, _, _, _, hA ▸ H.en.en⟩
  · exact ⟨_, _, _, _, _, _, _, _, hA ▸ H.en.en⟩
 step := by
  rintro i hi h F ks ems ⟨hl, he, h1 | ⟨rfl, A, m0, d0, x0, c0, a0, hA, H, rfl, rfl⟩ | ⟨hi1, hi2, A, B, cc, cd, n, L, n', L', hA, H, rfl, h1, h2, h3, h4, hbg, h5⟩⟩
  · obtain ⟨rfl, H, rfl, rfl⟩ := h1
    obtain ⟨h', A', m0, d0, x0, c0, a0, k, e1, hA, H', hk, O, hF⟩ := step_syn H (by omega) (by omega)
    exact ⟨h', F1 A' m0 c0, k, _, e1, ⟨by simp [hl], (he.turn O hF).snoc hl hk, .inr (.inl ⟨rfl, A', m0, d0, x0, c0, a0, hA, H', rfl, rfl⟩)⟩, O, hF⟩
  · obtain ⟨h', B, k, r1, r2, e1, H', hk, O, hF⟩ := step_synack (s := s) (u := u) hsl hul H (by omega) (by omega)
    rw [hA] at e1
    refine ⟨h', FL A B, k, _, e1, ⟨by simp [hl], (he.turn O hF).snoc hl hk, .inr (.inr ⟨by omega, by omega, A, B, 0, 0, 0, [], 0, [], hA, H', rfl, by omega, by omega, by simp [cntS], fun _ => ⟨rfl, rfl, rfl, rfl⟩, ⟨rfl, rfl⟩, ?_⟩)⟩, O, hF⟩
    refine ⟨fun o ho => by simp at ho, fun o ho => by simp at ho, by simp [keys], by simp [keys], fun k hk => by omega, fun k hk => by omega, fun em hem => ?_⟩
    simp at hem
    rcases hem with rfl | rfl
    · exact .inl rfl
    · exact .inr (.inl rfl)
  · have hil : i < 3 + dops.length := by simp [helloO] at hi; omega
    by_cases hi3 : i = 2
    · subst hi3
      obtain ⟨rfl, rfl, rfl, rfl⟩ := h4 rfl
      obtain ⟨h', k, e1, H', hk, O⟩ := step_ack H (by omega) (by omega)
      rw [hA] at e1
      have hF : ∀ c, FL A B c → FL A B c ∨ h.length ≤ c := fun c hc => .inl hc
      refine ⟨h', FL A B, k, _, e1, ⟨by simp [hl], (he.turn O hF).snoc hl hk, .inr (.inr ⟨by omega, by omega, A, B, cc, cd, 0, [], 0, [], hA, ?_, rfl, by omega, by omega, ?_, fun h => by omega, ?_, ?_⟩)⟩, O, hF⟩
      · rw [cntS_snoc]; exact H'
      · rw [cntS_snoc]; simp; omega
      · obtain ⟨q1, q2⟩ := hbg
        rw [List.take_of_length_le (by omega)] at q2
        subst q2
        exact ⟨rfl, rfl⟩
      · refine ⟨fun o ho => by simp at ho, fun o ho => by simp at ho, by simp [keys], by simp [keys], fun k hk => by omega, fun k hk => by omega, fun em hem => ?_⟩
        rcases List.mem_append.1 hem with hem | hem
        · exact h5.p7 em hem
        · simp at hem; subst hem
          exact .inr (.inr (.inl rfl))
    · have hd : i - 3 < dops.length := by omega
      obtain ⟨o, ho⟩ : ∃ o, o = dops[i - 3] := ⟨_, rfl⟩
      have hop : (helloO ++ dops.map (dopF fl0 s u))[i] = dopF fl0 s u o := by
       rw [List.getElem_append_right (by simp [helloO]; omega), List.getElem_map, ho]; rfl
      have htk : dops.take (i + 1 - 3) = dops.take (i - 3) ++ [o] := by
       rw [show i + 1 - 3 = (i - 3) + 1 by omega, List.take_succ_eq_append_getElem hd, ho]
      obtain ⟨hx, hab, hb0, hb1⟩ := hD o (by rw [ho]; exact List.getElem_mem _)
      have hF : ∀ c, FL A B c → FL A B c ∨ h.length ≤ c := fun c hc => .inl hc
      rw [hop]
      obtain ⟨x, a, b⟩ := o
      simp only at hx hab hb0 hb1
      obtain rfl | rfl : x = 0 ∨ x = 1 := by omega
      · obtain ⟨h', k, n2, L2, cb', cc', cd', e1, H', P, hk, O, g1, g2, g3⟩ := step_data0 (fl := fl0) (ack := 5001) hfl (by omega) hab (hb0 rfl) H (by omega) (by omega) (by omega) (by omega)
        rw [hA] at e1
        have hcb : cb' = cntS (ems ++ [emF 0 fl0 101 5001 s (emOf n n2 a b)]) := by rw [cntS_snoc, g1, emF_0]; cases emOf n n2 a b <;> rfl
        refine ⟨h', FL A B, k, _, e1, ⟨by simp [hl], (he.turn O hF).snoc hl hk, .inr (.inr ⟨by omega, by omega, A, B, cc', cd', n2, L2, n', L', hA, ?_, rfl, by omega, by omega, ?_, fun h => by omega, beg_snoc hbg (by omega), ?_⟩)⟩, O, hF⟩
        · rw [← hcb]; exact H'
        · rw [← hcb, g1]; split <;> omega
        · rw [htk]; exact h5.data0 P H'.u0.le hab (hb0 rfl)
      · obtain ⟨h', k, n2, L2, cb', cc', cd', e1, H', P, hk, O, g1, g2, g3⟩ := step_data1 (fl := 16) (ack := 101) (.inl rfl) (by omega) hab (hb1 rfl) H (by omega) (by omega) (by omega) (by omega)
        rw [hA] at e1
        have hcb : cb' = cntS (ems ++ [emF 1 16 5001 101 u (emOf n' n2 a b)]) := by rw [cntS_snoc, g1, emF_1]; cases emOf n' n2 a b <;> rfl
        refine ⟨h', FL A B, k, _, e1, ⟨by simp [hl], (he.turn O hF).snoc hl hk, .inr (.inr ⟨by omega, by omega, A, B, cc', cd', n, L, n2, L2, hA, ?_, rfl, by omega, by omega, ?_, fun h => by omega, beg_snoc hbg (by omega), ?_⟩)⟩, O, hF⟩
        · rw [← hcb]; exact H'
        · rw [← hcb, g1]; split <;> omega
        · rw [htk]; exact h5.data1 P H'.u1.le hab (hb1 rfl)
end
end
section
structure Came (h : Heap) (fl0 : Nat) (s u : Txt) (b : Nat) (ks : List Nat) (ems : List Em) : Prop where
 len : ks.length = ems.length
 outs : h[b]? = some (.cells (outsC ks ems) 70 true)
 frs : ∀ (i k : Nat) (yf : Nat × Txt), ks[i]? = some k → ems[i]? = some (some yf) → Fr1 h k yf.1 yf.2
 good : ∀ em ∈ ems, Good fl0 s u em
 beg : ems.take 3 = helloE
 cov0 : ∀ k, k < s.length → ∃ f t, f ≤ k ∧ k < t ∧ t ≤ s.length ∧ some (1, dfr0 fl0 s f t) ∈ ems
 cov1 : ∀ k, k < u.length → ∃ f t, f ≤ k ∧ k < t ∧ t ≤ u.length ∧ some (0, dfr1 u f t) ∈ ems
theorem Came.keep {h h' : Heap} {fl0 : Nat} {s u : Txt} {b : Nat} {ks : List Nat} {ems : List Em} (H : Came h fl0 s u b ks ems) (g : Only (fun _ => False) h h') : Came h' fl0 s u b ks ems :=
 ⟨H.len, g.at H.outs not_false, fun i k yf h1 h2 => g.at (H.frs i k yf h1 h2) not_false, H.good, H.beg, H.cov0, H.cov1⟩
section
variable {h : Heap} {fl0 : Nat} {s u : Txt} {dops : List DOp}
theorem script_run {ob N : Nat} (hNN : N = 3 + dops.length) (hfl : fl0 = 16 ∨ fl0 = 24) (hsl : s.length ≤ 1000) (hul : u.length ≤ 1000) (hN : dops.length ≤ 290) (hD : ∀ o ∈ dops, OkD s u o)
  (c0 : ∀ k, k < s.length → ∃ o ∈ dops, o.x = 0 ∧ o.a ≤ k ∧ k < o.b) (c1 : ∀ k, k < u.length → ∃ o ∈ dops, o.x = 1 ∧ o.a ≤ k ∧ k < o.b) (hop : h[ob]? = some (.cells (opsC (helloO ++ dops.map (dopF fl0 s u))) 32 true)) :
  ∃ h' b ks ems c' d', D cfg1 12 [.agg confC, .sl (some ⟨ob, 0, 3 * N⟩) N N] h = some (.tup [.sl (some ⟨b, 0, 4 * N⟩) N N, .agg (cntC N (cntS ems) c' d'), .int .i64 0], h') ∧ ems.length = N ∧ Came h' fl0 s u b ks ems := by
 have hlen : (helloO ++ dops.map (dopF fl0 s u)).length = N := by simp [helloO]; omega
 have key := run_run (h := h) (ob := ob) (ops := helloO ++ dops.map (dopF fl0 s u)) (MM := MM fl0 s u dops) (R := fun r h' => ∃ b ks ems c' d', r = .tup [.sl (some ⟨b, 0, 4 * N⟩) N N, .agg (cntC N (cntS ems) c' d'), .int .i64 0] ∧ ems.length = N ∧ Came h' fl0 s u b ks ems)
  (by omega) (by omega) hop (fun A h1 E => ⟨mach hfl hsl hul hN hD, rfl, .nil, .inl ⟨rfl, E, rfl, rfl⟩⟩) ?_
 · rw [hlen] at key
   obtain ⟨r, h', e1, b, ks, ems, c', d', rfl, q1, q2⟩ := key
   exact ⟨h', b, ks, ems, c', d', e1, q1, q2⟩
 · rintro A h' b F ks ems fg tb bk fm a' b' c' d' ⟨hl, he, h1 | ⟨h1, _⟩ | ⟨_, _, A', B, cc, cd, n, L, n', L', hA, H, rfl, h1, h2, h3, h4, hbg, h5⟩⟩ hks hems hb E
   · have := h1.1; omega
   · omega
   · rw [hlen] at hks hems H h5 hbg ⊢
     have hE := H.en.en
     rw [hA] at hE
     have hE := E.symm.trans hE
     simp [engC, confC, cntC] at hE
     obtain ⟨_, _, _, _, hEa, hEb, hEc, hEd⟩ := hE
     have hEa' : a' = N := by omega
     rw [hEa']
     obtain rfl : b' = cntS ems := by omega
     have hdn : dops.take (N - 3) = dops := List.take_of_length_le (by omega)
     rw [hdn] at h5
     have hn : ¬ n < s.length := fun hlt => by
      obtain ⟨o, ho, hx, q1, q2⟩ := c0 n hlt
      rcases h5.p1 o ho hx n q1 q2 with h | h
      · omega
      · exact h5.p3 h
     have hn' : ¬ n' < u.length := fun hlt => by
      obtain ⟨o, ho, hx, q1, q2⟩ := c1 n' hlt
      rcases h5.p2 o ho hx n' q1 q2 with h | h
      · omega
      · exact h5.p4 h
     have hbl : bufSl b N (outsC ks ems) = .sl (some ⟨b, 0, 4 * N⟩) N N := by
      unfold bufSl
      rw [if_neg (by omega), outsC_len hl, hks, Nat.mul_comm]
     refine ⟨b, ks, ems, c', d', by rw [hbl], hems, hl, hb, fun i k yf w1 w2 => (he i k _ w1 w2).1, h5.p7, by rw [hbg.2, List.take_of_length_le (by simp [helloE]; omega)], fun k hk => h5.p5 k (by omega), fun k hk => h5.p6 k (by omega)⟩
end
end
section
def segT (x fl seq ack : Nat) (body : Txt) : List AV := tupC x ++ (sgX x fl seq ack ++ [.str body])
section
variable {h : Heap} {x fl seq ack : Nat} {body : Txt}
theorem get_run (hx : x < 2) (hfl : fl < 64) (hs : seq < 4294967296) (ha : ack < 4294967296) (hb : body.length ≤ 1900) :
  D cfg 43 [.str (frB x fl seq ack body)] h = some (.tup [.agg (segT x fl seq ack body), .bool true], G 43 [.str (frB x fl seq ack body)] h) := by
 refine G_of (call43 (by simp) ?_)
 obtain ⟨p1, p2, p3, p4⟩ := portsX x
 have hlb : (segB x fl seq ack body).length ≤ 2000 := by rw [tcpB_len _ _ _ _ (tcpHd_len ..)]; omega
 have hif : (ipB (srcA x) (dstA x) (segB x fl seq ack body)).length ≤ 2900 := by rw [ipB_len]; omega
 have e1 := fun h' => ethget_run (h := h') (x := x) hx hif
 have e2 := fun h' => ipget_run (h := h') (IpS.of p3 p4 hlb) p3 p4 hlb
 have e3 := fun h' => tcpget_run (h := h') (TcpS.of (src := srcA x) (dst := dstA x) (fl := fl) (body := body) p1 p2 (show 1000 < 65536 by omega) hs ha) p3 p4 hfl hs ha hb
 obtain ⟨fr, hfr⟩ : ∃ fr, fr = frB x fl seq ack body := ⟨_, rfl⟩
 have e1' : ∀ h', D cfg 76 [.str fr] h' = some (.tup [.agg (ethX x), .str (ipB (srcA x) (dstA x) (segB x fl seq ack body)), .int .i64 0], G 76 [.str fr] h') := fun h' => by rw [hfr]; exact e1 h'
 rw [← hfr]
 obtain ⟨h1, hh1, n1, k1, O1⟩ := app1 (h := h) (.cells (tup0 ++ sg0 ++ [.str []]) 78 false)
 obtain ⟨h2, hh2, O2⟩ := gro (f := 76) (args := [.str fr]) (h := h1)
 obtain ⟨h3, h3', hh3, hh3', s3, q3, n3, O3⟩ := fresh (h := h2) et0 (ethX x) 60 13 rfl rfl (by simp [ethC, byteCells]) (by omega) (by simp) (by simp)
 have t3 : aload Tryz.prog (look h3') 3 (.ptr (some ⟨h2.length, 12, 13⟩)) = some (.int .i64 2048) := cell_load n3 rfl (by simp) rfl
 obtain ⟨ib, hib⟩ : ∃ ib, ib = ipB (srcA x) (dstA x) (segB x fl seq ack body) := ⟨_, rfl⟩
 rw [← hib] at e1' e2
 obtain ⟨h4, hh4, O4⟩ := gro (f := 77) (args := [.str ib]) (h := h3')
 obtain ⟨h5, h5', hh5, hh5', s5, q5, n5, O5⟩ := fresh (h := h4) ip0 (ipX x) 63 10 rfl rfl rfl (by omega) (by simp) (by simp)
 have t6 : aload Tryz.prog (look h5') 3 (.ptr (some ⟨h4.length, 6, 10⟩)) = some (.int .i64 6) := cell_load n5 rfl (by simp) rfl
 have t7 : aload Tryz.prog (look h5') 28 (.ptr (some ⟨h4.length, 7, 10⟩)) = some (.int .u32 (srcA x)) := cell_load n5 rfl (by simp) rfl
 have t8 : aload Tryz.prog (look h5') 28 (.ptr (some ⟨h4.length, 8, 10⟩)) = some (.int .u32 (dstA x)) := cell_load n5 rfl (by simp) rfl
 obtain ⟨sb, hsb⟩ : ∃ sb, sb = segB x fl seq ack body := ⟨_, rfl⟩
 have e3' : ∀ h', D cfg 78 [.int .u32 (srcA x), .int .u32 (dstA x), .str sb] h' = some (.tup [.agg (sgX x fl seq ack), .str body, .int .i64 0], G 78 [.int .u32 (srcA x), .int .u32 (dstA x), .str sb] h') := fun h' => by rw [hsb]; exact e3 h'
 rw [← hsb] at e2
 obtain ⟨h6, hh6, O6⟩ := gro (f := 78) (args := [.int .u32 (srcA x), .int .u32 (dstA x), .str sb]) (h := h5')
 obtain ⟨h7, h7', hh7, hh7', s7, q7, n7, O7⟩ := fresh (h := h6) sg0 (sgX x fl seq ack) 56 7 rfl rfl rfl (by omega) (by simp) (by simp)
 have n5' := (O6.trans O7).at n5 not_false
 have u6 : aload Tryz.prog (look h7') 3 (.ptr (some ⟨h4.length, 6, 10⟩)) = some (.int .i64 6) := cell_load n5' rfl (by simp) rfl
 have u7 : aload Tryz.prog (look h7') 28 (.ptr (some ⟨h4.length, 7, 10⟩)) = some (.int .u32 (srcA x)) := cell_load n5' rfl (by simp) rfl
 have u8 : aload Tryz.prog (look h7') 28 (.ptr (some ⟨h4.length, 8, 10⟩)) = some (.int .u32 (dstA x)) := cell_load n5' rfl (by simp) rfl
 have v0 : aload Tryz.prog (look h7') 3 (.ptr (some ⟨h6.length, 0, 7⟩)) = some (.int .i64 (srcP x)) := cell_load n7 rfl (by simp) rfl
 have v1 : aload Tryz.prog (look h7') 3 (.ptr (some ⟨h6.length, 1, 7⟩)) = some (.int .i64 (dstP x)) := cell_load n7 rfl (by simp) rfl
 have n1' := (((((O2.trans O3).trans O4).trans O5).trans O6).trans O7).at n1 not_false
 obtain ⟨h8, hh8, s8, n8, O8⟩ := stN (off := 0) (vs := segT x fl seq ack body) (us := segT x fl seq ack body) n1' 78 13 13 rfl (by simp) rfl rfl (by omega) (by omega) rfl
 have q8 : aload Tryz.prog (look h8) 78 (.ptr (some ⟨h.length, 0, 13⟩)) = some (.agg (segT x fl seq ack body)) := ld_all n8 rfl (by simp) (by simp)
 have hbu : abuild Tryz.prog 43 [(0, .int .i64 6), (1, .int .u32 (srcA x)), (2, .int .u32 (dstA x)), (3, .int .i64 (srcP x)), (4, .int .i64 (dstP x))] = some (.agg (tupC x)) := by simp [abuild, afill, zeros, tupC]
 have hbs : abuild Tryz.prog 78 [(0, .agg (tupC x)), (1, .agg (sgX x fl seq ack)), (2, .str body)] = some (.agg (segT x fl seq ack body)) := by simp [abuild, afill, zeros, splice, tupC, segC, segT]
 simp only [tup0, sg0, List.cons_append, List.nil_append] at hh1
 simp only [et0] at hh3
 simp only [ip0] at hh5
 simp only [sg0] at hh7
 have hg : Grow h h8 := (((((((O1.trans O2).trans O3).trans O4).trans O5).trans O6).trans O7).mono fun _ _ e => e.elim).next O8 (fun c h1 e => by omega) |>.grow (fp := fun _ => False) fun c hc => hc.elim
 simp [c43, c43_r0, zeros, ← hh1, c43_r1, e1', ← hh2, ← hh3, s3, ← hh3', c43_r2, t3, c43_r4, e2, ← hh4, ← hh5, s5, ← hh5', c43_r5, t6, c43_r7, t7, t8, e3', ← hh6, ← hh7, s7, ← hh7', c43_r8, u6, u7, u8, v0, v1, hbu, q7, hbs, s8, ← hh8, q8, hg]
end
theorem outsC_at : ∀ {ks : List Nat} {ems : List Em} {i : Nat} (h1 : i < ks.length) (h2 : i < ems.length), ((outsC ks ems).drop (4 * i)).take 4 = outC ks[i] ems[i]
 | k :: ks, em :: ems, 0, _, _ => by cases em <;> rfl
 | k :: ks, em :: ems, i + 1, h1, h2 => by
  have := outsC_at (ks := ks) (ems := ems) (i := i) (by simpa using h1) (by simpa using h2)
  have hd : (outC k em ++ outsC ks ems).drop 4 = outsC ks ems := by cases em <;> rfl
  rw [show 4 * (i + 1) = 4 + 4 * i by omega, ← List.drop_drop, outsC, hd]
  exact this
section
variable {h : Heap} {fl0 b : Nat} {s u : Txt} {ks : List Nat} {ems : List Em}
theorem Came.out (C : Came h fl0 s u b ks ems) {N i : Nat} (hN : ems.length = N) (hi : i < N) :
  aindexAddr Tryz.prog 33 (.sl (some ⟨b, 0, 4 * N⟩) N N) (.int .i64 (i : Nat)) = some (.ptr (some ⟨b, 4 * i, 4 * N⟩)) ∧ aload Tryz.prog (look h) 70 (.ptr (some ⟨b, 4 * i, 4 * N⟩)) = some (.agg (outC (ks[i]'(by have := C.len; omega)) (ems[i]'(by omega)))) := by
 have hl := C.len
 refine ⟨?_, ld_sub C.outs (by rw [outsC_len hl, hl, hN, Nat.mul_comm]) (by simp) (k := 4) (by simp) (by omega) (outsC_at (by omega) (by omega))⟩
 have q : (i : Int) < (N : Nat) := by omega
 simp [aindexAddr, q]; omega
theorem notes_run {N : Nat} (hN : ems.length = N) (hN2 : N ≤ 300) (C : Came h fl0 s u b ks ems) : D cfg 16 [.sl (some ⟨b, 0, 4 * N⟩) N N] h = some (.sl none 0 0, G 16 [.sl (some ⟨b, 0, 4 * N⟩) N N] h) := by
 refine G_of (call16 (by simp) ?_)
 simp [c16, c16_r0, c16_r1, c16_r2, alen]
 refine Wt.forP (fun i => [(3, .sl none 0 0), (6, .sl (some ⟨b, 0, 4 * N⟩) N N), (7, .int .i64 (N : Nat)), (8, .int .i64 (i : Nat))]) (fun _ h' => Only (fun _ => False) h h') N ?_ ?_ ?_
 · intro i h1 hi O1
   have C1 := C.keep O1
   obtain ⟨e1, e2⟩ := C1.out hN hi
   obtain ⟨k, hk⟩ : ∃ k, k = ks[i]'(by have := C.len; omega) := ⟨_, rfl⟩
   obtain ⟨em, hem⟩ : ∃ em, em = ems[i]'(by omega) := ⟨_, rfl⟩
   rw [← hk, ← hem] at e2
   obtain ⟨h2, h2', hh2, hh2', s2, q2, n2, O2⟩ := fresh (h := h1) [.sl none 0 0, .sl none 0 0, .int .i64 0, .int .i64 0] (outC k em) 70 4 rfl outC_len outC_all (by omega) (by simp) (by simp)
   have t1 : aload Tryz.prog (look h2') 46 (.ptr (some ⟨h1.length, 1, 4⟩)) = some (.sl none 0 0) := cell_load n2 outC_len (by simp) (by cases em <;> rfl)
   have v := i64s (n := i) (by omega)
   simp [c16_l3, c16_r3, hi, c16_r4, e1, e2, zeros, ← hh2, s2, ← hh2', c16_r5, t1, append2, aappend, srcCells, aappendE, c16_r6, v]
   exact O1.trans O2
 · intro h1 O1
   simp [c16_l3, c16_r3, c16_r7]
   exact O1.grow fun c hc => hc.elim
 · exact ⟨by simp, .refl⟩
end
end
section
theorem chain {N : Nat} {I : Nat → Heap → Prop} {R : Nat → Heap → Heap → Prop} {h0 : Heap} (hI : I 0 h0) (step : ∀ i h, i < N → I i h → ∃ h', R i h h' ∧ I (i + 1) h') :
  ∃ hs : Nat → Heap, hs 0 = h0 ∧ (∀ i, i < N → R i (hs i) (hs (i + 1))) ∧ ∀ i, i ≤ N → I i (hs i) := by
 classical
 let nx : Nat → Heap → Heap := fun i h => if hx : i < N ∧ I i h then (step i h hx.1 hx.2).choose else h
 let hs : Nat → Heap := fun i => Nat.rec h0 (fun i h => nx i h) i
 have hI' : ∀ i, i ≤ N → I i (hs i) := by
  intro i
  induction i with
  | zero => exact fun _ => hI
  | succ i ih =>
   intro hi
   have h1 := ih (by omega)
   have e : hs (i + 1) = (step i (hs i) (by omega) h1).choose := by
    show nx i (hs i) = _
    simp only [nx]
    rw [dif_pos ⟨by omega, h1⟩]
   rw [e]
   exact (step i (hs i) (by omega) h1).choose_spec.2
 refine ⟨hs, rfl, fun i hi => ?_, hI'⟩
 have h1 := hI' i (by omega)
 have e : hs (i + 1) = (step i (hs i) hi h1).choose := by
  show nx i (hs i) = _
  simp only [nx]
  rw [dif_pos ⟨hi, h1⟩]
 rw [e]
 exact (step i (hs i) hi h1).choose_spec.1
section
variable {h : Heap} {start near : Nat} {off : Int}
theorem place_big (hn : near ≤ 1000000) (h1 : -1 ≤ off) (h2 : off ≤ 2000) : D cfg 25 [.int .u32 start, .int .u32 ((start + off) % 4294967296), .int .i64 near] h = some (.int .i64 off, h) := by
 refine D_eq (call25 (by simp) ?_)
 have e1 : ¬ (1099511627776 : Int) < near := by omega
 have e2 := fun h' => plus_run (h := h') (start := start) (near : Int)
 have e3 := fun h' => diff_run (h := h') ((start + off) % 4294967296) ((start + near) % 4294967296) (d := off - near) (by omega) (by omega) (by omega)
 have e4 : IntKind.wrap .i64 ((near : Int) + (off - near)) = off := by rw [wrap_i64 (by omega) (by omega)]; omega
 have e5 : (if 0 < near then (near : Int) else 0) = near := by split <;> omega
 simp [c25, c25_r0, c25_r1, c25_r2, amin, amin1, amax, amax1, e1, e2, e3, e4, e5]
end
@[simp] theorem bin43n {a a' d d' e e' : Int} {b b' c c' : Int} : bin Tryz.prog .neq 43 (.agg [.int .i64 a, .int .u32 b, .int .u32 c, .int .i64 d, .int .i64 e]) (.agg [.int .i64 a', .int .u32 b', .int .u32 c', .int .i64 d', .int .i64 e']) = some (.bool (!(decide (a = a') && (decide (b = b') && (decide (c = c') && (decide (d = d') && decide (e = e')))))), .no) := by
 simp [bin, kshape_43, shapeOf, kks, kkOfV, keq, ikeys, ikey]
structure Gat (h : Heap) (b4 b5 b7 m y start : Nat) (s : Txt) (L : List (Nat × Nat)) : Prop where
 tup : h[b4]? = some (.cells (tupC y) 43 false)
 st : h[b5]? = some (.cells [.int .u32 start] 28 false)
 ref : h[b7]? = some (.cells [.map (some m)] 73 false)
 held : ∃ c, h[m]? = some (.map 73 (heldE s L) c)
 keys : ∀ k ∈ keys L, k < s.length
theorem Gat.keep {h h' : Heap} {b4 b5 b7 m y start : Nat} {s : Txt} {L : List (Nat × Nat)} (H : Gat h b4 b5 b7 m y start s L) (g : Only (fun _ => False) h h') : Gat h' b4 b5 b7 m y start s L :=
 ⟨g.at H.tup not_false, g.at H.st not_false, g.at H.ref not_false, let ⟨c, hc⟩ := H.held; ⟨c, g.at hc not_false⟩, H.keys⟩
abbrev ρ15 (b4 b5 b7 g : Nat) : Env := [(4, .ptr (some ⟨b4, 0, 5⟩)), (5, .ptr (some ⟨b5, 0, 1⟩)), (7, .ptr (some ⟨b7, 0, 1⟩)), (18, .fn (.func 42) [.ptr (some ⟨g, 0, 1⟩)])]
section
variable {h : Heap} {b4 b5 b7 m y start g x fl seq ack : Nat} {s body : Txt} {L : List (Nat × Nat)}
theorem body_other (hx : x < 2) (hy : y < 2) (hxy : x ≠ y) (H : Gat h b4 b5 b7 m y start s L) :
  ∃ h', bodyY Tryz.prog (D cfg) c15_ca c15_cb (ρ15 b4 b5 b7 g) 19 [.agg (segT x fl seq ack body)] h = some (.bool true, h') ∧ Only (fun _ => False) h h' := by
 obtain ⟨h1, h2, hh1, hh2, s2, q2, n2, O2⟩ := fresh (h := h) (tup0 ++ (sg0 ++ [.str []])) (segT x fl seq ack body) 78 13 rfl rfl rfl (by omega) (by simp) (by simp)
 simp only [tup0, sg0, List.cons_append, List.nil_append] at hh1
 have t0 : aload Tryz.prog (look h2) 43 (.ptr (some ⟨h.length, 0, 13⟩)) = some (.agg (tupC x)) := ld_sub n2 rfl (by simp) (k := 5) (by simp) (by omega) rfl
 have t4 : aload Tryz.prog (look h2) 43 (.ptr (some ⟨b4, 0, 5⟩)) = some (.agg (tupC y)) := ld_all (O2.at H.tup not_false) rfl (by simp) (by simp)
 obtain ⟨e, s', a1, hq1⟩ := Aw_W (P := Tryz.prog) (F := D cfg) (k := c15_ca) (s := ⟨(ρ15 b4 b5 b7 g).put (some 19) (.agg (segT x fl seq ack body)), h⟩) (Q := fun e s' => e = .normal ∧ s' = ⟨[(4, .ptr (some ⟨b4, 0, 5⟩)), (5, .ptr (some ⟨b5, 0, 1⟩)), (7, .ptr (some ⟨b7, 0, 1⟩)), (8, .ptr (some ⟨h.length, 0, 13⟩))], h2⟩) (by
  show Wt _ _ _ _ _
  simp [c15_ca, c15_r3, zeros, ← hh1, s2, ← hh2])
 obtain ⟨rfl, rfl⟩ := hq1
 obtain ⟨e, s', a2, hq2⟩ := Aw_W (P := Tryz.prog) (F := D cfg) (k := c15_cb) (s := ⟨[(4, .ptr (some ⟨b4, 0, 5⟩)), (5, .ptr (some ⟨b5, 0, 1⟩)), (7, .ptr (some ⟨b7, 0, 1⟩)), (8, .ptr (some ⟨h.length, 0, 13⟩))], h2⟩) (Q := fun e s' => e = .normal ∧ s'.h = h2) (by
  show Wt _ _ _ _ _
  obtain ⟨rfl, rfl⟩ | ⟨rfl, rfl⟩ : (x = 0 ∧ y = 1) ∨ (x = 1 ∧ y = 0) := by omega
  all_goals
   simp [tupC, srcA, dstA, srcP, dstP] at t0 t4
   simp [c15_cb, c15_r4, t0, t4])
 obtain ⟨rfl, hs⟩ := hq2
 exact ⟨h2, by rw [bodyY_of a1 a2, hs], O2⟩
def I15 (h2 : Heap) (b4 b5 b7 m y start : Nat) (s : Txt) (L : List (Nat × Nat)) (off : Int) (i : Nat) (h : Heap) : Prop :=
 ∃ L3, Gat h b4 b5 b7 m y start s L3 ∧ (∀ k ∈ keys L, k ∈ keys L3) ∧ (∀ j, j < i → ∀ k : Nat, off + j = k → k ∈ keys L3) ∧ L3.length ≤ L.length + i ∧ Only (fun c => c = m) h2 h
theorem body_same {off : Int} (hy : y < 2) (hL : L.length ≤ 900000) (ho1 : -1 ≤ off) (ho2 : off ≤ 1000) (hb : body.length ≤ 1000) (hbody : ∀ i (hi : i < body.length), ∃ k : Nat, off + i = k ∧ k < s.length ∧ s.getD k 0 = body[i]) (hseq : (seq : Int) = (start + off) % 4294967296) (H : Gat h b4 b5 b7 m y start s L) :
  ∃ h' L', bodyY Tryz.prog (D cfg) c15_ca c15_cb (ρ15 b4 b5 b7 g) 19 [.agg (segT y fl seq ack body)] h = some (.bool true, h') ∧ Gat h' b4 b5 b7 m y start s L' ∧ (∀ k ∈ keys L, k ∈ keys L') ∧ (∀ i, i < body.length → ∀ k : Nat, off + i = k → k ∈ keys L') ∧ L'.length ≤ L.length + body.length ∧ Only (fun c => c = m) h h' := by
 obtain ⟨h1, h2, hh1, hh2, s2, q2, n2, O2⟩ := fresh (h := h) (tup0 ++ (sg0 ++ [.str []])) (segT y fl seq ack body) 78 13 rfl rfl rfl (by omega) (by simp) (by simp)
 simp only [tup0, sg0, List.cons_append, List.nil_append] at hh1
 have H2 := H.keep O2
 have t0 : aload Tryz.prog (look h2) 43 (.ptr (some ⟨h.length, 0, 13⟩)) = some (.agg (tupC y)) := ld_sub n2 rfl (by simp) (k := 5) (by simp) (by omega) rfl
 have t4 : aload Tryz.prog (look h2) 43 (.ptr (some ⟨b4, 0, 5⟩)) = some (.agg (tupC y)) := ld_all H2.tup rfl (by simp) (by simp)
 have t5 : aload Tryz.prog (look h2) 28 (.ptr (some ⟨b5, 0, 1⟩)) = some (.int .u32 start) := cell_load H2.st rfl (by simp) rfl
 have t7 : aload Tryz.prog (look h2) 73 (.ptr (some ⟨b7, 0, 1⟩)) = some (.map (some m)) := cell_load H2.ref rfl (by simp) rfl
 have tq : aload Tryz.prog (look h2) 28 (.ptr (some ⟨h.length, 7, 13⟩)) = some (.int .u32 seq) := cell_load n2 rfl (by simp) rfl
 have tb : aload Tryz.prog (look h2) 9 (.ptr (some ⟨h.length, 12, 13⟩)) = some (.str body) := cell_load n2 rfl (by simp) rfl
 obtain ⟨c, hm⟩ := H2.held
 have al : alen Tryz.prog (look h2) 73 (.map (some m)) = some (.int .i64 (L.length : Nat)) := by simp [alen, hm, heldE]
 have ep := place_big (h := h2) (start := start) (near := L.length) (off := off) (by omega) ho1 (by omega)
 rw [← hseq] at ep
 obtain ⟨e, s', a1, hq1⟩ := Aw_W (P := Tryz.prog) (F := D cfg) (k := c15_ca) (s := ⟨(ρ15 b4 b5 b7 g).put (some 19) (.agg (segT y fl seq ack body)), h⟩) (Q := fun e s' => e = .normal ∧ s' = ⟨[(4, .ptr (some ⟨b4, 0, 5⟩)), (5, .ptr (some ⟨b5, 0, 1⟩)), (7, .ptr (some ⟨b7, 0, 1⟩)), (8, .ptr (some ⟨h.length, 0, 13⟩))], h2⟩) (by
  show Wt _ _ _ _ _
  simp [c15_ca, c15_r3, zeros, ← hh1, s2, ← hh2])
 obtain ⟨rfl, rfl⟩ := hq1
 obtain ⟨e, s', a2, hq2⟩ := Aw_W (P := Tryz.prog) (F := D cfg) (k := c15_cb) (s := ⟨[(4, .ptr (some ⟨b4, 0, 5⟩)), (5, .ptr (some ⟨b5, 0, 1⟩)), (7, .ptr (some ⟨b7, 0, 1⟩)), (8, .ptr (some ⟨h.length, 0, 13⟩))], h2⟩) (Q := fun e s' => e = .normal ∧ I15 h2 b4 b5 b7 m y start s L off body.length s'.h) (by
  show Wt _ _ _ _ _
  have hne : bin Tryz.prog .neq 43 (.agg (tupC y)) (.agg (tupC y)) = some (.bool false, .no) := by
   obtain rfl | rfl : y = 0 ∨ y = 1 := by omega
   all_goals simp [tupC]
  simp [c15_cb, c15_r4, t0, t4, hne, c15_r5, t5, tq, t7, al, ep, c15_r6, tb, alen9]
  refine Wt.forP (fun i => [(7, .ptr (some ⟨b7, 0, 1⟩)), (8, .ptr (some ⟨h.length, 0, 13⟩)), (9, .int .i64 off), (33, .int .i64 (body.length : Nat)), (34, .int .i64 (i : Nat))]) (I15 h2 b4 b5 b7 m y start s L off) body.length ?_ ?_ ?_
  · rintro i h3 hi ⟨L3, G3, q1, q2, q3, O3⟩
    obtain ⟨k, hk1, hk2, hk3⟩ := hbody i hi
    obtain ⟨c3, hm3⟩ := G3.held
    have u7 : aload Tryz.prog (look h3) 73 (.ptr (some ⟨b7, 0, 1⟩)) = some (.map (some m)) := cell_load G3.ref rfl (by simp) rfl
    have v1 : IntKind.wrap .i64 (off + (i : Int)) = k := by rw [wrap_i64 (by omega) (by omega)]; omega
    have v2 := i64s (n := i) (by omega)
    have hlt : (i : Int) < (body.length : Nat) := by omega
    by_cases hkin : k ∈ keys L3
    · have hlk : alookup Tryz.prog (look h3) 73 (.map (some m)) (.int .i64 (k : Int)) true = some (.tup [byteAt s k, .bool true]) := by
       simp [alookup, hm3, shapeOf, kkOfV, find_held, hkin]
      obtain ⟨z, hz⟩ : ∃ z : Int, byteAt s k = .int .u8 z := ⟨_, rfl⟩
      rw [hz] at hlk
      have hnext : I15 h2 b4 b5 b7 m y start s L off (i + 1) h3 := by
       refine ⟨L3, G3, q1, fun j hj k' hk' => ?_, by omega, O3⟩
       by_cases e : j = i
       · subst e
         have : k' = k := by omega
         rw [this]; exact hkin
       · exact q2 j (by omega) k' hk'
      simp [c15_l7, c15_r7, hi, c15_r8, c15_r9, u7, v1, hlk, c15_r10, c15_r12, v2]
      exact hnext
    · have hlk : alookup Tryz.prog (look h3) 73 (.map (some m)) (.int .i64 (k : Int)) true = some (.tup [.int .u8 0, .bool false]) := by
       simp [alookup, hm3, shapeOf, kkOfV, find_held, hkin]
      have nb : h3[h.length]? = some (.cells (segT y fl seq ack body) 78 false) := O3.at n2 (fun e => by
       rw [e, hm] at n2; simp at n2)
      have ub : aload Tryz.prog (look h3) 9 (.ptr (some ⟨h.length, 12, 13⟩)) = some (.str body) := cell_load nb rfl (by simp) rfl
      have hix : aindex Tryz.prog 9 (.str body) (.int .i64 (i : Int)) = some (byteAt s k) := by
       rw [at9 (by omega) (c := body[i]) (by simp [hi])]; unfold byteAt; rw [hk3]
      have hup : amapUpdate Tryz.prog (look h3) 73 (.map (some m)) (.int .i64 (k : Int)) (byteAt s k) = some (.set m (.map 73 (heldE s (L3 ++ [(k, c3)])) (c3 + 1))) := by
       simp [amapUpdate, hm3, shapeOf, kkOfV, find_held, hkin, put_held]
      obtain ⟨h4, hh4⟩ : ∃ h4, h4 = h3.set m (.map 73 (heldE s (L3 ++ [(k, c3)])) (c3 + 1)) := ⟨_, rfl⟩
      have hm4 : h4[m]? = some (.map 73 (heldE s (L3 ++ [(k, c3)])) (c3 + 1)) := by rw [hh4, List.getElem?_set_self (lt_of_at hm3)]
      have O4 : Only (fun c => c = m) h3 h4 := by rw [hh4]; exact .set rfl
      have nm : ∀ {b : Nat} {cs : List AV} {t : TypeId} {g : Bool}, h3[b]? = some (.cells cs t g) → b ≠ m := fun hb e => by
       rw [e, hm3] at hb; simp at hb
      obtain ⟨z, hz⟩ : ∃ z : Int, byteAt s k = .int .u8 z := ⟨_, rfl⟩
      have hnext : I15 h2 b4 b5 b7 m y start s L off (i + 1) h4 := by
       refine ⟨L3 ++ [(k, c3)], ⟨O4.at G3.tup (nm G3.tup), O4.at G3.st (nm G3.st), O4.at G3.ref (nm G3.ref), ⟨_, hm4⟩, fun j hj => ?_⟩, fun j hj => keys_snoc.2 (.inl (q1 j hj)), fun j hj k' hk' => ?_, by simp; omega, O3.trans O4⟩
       · rcases keys_snoc.1 hj with h | rfl
         · exact G3.keys j h
         · exact hk2
       · by_cases e : j = i
         · subst e
           exact keys_snoc.2 (.inr (by omega))
         · exact keys_snoc.2 (.inl (q2 j (by omega) k' hk'))
      rw [hz] at hix hup
      have hk0 : (0 : Int) ≤ (k : Int) := by omega
      simp [c15_l7, c15_r7, hi, c15_r8, c15_r9, u7, v1, hlk, c15_r10, c15_r11, ub, hix, hup, ← hh4, c15_r12, v2]
      exact hnext
  · intro h3 hI
    simp [c15_l7, c15_r7]
    exact hI
  · exact ⟨by simp, L, H2, fun _ h => h, fun j hj => by omega, by omega, .refl⟩)
 obtain ⟨rfl, L3, G3, q1, q2, q3, O3⟩ := hq2
 exact ⟨s'.h, L3, bodyY_of a1 a2, G3, q1, q2, q3, (O2.mono fun _ _ e => e.elim).next O3 fun _ _ e => e⟩
end
end
section
def Seg1 (y start : Nat) (s : Txt) (x seq : Nat) (body : Txt) : Prop :=
 x ≠ y ∨ x = y ∧ ∃ off : Int, -1 ≤ off ∧ off ≤ 1000 ∧ (seq : Int) = (start + off) % 4294967296 ∧ ∀ i (hi : i < body.length), ∃ k : Nat, off + i = k ∧ k < s.length ∧ s.getD k 0 = body[i]
def Fine (y start : Nat) (s : Txt) : Em → Prop
 | none => True
 | some yf => ∃ x fl seq ack body, yf.2 = frB x fl seq ack body ∧ x < 2 ∧ fl < 64 ∧ seq < 4294967296 ∧ ack < 4294967296 ∧ body.length ≤ 1000 ∧ Seg1 y start s x seq body
theorem frB_inj {x fl seq ack x' fl' seq' ack' : Nat} {body body' : Txt} (hx : x < 2) (hfl : fl < 64) (hs : seq < 4294967296) (ha : ack < 4294967296) (hb : body.length ≤ 1000) (hx' : x' < 2) (hfl' : fl' < 64) (hs' : seq' < 4294967296) (ha' : ack' < 4294967296) (hb' : body'.length ≤ 1000)
  (h : frB x fl seq ack body = frB x' fl' seq' ack' body') : x = x' ∧ seq = seq' ∧ body = body' := by
 have e1 := get_run (h := []) hx hfl hs ha (show body.length ≤ 1900 by omega)
 have e2 := get_run (h := []) hx' hfl' hs' ha' (show body'.length ≤ 1900 by omega)
 rw [h] at e1
 have e3 := e1.symm.trans e2
 have e4 : segT x fl seq ack body = segT x' fl' seq' ack' body' := by
  have := congrArg (fun r => r.map (·.1)) e3
  simp at this
  exact this
 have g1 : (segT x fl seq ack body)[1]? = (segT x' fl' seq' ack' body')[1]? := by rw [e4]
 have g2 : (segT x fl seq ack body)[7]? = (segT x' fl' seq' ack' body')[7]? := by rw [e4]
 have g3 : (segT x fl seq ack body)[12]? = (segT x' fl' seq' ack' body')[12]? := by rw [e4]
 simp [segT, tupC, segC] at g1 g2 g3
 refine ⟨?_, by omega, g3⟩
 obtain rfl | rfl : x = 0 ∨ x = 1 := by omega
 all_goals obtain rfl | rfl : x' = 0 ∨ x' = 1 := by omega
 all_goals first | rfl | (simp [srcA] at g1)
section
variable {b4 b5 b7 m y start g : Nat} {s : Txt}
noncomputable abbrev Y15 (b4 b5 b7 g : Nat) : List AV → Heap → Option (AV × Heap) := bodyY Tryz.prog (D cfg) c15_ca c15_cb (ρ15 b4 b5 b7 g) 19
def I42 (h0 : Heap) (b4 b5 b7 m y start : Nat) (s : Txt) (ems : List Em) (i : Nat) (h : Heap) : Prop :=
 ∃ L, Gat h b4 b5 b7 m y start s L ∧ L.length ≤ i * 1000 ∧ Only (fun c => c = m) h0 h ∧
  (∀ j em, j < i → ems[j]? = some em → ∀ yf, em = some yf → ∀ x fl seq ack body, yf.2 = frB x fl seq ack body → x < 2 → fl < 64 → seq < 4294967296 → ack < 4294967296 → body.length ≤ 1000 → x = y → ∀ off : Int, (seq : Int) = (start + off) % 4294967296 → -1 ≤ off → off ≤ 1000 → ∀ q, q < body.length → ∀ k : Nat, off + q = k → k ∈ keys L)
theorem yield_one {h : Heap} {L : List (Nat × Nat)} {x fl seq ack : Nat} {body : Txt} (hy : y < 2) (hx : x < 2) (hb : body.length ≤ 1000) (hS : Seg1 y start s x seq body) (hL : L.length ≤ 900000) (H : Gat h b4 b5 b7 m y start s L) :
  ∃ h' L', Y15 b4 b5 b7 g [.agg (segT x fl seq ack body)] h = some (.bool true, h') ∧ Gat h' b4 b5 b7 m y start s L' ∧ (∀ k ∈ keys L, k ∈ keys L') ∧ (x = y → ∀ off : Int, -1 ≤ off → off ≤ 1000 → (seq : Int) = (start + off) % 4294967296 → ∀ q, q < body.length → ∀ k : Nat, off + q = k → k ∈ keys L') ∧ L'.length ≤ L.length + 1000 ∧ Only (fun c => c = m) h h' := by
 rcases hS with hne | ⟨rfl, off, h1, h2, h3, h4⟩
 · obtain ⟨h', e1, O1⟩ := body_other (fl := fl) (seq := seq) (ack := ack) (body := body) (g := g) hx hy hne H
   exact ⟨h', L, e1, H.keep O1, fun _ h => h, fun e => absurd e hne, by omega, O1.mono fun _ _ e => e.elim⟩
 · obtain ⟨h', L', e1, G', q1, q2, q3, O1⟩ := body_same (fl := fl) (ack := ack) (g := g) hy hL h1 h2 hb h4 h3 H
   refine ⟨h', L', e1, G', q1, fun _ off' g1 g2 g3 q hq k hk => ?_, by omega, O1⟩
   have : off' = off := by omega
   subst this
   exact q2 q hq k hk
abbrev ρ42 (l b N i : Nat) : Env := [(0, .fn (.yield l) []), (9, .sl (some ⟨b, 0, 4 * N⟩) N N), (10, .int .i64 (N : Nat)), (11, .int .i64 (i : Nat))]
def Round (b4 b5 b7 g b N : Nat) (i : Nat) (h h' : Heap) : Prop := ∀ (l : Nat) (Q : AExit → St → Prop), Wt Tryz.prog (yF (D cfg) (Y15 b4 b5 b7 g) l) c42_l1 ⟨ρ42 l b N i, h⟩ (andThen (fun s' => s' = ⟨ρ42 l b N (i + 1), h'⟩) Q)
theorem round_one {h0 h : Heap} {fl0 b N i : Nat} {t u : Txt} {ks : List Nat} {ems : List Em} (hy : y < 2) (C : Came h0 fl0 t u b ks ems) (hN : ems.length = N) (hN2 : N ≤ 300) (hi : i < N) (hF : ∀ em ∈ ems, Fine y start s em)
  (hm0 : ∀ {c : Nat} {cs : List AV} {t : TypeId} {g : Bool}, h0[c]? = some (.cells cs t g) → c ≠ m) (I : I42 h0 b4 b5 b7 m y start s ems i h) : ∃ h', Round b4 b5 b7 g b N i h h' ∧ I42 h0 b4 b5 b7 m y start s ems (i + 1) h' := by
 obtain ⟨L, G0, hL, O0, hall⟩ := I
 have hlen := C.len
 obtain ⟨e1, e2⟩ := C.out hN hi
 obtain ⟨k, hk⟩ : ∃ k, k = ks[i]'(by omega) := ⟨_, rfl⟩
 obtain ⟨em, hem⟩ : ∃ em, em = ems[i]'(by omega) := ⟨_, rfl⟩
 have hemi : ems[i]? = some em := by rw [hem]; exact List.getElem?_eq_getElem _
 have hki : ks[i]? = some k := by rw [hk]; exact List.getElem?_eq_getElem _
 rw [← hk, ← hem] at e2
 have ob := O0.at C.outs (hm0 C.outs)
 have e2' : aload Tryz.prog (look h) 70 (.ptr (some ⟨b, 4 * i, 4 * N⟩)) = some (.agg (outC k em)) := by
  have := ld_sub (off := 4 * i) (t := 70) ob (by rw [outsC_len hlen, hlen, hN, Nat.mul_comm]) (by simp) (k := 4) (by simp) (by omega) (outsC_at (by omega) (by omega))
  rw [← hk, ← hem] at this; exact this
 obtain ⟨h1, h1', hh1, hh1', s1, q1, n1, O1⟩ := fresh (h := h) [.sl none 0 0, .sl none 0 0, .int .i64 0, .int .i64 0] (outC k em) 70 4 rfl outC_len outC_all (by omega) (by simp) (by simp)
 have hlt : (i : Int) < (N : Nat) := by omega
 have v := i64s (n := i) (by omega)
 have hfine : Fine y start s em := hF em (by rw [hem]; exact List.getElem_mem _)
 cases em with
 | none =>
  have f0 : aload Tryz.prog (look h1') 68 (.ptr (some ⟨h.length, 0, 4⟩)) = some (.sl none 0 0) := cell_load n1 rfl (by simp) rfl
  refine ⟨h1', fun l Q => ?_, L, G0.keep O1, by omega, O0.next O1 fun _ _ e => e.elim, fun j em' hj hej yf hyf => ?_⟩
  · simp [c42_l1, c42_r1, hi, c42_r2, e1, e2', zeros, ← hh1, s1, ← hh1', c42_r3, f0, alen]
    refine Wt.unr 1 ?_
    simp [Unr, c42_l4, c42_r4, c42_r9, v]
  · rcases Nat.lt_or_ge j i with hj' | hj'
    · exact hall j em' hj' hej yf hyf
    · have : j = i := by omega
      subst this
      rw [hemi] at hej
      simp at hej; subst hej; simp at hyf
 | some yf =>
  obtain ⟨x, fl, seq, ack, body, hfr, hx, hfl, hsq, hack, hbl, hS⟩ := hfine
  have frk := C.frs i k yf hki hemi
  have frk1 : Fr1 h1' k yf.1 yf.2 := O1.at (O0.at frk (hm0 frk)) not_false
  have f0 : aload Tryz.prog (look h1') 68 (.ptr (some ⟨h.length, 0, 4⟩)) = some (frS k) := cell_load n1 rfl (by simp) rfl
  have fx : aindexAddr Tryz.prog 68 (frS k) (.int .i64 0) = some (.ptr (some ⟨k, 0, 2⟩)) := by simp [aindexAddr]
  have f1 : aload Tryz.prog (look h1') 102 (.ptr (some ⟨k, 0, 2⟩)) = some (.agg [.int .i64 yf.1, .str yf.2]) := ld_all frk1 rfl (by simp) (by simp)
  obtain ⟨h2, h2', hh2, hh2', s2, q2, n2, O2⟩ := fresh (h := h1') [.int .i64 0, .str []] [.int .i64 yf.1, .str yf.2] 102 2 rfl rfl rfl (by omega) (by simp) (by simp)
  have f2 : aload Tryz.prog (look h2') 9 (.ptr (some ⟨h1'.length, 1, 2⟩)) = some (.str yf.2) := cell_load n2 rfl (by simp) rfl
  have eg := get_run (h := h2') (x := x) (fl := fl) (seq := seq) (ack := ack) (body := body) hx hfl hsq hack (by omega)
  rw [← hfr] at eg
  obtain ⟨h3, hh3, O3⟩ := gro (f := 43) (args := [.str yf.2]) (h := h2')
  rw [← hh3] at eg
  obtain ⟨h4, h4', hh4, hh4', s4, q4, n4, O4⟩ := fresh (h := h3) (tup0 ++ (sg0 ++ [.str []])) (segT x fl seq ack body) 78 13 rfl rfl rfl (by omega) (by simp) (by simp)
  simp only [tup0, sg0, List.cons_append, List.nil_append] at hh4
  have O14 := ((O1.trans O2).trans O3).trans O4
  obtain ⟨h5, L', ey, G5, m1, m2, m3, O5⟩ := yield_one (fl := fl) (ack := ack) (g := g) hy hx hbl hS (by omega) (G0.keep O14)
  refine ⟨h5, fun l Q => ?_, L', G5, by omega, (O0.next O14 fun _ _ e => e.elim).trans O5, fun j em' hj hej yf' hyf x' fl' seq' ack' body' hfr' hx' hfl' hsq' hack' hbl' hxy off hs1 hs2 hs3 q hq kk hkk => ?_⟩
  · have y43 : ∀ a hh, yF (D cfg) (Y15 b4 b5 b7 g) l 43 a hh = D cfg 43 a hh := fun a hh => yF_func (by omega)
    have yy : yF (D cfg) (Y15 b4 b5 b7 g) l (1000000000 + l) [.agg (segT x fl seq ack body)] h4' = some (.bool true, h5) := by rw [yF_yield]; exact ey
    have w1 : IntKind.wrap .i64 1 = 1 := rfl
    simp [c42_l1, c42_r1, hi, c42_r2, e1, e2', zeros, ← hh1, s1, ← hh1', c42_r3, f0, alen]
    refine Wt.unr 2 ?_
    simp [Unr, c42_l4, c42_r4, c42_r5, fx, f1, zeros, ← hh2, s2, ← hh2', c42_r6, f2, y43, eg, ← hh4, s4, ← hh4', c42_r7, q4, callV_yield, yy, c42_r8, w1, c42_r9, v]
  · rcases Nat.lt_or_ge j i with hj' | hj'
    · exact m1 kk (hall j em' hj' hej yf' hyf x' fl' seq' ack' body' hfr' hx' hfl' hsq' hack' hbl' hxy off hs1 hs2 hs3 q hq kk hkk)
    · have : j = i := by omega
      subst this
      rw [hemi] at hej
      simp at hej; subst hej; simp at hyf; subst hyf
      obtain ⟨rfl, rfl, rfl⟩ := frB_inj hx hfl hsq hack hbl hx' hfl' hsq' hack' hbl' (hfr.symm.trans hfr')
      exact m2 hxy off hs2 hs3 hs1 q hq kk hkk
end
end
section
section
variable {y start m : Nat} {s : Txt} {L : List (Nat × Nat)}
def Inv15 (h0 : Heap) (b7 m : Nat) (s : Txt) (L : List (Nat × Nat)) (M : Nat) (σ : St) : Prop :=
 ∃ h j b, M = s.length - j ∧ j ≤ s.length ∧ σ = ⟨[(7, .ptr (some ⟨b7, 0, 1⟩)), (13, bufSl b j (byteCells (s.take j)))], h⟩ ∧ Buf 5 1 h0.length (byteCells (s.take j)) j b h ∧ Only (fun _ => False) h0 h
theorem gather {h0 : Heap} {b7 c : Nat} (hr : h0[b7]? = some (.cells [.map (some m)] 73 false)) (hm : h0[m]? = some (.map 73 (heldE s L) c)) (hall : ∀ k, k < s.length → k ∈ keys L) (hkeys : ∀ k ∈ keys L, k < s.length) (hs : s.length ≤ 1000) {ρ : Env} (hρ : ρ.get 7 = some (.ptr (some ⟨b7, 0, 1⟩))) :
  ∃ h', Aw Tryz.prog (D cfg) c15_s0 ⟨ρ, h0⟩ = some (.ret, ⟨[(6, .str s)], h'⟩) ∧ Only (fun _ => False) h0 h' := by
 obtain ⟨e, s', a1, rfl, h', rfl, O⟩ := Aw_W (P := Tryz.prog) (F := D cfg) (k := c15_s0) (s := ⟨ρ, h0⟩) (Q := fun e s' => e = .ret ∧ ∃ h', s' = ⟨[(6, .str s)], h'⟩ ∧ Only (fun _ => False) h0 h') (by
  show Wt _ _ _ _ _
  simp [c15_s0, c15_r13, hρ]
  refine Wt.loop (Inv15 h0 b7 m s L) (m := s.length) ⟨h0, 0, 0, rfl, by omega, by simp [bufSl], by simp; exact .zero, .refl⟩ ?_
  rintro M σ ⟨h, j, b, rfl, hj, rfl, B, O⟩
  have hr1 := O.at hr not_false
  have hm1 := O.at hm not_false
  have u7 : aload Tryz.prog (look h) 73 (.ptr (some ⟨b7, 0, 1⟩)) = some (.map (some m)) := cell_load hr1 rfl (by simp) rfl
  have hlen : alen Tryz.prog (look h) 54 (bufSl b j (byteCells (s.take j))) = some (.int .i64 j) := bufSl_len (e := 5) (by simp)
  by_cases hlt : j < s.length
  · have hlk : alookup Tryz.prog (look h) 73 (.map (some m)) (.int .i64 (j : Int)) true = some (.tup [byteAt s j, .bool true]) := by
     simp [alookup, hm1, shapeOf, kkOfV, find_held, hall j hlt]
    obtain ⟨δ, h3, b', q1, q2, B3, O3⟩ := B.step (t := 54) (by simp) (by simp) (by omega) (by simp) (by simp) O.1 (by omega) (ys := [byteAt s j]) rfl
    have e5 : s.take (j + 1) = s.take j ++ [s.getD j 0] := by
     rw [List.take_succ_eq_append_getElem hlt, List.getD_eq_getElem?_getD, List.getElem?_eq_getElem hlt]; rfl
    have e6 : byteCells (s.take j) ++ [byteAt s j] = byteCells (s.take (j + 1)) := by rw [e5, byteCells_app]; rfl
    rw [e6] at q1 B3
    obtain ⟨z, hz⟩ : ∃ z : Int, byteAt s j = .int .u8 z := ⟨_, rfl⟩
    rw [hz] at hlk q1 q2
    have hnext : Inv15 h0 b7 m s L (s.length - (j + 1)) ⟨[(7, .ptr (some ⟨b7, 0, 1⟩)), (13, bufSl b' (j + 1) (byteCells (s.take (j + 1))))], h3⟩ :=
     ⟨h3, j + 1, b', rfl, by omega, rfl, B3, O.next O3 fun c h1 h2 => by omega⟩
    simp [c15_l14, c15_r14, u7, hlen, hlk, c15_r15, c15_r17, abuildSlice, afill, zeros, q1, q2, bufSl_one, bufSl_notTup, bufSl_cells]
    exact ⟨_, by omega, hnext⟩
  · have hje : j = s.length := by omega
    subst hje
    have hlk : alookup Tryz.prog (look h) 73 (.map (some m)) (.int .i64 (s.length : Int)) true = some (.tup [.int .u8 0, .bool false]) := by
     have : s.length ∉ keys L := fun h => by have := hkeys _ h; omega
     simp [alookup, hm1, shapeOf, kkOfV, find_held, this]
    rw [List.take_length] at B hlen ⊢
    have cv := B.bytes
    simp [c15_l14, c15_r14, u7, hlen, hlk, c15_r15, c15_r16, cv, bufSl_notTup]
    exact O)
 exact ⟨h', a1, O⟩
end
end
section
section
variable {h : Heap} {y start fl0 b N : Nat} {s t u : Txt} {ks : List Nat} {ems : List Em}
theorem segs_run {v : AV} (hv : v.one = true) (hvc : v.cells = [v]) : D cfg 24 [v] h = some (.fn (.func 42) [.ptr (some ⟨h.length, 0, 1⟩)], h ++ [.cells [v] 33 false]) := by
 refine D_eq (call24 (by simp) ?_)
 simp [c24, c24_r0, c24_r1, hv, hvc, -AV.one, -AV.cells]
theorem payload_run (hy : y < 2) (hst : start < 4294966000) (hs1 : 1 ≤ start) (hsl : s.length ≤ 1000) (hN : ems.length = N) (hN2 : N ≤ 300) (C : Came h fl0 t u b ks ems) (hF : ∀ em ∈ ems, Fine y start s em)
  (hc : ∀ k, k < s.length → ∃ yf fl ack f to, some yf ∈ ems ∧ yf.2 = frB y fl ((start + f) % 4294967296) ack ((s.drop f).take (to - f)) ∧ fl < 64 ∧ ack < 4294967296 ∧ f ≤ k ∧ k < to ∧ to ≤ s.length) :
  ∃ h', D cfg1 15 [.sl (some ⟨b, 0, 4 * N⟩) N N, .agg (tupC y), .int .u32 start] h = some (.str s, h') ∧ Only (fun _ => False) h h' := by
 obtain ⟨h1, hh1⟩ : ∃ h1, h1 = h ++ [AObj.cells (tupC y) 43 false, .cells [.int .u32 start] 28 false] := ⟨_, rfl⟩
 have O1 : Only (fun _ => False) h h1 := by rw [hh1]; exact .app
 have k1 : h1.length = h.length + 2 := by rw [hh1]; simp
 have n4 : h1[h.length]? = some (.cells (tupC y) 43 false) := by rw [hh1]; simp
 have n5 : h1[h.length + 1]? = some (.cells [.int .u32 start] 28 false) := by rw [hh1]; simp
 obtain ⟨h2, hh2⟩ : ∃ h2, h2 = h1 ++ [AObj.map 73 [] 0, .cells [.map none] 73 false] := ⟨_, rfl⟩
 have O2 : Only (fun _ => False) h1 h2 := by rw [hh2]; exact .app
 have k2 : h2.length = h1.length + 2 := by rw [hh2]; simp
 have nm : h2[h1.length]? = some (.map 73 [] 0) := by rw [hh2]; simp
 have n7 : h2[h1.length + 1]? = some (.cells [.map none] 73 false) := by rw [hh2]; simp
 obtain ⟨h3, hh3, s3, n7', O3⟩ := st1 (off := 0) (v := .map (some h1.length)) (us := [.map (some h1.length)]) n7 73 1 rfl (by simp) rfl (by omega) rfl
 have k3 : h3.length = h2.length := by rw [hh3]; simp
 obtain ⟨h4, hh4, n9, k4, O4⟩ := app1 (h := h3) (.cells [.sl (some ⟨b, 0, 4 * N⟩) N N] 33 false)
 have O34 : Only (fun c => c = h1.length + 1) h2 h4 := O3.next O4 fun _ _ e => e.elim
 have O14 : Only (fun _ => False) h h4 := (O1.trans O2).next O34 fun c h1 e => by omega
 have C4 := C.keep O14
 have m4 := O34.at nm (by omega)
 have G4 : Gat h4 h.length (h.length + 1) (h1.length + 1) h1.length y start s [] := ⟨O34.at (O2.at n4 not_false) (by omega), O34.at (O2.at n5 not_false) (by omega), O4.at n7' not_false, ⟨0, m4⟩, by simp [keys]⟩
 have hm0 : ∀ {c : Nat} {cs : List AV} {t : TypeId} {g : Bool}, h4[c]? = some (.cells cs t g) → c ≠ h1.length := fun hb e => by
  rw [e, m4] at hb; simp at hb
 obtain ⟨hs, hs0, hR, hI⟩ := chain (N := N) (I := I42 h4 h.length (h.length + 1) (h1.length + 1) h1.length y start s ems) (R := Round h.length (h.length + 1) (h1.length + 1) h3.length b N) (h0 := h4)
  ⟨[], G4, by simp, .refl, fun j em hj => by omega⟩ (fun i h' hi I => round_one hy C4 hN hN2 hi hF hm0 I)
 obtain ⟨L, GN, _, ON, hall⟩ := hI N (Nat.le_refl _)
 have kall : ∀ k, k < s.length → k ∈ keys L := fun k hk => by
  obtain ⟨yf, fl, ack, f, to, he, hyf, hfl, hack, h1', h2', h3'⟩ := hc k hk
  obtain ⟨j, hj, hej⟩ := List.getElem_of_mem he
  have hej' : ems[j]? = some (some yf) := by rw [List.getElem?_eq_getElem hj, hej]
  have hbl : ((s.drop f).take (to - f)).length = to - f := by simp; omega
  exact hall j _ (by omega) hej' yf rfl y fl _ ack _ hyf hy hfl (by omega) hack (by omega) rfl (f : Int) (by omega) (by omega) (by omega) (k - f) (by omega) k (by omega)
 obtain ⟨cN, mN⟩ := GN.held
 obtain ⟨e0, s', a0, q0⟩ := Aw_W (P := Tryz.prog) (F := D cfg) (k := c15_p0) (s := ⟨argsEnv 0 [.sl (some ⟨b, 0, 4 * N⟩) N N, .agg (tupC y), .int .u32 start], h⟩) (Q := fun e s' => e = .normal ∧ s' = ⟨[(0, .sl (some ⟨b, 0, 4 * N⟩) N N), (4, .ptr (some ⟨h.length, 0, 5⟩)), (5, .ptr (some ⟨h.length + 1, 0, 1⟩))], h1⟩) (by
  show Wt _ _ _ _ _
  simp [c15_p0, c15_r0, ← hh1])
 obtain ⟨rfl, rfl⟩ := q0
 obtain ⟨e1, s', a1, q1⟩ := Aw_W (P := Tryz.prog) (F := D cfg) (k := c15_p1) (s := ⟨[(0, .sl (some ⟨b, 0, 4 * N⟩) N N), (4, .ptr (some ⟨h.length, 0, 5⟩)), (5, .ptr (some ⟨h.length + 1, 0, 1⟩))], h1⟩) (Q := fun e s' => e = .normal ∧ s' = ⟨[(0, .sl (some ⟨b, 0, 4 * N⟩) N N), (4, .ptr (some ⟨h.length, 0, 5⟩)), (5, .ptr (some ⟨h.length + 1, 0, 1⟩)), (7, .ptr (some ⟨h1.length + 1, 0, 1⟩))], h3⟩) (by
  show Wt _ _ _ _ _
  simp [c15_p1, c15_r1, op_makeMap (P := Tryz.prog) (t := 73) (kt := 3) (et := 5) (by simp) (by simp), zeros, ← hh2, s3, ← hh3])
 obtain ⟨rfl, rfl⟩ := q1
 have eseg := segs_run (h := h3) (v := .sl (some ⟨b, 0, 4 * N⟩) N N) rfl rfl
 rw [← hh4] at eseg
 obtain ⟨e2, s', a2, q2⟩ := Aw_W (P := Tryz.prog) (F := D cfg) (k := c15_p2) (s := ⟨[(0, .sl (some ⟨b, 0, 4 * N⟩) N N), (4, .ptr (some ⟨h.length, 0, 5⟩)), (5, .ptr (some ⟨h.length + 1, 0, 1⟩)), (7, .ptr (some ⟨h1.length + 1, 0, 1⟩))], h3⟩) (Q := fun e s' => e = .normal ∧ s' = ⟨ρ15 h.length (h.length + 1) (h1.length + 1) h3.length, h4⟩) (by
  show Wt _ _ _ _ _
  simp [c15_p2, c15_r2, eseg])
 obtain ⟨rfl, rfl⟩ := q2
 have hpr : preRun Tryz.prog (D cfg) [c15_p0, c15_p1, c15_p2] ⟨argsEnv 0 [.sl (some ⟨b, 0, 4 * N⟩) N N, .agg (tupC y), .int .u32 start], h⟩ = some ⟨ρ15 h.length (h.length + 1) (h1.length + 1) h3.length, h4⟩ := by
  simp only [preRun, a0, a1, a2]
 have l9 : aload Tryz.prog (look h4) 33 (.ptr (some ⟨h3.length, 0, 1⟩)) = some (.sl (some ⟨b, 0, 4 * N⟩) N N) := cell_load n9 rfl (by simp) rfl
 have hrun : ∀ l, rangeRun Tryz.prog (D cfg) 42 37 c42 c15_ca c15_cb 18 19 l ⟨ρ15 h.length (h.length + 1) (h1.length + 1) h3.length, h4⟩ = some (hs N) := by
  intro l
  obtain ⟨e, s', ar, hr⟩ := Aw_W (P := Tryz.prog) (F := yF (D cfg) (Y15 h.length (h.length + 1) (h1.length + 1) h3.length) l) (k := c42) (s := ⟨argsEnv 0 [.fn (.yield l) [], .ptr (some ⟨h3.length, 0, 1⟩)], h4⟩) (Q := fun e s' => e = .normal ∧ s'.h = hs N) (by
   show Wt _ _ _ _ _
   simp [c42, c42_r0, l9, alen]
   refine Wt.for (fun i => ⟨ρ42 l b N i, hs i⟩) N (fun i hi => ?_) ?_ ?_
   · have := hR i hi l
     simp
     exact this _
   · simp [c42_l1, c42_r1]
   · simp [hs0])
  obtain ⟨rfl, hse⟩ := hr
  simp at ar
  simp [rangeRun, Env.get, ar, hse]
 obtain ⟨h', aS, OS⟩ := gather (ρ := ρ15 h.length (h.length + 1) (h1.length + 1) h3.length) GN.ref mN kall GN.keys hsl rfl
 refine ⟨h', call15 (rfExt_of (by rw [c15_nt]; simp) hpr hrun ?_), ?_⟩
 · rw [aS]
   simp [afinish, c15_rs, aresultL, Env.get, pack]
 · exact ((O14.next ON fun c h1 e => by omega).next OS fun _ _ e => e.elim)
end
end
section
section
variable {h : Heap}
theorem place8_run {v : Int} {n : Nat} (h1 : -9223372036854775808 ≤ v) (h2 : v ≤ 9223372036854775807) (hn : 0 < n) (hn2 : n ≤ 1099511627776) : ∃ r : Nat, r < n ∧ ∀ h, D cfg 8 [.int .i64 v, .int .i64 n] h = some (.int .i64 r, h) := by
 have hb : v.tmod n < n ∧ -(n : Int) < v.tmod n := by
  rcases Int.le_total 0 v with hv | hv
  · rw [Int.tmod_eq_emod_of_nonneg hv]
    have := Int.emod_lt_of_pos v (show (0 : Int) < n by omega)
    have := Int.emod_nonneg v (show (n : Int) ≠ 0 by omega)
    omega
  · have e : v.tmod n = -((-v).tmod n) := by rw [Int.neg_tmod]; omega
    rw [e, Int.tmod_eq_emod_of_nonneg (by omega)]
    have := Int.emod_lt_of_pos (-v) (show (0 : Int) < n by omega)
    have := Int.emod_nonneg (-v) (show (n : Int) ≠ 0 by omega)
    omega
 have hw : IntKind.wrap .i64 (v.tmod n) = v.tmod n := wrap_i64 (by omega) (by omega)
 have hrm : abin (.int .i64) .rem (.int .i64 v) (.int .i64 n) = some (.int .i64 (v.tmod n)) := by
  have : ¬ (n : Int) = 0 := by omega
  simp [abin, hw, this]
  try omega
 by_cases hneg : v.tmod n < 0
 · refine ⟨(v.tmod n + n).toNat, by omega, fun h => D_eq (call8 (by simp) ?_)⟩
   have hw2 : IntKind.wrap .i64 (v.tmod n + n) = v.tmod n + n := wrap_i64 (by omega) (by omega)
   have hc : ((v.tmod n + n).toNat : Int) = v.tmod n + n := by omega
   simp [c8, c8_r0, c8_r1, hrm, c8_r2, hneg, c8_r3, hw2, c8_r4]
   omega
 · refine ⟨(v.tmod n).toNat, by omega, fun h => D_eq (call8 (by simp) ?_)⟩
   have hc : ((v.tmod n).toNat : Int) = v.tmod n := by omega
   simp [c8, c8_r0, c8_r1, hrm, c8_r2, hneg, c8_r4]
   omega
theorem wide_run : D cfg 13 [] h = some (.agg confC, G 13 [] h) := by
 refine G_of (call13 (by simp) ?_)
 simp [c13, c13_r0, c13_r1, zeros, abuild, afill, astore, splice, aload, row, confC]
theorem tuple_run : D cfg 14 [.int .i64 0] h = some (.agg (tupC 0), G 14 [.int .i64 0] h) := by
 refine G_of (call14 (by simp) ?_)
 have w : IntKind.wrap .i64 1000 = 1000 := rfl
 simp [c14, c14_r0, c14_r1, zeros, abuild, afill, astore, splice, aload, row, tupC, srcA, dstA, srcP, dstP, w]
theorem hello_run : ∃ h' b, D cfg 9 [.int .i64 0, .int .u32 100] h = some (.sl (some ⟨b, 0, 9⟩) 3 3, h') ∧ h'[b]? = some (.cells (opsC helloO) 32 true) ∧ h.length ≤ b ∧ Only (fun _ => False) h h' := by
 obtain ⟨f0, hf0⟩ : ∃ f0, f0 = frB 0 2 100 0 [] := ⟨_, rfl⟩
 obtain ⟨f1, hf1⟩ : ∃ f1, f1 = frB 1 18 5000 101 [] := ⟨_, rfl⟩
 obtain ⟨f2, hf2⟩ : ∃ f2, f2 = frB 0 16 101 5001 [] := ⟨_, rfl⟩
 have e0 := seg_run (h := h) (x := 0) (fl := 2) (seq := 100) (ack := 0) (body := []) (by omega) (by omega) (by omega) (by omega) (by simp)
 obtain ⟨h1, hh1, O1⟩ := gro (f := 11) (args := [.int .i64 (0 : Nat), .int .i64 0, .int .i64 (2 : Nat), .int .u32 (100 : Nat), .int .u32 (0 : Nat), .str []]) (h := h)
 rw [← hh1, ← hf0] at e0
 have e1 := seg_run (h := h1) (x := 1) (fl := 18) (seq := 5000) (ack := 101) (body := []) (by omega) (by omega) (by omega) (by omega) (by simp)
 obtain ⟨h2, hh2, O2⟩ := gro (f := 11) (args := [.int .i64 (1 : Nat), .int .i64 0, .int .i64 (18 : Nat), .int .u32 (5000 : Nat), .int .u32 (101 : Nat), .str []]) (h := h1)
 rw [← hh2, ← hf1] at e1
 have e2 := seg_run (h := h2) (x := 0) (fl := 16) (seq := 101) (ack := 5001) (body := []) (by omega) (by omega) (by omega) (by omega) (by simp)
 obtain ⟨h3, hh3, O3⟩ := gro (f := 11) (args := [.int .i64 (0 : Nat), .int .i64 0, .int .i64 (16 : Nat), .int .u32 (101 : Nat), .int .u32 (5001 : Nat), .str []]) (h := h2)
 rw [← hh3, ← hf2] at e2
 simp at e0 e1 e2
 have w : IntKind.wrap .u32 101 = 101 := rfl
 have ho : opsC helloO = [.int .i64 1, .int .i64 0, .str f0, .int .i64 1, .int .i64 1, .str f1, .int .i64 1, .int .i64 0, .str f2] := by rw [hf0, hf1, hf2]; rfl
 obtain ⟨h4, hh4, n4, k4, O4⟩ := app1 (h := h3) (.cells (opsC helloO) 32 true)
 rw [ho] at hh4
 obtain ⟨r, h', q1, q2⟩ : ∃ r h', D cfg 9 [.int .i64 0, .int .u32 100] h = some (r, h') ∧ (r = .sl (some ⟨h3.length, 0, 9⟩) 3 3 ∧ h' = h4) := by
  refine call9 (by simp) ?_
  simp [c9, c9_r0, c9_r1, e0, abuild, afill, zeros, w, e1, e2, abuildSlice, splice, ← hh4]
 obtain ⟨rfl, rfl⟩ := q2
 exact ⟨_, _, q1, n4, by have := (O1.trans O2).trans O3 |>.1; omega, ((O1.trans O2).trans O3).trans O4⟩
end
end
section
theorem sub_at {s : Txt} {f t i : Nat} (ht : t ≤ s.length) (hi : i < ((s.drop f).take (t - f)).length) : s.getD (f + i) 0 = ((s.drop f).take (t - f))[i] := by
 have hl : i < t - f := by simp at hi; omega
 have hf : f + i < s.length := by omega
 rw [List.getElem_take, List.getElem_drop, List.getD_eq_getElem?_getD, List.getElem?_eq_getElem hf]; rfl
section
variable {fl0 : Nat} {s u : Txt} {em : Em}
theorem fine0 (hfl : fl0 = 16 ∨ fl0 = 24) (hs : s.length ≤ 1000) (hu : u.length ≤ 1000) (H : Good fl0 s u em) : Fine 0 101 s em := by
 cases em with
 | none => trivial
 | some yf =>
  rcases H with rfl | rfl | rfl | ⟨f, t, h1, h2, rfl⟩ | ⟨f, t, h1, h2, rfl⟩
  · exact ⟨0, 2, 100, 0, [], rfl, by omega, by omega, by omega, by omega, by simp, .inr ⟨rfl, -1, by omega, by omega, by omega, fun i hi => by simp at hi⟩⟩
  · exact ⟨1, 18, 5000, 101, [], rfl, by omega, by omega, by omega, by omega, by simp, .inl (by omega)⟩
  · exact ⟨0, 16, 101, 5001, [], rfl, by omega, by omega, by omega, by omega, by simp, .inr ⟨rfl, 0, by omega, by omega, by omega, fun i hi => by simp at hi⟩⟩
  · refine ⟨0, fl0, (101 + f) % 4294967296, 5001, (s.drop f).take (t - f), rfl, by omega, by omega, by omega, by omega, by simp; omega, .inr ⟨rfl, f, by omega, by omega, by omega, fun i hi => ⟨f + i, by omega, ?_, sub_at h2 hi⟩⟩⟩
    simp at hi; omega
  · exact ⟨1, 16, (5001 + f) % 4294967296, 101, (u.drop f).take (t - f), rfl, by omega, by omega, by omega, by omega, by simp; omega, .inl (by omega)⟩
theorem fine1 (hfl : fl0 = 16 ∨ fl0 = 24) (hs : s.length ≤ 1000) (hu : u.length ≤ 1000) (H : Good fl0 s u em) : Fine 1 5001 u em := by
 cases em with
 | none => trivial
 | some yf =>
  rcases H with rfl | rfl | rfl | ⟨f, t, h1, h2, rfl⟩ | ⟨f, t, h1, h2, rfl⟩
  · exact ⟨0, 2, 100, 0, [], rfl, by omega, by omega, by omega, by omega, by simp, .inl (by omega)⟩
  · exact ⟨1, 18, 5000, 101, [], rfl, by omega, by omega, by omega, by omega, by simp, .inr ⟨rfl, -1, by omega, by omega, by omega, fun i hi => by simp at hi⟩⟩
  · exact ⟨0, 16, 101, 5001, [], rfl, by omega, by omega, by omega, by omega, by simp, .inl (by omega)⟩
  · exact ⟨0, fl0, (101 + f) % 4294967296, 5001, (s.drop f).take (t - f), rfl, by omega, by omega, by omega, by omega, by simp; omega, .inl (by omega)⟩
  · refine ⟨1, 16, (5001 + f) % 4294967296, 101, (u.drop f).take (t - f), rfl, by omega, by omega, by omega, by omega, by simp; omega, .inr ⟨rfl, f, by omega, by omega, by omega, fun i hi => ⟨f + i, by omega, ?_, sub_at h2 hi⟩⟩⟩
    simp at hi; omega
end
section
variable {h : Heap} {fl0 b N : Nat} {s u : Txt} {ks : List Nat} {ems : List Em}
theorem payload0 (hfl : fl0 = 16 ∨ fl0 = 24) (hs : s.length ≤ 1000) (hu : u.length ≤ 1000) (hN : ems.length = N) (hN2 : N ≤ 300) (C : Came h fl0 s u b ks ems) : ∃ h', D cfg1 15 [.sl (some ⟨b, 0, 4 * N⟩) N N, .agg (tupC 0), .int .u32 101] h = some (.str s, h') ∧ Only (fun _ => False) h h' :=
 payload_run (y := 0) (start := 101) (by omega) (by omega) (by omega) hs hN hN2 C (fun em he => fine0 hfl hs hu (C.good em he)) fun k hk =>
  let ⟨f, t, h1, h2, h3, h4⟩ := C.cov0 k hk; ⟨_, fl0, 5001, f, t, h4, rfl, by omega, by omega, h1, h2, h3⟩
theorem payload1 (hfl : fl0 = 16 ∨ fl0 = 24) (hs : s.length ≤ 1000) (hu : u.length ≤ 1000) (hN : ems.length = N) (hN2 : N ≤ 300) (C : Came h fl0 s u b ks ems) : ∃ h', D cfg1 15 [.sl (some ⟨b, 0, 4 * N⟩) N N, .agg (tupC 1), .int .u32 5001] h = some (.str u, h') ∧ Only (fun _ => False) h h' :=
 payload_run (y := 1) (start := 5001) (by omega) (by omega) (by omega) hu hN hN2 C (fun em he => fine1 hfl hs hu (C.good em he)) fun k hk =>
  let ⟨f, t, h1, h2, h3, h4⟩ := C.cov1 k hk; ⟨_, 16, 101, f, t, h4, rfl, by omega, by omega, h1, h2, h3⟩
end
end
section
section
variable {h : Heap} {n : Nat} {v : AV} {l : List Int}
def Inv7 (h0 : Heap) (v : AV) (n M : Nat) (σ : St) : Prop :=
 ∃ h i b txt, M = n - i ∧ i ≤ n ∧ σ = ⟨[(0, v), (1, .int .i64 (n : Nat)), (5, bufSl b i (byteCells txt)), (6, .int .i64 (i : Nat))], h⟩ ∧ txt.length = i ∧ Buf 5 1 h0.length (byteCells txt) i b h ∧ Only (fun _ => False) h0 h
theorem letter_at {q : Nat} (hq : q < 4) : ∃ c : UInt8, aindex Tryz.prog 9 (.str [97, 98, 99, 65]) (.int .i64 (q : Int)) = some (.int .u8 (c.toNat : Nat)) := by
 have hl : q < ([97, 98, 99, 65] : Txt).length := hq
 exact ⟨([97, 98, 99, 65] : Txt)[q], at9 (by omega) (by simp [hl])⟩
theorem letters_run (hv1 : v.one = true) (H : Sl1 h v (intCells l)) (hl : ∀ x ∈ l, -9223372036854775808 ≤ x ∧ x ≤ 9223372036854775807) (hn : n ≤ 60) (hll : l.length ≤ 1000) :
  ∃ s h', s.length ≤ n ∧ D cfg 7 [v, .int .i64 n] h = some (.str s, h') ∧ Only (fun _ => False) h h' := by
 obtain ⟨r, h', e1, s, rfl, hs, O⟩ : ∃ r h', D cfg 7 [v, .int .i64 n] h = some (r, h') ∧ (∃ s : Txt, r = .str s ∧ s.length ≤ n ∧ Only (fun _ => False) h h') := by
  refine call7 (by simp) ?_
  simp [c7, c7_r0, c7_r1, c7_r2]
  refine Wt.loop (Inv7 h v n) (m := n) ⟨h, 0, 0, [], rfl, by omega, by simp [bufSl], rfl, .zero, .refl⟩ ?_
  rintro M σ ⟨h1, i, b, txt, rfl, hi, rfl, ht, B, O⟩
  have H1 := H.grow (O.grow fun c hc => hc.elim)
  have al : alen Tryz.prog (look h1) 22 v = some (.int .i64 (l.length : Nat)) := by rw [H1.len (e := 3) (by simp), intCells_len]
  have hend : Ends Tryz.prog [.tmp 4] (fun r h' => ∃ s : Txt, r = .str s ∧ s.length ≤ n ∧ Only (fun _ => False) h h') .ret ⟨[(4, .str txt)], h1⟩ := by
   simp
   exact ⟨by omega, O⟩
  have cv := B.bytes
  by_cases hlt : i < n
  · by_cases h0 : 0 < l.length
    · have hmod : i % l.length < (intCells l).length := by rw [intCells_len]; exact Nat.mod_lt _ h0
      have hat := H1.at (t := 22) (e := 3) (by simp) (by simp) hmod
      have hld := H1.load (e := 3) (by simp) hmod
      rw [intCells_get] at hld
      obtain ⟨x, hx⟩ : ∃ x, x = l[i % l.length]'(by simpa [intCells_len] using hmod) := ⟨_, rfl⟩
      rw [← hx] at hld
      have hxb := hl x (by rw [hx]; exact List.getElem_mem _)
      obtain ⟨r1, hr1, p1⟩ := place8_run (n := 1073741824) hxb.1 hxb.2 (by omega) (by omega)
      have hml := Nat.mod_le i l.length
      have hsq : i * i ≤ 3600 := Nat.le_trans (Nat.mul_le_mul (by omega : i ≤ 60) (by omega : i ≤ 60)) (by omega)
      obtain ⟨z, hz⟩ : ∃ z, z = i * i := ⟨_, rfl⟩
      have hz2 : z ≤ 3600 := by rw [hz]; exact hsq
      have hne : l ≠ [] := fun e => by rw [e] at h0; simp at h0
      replace p1 : ∀ h, D cfg 8 [.int .i64 x, .int .i64 1073741824] h = some (.int .i64 r1, h) := p1
      obtain ⟨r2, hr2, p2⟩ := place8_run (v := ((r1 + z / 3 : Nat) : Int)) (n := 4) (by omega) (by omega) (by omega) (by omega)
      obtain ⟨c, hc⟩ := letter_at hr2
      replace p2 : ∀ h, D cfg 8 [.int .i64 (r1 + z / 3 : Nat), .int .i64 4] h = some (.int .i64 r2, h) := p2
      have hrem : abin (.int .i64) .rem (.int .i64 (i : Int)) (.int .i64 (l.length : Nat)) = some (.int .i64 (i % l.length : Nat)) := by
       have ht : (i : Int).tmod (l.length : Nat) = (i % l.length : Nat) := by rw [Int.tmod_eq_emod_of_nonneg (by omega)]; omega
       have hw : IntKind.wrap .i64 ((i % l.length : Nat) : Int) = (i % l.length : Nat) := wrap_i64 (by omega) (by omega)
       have : ¬ ((l.length : Nat) : Int) = 0 := by omega
       simp [abin, ht, hw, this, hne, -Int.natCast_emod]
      have w1 : IntKind.wrap .i64 ((i : Int) * i) = (z : Nat) := by
       have : ((i : Int) * i) = (z : Nat) := by rw [hz]; simp
       rw [this, wrap_i64 (by omega) (by omega)]
      have hquo : abin (.int .i64) .quo (.int .i64 (z : Int)) (.int .i64 3) = some (.int .i64 (z / 3 : Nat)) := by
       have ht : (z : Int).tdiv 3 = (z / 3 : Nat) := by rw [Int.tdiv_eq_ediv_of_nonneg (by omega)]; omega
       have hw : IntKind.wrap .i64 ((z / 3 : Nat) : Int) = (z / 3 : Nat) := wrap_i64 (by omega) (by omega)
       simp [abin, ht, hw, -Int.natCast_ediv]
      have w2 : IntKind.wrap .i64 ((r1 : Int) + (z / 3 : Nat)) = (r1 + z / 3 : Nat) := by rw [wrap_i64 (by omega) (by omega)]; omega
      obtain ⟨δ, h3, b', g1, g2, B3, O3⟩ := B.step (t := 54) (by simp) (by simp) (by omega) (by simp) (by simp) O.1 (by omega) (ys := [.int .u8 (c.toNat : Nat)]) rfl
      have e6 : byteCells txt ++ [.int .u8 (c.toNat : Nat)] = byteCells (txt ++ [c]) := by rw [byteCells_app]; rfl
      rw [e6] at g1 B3
      have v2 := i64s (n := i) (by omega)
      have hnext : Inv7 h v n (n - (i + 1)) ⟨[(0, v), (1, .int .i64 (n : Nat)), (5, bufSl b' (i + 1) (byteCells (txt ++ [c]))), (6, .int .i64 (i + 1 : Nat))], h3⟩ :=
       ⟨h3, i + 1, b', txt ++ [c], rfl, by omega, rfl, by simp [ht], B3, O.next O3 fun c h1 h2 => by omega⟩
      simp [c7_l3, c7_r3, hlt, al, h0, c7_r5, hrem, hat, hld, p1, w1, hquo, w2, p2, hc, abuildSlice, afill, zeros, g1, g2, bufSl_one, bufSl_notTup, bufSl_cells, c7_r4, v2, -Int.natCast_emod, -Int.natCast_ediv, -Int.natCast_add]
      exact ⟨_, by omega, hnext⟩
    · have hl0 : l.length = 0 := by omega
      simp [c7_l3, c7_r3, hlt, al, hl0, c7_r6, cv, bufSl_notTup]
      exact ⟨by omega, O⟩
  · simp [c7_l3, c7_r3, hlt, c7_r6, cv, bufSl_notTup]
    exact ⟨by omega, O⟩
 exact ⟨s, h', hs, e1, O⟩
end
end
theorem a_remN {a b : Nat} (hb : 0 < b) (ha : a ≤ 9223372036854775807) : abin (.int .i64) .rem (.int .i64 (a : Int)) (.int .i64 (b : Int)) = some (.int .i64 ((a % b : Nat) : Int)) := by
 have hml := Nat.mod_le a b
 have ht : (a : Int).tmod b = ((a % b : Nat) : Int) := by rw [Int.tmod_eq_emod_of_nonneg (by omega)]; omega
 have hw : IntKind.wrap .i64 ((a % b : Nat) : Int) = ((a % b : Nat) : Int) := wrap_i64 (by omega) (by omega)
 have : ¬ b = 0 := by omega
 simp [abin, ht, hw, this, -Int.natCast_emod]
theorem a_quoN {a b : Nat} (hb : 0 < b) (ha : a ≤ 9223372036854775807) : abin (.int .i64) .quo (.int .i64 (a : Int)) (.int .i64 (b : Int)) = some (.int .i64 ((a / b : Nat) : Int)) := by
 have hml := Nat.div_le_self a b
 have ht : (a : Int).tdiv b = ((a / b : Nat) : Int) := by rw [Int.tdiv_eq_ediv_of_nonneg (by omega)]; simp
 have hw : IntKind.wrap .i64 ((a / b : Nat) : Int) = ((a / b : Nat) : Int) := by
  obtain ⟨q, hq⟩ : ∃ q, q = a / b := ⟨_, rfl⟩
  rw [← hq] at hml ⊢
  exact wrap_i64 (by omega) (by omega)
 have : ¬ b = 0 := by omega
 simp [abin, ht, hw, this, -Int.natCast_ediv]
theorem splice_mid {P A R V : List AV} (hv : V.length = A.length) : splice (P ++ (A ++ R)) P.length V = P ++ (V ++ R) := by
 unfold splice
 rw [List.take_left' rfl, hv, ← List.drop_drop, List.drop_left' rfl, List.drop_left' rfl, List.append_assoc]
def prO (s : Txt) (ds : List (Nat × Nat)) : List (Nat × Txt) := ds.map fun d => (0, dfr0 24 s d.1 d.2)
theorem prO_len {s : Txt} {ds : List (Nat × Nat)} : (prO s ds).length = ds.length := by simp [prO]
theorem prO_snoc {s : Txt} {ds : List (Nat × Nat)} {d : Nat × Nat} : opsC (prO s (ds ++ [d])) = opsC (prO s ds) ++ opC 0 (dfr0 24 s d.1 d.2) := by
 simp [prO, opsC_app, opsC]
theorem prO_two {s : Txt} {ds : List (Nat × Nat)} {d e : Nat × Nat} : opsC (prO s (ds ++ [d, e])) = opsC (prO s ds) ++ (opC 0 (dfr0 24 s d.1 d.2) ++ opC 0 (dfr0 24 s e.1 e.2)) := by
 simp [prO, opsC_app, opsC]
theorem opC_len {x : Nat} {fr : Txt} : (opC x fr).length = 3 := rfl
theorem swap_gen {P D E : List AV} (hd : D.length = 3) (he : E.length = 3) : splice (splice (P ++ (D ++ E)) (P.length + 3) D) P.length E = P ++ (E ++ D) := by
 have h1 : P.length + 3 = (P ++ D).length := by rw [List.length_append, hd]
 have h2 : P ++ (D ++ E) = (P ++ D) ++ (E ++ []) := by simp
 rw [h1, h2, splice_mid (by rw [hd, he]), List.append_nil, List.append_assoc, splice_mid (by rw [hd, he])]
theorem swap_cells {s : Txt} {ds : List (Nat × Nat)} {d e : Nat × Nat} {k : Nat} (hk : k = ds.length + 2) :
  splice (splice (opsC (prO s (ds ++ [d, e]))) (3 * (k - 1)) (opC 0 (dfr0 24 s d.1 d.2))) (3 * (k - 2)) (opC 0 (dfr0 24 s e.1 e.2)) = opsC (prO s (ds ++ [e, d])) := by
 have hl : (opsC (prO s ds)).length = 3 * ds.length := by rw [opsC_len, prO_len]
 rw [prO_two, prO_two]
 have e1 : 3 * (k - 1) = (opsC (prO s ds)).length + 3 := by rw [hl]; omega
 have e2 : 3 * (k - 2) = (opsC (prO s ds)).length := by rw [hl]; omega
 rw [e1, e2]
 exact swap_gen opC_len opC_len
section
def c10_tail : SC := (.seq (.seq (.reg c10_r17 none (some [0, 1, 2, 3, 9, 10, 11, 12, 13, 16])) (.seq (.reg c10_r18 none (some [0, 1, 2, 3, 9, 10, 11, 13, 16, 85])) (.cond (.tmp 85) (.reg c10_r19 none (some [0, 1, 2, 3, 9, 10, 11, 13])) .skip (some [0, 1, 2, 3, 9, 10, 11, 13])))) (.reg c10_r20 none (some [0, 1, 2, 3, 9, 10, 11])))
def c10_rest2 : SC := (.seq (.reg c10_r13 none (some [0, 1, 2, 3, 9, 10, 11, 12, 13, 15])) (.seq (.reg c10_r14 none (some [0, 1, 2, 3, 9, 10, 11, 12, 13, 15])) (.seq (.seq (.reg c10_r15 none (some [0, 1, 2, 3, 9, 10, 11, 12, 13, 15, 71])) (.cond (.tmp 71) (.reg c10_r16 none (some [0, 1, 2, 3, 9, 10, 11, 12, 13])) .skip (some [0, 1, 2, 3, 9, 10, 11, 12, 13]))) c10_tail)))
def c10_rest : SC := (.seq (.reg c10_r9 none (some [0, 1, 2, 3, 9, 10, 11, 12, 13])) (.seq (.reg c10_r10 none (some [0, 1, 2, 3, 9, 10, 11, 12, 13, 14])) (.seq (.seq (.reg c10_r11 none (some [0, 1, 2, 3, 9, 10, 11, 12, 13, 14, 44])) (.cond (.tmp 44) (.reg c10_r12 none (some [0, 1, 2, 3, 9, 10, 11, 12, 13, 14])) .skip (some [0, 1, 2, 3, 9, 10, 11, 12, 13, 14]))) c10_rest2)))
theorem c10_l4_eq : c10_l4 = (.seq (.seq (.reg c10_r4 none (some [0, 1, 2, 3, 9, 10, 11, 20])) (.cond (.tmp 20) .skip (.exit 0) (some [0, 1, 2, 3, 9, 10, 11]))) (.seq (.block 1 (.seq (.reg c10_r6 none (some [0, 1, 2, 3, 9, 10, 11, 12])) (.seq (.seq (.reg c10_r7 none (some [0, 1, 2, 3, 9, 10, 11, 12, 26])) (.cond (.tmp 26) (.reg c10_r8 none (some [0, 1, 2, 3, 9, 10, 11, 12])) .skip (some [0, 1, 2, 3, 9, 10, 11, 12]))) c10_rest))) (.reg c10_r5 none (some [0, 1, 2, 3, 9, 10, 11])))) := rfl
def Inv10 (h0 : Heap) (v : AV) (s : Txt) (M : Nat) (σ : St) : Prop :=
 ∃ h i q b ds, M = s.length - q ∧ q ≤ s.length ∧ i ≤ q ∧ σ = ⟨[(0, .str s), (1, .int .i64 0), (2, .int .u32 101), (3, v), (9, bufSl b ds.length (opsC (prO s ds))), (10, .int .i64 (q : Nat)), (11, .int .i64 (i : Nat))], h⟩ ∧
  ds.length ≤ 2 * i ∧ (∀ d ∈ ds, d.1 < d.2 ∧ d.2 ≤ s.length) ∧ (∀ k, k < q → ∃ d ∈ ds, d.1 ≤ k ∧ k < d.2) ∧ Buf 32 3 h0.length (opsC (prO s ds)) ds.length b h ∧ Only (fun _ => False) h0 h
theorem Buf.step2 {t e k : Nat} (ht : tk Tryz.prog t = .slice e) (hk : tsz Tryz.prog e = k) (hk0 : 0 < k) (hz : zeroOK Tryz.prog e = true) (hby : Tryz.prog.bytesOf e ≤ 300) {n₀ : Nat} {h : Heap} {xs ys : List AV} {n b : Nat} (B : Buf e k n₀ xs n b h) (h0 : n₀ ≤ h.length) (hn : n ≤ 1000000) (hys : ys.length = k) :
  ∃ δ h' b', append2 Tryz.prog (look (h ++ [AObj.cells ys e true])) (h.length + 1) t t [bufSl b n xs, .sl (some ⟨h.length, 0, k⟩) 1 1] = some (bufSl b' (n + 1) (xs ++ ys), δ) ∧ Heap.apply (h ++ [AObj.cells ys e true]) δ = h' ∧ Buf e k n₀ (xs ++ ys) (n + 1) b' h' ∧ Only (fun c => c = b ∧ n ≠ 0) h h' := by
 obtain ⟨δ, h', e1, e2, e3, e4⟩ := append_buf ht hk hk0 hz hby hys B.len (fun hne => (B.at_ hne).1) hn
 refine ⟨δ, h', _, e1, e2, ⟨fun _ => ⟨e3, ?_⟩, ?_⟩, e4⟩
 · split
   · omega
   · rename_i hne; exact (B.at_ hne).2
 · rw [List.length_append, B.len, hys, Nat.add_mul, Nat.one_mul]
theorem buf_at {b n j : Nat} {xs : List AV} (hxs : xs.length = 3 * n) (hj : j < n) : aindexAddr Tryz.prog 26 (bufSl b n xs) (.int .i64 (j : Nat)) = some (.ptr (some ⟨b, 3 * j, 3 * n⟩)) := by
 have q : (j : Int) < (n : Nat) := by omega
 unfold bufSl
 rw [if_neg (by omega)]
 simp [aindexAddr, q, hxs]
 omega
theorem two_last {α : Type} : ∀ {l : List α}, 1 < l.length → ∃ a d e, l = a ++ [d, e]
 | [], h => by simp at h
 | [_], h => by simp at h
 | [d, e], _ => ⟨[], d, e, rfl⟩
 | x :: y :: z :: l, _ => by
  obtain ⟨a, d, e, he⟩ := two_last (l := y :: z :: l) (by simp)
  exact ⟨x :: a, d, e, by rw [he]; rfl⟩
theorem tail_run {h0 h1 : Heap} {s : Txt} {v : AV} {w q n i b : Nat} {es : List (Nat × Nat)} (hs : s.length ≤ 1000) (hw : w < 1048576) (hqn : q + n ≤ s.length) (B : Buf 32 3 h0.length (opsC (prO s es)) es.length b h1) (O : Only (fun _ => False) h0 h1) (hel : es.length ≤ 100000) :
  Wt Tryz.prog (D cfg) c10_tail ⟨[(0, .str s), (1, .int .i64 0), (2, .int .u32 101), (3, v), (9, bufSl b es.length (opsC (prO s es))), (10, .int .i64 (q : Nat)), (11, .int .i64 (i : Nat)), (12, .int .i64 (w : Nat)), (13, .int .i64 (n : Nat))], h1⟩
   (fun e σ' => e = .normal ∧ ∃ h' es', σ' = ⟨[(0, .str s), (1, .int .i64 0), (2, .int .u32 101), (3, v), (9, bufSl b es'.length (opsC (prO s es'))), (10, .int .i64 (q + n : Nat)), (11, .int .i64 (i : Nat))], h'⟩ ∧ es'.length = es.length ∧ (∀ d, d ∈ es' ↔ d ∈ es) ∧ Buf 32 3 h0.length (opsC (prO s es')) es'.length b h' ∧ Only (fun _ => False) h0 h') := by
 have d900 : abin (.int .i64) .quo (.int .i64 (w : Int)) (.int .i64 900) = some (.int .i64 ((w / 900 : Nat) : Int)) := a_quoN (b := 900) (by omega) (by omega)
 have r900 : abin (.int .i64) .rem (.int .i64 ((w / 900 : Nat) : Int)) (.int .i64 3) = some (.int .i64 ((w / 900 % 3 : Nat) : Int)) := a_remN (b := 3) (by omega) (by omega)
 have wq : IntKind.wrap .i64 ((q : Int) + (n : Int)) = ((q + n : Nat) : Int) := by rw [wrap_i64 (by omega) (by omega)]; omega
 obtain ⟨k, hk⟩ : ∃ k, k = es.length := ⟨_, rfl⟩
 have al : ∀ {L : Look} {xs : List AV}, alen Tryz.prog L 26 (bufSl b k xs) = some (.int .i64 (k : Nat)) := bufSl_len (e := 32) (by simp)
 by_cases h1' : w / 900 % 3 = 0
 · by_cases h2' : 1 < es.length
   · obtain ⟨a, d, e, rfl⟩ := two_last h2'
     have hlen : (a ++ [d, e]).length = a.length + 2 := by simp
     have hlen' : (a ++ [e, d]).length = a.length + 2 := by simp
     rw [hlen] at hk
     rw [hlen, ← hk] at B ⊢
     obtain ⟨k1, hk1⟩ : ∃ k1, k1 = a.length + 1 := ⟨_, rfl⟩
     obtain ⟨k2, hk2⟩ : ∃ k2, k2 = a.length := ⟨_, rfl⟩
     have H1 := (B.at_ (by omega)).1
     have hb0 := (B.at_ (by omega)).2
     have hpl : (opsC (prO s a)).length = 3 * k2 := by rw [opsC_len, prO_len, hk2]
     obtain ⟨CS, hCS⟩ : ∃ CS, CS = opsC (prO s (a ++ [d, e])) := ⟨_, rfl⟩
     have hcl : CS.length = 3 * k := by rw [hCS, opsC_len, prO_len, hlen, hk]
     obtain ⟨dd, hdd⟩ : ∃ dd, dd = dfr0 24 s d.1 d.2 := ⟨_, rfl⟩
     obtain ⟨ee, hee⟩ : ∃ ee, ee = dfr0 24 s e.1 e.2 := ⟨_, rfl⟩
     have hsw := swap_cells (s := s) (ds := a) (d := d) (e := e) (k := k) hk
     have ht := prO_two (s := s) (ds := a) (d := d) (e := e)
     rw [← hCS, ← hdd, ← hee] at ht hsw
     rw [← hCS] at H1
     have i1 : aindexAddr Tryz.prog 26 (bufSl b k CS) (.int .i64 (k1 : Nat)) = some (.ptr (some ⟨b, 3 * k1, 3 * k⟩)) := buf_at hcl (by omega)
     have i2 : aindexAddr Tryz.prog 26 (bufSl b k CS) (.int .i64 (k2 : Nat)) = some (.ptr (some ⟨b, 3 * k2, 3 * k⟩)) := buf_at hcl (by omega)
     have l2 : aload Tryz.prog (look h1) 32 (.ptr (some ⟨b, 3 * k2, 3 * k⟩)) = some (.agg (opC 0 dd)) := ld_sub H1 hcl (by simp) (k := 3) (by simp) (by omega) (by
      rw [ht, List.drop_left' hpl]; rfl)
     have l1 : aload Tryz.prog (look h1) 32 (.ptr (some ⟨b, 3 * k1, 3 * k⟩)) = some (.agg (opC 0 ee)) := ld_sub H1 hcl (by simp) (k := 3) (by simp) (by omega) (by
      rw [ht, ← List.append_assoc, List.drop_left' (by rw [List.length_append, hpl, opC_len]; omega), List.take_of_length_le (by rw [opC_len]; omega)])
     obtain ⟨h2, hh2, s2, n2, O2⟩ := stN (off := 3 * k1) (vs := opC 0 dd) (us := splice CS (3 * k1) (opC 0 dd)) H1 32 (3 * k) 3 hcl (by simp) rfl rfl (by omega) (by omega) rfl
     have hsl : (splice CS (3 * k1) (opC 0 dd)).length = 3 * k := by rw [splice]; simp [opC_len]; omega
     obtain ⟨h3, hh3, s3, n3, O3⟩ := stN (off := 3 * k2) (vs := opC 0 ee) (us := opsC (prO s (a ++ [e, d]))) n2 32 (3 * k) 3 hsl (by simp) rfl rfl (by omega) (by omega) (by rw [← hsw]; congr 2 <;> omega)
     have w1 : IntKind.wrap .i64 ((k : Int) - 1) = (k1 : Nat) := by rw [wrap_i64 (by omega) (by omega)]; omega
     have w2 : IntKind.wrap .i64 ((k : Int) - 2) = (k2 : Nat) := by rw [wrap_i64 (by omega) (by omega)]; omega
     have gk : 1 < (k : Int) := by omega
     have gk' : 1 < k := by omega
     rw [← hCS]
     have key : Wt Tryz.prog (D cfg) c10_tail ⟨[(0, .str s), (1, .int .i64 0), (2, .int .u32 101), (3, v), (9, bufSl b k CS), (10, .int .i64 (q : Nat)), (11, .int .i64 (i : Nat)), (12, .int .i64 (w : Nat)), (13, .int .i64 (n : Nat))], h1⟩ (fun x σ' => x = .normal ∧ σ' = ⟨[(0, .str s), (1, .int .i64 0), (2, .int .u32 101), (3, v), (9, bufSl b k CS), (10, .int .i64 (q + n : Nat)), (11, .int .i64 (i : Nat))], h3⟩) := by
      simp [c10_tail, c10_r17, al, c10_r18, d900, r900, h1', gk, gk', c10_r19, w1, w2, i1, i2, l1, l2, s2, ← hh2, s3, ← hh3, c10_r20, wq, -Int.natCast_add, -Int.natCast_ediv, -Int.natCast_emod]
     refine key.mono ?_
     rintro x σ' ⟨rfl, rfl⟩
     have hcl2 : (opsC (prO s (a ++ [e, d]))).length = 3 * k := by rw [opsC_len, prO_len, hlen', hk]
     refine ⟨rfl, h3, a ++ [e, d], ?_, by rw [hlen', hk], fun z => by simp; constructor <;> rintro (h | h | h) <;> simp [h], ?_, O.next (O2.next O3 fun c _ h => h) fun c h1 h2 => by omega⟩
     · rw [hlen', ← hk]
       have : bufSl b k CS = bufSl b k (opsC (prO s (a ++ [e, d]))) := by unfold bufSl; rw [hcl, hcl2]
       rw [this]
     · rw [hlen', ← hk]
       exact ⟨fun _ => ⟨n3, hb0⟩, by rw [hcl2]; omega⟩
   · rw [← hk] at h2' ⊢
     have gk : ¬ 1 < (k : Int) := by omega
     have key : Wt Tryz.prog (D cfg) c10_tail ⟨[(0, .str s), (1, .int .i64 0), (2, .int .u32 101), (3, v), (9, bufSl b k (opsC (prO s es))), (10, .int .i64 (q : Nat)), (11, .int .i64 (i : Nat)), (12, .int .i64 (w : Nat)), (13, .int .i64 (n : Nat))], h1⟩ (fun x σ' => x = .normal ∧ σ' = ⟨[(0, .str s), (1, .int .i64 0), (2, .int .u32 101), (3, v), (9, bufSl b k (opsC (prO s es))), (10, .int .i64 (q + n : Nat)), (11, .int .i64 (i : Nat))], h1⟩) := by
      simp [c10_tail, c10_r17, al, c10_r18, d900, r900, h1', gk, h2', c10_r20, wq, -Int.natCast_add, -Int.natCast_ediv, -Int.natCast_emod]
     refine key.mono ?_
     rintro x σ' ⟨rfl, rfl⟩
     exact ⟨rfl, h1, es, by rw [hk], hk.symm, fun _ => Iff.rfl, B, O⟩
 · rw [← hk]
   have key : Wt Tryz.prog (D cfg) c10_tail ⟨[(0, .str s), (1, .int .i64 0), (2, .int .u32 101), (3, v), (9, bufSl b k (opsC (prO s es))), (10, .int .i64 (q : Nat)), (11, .int .i64 (i : Nat)), (12, .int .i64 (w : Nat)), (13, .int .i64 (n : Nat))], h1⟩ (fun x σ' => x = .normal ∧ σ' = ⟨[(0, .str s), (1, .int .i64 0), (2, .int .u32 101), (3, v), (9, bufSl b k (opsC (prO s es))), (10, .int .i64 (q + n : Nat)), (11, .int .i64 (i : Nat))], h1⟩) := by
    simp [c10_tail, c10_r17, al, c10_r18, d900, r900, h1', c10_r20, wq, -Int.natCast_add, -Int.natCast_ediv, -Int.natCast_emod]
   refine key.mono ?_
   rintro x σ' ⟨rfl, rfl⟩
   exact ⟨rfl, h1, es, by rw [hk], hk.symm, fun _ => Iff.rfl, B, O⟩
theorem rest2_run {h0 h1 : Heap} {s : Txt} {v : AV} {w q n f i b : Nat} {ds : List (Nat × Nat)} (hs : s.length ≤ 1000) (hw : w < 1048576) (hn : 1 ≤ n) (hqn : q + n ≤ s.length) (hf : f ≤ q) (hi : i ≤ q) (hds : ds.length ≤ 2 * i) (hd1 : ∀ d ∈ ds, d.1 < d.2 ∧ d.2 ≤ s.length) (B : Buf 32 3 h0.length (opsC (prO s ds)) ds.length b h1) (O : Only (fun _ => False) h0 h1) :
  Wt Tryz.prog (D cfg) c10_rest2 ⟨[(0, .str s), (1, .int .i64 0), (2, .int .u32 101), (3, v), (9, bufSl b ds.length (opsC (prO s ds))), (10, .int .i64 (q : Nat)), (11, .int .i64 (i : Nat)), (12, .int .i64 (w : Nat)), (13, .int .i64 (n : Nat)), (14, .int .i64 (f : Nat))], h1⟩
   (fun e σ' => e = .normal ∧ ∃ h' b' ds', σ' = ⟨[(0, .str s), (1, .int .i64 0), (2, .int .u32 101), (3, v), (9, bufSl b' ds'.length (opsC (prO s ds'))), (10, .int .i64 (q + n : Nat)), (11, .int .i64 (i : Nat))], h'⟩ ∧ ds'.length ≤ ds.length + 2 ∧ (∀ d ∈ ds', d.1 < d.2 ∧ d.2 ≤ s.length) ∧ (∀ d ∈ ds, d ∈ ds') ∧ (∃ d ∈ ds', d.1 ≤ q ∧ d.2 = q + n) ∧ Buf 32 3 h0.length (opsC (prO s ds')) ds'.length b' h' ∧ Only (fun _ => False) h0 h') := by
 have cv : ∀ {L : Look} {m : Nat}, aconv Tryz.prog L m 3 28 (.int .i64 (f : Int)) = some (.int .u32 (f : Int), .no) := conv328 (by omega)
 have wu : IntKind.wrap .u32 (101 + (f : Int)) = ((101 + f : Nat) : Int) := by rw [wu32]; omega
 have wq : IntKind.wrap .i64 ((q : Int) + (n : Int)) = ((q + n : Nat) : Int) := by rw [wrap_i64 (by omega) (by omega)]; omega
 obtain ⟨body, hbody⟩ : ∃ body, body = (s.drop f).take (q + n - f) := ⟨_, rfl⟩
 have hbl : body.length ≤ 1000 := by rw [hbody]; simp; omega
 have hmod : (101 + f) % 4294967296 = 101 + f := Nat.mod_eq_of_lt (by omega)
 have e1 := seg_run (h := h1) (x := 0) (fl := 24) (seq := 101 + f) (ack := 5001) (body := body) (by omega) (by omega) (by omega) (by omega) (by omega)
 obtain ⟨h2, hh2, O2⟩ := gro (f := 11) (args := [.int .i64 (0 : Nat), .int .i64 0, .int .i64 (24 : Nat), .int .u32 (101 + f : Nat), .int .u32 (5001 : Nat), .str body]) (h := h1)
 rw [← hh2] at e1
 have hsl : ∀ L, aslice Tryz.prog L 9 (.str s) (some (.int .i64 (f : Int))) (some (.int .i64 ((q + n : Nat) : Int))) none = some (.str body) := fun L => by
  rw [sliceS2, guardQ, if_pos ⟨by omega, by omega, by omega⟩, hbody]; rfl
 obtain ⟨fr, hfr⟩ : ∃ fr, fr = frB 0 24 (101 + f) 5001 body := ⟨_, rfl⟩
 rw [← hfr] at e1
 have hd0 : opC 0 (dfr0 24 s f (q + n)) = opC 0 fr := by rw [hfr, hbody]; unfold dfr0; rw [hmod]
 replace e1 : D cfg 11 [.int .i64 0, .int .i64 0, .int .i64 24, .int .u32 (101 + f : Nat), .int .u32 5001, .str body] h1 = some (.str fr, h2) := e1
 obtain ⟨h3, h3', hh3, hh3', s3, q3, n3, O3⟩ := fresh (h := h2) [.int .i64 0, .int .i64 0, .str []] (opC 0 fr) 32 3 rfl rfl rfl (by omega) (by simp) (by simp)
 have hbo : abuild Tryz.prog 32 [(0, .int .i64 1), (2, .str fr)] = some (.agg (opC 0 fr)) := by simp [abuild, afill, zeros, opC]
 have hsl3 : ∀ m, abuildSlice Tryz.prog m 26 1 [(0, .agg (opC 0 fr))] = some (.sl (some ⟨m, 0, 3⟩) 1 1, .new (.cells (opC 0 fr) 32 true)) := fun m => by simp [abuildSlice, afill, zeros, opC, splice]
 have B3 := B.more (O2.trans O3) fun c hc => hc.elim
 have O13 := (O.trans O2).trans O3
 obtain ⟨δ, h4, b4, g1, g2, B4, O4⟩ := B3.step2 (t := 26) (by simp) (by simp) (by omega) (by simp) (by simp) O13.1 (by omega) (ys := opC 0 fr) rfl
 have hps : opsC (prO s ds) ++ opC 0 fr = opsC (prO s (ds ++ [(f, q + n)])) := by rw [prO_snoc, hd0]
 rw [hps] at g1 B4
 have d180 : abin (.int .i64) .quo (.int .i64 (w : Int)) (.int .i64 180) = some (.int .i64 ((w / 180 : Nat) : Int)) := a_quoN (b := 180) (by omega) (by omega)
 have r180 : abin (.int .i64) .rem (.int .i64 ((w / 180 : Nat) : Int)) (.int .i64 5) = some (.int .i64 ((w / 180 % 5 : Nat) : Int)) := a_remN (b := 5) (by omega) (by omega)
 have O4' := O13.next O4 fun c h1 h2 => by have := (B3.at_ h2.2).2; omega
 have hmem : ∀ d ∈ ds ++ [(f, q + n)], d.1 < d.2 ∧ d.2 ≤ s.length := fun d hd => by
  rcases List.mem_append.1 hd with hd | hd
  · exact hd1 d hd
  · simp at hd; subst hd; exact ⟨show f < q + n by omega, hqn⟩
 have l1 : (ds ++ [(f, q + n)]).length = ds.length + 1 := by simp
 by_cases hdb : w / 180 % 5 = 0
 · have n4 := O4.at n3 (fun hc => by
    have := (B3.at_ hc.2).1
    rw [← hc.1, n3] at this
    simp at this)
   have ld4 : aload Tryz.prog (look h4) 32 (.ptr (some ⟨h2.length, 0, 3⟩)) = some (.agg (opC 0 fr)) := ld_all n4 rfl (by simp) (by simp)
   obtain ⟨δ5, h5, b5, f1, f2, B5, O5⟩ := B4.step2 (t := 26) (by simp) (by simp) (by omega) (by simp) (by simp) O4'.1 (by omega) (ys := opC 0 fr) rfl
   have hps2 : opsC (prO s (ds ++ [(f, q + n)])) ++ opC 0 fr = opsC (prO s (ds ++ [(f, q + n)] ++ [(f, q + n)])) := by rw [prO_snoc (ds := ds ++ [(f, q + n)]), hd0]
   rw [hps2] at f1 B5
   have O5' := O4'.next O5 fun c h1 h2 => by have := (B4.at_ h2.2).2; omega
   simp [c10_rest2, c10_r13, cv, wu, wq, hsl, e1, hbo, zeros, ← hh3, s3, ← hh3', c10_r14, q3, hsl3, g1, g2, bufSl_one, bufSl_notTup, bufSl_cells, c10_r15, d180, r180, hdb, c10_r16, ld4, f1, f2, -Int.natCast_add, -Int.natCast_ediv, -Int.natCast_emod, -List.append_assoc]
   have l2 : (ds ++ [(f, q + n)] ++ [(f, q + n)]).length = ds.length + 1 + 1 := by simp
   have key := tail_run (v := v) (i := i) (es := ds ++ [(f, q + n)] ++ [(f, q + n)]) hs hw hqn (by rw [l2]; exact B5) O5' (by omega)
   rw [l2] at key
   refine key.mono ?_
   rintro e σ' ⟨rfl, h', es', rfl, t1, t2, t3, t4⟩
   refine ⟨rfl, h', _, es', rfl, by omega, fun d hd => ?_, fun d hd => (t2 d).2 (by simp [hd]), ⟨(f, q + n), (t2 _).2 (by simp), hf, rfl⟩, t3, t4⟩
   have := (t2 d).1 hd
   exact hmem d (by simpa using this)
 · simp [c10_rest2, c10_r13, cv, wu, wq, hsl, e1, hbo, zeros, ← hh3, s3, ← hh3', c10_r14, q3, hsl3, g1, g2, bufSl_one, bufSl_notTup, bufSl_cells, c10_r15, d180, r180, hdb, -Int.natCast_add, -Int.natCast_ediv, -Int.natCast_emod, -List.append_assoc]
   have key := tail_run (v := v) (i := i) (es := ds ++ [(f, q + n)]) hs hw hqn (by rw [l1]; exact B4) O4' (by omega)
   rw [l1] at key
   refine key.mono ?_
   rintro e σ' ⟨rfl, h', es', rfl, t1, t2, t3, t4⟩
   refine ⟨rfl, h', _, es', rfl, by omega, fun d hd => hmem d ((t2 d).1 hd), fun d hd => (t2 d).2 (by simp [hd]), ⟨(f, q + n), (t2 _).2 (by simp), hf, rfl⟩, t3, t4⟩
theorem rest_run {h0 h1 : Heap} {s : Txt} {v : AV} {w q i b : Nat} {ds : List (Nat × Nat)} (hs : s.length ≤ 1000) (hw : w < 1048576) (hlt : q < s.length) (hi : i ≤ q) (hds : ds.length ≤ 2 * i) (hd1 : ∀ d ∈ ds, d.1 < d.2 ∧ d.2 ≤ s.length) (B : Buf 32 3 h0.length (opsC (prO s ds)) ds.length b h1) (O : Only (fun _ => False) h0 h1) :
  Wt Tryz.prog (D cfg) c10_rest ⟨[(0, .str s), (1, .int .i64 0), (2, .int .u32 101), (3, v), (9, bufSl b ds.length (opsC (prO s ds))), (10, .int .i64 (q : Nat)), (11, .int .i64 (i : Nat)), (12, .int .i64 (w : Nat))], h1⟩
   (fun e σ' => e = .normal ∧ ∃ h' b' ds' n, 1 ≤ n ∧ q + n ≤ s.length ∧ σ' = ⟨[(0, .str s), (1, .int .i64 0), (2, .int .u32 101), (3, v), (9, bufSl b' ds'.length (opsC (prO s ds'))), (10, .int .i64 (q + n : Nat)), (11, .int .i64 (i : Nat))], h'⟩ ∧ ds'.length ≤ ds.length + 2 ∧ (∀ d ∈ ds', d.1 < d.2 ∧ d.2 ≤ s.length) ∧ (∀ d ∈ ds, d ∈ ds') ∧ (∃ d ∈ ds', d.1 ≤ q ∧ d.2 = q + n) ∧ Buf 32 3 h0.length (opsC (prO s ds')) ds'.length b' h' ∧ Only (fun _ => False) h0 h') := by
 have m9 : abin (.int .i64) .rem (.int .i64 (w : Int)) (.int .i64 9) = some (.int .i64 ((w % 9 : Nat) : Int)) := a_remN (b := 9) (by omega) (by omega)
 have d9 : abin (.int .i64) .quo (.int .i64 (w : Int)) (.int .i64 9) = some (.int .i64 ((w / 9 : Nat) : Int)) := a_quoN (b := 9) (by omega) (by omega)
 have r4 : abin (.int .i64) .rem (.int .i64 ((w / 9 : Nat) : Int)) (.int .i64 4) = some (.int .i64 ((w / 9 % 4 : Nat) : Int)) := a_remN (b := 4) (by omega) (by omega)
 have d36 : abin (.int .i64) .quo (.int .i64 (w : Int)) (.int .i64 36) = some (.int .i64 ((w / 36 : Nat) : Int)) := a_quoN (b := 36) (by omega) (by omega)
 have r5 : abin (.int .i64) .rem (.int .i64 ((w / 36 : Nat) : Int)) (.int .i64 5) = some (.int .i64 ((w / 36 % 5 : Nat) : Int)) := a_remN (b := 5) (by omega) (by omega)
 have d180 : abin (.int .i64) .quo (.int .i64 (w : Int)) (.int .i64 180) = some (.int .i64 ((w / 180 : Nat) : Int)) := a_quoN (b := 180) (by omega) (by omega)
 have r180 : abin (.int .i64) .rem (.int .i64 ((w / 180 : Nat) : Int)) (.int .i64 5) = some (.int .i64 ((w / 180 % 5 : Nat) : Int)) := a_remN (b := 5) (by omega) (by omega)
 have d900 : abin (.int .i64) .quo (.int .i64 (w : Int)) (.int .i64 900) = some (.int .i64 ((w / 900 : Nat) : Int)) := a_quoN (b := 900) (by omega) (by omega)
 have r900 : abin (.int .i64) .rem (.int .i64 ((w / 900 : Nat) : Int)) (.int .i64 3) = some (.int .i64 ((w / 900 % 3 : Nat) : Int)) := a_remN (b := 3) (by omega) (by omega)
 obtain ⟨n, hn⟩ : ∃ n, n = min (1 + w % 9) (s.length - q) := ⟨_, rfl⟩
 have hn1 : 1 ≤ n := by omega
 have hn2 : q + n ≤ s.length := by omega
 have w1 : IntKind.wrap .i64 (1 + ((w % 9 : Nat) : Int)) = ((1 + w % 9 : Nat) : Int) := by rw [wrap_i64 (by omega) (by omega)]; omega
 have w2 : IntKind.wrap .i64 ((s.length : Nat) - (q : Int)) = ((s.length - q : Nat) : Int) := by rw [wrap_i64 (by omega) (by omega)]; omega
 have w3 : (if s.length - q < 1 + w % 9 then ((s.length - q : Nat) : Int) else ((1 + w % 9 : Nat) : Int)) = (n : Nat) := by split <;> omega
 have w5 : IntKind.wrap .i64 ((q : Int) - ((w / 36 % 5 : Nat) : Int)) = (q : Int) - ((w / 36 % 5 : Nat) : Int) := wrap_i64 (by omega) (by omega)
 by_cases hf : w / 9 % 4 = 0
 · simp [c10_rest, c10_r9, m9, w1, alen9, w2, amin, amin1, w3, c10_r10, c10_r11, d9, r4, hf, c10_r12, d36, r5, -Int.natCast_add, -Int.natCast_ediv, -Int.natCast_emod, w5, amax, amax1]
   obtain ⟨f, hf'⟩ : ∃ f : Nat, f = if w / 36 % 5 ≤ q then q - w / 36 % 5 else 0 := ⟨_, rfl⟩
   have w6 : (if (q : Int) - ((w / 36 % 5 : Nat) : Int) < 0 then 0 else (q : Int) - ((w / 36 % 5 : Nat) : Int)) = (f : Nat) := by rw [hf']; split <;> split <;> omega
   rw [w6]
   have hfq : f ≤ q := by rw [hf']; split <;> omega
   refine (rest2_run hs hw hn1 hn2 hfq hi hds hd1 B O).mono ?_
   rintro e σ' ⟨rfl, h', b', ds', rfl, P⟩
   exact ⟨rfl, h', b', ds', n, hn1, hn2, rfl, P⟩
 · simp [c10_rest, c10_r9, m9, w1, alen9, w2, amin, amin1, w3, c10_r10, c10_r11, d9, r4, hf, -Int.natCast_add, -Int.natCast_ediv, -Int.natCast_emod]
   refine (rest2_run hs hw hn1 hn2 (Nat.le_refl q) hi hds hd1 B O).mono ?_
   rintro e σ' ⟨rfl, h', b', ds', rfl, P⟩
   exact ⟨rfl, h', b', ds', n, hn1, hn2, rfl, P⟩
section
variable {h : Heap} {s : Txt} {v : AV} {l : List Int}
theorem stream_run (hv1 : v.one = true) (H : Sl1 h v (intCells l)) (hl : ∀ x ∈ l, -9223372036854775808 ≤ x ∧ x ≤ 9223372036854775807) (hs : s.length ≤ 1000) (hll : l.length ≤ 1000) :
  ∃ h' b ds, D cfg 10 [.str s, .int .i64 0, .int .u32 101, v] h = some (bufSl b ds.length (opsC (prO s ds)), h') ∧ ds.length ≤ 2 * s.length ∧ (∀ d ∈ ds, d.1 < d.2 ∧ d.2 ≤ s.length) ∧ (∀ k, k < s.length → ∃ d ∈ ds, d.1 ≤ k ∧ k < d.2) ∧ Buf 32 3 h.length (opsC (prO s ds)) ds.length b h' ∧ Only (fun _ => False) h h' := by
 obtain ⟨r, h', e1, b, ds, rfl, P⟩ : ∃ r h', D cfg 10 [.str s, .int .i64 0, .int .u32 101, v] h = some (r, h') ∧ (∃ b ds, r = bufSl b ds.length (opsC (prO s ds)) ∧ ds.length ≤ 2 * s.length ∧ (∀ d ∈ ds, d.1 < d.2 ∧ d.2 ≤ s.length) ∧ (∀ k, k < s.length → ∃ d ∈ ds, d.1 ≤ k ∧ k < d.2) ∧ Buf 32 3 h.length (opsC (prO s ds)) ds.length b h' ∧ Only (fun _ => False) h h') := by
  refine call10 (by simp) ?_
  simp [c10, c10_r0, c10_r1, c10_r2, c10_r3]
  refine Wt.loop (Inv10 h v s) (m := s.length) ⟨h, 0, 0, 0, [], rfl, by omega, by omega, by simp [bufSl], by simp, by simp, fun k hk => by omega, .zero, .refl⟩ ?_
  rintro M σ ⟨h1, i, q, b, ds, rfl, hq, hi, rfl, hds, hd1, hd2, B, O⟩
  have H1 := H.grow (O.grow fun c hc => hc.elim)
  have al : alen Tryz.prog (look h1) 22 v = some (.int .i64 (l.length : Nat)) := by rw [H1.len (e := 3) (by simp), intCells_len]
  by_cases hlt : q < s.length
  · have hv : ∃ w : Nat, w < 1048576 ∧ ((∃ (hil : i < l.length), (∀ h, D cfg 8 [.int .i64 l[i], .int .i64 1048576] h = some (.int .i64 w, h))) ∨ (¬ i < l.length ∧ w = 0)) := by
     by_cases hil : i < l.length
     · have hb := hl l[i] (List.getElem_mem _)
       obtain ⟨w, hw, p⟩ := place8_run (n := 1048576) hb.1 hb.2 (by omega) (by omega)
       exact ⟨w, hw, .inl ⟨hil, p⟩⟩
     · exact ⟨0, by omega, .inr ⟨hil, rfl⟩⟩
    obtain ⟨w, hw, hcase⟩ := hv
    have fin : ∀ {Q : AExit → St → Prop}, (∀ σ', (∃ m', m' < s.length - q ∧ Inv10 h v s m' σ') → Q .normal σ') → True := fun _ => trivial
    rcases hcase with ⟨hil, p8⟩ | ⟨hil, rfl⟩
    · have hil2 : i < (intCells l).length := by rw [intCells_len]; exact hil
      have hat := H1.at (t := 22) (e := 3) (by simp) (by simp) hil2
      have hld := H1.load (e := 3) (by simp) hil2
      simp [c10_l4_eq, c10_r4, alen9, hlt, c10_r6, c10_r7, al, hil, c10_r8, hat, hld, p8]
      refine (rest_run hs hw hlt hi hds hd1 B O).mono ?_
      rintro e σ' ⟨rfl, h', b', ds', n, g1, g2, rfl, g3, g4, g5, ⟨d, g6, g7, g8⟩, B', O'⟩
      have v2 := i64s (n := i) (by omega)
      have hnext : Inv10 h v s (s.length - (q + n)) ⟨[(0, .str s), (1, .int .i64 0), (2, .int .u32 101), (3, v), (9, bufSl b' ds'.length (opsC (prO s ds'))), (10, .int .i64 (q + n : Nat)), (11, .int .i64 (i + 1 : Nat))], h'⟩ := by
       refine ⟨h', i + 1, q + n, b', ds', rfl, g2, by omega, rfl, by omega, g4, fun k hk => ?_, B', O'⟩
       by_cases hkq : k < q
       · obtain ⟨d', w1, w2, w3⟩ := hd2 k hkq
         exact ⟨d', g5 d' w1, w2, w3⟩
       · exact ⟨d, g6, by omega, by omega⟩
      simp [c10_r5, v2]
      exact ⟨_, by omega, hnext⟩
    · simp [c10_l4_eq, c10_r4, alen9, hlt, c10_r6, c10_r7, al, hil]
      refine (rest_run hs hw hlt hi hds hd1 B O).mono ?_
      rintro e σ' ⟨rfl, h', b', ds', n, g1, g2, rfl, g3, g4, g5, ⟨d, g6, g7, g8⟩, B', O'⟩
      have v2 := i64s (n := i) (by omega)
      have hnext : Inv10 h v s (s.length - (q + n)) ⟨[(0, .str s), (1, .int .i64 0), (2, .int .u32 101), (3, v), (9, bufSl b' ds'.length (opsC (prO s ds'))), (10, .int .i64 (q + n : Nat)), (11, .int .i64 (i + 1 : Nat))], h'⟩ := by
       refine ⟨h', i + 1, q + n, b', ds', rfl, g2, by omega, rfl, by omega, g4, fun k hk => ?_, B', O'⟩
       by_cases hkq : k < q
       · obtain ⟨d', w1, w2, w3⟩ := hd2 k hkq
         exact ⟨d', g5 d' w1, w2, w3⟩
       · exact ⟨d, g6, by omega, by omega⟩
      simp [c10_r5, v2]
      exact ⟨_, by omega, hnext⟩
  · have hqe : q = s.length := by omega
    subst hqe
    simp [c10_l4, c10_r4, alen9, c10_r21, bufSl_notTup]
    refine ⟨show (bufSl b ds.length (opsC (prO s ds))).notTup = true from bufSl_notTup, b, ds, rfl, by omega, fun x y hxy => hd1 _ hxy, fun k hk => ?_, B, O⟩
    obtain ⟨d, g1, g2, g3⟩ := hd2 k hk
    exact ⟨d.1, d.2, g1, g2, g3⟩
 exact ⟨h', b, ds, e1, P⟩
end
end
theorem src_buf {h : Heap} {b m k e : Nat} {ys : List AV} (hk : tsz Tryz.prog e = k) (hys : ys.length = m * k) (hb : m ≠ 0 → h[b]? = some (.cells ys e true)) : srcCells Tryz.prog (look h) e (bufSl b m ys) = some (m, ys) := by
 unfold bufSl
 by_cases hm : m = 0
 · subst hm
   have : ys = [] := List.length_eq_zero_iff.1 (by simpa using hys)
   subst this
   simp [srcCells]
 · have h1 := hb hm
   have h2 : ys.take (m * k) = ys := List.take_of_length_le (by omega)
   simp [hm, srcCells, slCells, row, h1, hk, hys, h2]
theorem append_more {t e k : Nat} (ht : tk Tryz.prog t = .slice e) (hk : tsz Tryz.prog e = k) (hk0 : 0 < k) (hz : zeroOK Tryz.prog e = true) (hby : Tryz.prog.bytesOf e ≤ 300) {h : Heap} {b n m nx : Nat} {xs ys : List AV} {v : AV}
  (hv : srcCells Tryz.prog (look h) e v = some (m, ys)) (hxs : xs.length = n * k) (hys : ys.length = m * k) (hn0 : n ≠ 0) (hb : h[b]? = some (.cells xs e true)) (hn : n ≤ 100000) (hm : m ≤ 100000) :
  ∃ δ h', append2 Tryz.prog (look h) nx t t [bufSl b n xs, v] = some (bufSl b (n + m) (xs ++ ys), δ) ∧ Heap.apply h δ = h' ∧ h'[b]? = some (.cells (xs ++ ys) e true) ∧ Only (fun c => c = b) h h' := by
 have hroom : ∀ m, m ≤ 200001 → m * Tryz.prog.bytesOf e ≤ roomMax := fun m hm => by
  have := Nat.mul_le_mul hm hby
  simp only [roomMax]
  omega
 have hlt := lt_of_at hb
 by_cases hm0 : m = 0
 · subst hm0
   have : ys = [] := List.length_eq_zero_iff.1 (by simpa using hys)
   subst this
   refine ⟨.no, h, ?_, rfl, by simpa using hb, .refl⟩
   simp only [append2, aappend, ht, hk, hv, hk0, if_true, bufSl, hn0, if_false, aappendE]
   simp [hn0]
 · refine ⟨.set b (.cells (xs ++ ys) e true), h.set b (.cells (xs ++ ys) e true), ?_, rfl, ?_, ?_⟩
   · have h1 := hroom (n + m) (by omega)
     have h2 : ¬ (n + m ≤ n) := by omega
     have h3 : n + m ≤ 9223372036854775807 := by omega
     have h4 : xs.take (n * k) = xs := List.take_of_length_le (by omega)
     have h5 : ¬ (n + m = 0) := by omega
     simp only [append2, aappend, ht, hk, hv, hk0, if_true, bufSl, hn0, if_false, aappendE, look_at, hb, hm0]
     simp [h1, hz, h2, h3, hxs, h4, h5, hn0, hm0, hys]
   · rw [List.getElem?_set_self (by omega)]
   · exact .set rfl
section
open Go.ChangeShapes Go.WideShapes
theorem law_end {P : Program} {F : CallF} (hm : P.follows .mixedOrders = true) (hF : CallOK P F) {f : FuncId} {fn : Func} {code : Code} {k : SC} {rs : List ResultVar} (hf : P.funcs[f]? = some fn) (hb : fn.body = some code) {H : Hint} (hB : fnB P H fn = true) (hk : compile H code = k) (hrs : fn.results.toList = rs)
  {args : List AV} (hn : args.length ≤ fn.ntmps) {h : Heap} (hw : Wt P F k ⟨argsEnv 0 args, h⟩ (Ends P rs fun r _ => r = .bool true))
  {ι : Inj} {w : World} {cargs : List Value} (hr : HR P ι w ⟨w.heap.size, [], fun _ _ => none⟩ (look h)) (hfr : ∀ n, Fresh ι h.length n) (ha : L2 (V ι) args cargs) :
  Calls P f cargs.toArray w fun e w' => e = .returned (.bool true) ∧ Below w.heap.size w w' := by
 obtain ⟨r, h', h1, h2, h3⟩ := W.top (R := fun r _ => r = .bool true) hm hF hf hb hB hk hn (W.mono hw fun e s' h => Ends_fin hrs h)
 subst h1
 refine (h3 ι w ⟨w.heap.size, [], fun _ _ => none⟩ cargs hr (hfr _) ha).mono ?_
 rintro e w' ⟨ι', u, rfl, hv, hst, _⟩
 refine ⟨?_, hst.os, hst.tape, hst.output, hst.size, hst.below hr⟩
 cases u <;> simp [V, Va, Vc, Vp] at hv
 rw [hv]
abbrev InRow := Addr × List AV
def rowsI (rows : List InRow) : Inj := fun b g => match rows[b]? with
 | some r => if g = r.2.length then some ⟨r.1.block, 0, r.1.off, 0⟩ else none
 | none => none
def rowsH (rows : List InRow) : Heap := rows.map fun r => .ro r.2
def RowOK (w : World) (r : InRow) : Prop := ∀ i x, r.2[i]? = some x → ∃ v, w.cell? (r.1.add i) = some v ∧ ∀ ι, Vc ι x v
theorem cell_spot {w : World} {a : Addr} {v : Value} (h : w.cell? a = some v) : a.spot = none ∧ a.block < w.heap.size := by
 unfold World.cell? at h
 split at h
 · rename_i hb
   constructor
   · cases hs : a.spot with
     | none => rfl
     | some x => rw [hs] at h; simp at h
   · rcases Nat.lt_or_ge a.block w.heap.size with h1 | h1
     · exact h1
     · rw [Array.getElem?_eq_none h1] at hb; simp at hb
 · simp at h
theorem RowOK.at {w : World} {r : InRow} (h : RowOK w r) {i : Nat} {x : AV} (hx : r.2[i]? = some x) : ∃ v, w.cell? (Loc.at ⟨r.1.block, 0, r.1.off, 0⟩ i) = some v ∧ (∀ ι, Vc ι x v) ∧ r.1.spot = none ∧ r.1.block < w.heap.size := by
 have h0 : 0 < r.2.length := by have := (List.getElem?_eq_some_iff.1 hx).1; omega
 obtain ⟨v0, h1, _⟩ := h 0 _ (List.getElem?_eq_getElem h0)
 obtain ⟨h2, h3⟩ := cell_spot h1
 simp only [Addr.add, if_true] at h2 h3
 obtain ⟨v, h4, h5⟩ := h i x hx
 refine ⟨v, ?_, h5, h2, h3⟩
 rw [← h4]
 congr 1
 unfold Loc.at Addr.add
 by_cases hi : i = 0
 · subst hi
   simp
   cases hr : r.1
   rw [hr] at h2
   simp at h2
   simp [h2]
 · simp [hi]; omega
theorem rows_HR {P : Program} {w : World} {rows : List InRow} (h : ∀ r ∈ rows, RowOK w r) : HR P (rowsI rows) w ⟨w.heap.size, [], fun _ _ => none⟩ (look (rowsH rows)) := by
 have key : ∀ b o, look (rowsH rows) b = some o → ∃ r, rows[b]? = some r ∧ o = .ro r.2 := by
  intro b o hb
  simp only [look, rowsH, List.getElem?_map] at hb
  cases hr : rows[b]? with
  | none => rw [hr] at hb; simp at hb
  | some r => rw [hr] at hb; simp at hb; exact ⟨r, rfl, hb.symm⟩
 refine ⟨fun b o hb => ?_, fun b b' o o' l l' hb _ _ _ ho => ?_, fun b o hb g l hl => ?_, Nat.le_refl _, fun b cs l hb hl hne => ?_, fun r hr => by simp at hr, fun _ _ _ h => by simp at h⟩
 · obtain ⟨r, hr, rfl⟩ := key b o hb
   refine ⟨⟨r.1.block, 0, r.1.off, 0⟩, ?_, ⟨rfl, rfl, fun i x hx => ?_⟩, fun ho => by simp [AObj.own] at ho⟩
   · simp [rowsI, hr, AObj.gen]
   · obtain ⟨v, h1, h2, _⟩ := (h r (List.mem_of_getElem? hr)).at hx
     exact ⟨v, h1, h2 _⟩
 · obtain ⟨r, hr, rfl⟩ := key b o hb
   simp [AObj.own] at ho
 · obtain ⟨r, hr, rfl⟩ := key b o hb
   simp only [rowsI, hr] at hl
   split at hl
   · rename_i e; simp [AObj.gen, e]
   · simp at hl
 · obtain ⟨r, hr, he⟩ := key b _ hb
   simp at he
   subst he
   simp only [rowsI, hr, if_true] at hl
   simp at hl
   subst hl
   have h0 : 0 < r.2.length := List.length_pos_iff.2 hne
   obtain ⟨v, _, _, _, h1⟩ := (h r (List.mem_of_getElem? hr)).at (List.getElem?_eq_getElem h0)
   exact h1
theorem rows_fresh {rows : List InRow} {n : Nat} : Fresh (rowsI rows) (rowsH rows).length n := by
 intro b g h1 _
 simp only [rowsH, List.length_map] at h1
 simp only [rowsI]
 rw [List.getElem?_eq_none h1]
def SliceIn (w : World) (k : Nat) (a : Option Addr) (len cap : Nat) (xs : List AV) : Prop :=
 (a = none ∧ len = 0 ∧ cap = 0 ∧ xs = []) ∨ ∃ x, a = some x ∧ len ≤ cap ∧ cap ≤ maxLen ∧ xs.length = cap * k ∧ RowOK w (x, xs)
def inRow (a : Option Addr) (xs : List AV) : InRow := (a.getD ⟨0, 0, none⟩, xs)
def inSl (b : Nat) (a : Option Addr) (len cap : Nat) (xs : List AV) : AV := match a with
 | none => .sl none 0 0
 | some _ => .sl (some ⟨b, 0, xs.length⟩) len cap
theorem SliceIn.row {w : World} {k : Nat} {a : Option Addr} {len cap : Nat} {xs : List AV} (h : SliceIn w k a len cap xs) : RowOK w (inRow a xs) := by
 rcases h with ⟨rfl, _, _, rfl⟩ | ⟨x, rfl, _, _, _, h⟩
 · intro i x hx; simp [inRow] at hx
 · exact h
theorem SliceIn.val {w : World} {k : Nat} (hk : 0 < k) {a : Option Addr} {len cap : Nat} {xs : List AV} (h : SliceIn w k a len cap xs) {rows : List InRow} {b : Nat} (hb : rows[b]? = some (inRow a xs)) :
  V (rowsI rows) (inSl b a len cap xs) (.slice a len cap) := by
 rcases h with ⟨rfl, rfl, rfl, rfl⟩ | ⟨x, rfl, h1, h2, h3, h4⟩
 · simp [inSl, V, Va, Vc, Vp]
 · simp only [inSl, V, Va, Vc, Vp]
   refine ⟨trivial, h1, ⟨x.block, 0, x.off, 0⟩, ?_, Nat.zero_le _, rfl, fun hc => ?_⟩
   · simp [rowsI, hb, inRow]
   · have h0 : 0 < xs.length := by rw [h3]; exact Nat.mul_pos hc hk
     obtain ⟨v, _, _, hs, _⟩ := h4.at (r := (x, xs)) (List.getElem?_eq_getElem h0)
     unfold Loc.at
     cases x
     simp at hs
     simp [hs]
theorem SliceIn.reads {w : World} {a : Option Addr} {len cap : Nat} {xs : List AV} (h : SliceIn w 1 a len cap xs) {rows : List InRow} {b : Nat} (hb : rows[b]? = some (inRow a xs)) :
  Sl1 (rowsH rows) (inSl b a len cap xs) (xs.take len) := by
 rcases h with ⟨rfl, rfl, rfl, rfl⟩ | ⟨x, rfl, h1, h2, h3, h4⟩
 · exact .inl ⟨rfl, rfl⟩
 · have hl : (xs.take len).length = len := by simp; omega
   refine .inr ⟨b, 0, xs.length, cap, xs, ?_, ?_, ?_⟩
   · rw [hl]; rfl
   · simp [AM.row, look_at, rowsH, hb, inRow]
   · rw [hl]; simp
theorem in_ints {H : Type} {enc : TypeId × Value → H} {P : Program} {w : World} {t e : TypeId} {k : IntKind} (ht : P.underlying t = some (.slice e)) (he : P.underlying e = some (.int k)) (hc : P.cellsOf e = 1) {a : Option Addr} {len cap : Nat} {d : DataW H} {ps : List MemPlace}
  (h : DataW.Trod enc P w 0 (fun _ => true) true t (.slice a len cap) d ps) : ∃ zs : List Int, SliceIn w 1 a len cap (zs.map (.int k)) ∧ ∀ n ∈ zs, (Lit.int k n).wf = true := by
 obtain ⟨fuel, hf⟩ := h
 rcases open_ints ht he hc hf with ⟨hcs, _⟩ | ⟨x, l, c, zs, hcs, _, hl, hm, hz, _, hcell, hwz⟩
 · simp [Value.cells] at hcs
   obtain ⟨rfl, rfl, rfl⟩ := hcs
   exact ⟨[], .inl ⟨rfl, rfl, rfl, rfl⟩, by simp⟩
 · simp [Value.cells] at hcs
   obtain ⟨rfl, rfl, rfl⟩ := hcs
   refine ⟨zs, .inr ⟨_, rfl, hl, hm, by simpa using hz, ?_⟩, hwz⟩
   intro i y hy
   simp at hy
   obtain ⟨n, hn, rfl⟩ := hy
   have hi := (List.getElem?_eq_some_iff.1 hn).1
   refine ⟨_, hcell i hi, fun ι => ?_⟩
   rw [List.getD_eq_getElem?_getD, hn]
   simp [Vc, Vp]
end
section
section
variable {h : Heap} {b : Nat} {ks : List Nat} {ems : List Em}
theorem awake_cnt (C : Came h 16 [97] [] b ks ems) (hN : ems.length = 4) : cntS ems = 4 := by
 match ems, hN, C with
 | [e0, e1, e2, e3], _, C =>
  have hb := C.beg
  simp [helloE] at hb
  obtain ⟨rfl, rfl, rfl⟩ := hb
  obtain ⟨f, t, h1, h2, h3, h4⟩ := C.cov0 0 (by simp)
  simp at h3
  obtain rfl : f = 0 := by omega
  obtain rfl : t = 1 := by omega
  have hne : ∀ fl' seq' ack', fl' < 64 → seq' < 4294967296 → ack' < 4294967296 → dfr0 16 [97] 0 1 ≠ frB 0 fl' seq' ack' [] := fun fl' seq' ack' g1 g2 g3 he => by
   have := (frB_inj (by omega) (by omega) (by omega) (by omega) (by simp) (by omega) g1 g2 g3 (by simp) he).2.2
   simp at this
  rcases List.mem_cons.1 h4 with h4 | h4
  · exact absurd (by simpa using h4) (hne 2 100 0 (by omega) (by omega) (by omega))
  rcases List.mem_cons.1 h4 with h4 | h4
  · simp at h4
  rcases List.mem_cons.1 h4 with h4 | h4
  · exact absurd (by simpa using h4) (hne 16 101 5001 (by omega) (by omega) (by omega))
  · simp at h4
    rw [← h4]
    rfl
end
theorem awake_run {h : Heap} : ∃ h', D cfg1 6 [] h = some (.bool true, h') := by
 obtain ⟨h1, b, e1, hb1, hlb, O1⟩ := hello_run (h := h)
 obtain ⟨fr, hfr⟩ : ∃ fr, fr = frB 0 16 101 5001 [97] := ⟨_, rfl⟩
 have e2 := seg_run (h := h1) (x := 0) (fl := 16) (seq := 101) (ack := 5001) (body := [97]) (by omega) (by omega) (by omega) (by omega) (by simp)
 obtain ⟨h2, hh2, O2⟩ := gro (f := 11) (args := [.int .i64 (0 : Nat), .int .i64 0, .int .i64 (16 : Nat), .int .u32 (101 : Nat), .int .u32 (5001 : Nat), .str [97]]) (h := h1)
 rw [← hh2, ← hfr] at e2
 replace e2 := lift e2
 replace e1 := lift e1
 replace e2 : D cfg1 11 [.int .i64 0, .int .i64 0, .int .i64 16, .int .u32 101, .int .u32 5001, .str [97]] h1 = some (.str fr, h2) := e2
 have hb2 := O2.at hb1 not_false
 have hbo : abuild Tryz.prog 32 [(0, .int .i64 1), (2, .str fr)] = some (.agg (opC 0 fr)) := by simp [abuild, afill, zeros, opC]
 have hsl3 : ∀ m, abuildSlice Tryz.prog m 26 1 [(0, .agg (opC 0 fr))] = some (.sl (some ⟨m, 0, 3⟩) 1 1, .new (.cells (opC 0 fr) 32 true)) := fun m => by simp [abuildSlice, afill, zeros, opC, splice]
 obtain ⟨δ, h3, g1, g2, g3, O3⟩ := append_buf (t := 26) (e := 32) (k := 3) (by simp) (by simp) (by omega) (by simp) (by simp) (h := h2) (b := b) (n := 3) (xs := opsC helloO) (ys := opC 0 fr) rfl rfl (fun _ => hb2) (by omega)
 have hop : opsC helloO ++ opC 0 fr = opsC (helloO ++ [⟨0, 0, 1⟩].map (dopF 16 [97] [])) := by rw [opsC_app, hfr]; rfl
 replace g1 : append2 Tryz.prog (look (h2 ++ [AObj.cells (opC 0 fr) 32 true])) (h2.length + 1) 26 26 [.sl (some ⟨b, 0, 9⟩) 3 3, .sl (some ⟨h2.length, 0, 3⟩) 1 1] = some (.sl (some ⟨b, 0, 12⟩) 4 4, δ) := g1
 replace g3 : h3[b]? = some (.cells (opsC (helloO ++ [⟨0, 0, 1⟩].map (dopF 16 [97] []))) 32 true) := by rw [← hop]; exact g3
 have e4 := lift (wide_run (h := h3))
 obtain ⟨h4, hh4, O4⟩ := gro (f := 13) (args := []) (h := h3)
 rw [← hh4] at e4
 obtain ⟨h5, bo, ks, ems, cc, cd, e5, hN, C5⟩ := script_run (h := h4) (fl0 := 16) (s := [97]) (u := []) (dops := [⟨0, 0, 1⟩]) (ob := b) (N := 4) rfl (.inl rfl) (by simp) (by simp) (by simp) (fun o ho => by
  simp at ho; subst ho; exact ⟨by simp, by simp, by simp, by simp⟩) (fun k hk => ⟨_, List.mem_singleton.2 rfl, rfl, by simp, by simpa using hk⟩) (fun k hk => by simp at hk) (O4.at g3 not_false)
 have hcn := awake_cnt C5 hN
 rw [hcn] at e5
 replace e5 : D cfg1 12 [.agg confC, .sl (some ⟨b, 0, 12⟩) 4 4] h4 = some (.tup [.sl (some ⟨bo, 0, 16⟩) 4 4, .agg (cntC 4 4 cc cd), .int .i64 0], h5) := e5
 obtain ⟨h6, h6', hh6, hh6', s6, q6, n6, O6⟩ := fresh (h := h5) (List.replicate 14 (.int .i64 0)) (cntC 4 4 cc cd) 35 14 rfl rfl rfl (by omega) (by simp) (by simp)
 have t1 : aload Tryz.prog (look h6') 3 (.ptr (some ⟨h5.length, 1, 14⟩)) = some (.int .i64 4) := cell_load n6 rfl (by simp) rfl
 have e7 := lift (tuple_run (h := h6'))
 obtain ⟨h7, hh7, O7⟩ := gro (f := 14) (args := [.int .i64 0]) (h := h6')
 rw [← hh7] at e7
 obtain ⟨h8, e8, O8⟩ := payload0 (.inl rfl) (by simp) (by simp) hN (by omega) (C5.keep (O6.trans O7))
 replace e8 : D cfg1 15 [.sl (some ⟨bo, 0, 16⟩) 4 4, .agg (tupC 0), .int .u32 101] h7 = some (.str [97], h8) := e8
 simp only [List.replicate] at hh6
 obtain ⟨r, h', q1, q2⟩ : ∃ r h', D cfg1 6 [] h = some (r, h') ∧ r = .bool true := by
  refine call1_6 (by simp) ?_
  simp [c6, c6_r0, c6_r1, e1, e2, hbo, hsl3, g1, g2, c6_r2, e4, e5, zeros, ← hh6, s6, ← hh6', c6_r3, t1, e7, e8, alen]
 subst q2
 exact ⟨h', q1⟩
end
end Go.AM
