/-
  'Step', 'New', 'Copy' of a scanner.
-/
import Derived.Test.YtamidpfdiijjgaaN2
namespace Go.AM
open Go Go.Proofs
set_option linter.unusedVariables false
set_option linter.unusedSimpArgs false
set_option maxRecDepth 100000

section
variable {h : Heap} {sb : Nat} {lv nv : AV} {B : AB} {l : List Txt} {nc : List Bool} {w : Txt} {tab : Nat → Nat → Nat} {fl ob : Nat → Nat} {ou : Nat → List Int}

theorem fold_snoc {w : Txt} {b : UInt8} : fold (w ++ [b]) = fold w ++ [lowB b] := by simp [fold]

theorem scan_step (H : ScanX h sb lv nv B l nc w tab fl ob ou) (hw : w.length ≤ 100000000000) {b : UInt8} :
    ∃ bl h', D cfg 65 [scPtr sb, .int .u8 b.toNat] h = some (intSl bl (hits nc (w ++ [b]) l 0), h') ∧ ScanX h' sb lv nv B l nc (w ++ [b]) tab fl ob ou ∧ Only (fun c => c = sb) h h' ∧
      (hits nc (w ++ [b]) l 0 ≠ [] → h.length ≤ bl ∧ h'[bl]? = some (.cells (intCells (hits nc (w ++ [b]) l 0)) 3 true)) := by
  have key : ∃ r h', D cfg 65 [scPtr sb, .int .u8 b.toNat] h = some (r, h') ∧ (∃ bl, r = intSl bl (hits nc (w ++ [b]) l 0) ∧ ScanX h' sb lv nv B l nc (w ++ [b]) tab fl ob ou ∧ Only (fun c => c = sb) h h' ∧
      (hits nc (w ++ [b]) l 0 ≠ [] → h.length ≤ bl ∧ h'[bl]? = some (.cells (intCells (hits nc (w ++ [b]) l 0)) 3 true))) := by
    refine call65 (R := fun r h' => ∃ bl, r = intSl bl (hits nc (w ++ [b]) l 0) ∧ ScanX h' sb lv nv B l nc (w ++ [b]) tab fl ob ou ∧ Only (fun c => c = sb) h h' ∧
      (hits nc (w ++ [b]) l 0 ≠ [] → h.length ≤ bl ∧ h'[bl]? = some (.cells (intCells (hits nc (w ++ [b]) l 0)) 3 true))) (args := [scPtr sb, .int .u8 b.toNat]) (h := h) (by simp) ?_
    obtain ⟨ring, hr, g1⟩ := H.sc.hdr
    obtain ⟨X, hX⟩ : ∃ X, begs (l.map fold) = X := ⟨_, rfl⟩
    have hlt := H.auto.lt (w := fold w)
    have A := H.auto
    rw [hX] at g1 hlt A
    obtain ⟨s, hs⟩ : ∃ s, st X (lsuf X (fold w)) = s := ⟨_, rfl⟩
    rw [hs] at g1
    obtain ⟨n, hn⟩ : ∃ n, w.length = n := ⟨_, rfl⟩
    rw [hn] at g1
    obtain ⟨k, hk⟩ : ∃ k : Nat, n % 16 = k := ⟨_, rfl⟩
    have hrem : ((n : Int)).tmod 16 = k := by rw [← hk]; exact tmod_nat' (b := 16)
    have hk16 : k < 16 := by omega
    have hk16' : (k : Int) < 16 := by omega
    have hwr : IntKind.wrap .i64 ((n : Int) + 1) = ((n + 1 : Nat) : Int) := by rw [wrap_i64 (by omega) (by omega)]; omega
    obtain ⟨n1, hn1⟩ : ∃ n1 : Nat, n + 1 = n1 := ⟨_, rfl⟩
    rw [hn1] at hwr
    have hl := hdrC_len (a := B.ptr) (lv := lv) (nv := nv) (s := s) (n := n) hr.1
    have hr' := hr.step (b := b)
    rw [hn, hk] at hr'
    obtain ⟨ring', hrg⟩ : ∃ r, ring.set k b = r := ⟨_, rfl⟩
    rw [hrg] at hr'
    have hl1 := hdrC_len (a := B.ptr) (lv := lv) (nv := nv) (s := s) (n := n) hr'.1
    have hl2 := hdrC_len (a := B.ptr) (lv := lv) (nv := nv) (s := s) (n := n1) hr'.1
    have q1 := cell_load g1 hl (t := 3) (by simp) hdrC_4
    have s1 := cell_store g1 hl (t := 5) (by simp) (v := .int .u8 b.toNat) rfl (off := 5 + k) (by omega)
    rw [hdrC_set5, hrg] at s1
    obtain ⟨h1, hh1⟩ : ∃ h1, h.set sb (.cells (hdrC B.ptr lv nv s n ring') 136 false) = h1 := ⟨_, rfl⟩
    have g2 : h1[sb]? = some (.cells (hdrC B.ptr lv nv s n ring') 136 false) := by rw [← hh1, List.getElem?_set_self (lt_of_at g1)]
    have q2 := cell_load g2 hl1 (t := 3) (by simp) hdrC_4
    have s2 := cell_store g2 hl1 (t := 3) (by simp) (v := .int .i64 n1) rfl (off := 4) (by omega)
    rw [hdrC_set4] at s2
    obtain ⟨h2, hh2⟩ : ∃ h2, h1.set sb (.cells (hdrC B.ptr lv nv s n1 ring') 136 false) = h2 := ⟨_, rfl⟩
    have g3 : h2[sb]? = some (.cells (hdrC B.ptr lv nv s n1 ring') 136 false) := by rw [← hh2, List.getElem?_set_self (lt_of_at g2)]
    have q3 := cell_load g3 hl2 (t := 57) (by simp) hdrC_0
    have q4 := cell_load g3 hl2 (t := 3) (by simp) hdrC_3
    have o12 : Only (fun c => c = sb) h h2 := by rw [← hh2, ← hh1]; exact (Only.set (fp := fun c => c = sb) rfl).trans (.set rfl)
    have A2 : AutoX h2 B X (l.map fold) tab fl ob ou := A.keep o12 fun c hc e => H.sepA (by rw [hX]; exact e ▸ hc)
    have e1 := lowB_run (h := h2) (b := b)
    have e2 := ax_next A2 (w := fold w) (b := lowB b)
    rw [← fold_snoc, hs] at e2
    obtain ⟨s', hs'⟩ : ∃ s', st X (lsuf X (fold (w ++ [b]))) = s' := ⟨_, rfl⟩
    rw [hs'] at e2
    have hsame : sameAt h2 h2 sb = true := sameAt_of g3 g3 (beq_hdr H.l_.beq H.n_.beq)
    have s3 := cell_store g3 hl2 (t := 3) (by simp) (v := .int .i64 s') rfl (off := 3) (by omega)
    rw [hdrC_set3] at s3
    obtain ⟨h3, hh3⟩ : ∃ h3, h2.set sb (.cells (hdrC B.ptr lv nv s' n1 ring') 136 false) = h3 := ⟨_, rfl⟩
    have g4 : h3[sb]? = some (.cells (hdrC B.ptr lv nv s' n1 ring') 136 false) := by rw [← hh3, List.getElem?_set_self (lt_of_at g3)]
    have hl3 := hdrC_len (a := B.ptr) (lv := lv) (nv := nv) (s := s') (n := n1) hr'.1
    have q5 := cell_load g4 hl3 (t := 57) (by simp) hdrC_0
    have q6 := cell_load g4 hl3 (t := 3) (by simp) hdrC_3
    have o13 : Only (fun c => c = sb) h h3 := by rw [← hh3]; exact o12.trans (.set rfl)
    have hwn : (w ++ [b]).length = n1 := by simp; omega
    have H3 : ScanX h3 sb lv nv B l nc (w ++ [b]) tab fl ob ou := H.turn o13 ⟨ring', hr', by rw [hX, hs', hwn]; exact g4⟩
    have A3 := H3.auto
    rw [hX] at A3
    obtain ⟨bo, h4, e3, o4, d4⟩ := ax_out A3 (w := fold (w ++ [b]))
    rw [hs'] at e3
    have H4 := H3.same o4
    have hov : Sl1 h4 (intSl bo (outs (fold (w ++ [b])) (l.map fold) 0)) (intCells (outs (fold (w ++ [b])) (l.map fold) 0)) := Sl1.ints fun hne => (d4 hne).1
    have hloop := fun Q hq => step_loop (Q := Q) H4 (by omega) hov hq
    have hol := fun L => intSl_lenA (L := L) (b := bo) (l := outs (fold (w ++ [b])) (l.map fold) 0)
    simp only [stepEnv] at hloop
    simp [abin_rem, c65, c65_r0, c65_r1, c65_r2, c65_r3, c65_r5, c65_r6, c65_r7, fieldA, q1, hrem, aindexAddr, hk16, hk16', s1, hh1, q2, hwr, s2, hh2, q3, q4, e1, e2, hsame, s3, hh3, q5, q6, e3, len1, hol]
    refine hloop _ fun h5 bl o5 d5 => ?_
    have o15 : Only (fun c => c = sb) h h5 := (o13.trans (o4.mono fun _ _ => False.elim)).trans (o5.mono fun _ _ => False.elim)
    have hfin : (hits nc (w ++ [b]) l 0 ≠ [] → h.length ≤ bl ∧ h5[bl]? = some (.cells (intCells (hits nc (w ++ [b]) l 0)) 3 true)) := fun hne => by
      obtain ⟨i1, i2⟩ := d5 hne
      have h6 := o13.1
      have h7 := o4.1
      exact ⟨by omega, i2⟩
    simp [c65_r13, -AV.notTup, intSl_notTup]
    exact ⟨bl, rfl, H4.same o5, o15, hfin⟩
  obtain ⟨r, h', h1, bl, rfl, h2, h3, h4⟩ := key
  exact ⟨bl, h', h1, h2, h3, h4⟩

def boolSl (b : Nat) (nc : List Bool) : AV := bufSl b nc.length (boolCells nc)

theorem notTup_ptr {a : Option AA} : (AV.ptr a).notTup = true := rfl
theorem cells_ptr {a : Option AA} : (AV.ptr a).cells = [.ptr a] := rfl
theorem one_ptr {a : Option AA} : (AV.ptr a).one = true := rfl

/-- 'New'. -/
theorem scan_new {v u : AV} (A : AutoX h B (begs (l.map fold)) (l.map fold) tab fl ob ou) (hv : Sl1 h v (strCells l)) (hu : Sl1 h u (boolCells nc)) (hg : bgood l = true) (hl : l.length ≤ 200) (hn : nc.length ≤ 1000000000) :
    ∃ sb lv nv h', D cfg 102 [B.ptr, v, u] h = some (scPtr sb, h') ∧ ScanX h' sb lv nv B l nc [] tab fl ob ou ∧ Only (fun _ => False) h h' ∧ (∀ c, scFoot sb lv nv B (begs (l.map fold)).length ob ou c → B.foot (begs (l.map fold)).length ob ou c ∨ h.length ≤ c) ∧ h.length ≤ sb := by
  obtain ⟨δ1, h1, e1, e2, d1, o1⟩ := copy_buf (t := 38) (e := 9) (k := 16) (by simp) (by simp) (by simp) (by simp) hv (by simp [strCells_len, roomMax]; omega) (by rw [strCells_len]; omega)
  obtain ⟨δ2, h2, e3, e4, d2, o2⟩ := copy_buf (t := 68) (e := 4) (k := 1) (by simp) (by simp) (by simp) (by simp) (hu.same o1) (by simp [boolCells_len, roomMax]; omega) (by rw [boolCells_len]; omega)
  rw [strCells_len] at e1
  rw [boolCells_len] at e3
  obtain ⟨lv, hlv⟩ : ∃ lv, bufSl h.length l.length (strCells l) = lv := ⟨_, rfl⟩
  obtain ⟨nv, hnv⟩ : ∃ nv, bufSl h1.length nc.length (boolCells nc) = nv := ⟨_, rfl⟩
  have k1 : lv.one = true := by rw [← hlv]; exact bufSl_one
  have k2 : lv.cells = [lv] := by rw [← hlv]; exact bufSl_cells
  have k3 : nv.one = true := by rw [← hnv]; exact bufSl_one
  have k4 : nv.cells = [nv] := by rw [← hnv]; exact bufSl_cells
  have hz0 : hdrC B.ptr lv nv 0 0 (List.replicate 16 0) = [B.ptr, lv, nv, .int .i64 0, .int .i64 0, .int .u8 0, .int .u8 0, .int .u8 0, .int .u8 0, .int .u8 0, .int .u8 0, .int .u8 0, .int .u8 0, .int .u8 0, .int .u8 0, .int .u8 0, .int .u8 0, .int .u8 0, .int .u8 0, .int .u8 0, .int .u8 0] := rfl
  have hlv1 : Sl1 h1 lv (strCells l) := by rw [← hlv]; have := Sl1.buf (h := h1) (b := h.length) (e := 9) (s := true) (xs := strCells l) d1; rwa [strCells_len] at this
  have hnv1 : Sl1 h2 nv (boolCells nc) := by rw [← hnv]; have := Sl1.buf (h := h2) (b := h1.length) (e := 4) (s := true) (xs := boolCells nc) d2; rwa [boolCells_len] at this
  have sl1 : ∀ c, slB lv = some c → h.length ≤ c ∧ c < h2.length := fun c hc => by
    rw [← hlv] at hc
    obtain ⟨rfl, hne⟩ := slB_buf hc
    have := lt_of_at (d1 (by rw [strCells_len]; exact hne))
    have := o2.1
    omega
  have sl2 : ∀ c, slB nv = some c → h.length ≤ c ∧ c < h2.length := fun c hc => by
    rw [← hnv] at hc
    obtain ⟨rfl, hne⟩ := slB_buf hc
    have := lt_of_at (d2 (by rw [boolCells_len]; exact hne))
    have := o1.1
    omega
  have o12 := o1.trans o2
  have hlen2 := o12.1
  refine ⟨h2.length, lv, nv, h2 ++ [.cells (hdrC B.ptr lv nv 0 0 (List.replicate 16 0)) 136 false], ?_, ?_, o12.trans .app, ?_, hlen2⟩
  · refine D_eq (call102 (R := fun r h' => r = _ ∧ h' = _) (by simp) ?_)
    rw [hlv] at e1
    rw [hnv] at e3
    simp [-AV.cells, -AV.one, -AV.notTup, cells_int, cells_sl, cells_ptr, cells_agg, one_int, one_sl, one_ptr, one_agg, notTup_ptr, c102, c102_r0, c102_r1, e1, e2, e3, e4, abuild, afill, k1, k2, k3, k4]
    rfl
  · refine ⟨⟨List.replicate 16 0, ring0, ?_⟩, A.same (o12.trans .app), (hlv1.same o2).same .app, hnv1.same .app, fun hc => ?_, fun hc => ?_, fun hc => ?_, hg, hl⟩
    · have hnil : st (begs (l.map fold)) (lsuf (begs (l.map fold)) (fold [])) = 0 := A.nil
      rw [hnil]
      simp
    · have := A.at_.foot_lt hc
      omega
    · have := (sl1 _ hc).2; omega
    · have := (sl2 _ hc).2; omega
  · rintro c (rfl | hc | hc | hc)
    · exact .inr hlen2
    · exact .inr (sl1 c hc).1
    · exact .inr (sl2 c hc).1
    · exact .inl hc

/-- 'Copy'. -/
theorem scan_copy (H : ScanX h sb lv nv B l nc w tab fl ob ou) : ∃ sb' h', D cfg 67 [scPtr sb] h = some (scPtr sb', h') ∧ ScanX h' sb' lv nv B l nc w tab fl ob ou ∧ Only (fun _ => False) h h' ∧ h.length ≤ sb' := by
  obtain ⟨ring, hr, g1⟩ := H.sc.hdr
  obtain ⟨s, hs⟩ : ∃ s, st (begs (l.map fold)) (lsuf (begs (l.map fold)) (fold w)) = s := ⟨_, rfl⟩
  rw [hs] at g1
  obtain ⟨C, hC⟩ : ∃ C, hdrC B.ptr lv nv s w.length ring = C := ⟨_, rfl⟩
  have hl := hdrC_len (a := B.ptr) (lv := lv) (nv := nv) (s := s) (n := w.length) hr.1
  have hone : C.all AV.one = true := by
    rw [← hC]
    have h1 : lv.one = true := by rcases H.l_ with ⟨rfl, _⟩ | ⟨_, _, _, _, _, rfl, _, _⟩ <;> rfl
    have h2 : nv.one = true := by rcases H.n_ with ⟨rfl, _⟩ | ⟨_, _, _, _, _, rfl, _, _⟩ <;> rfl
    simp only [hdrC, List.all_append, List.all_cons, h1, h2, one_ptr, one_int, List.all_nil, Bool.and_self, Bool.true_and]
    simp [byteCells, AV.one]
  rw [hC] at g1 hl
  have hd : List.take 21 (List.drop 0 C) = C := by rw [List.drop_zero, List.take_of_length_le (by omega)]
  have hd' : List.take 21 C = C := List.take_of_length_le (by omega)
  have hsp : splice [AV.ptr none, .sl none 0 0, .sl none 0 0, .int .i64 0, .int .i64 0, .int .u8 0, .int .u8 0, .int .u8 0, .int .u8 0, .int .u8 0, .int .u8 0, .int .u8 0, .int .u8 0, .int .u8 0, .int .u8 0, .int .u8 0, .int .u8 0, .int .u8 0, .int .u8 0, .int .u8 0, .int .u8 0] 0 C = C := by
    simp [splice, hl]
  have hnew := at_new0 (h := h) (l := [.cells C 136 false])
  refine ⟨h.length, h ++ [.cells C 136 false], D_eq (call67 (R := fun r h' => r = _ ∧ h' = _) (by simp) ?_), ⟨⟨ring, hr, ?_⟩, H.auto.same .app, H.l_.same .app, H.n_.same .app, fun hc => ?_, fun hc => ?_, fun hc => ?_, H.good, H.few⟩, .app, Nat.le_refl _⟩
  · simp [-AV.cells, -AV.one, cells_agg, one_agg, one_int, one_sl, one_ptr, c67, c67_r0, c67_r1, c67_r2, aload, row, g1, hl, hd', astore, hone, hsp]
  · rw [hs, hC]; simp
  · have := H.auto.at_.foot_lt hc
    omega
  · have := H.sepL
    rcases H.l_ with ⟨rfl, _⟩ | ⟨b, o, g, c, cs, rfl, h1, _⟩
    · simp [slB] at hc
    · simp [slB] at hc
      subst hc
      simp [row, look_at] at h1
  · rcases H.n_ with ⟨rfl, _⟩ | ⟨b, o, g, c, cs, rfl, h1, _⟩
    · simp [slB] at hc
    · simp [slB] at hc
      subst hc
      simp [row, look_at] at h1
end
end Go.AM
