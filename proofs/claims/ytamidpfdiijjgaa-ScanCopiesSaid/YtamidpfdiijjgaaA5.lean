/-
  What 'row' does: the whole of it.
-/
import Derived.Test.YtamidpfdiijjgaaA4
namespace Go.AM
open Go Go.Proofs
set_option linter.unusedVariables false
set_option linter.unusedSimpArgs false
set_option maxRecDepth 100000

theorem intSl_len {b : Nat} {l l' : List Int} (h : l.length = l'.length) : intSl b l = intSl b l' := by
  have : l = [] ↔ l' = [] := by rw [← List.length_eq_zero_iff, ← List.length_eq_zero_iff, h]
  simp only [intSl, this, h]

def rowOut (X ps : List Txt) (x : Txt) (o : List Int) : List Int := if x = [] then places x ps 0 else isort (o ++ places x ps 0)

/-- What the one row's run comes to. -/
structure RowX (h : Heap) (B : AB) (n : Nat) (tab : Nat → Nat → Nat) (fl : Nat → Nat) (ob : Nat → Nat) (ou : Nat → List Int) (X ps : List Txt) (s : Nat) (x : Txt) (h' : Heap) (tab' : Nat → Nat → Nat) (fl' : Nat → Nat) (ob' : Nat → Nat) (ou' : Nat → List Int) (bl : Nat) : Prop where
  at_ : AutoAt h' B n tab' fl' ob' ou'
  t1 : ∀ s' c, s' ≠ s → tab' s' c = tab s' c
  t2 : ∀ c, c < 256 → tab' s c = if x ++ [UInt8.ofNat c] ∈ X then st X (x ++ [UInt8.ofNat c]) else if x = [] then tab s c else tab (fl s) c
  f1 : x ≠ [] → ∀ c, c < 256 → x ++ [UInt8.ofNat c] ∈ X → fl' (st X (x ++ [UInt8.ofNat c])) = tab (fl s) c
  f2 : ∀ s', (x = [] ∨ ∀ c, c < 256 → X[s']? ≠ some (x ++ [UInt8.ofNat c])) → fl' s' = fl s'
  o1 : ∀ s', s' ≠ s → ou' s' = ou s'
  o2 : ou' s = rowOut X ps x (ou (fl s))
  only : Only (fun c => c = B.nx ∨ c = B.fl ∨ c = B.ou) h h'
  foot : ∀ c, B.foot n ob' ou' c → B.foot n ob ou c ∨ h.length ≤ c
  blk : kidn X x 256 ≠ [] → h.length ≤ bl ∧ h'[bl]? = some (.cells (intCells (kidn X x 256)) 3 true)

section
variable {h : Heap} {B : AB} {Bt : TB} {T : TM} {n : Nat} {tab : Nat → Nat → Nat} {fl : Nat → Nat} {ob : Nat → Nat} {ou : Nat → List Int} {X ps : List Txt} {s : Nat} {x : Txt}

/-- The loop and what is behind it. -/
theorem row_end {h₁ : Heap} {tab₁ : Nat → Nat → Nat} {ob₁ : Nat → Nat} {ou₁ : Nat → List Int} (H : AutoAt h B n tab fl ob ou) (H1 : AutoAt h₁ B n tab₁ fl ob₁ ou₁) (Ht : TrX h₁ Bt T X ps) (hn : n = X.length) (hd : ∀ b, Bt.foot T b → b ≠ B.nx ∧ b ≠ B.fl ∧ b ≠ B.ou) (hx : X[s]? = some x) (hf : fl s < n)
    (hfs : x ≠ [] → fl s ≠ s) (hs0 : s = 0 ↔ x = []) (t1 : ∀ s' c, s' ≠ s → tab₁ s' c = tab s' c) (t2 : ∀ c, c < 256 → tab₁ s c = if x = [] then tab s c else tab (fl s) c) (o1 : ∀ s', s' ≠ s → ou₁ s' = ou s') (o2 : ou₁ s = rowOut X ps x (ou (fl s)))
    (only : Only (fun c => c = B.nx ∨ c = B.fl ∨ c = B.ou) h h₁) (foot : ∀ c, B.foot n ob₁ ou₁ c → B.foot n ob ou c ∨ h.length ≤ c)
    {R : AV → Heap → Prop} (hR : ∀ h' tab' fl' bl, RowX h B n tab fl ob ou X ps s x h' tab' fl' ob₁ ou₁ bl → R (intSl bl (kidn X x 256)) h') :
    Wt Try.prog (D cfg) (.seq (.reg c100_r7 none (some [0, 1, 2, 7, 8])) (.seq (.seq (.reg c100_r8 none (some [0, 1, 2, 7, 8, 69])) (.block 0 (.loop c100_l9 (some [0, 1, 2, 7, 8, 69])))) (.seq (.reg c100_r18 none (some [6])) .ret))) ⟨[(0, B.ptr), (1, Bt.ptr), (2, .int .i64 s), (7, .int .i64 (fl s : Nat))], h₁⟩ (Ends Try.prog [.tmp 6] R) := by
  have hloop := fun Q hq => row_loop (Q := Q) H1 Ht hn (fun b hb => ⟨(hd b hb).1, (hd b hb).2.1⟩) hx hf hfs hs0 hq
  simp [c100_r7, c100_r8]
  simp [rowEnv] at hloop
  refine hloop _ fun h' tab' fl' bl I => ?_
  have hfin := hR h' tab' fl' bl ⟨I.at_, fun s' c hne => by rw [I.t1 s' c hne, t1 s' c hne], fun c hc => ?_, fun hne c hc hcm => ?_, I.f2, o1, o2, ?_, foot, fun hne => ?_⟩
  · simp [c100_r18, -AV.notTup, intSl_notTup]
    exact hfin
  · rw [I.t2 c hc, t2 c hc]
    simp [hc]
  · rw [I.f1 hne c hc hcm, t1 _ _ (hfs hne)]
  · exact only.trans (I.only.mono fun b _ hb => by rcases hb with hb | hb <;> simp [hb])
  · obtain ⟨h1, h2⟩ := I.blk hne
    exact ⟨Nat.le_trans only.1 h1, h2⟩

theorem row_run (H : AutoAt h B n tab fl ob ou) (Ht : TrX h Bt T X ps) (hn : n = X.length) (hps : ps.length ≤ 9000000000000) (hd : ∀ b, Bt.foot T b → b ≠ B.nx ∧ b ≠ B.fl ∧ b ≠ B.ou) (hx : X[s]? = some x) (hf : fl s < n)
    (hfs : x ≠ [] → fl s ≠ s) (hs0 : s = 0 ↔ x = []) (hou : x ≠ [] → (ou (fl s)).length + (places x ps 0).length ≤ 9000000000000) :
    ∃ h' tab' fl' ob' ou' bl, D cfg 100 [B.ptr, Bt.ptr, .int .i64 s] h = some (intSl bl (kidn X x 256), h') ∧ RowX h B n tab fl ob ou X ps s x h' tab' fl' ob' ou' bl := by
  have key : ∃ r h', D cfg 100 [B.ptr, Bt.ptr, .int .i64 s] h = some (r, h') ∧ (∃ tab' fl' ob' ou' bl, r = intSl bl (kidn X x 256) ∧ RowX h B n tab fl ob ou X ps s x h' tab' fl' ob' ou' bl) := by
    refine call100 (R := fun r h' => ∃ tab' fl' ob' ou' bl, r = intSl bl (kidn X x 256) ∧ RowX h B n tab fl ob ou X ps s x h' tab' fl' ob' ou' bl) (args := [B.ptr, Bt.ptr, .int .i64 s]) (h := h) (by simp) ?_
    have hs : s < n := by rw [hn]; exact (List.getElem?_eq_some_iff.1 hx).1
    have hsn : (s : Int) < n := by omega
    have hs1 : s + 1 ≤ n := hs
    have hfn : ((fl s : Nat) : Int) < n := by omega
    have g1 := H.hdr
    have g2 := H.fls
    have g3 := H.nx
    have g4 := H.outs
    have g5 := nums_at (fl := fl) hs
    obtain ⟨n1, n2, n3, n4, n5, n6⟩ := H.ne
    have hlt := H.lt
    have hpl : (places x ps 0).length ≤ 9000000000000 := Nat.le_trans places_len hps
    by_cases hx0 : x = []
    · have hs00 := hs0.2 hx0
      have hs00' : ¬ (0 < s) := by omega
      obtain ⟨b1, h1, e1, p1, d1⟩ := tr_endsB Ht (by omega) hx
      have hsame : sameAt h h1 B.a = true := sameAt_of g1 (p1.at g1 id) (by simp [AObj.beq, beqL, AV.beq, AV.beqP, oAA, AA.beq])
      have k1 := p1.at g1 id
      have k4 := p1.at g4 id
      obtain ⟨h2, hh2⟩ : ∃ h2, h1.set B.ou (.cells ((outC n ob ou).set s (intSl b1 (places x ps 0))) 30 true) = h2 := ⟨_, rfl⟩
      have q2 : Only (fun c => c = B.ou) h h2 := by rw [← hh2]; exact (p1.mono fun _ _ => False.elim).trans (.set rfl)
      have A2 := H.renew (s := s) (b := b1) (l := places x ps 0) q2 (by rw [← hh2, List.getElem?_set_self (lt_of_at k4)]) (fun hne => by
        obtain ⟨i1, i2⟩ := d1 hne
        refine ⟨?_, by omega⟩
        rw [← hh2, List.getElem?_set_ne (by omega)]; exact i2) (by omega)
      have Ht2 : TrX h2 Bt T X ps := Ht.keep q2 fun b hb => by have := (hd b hb).2.2; exact this
      have hend := fun hR => row_end (R := fun r h' => ∃ tab' fl' ob' ou' bl, r = intSl bl (kidn X x 256) ∧ RowX h B n tab fl ob ou X ps s x h' tab' fl' ob' ou' bl) H A2 Ht2 hn hd hx hf hfs hs0 (fun _ _ _ => rfl) (fun c _ => by rw [if_pos hx0]) (fun s' hne => by simp [hne]) (by simp [rowOut, hx0]) (q2.mono fun _ _ h => .inr (.inr h)) (fun c hc => by
        rcases hc with hc | ⟨s', h1', h2', h3'⟩
        · exact .inl (.inl hc)
        · by_cases he : s' = s
          · subst he
            simp only [if_true] at h2' h3'
            rw [h3', (d1 h2').1]
            exact .inr (Nat.le_refl _)
          · simp only [if_neg he] at h2' h3'
            exact .inl (.inr ⟨s', h1', h2', h3'⟩)) hR
      have hend' := hend fun h' tab' fl' bl I => ⟨tab', fl', _, _, bl, rfl, I⟩
      simp only [c100, Wt_seq] at hend' ⊢
      simp [-AV.cells, -AV.one, -touchD, -Touch.same, touchD_no, touchD_new, touchD_set, same_no, same_blk, same_heaps, -AV.notTup, cells_agg, cells_int, cells_sl, one_agg, one_int, one_sl, c100_r0, c100_r1, c100_r2, c100_r6, fieldA, aload, row, g1, g2, g3, g4, g5, aindexAddr, hs, hs1, hsn, nums_len, nums_get, outC_len, outC_get, hs00', e1, k1, k4, hsame, astore, intSl_one, intSl_cells, hh2]
      simpa using hend'
    · have hs00 : s ≠ 0 := fun h => hx0 (hs0.1 h)
      have hou := hou hx0
      have hs00' : 0 < s := by omega
      have hrow := grid_row (tab := tab) hf
      have hle : fl s * 256 + 256 ≤ n * 256 := by omega
      have hle' : s * 256 + 256 ≤ n * 256 := by omega
      obtain ⟨tabR, htR⟩ : ∃ g : Nat → Nat → Nat, g = fun s' b' => if s' = s then tab (fl s) b' else tab s' b' := ⟨_, rfl⟩
      have hspl : splice (grid n tab) (s * 256) (rowC (tab (fl s))) = grid n tabR := by rw [grid_splice hs, htR]
      obtain ⟨h1, hh1⟩ : ∃ h1, h.set B.nx (.cells (grid n tabR) 132 true) = h1 := ⟨_, rfl⟩
      have A1 : AutoAt h1 B n tabR fl ob ou := by
        rw [← hh1]
        refine H.setNx fun s' b' => ?_
        rw [htR]
        simp only
        split
        · exact H.le _ _
        · exact H.le _ _
      have q1 : Only (fun c => c = B.nx) h h1 := by rw [← hh1]; exact .set rfl
      have Ht1 : TrX h1 Bt T X ps := Ht.keep q1 fun b hb => by have := (hd b hb).1; exact this
      have hl1 : h1.length = h.length := by rw [← hh1]; simp
      have k1 := A1.hdr
      have k4 := A1.outs
      have hcl := clone_run (h := h1) (b := ob (fl s)) (l := ou (fl s)) (fun hne => (A1.inn (fl s) hf hne).1) (by omega)
      obtain ⟨h2, e2, o2, c2⟩ : ∃ h2, D cfg 93 [intSl (ob (fl s)) (ou (fl s))] h1 = some (intSl h1.length (ou (fl s)), h2) ∧ Only (fun _ => False) h1 h2 ∧ (ou (fl s) ≠ [] → h2[h1.length]? = some (.cells (intCells (ou (fl s))) 3 true)) := by
        refine ⟨_, hcl, ?_, fun hne => ?_⟩
        · split
          · exact .refl
          · exact .app
        · rw [if_neg hne]; simp
      obtain ⟨b3, h3, e3, o3, c3⟩ := tr_endsB (Ht1.same o2) (by omega) hx
      have s1 : sameAt h1 h2 B.a = true := sameAt_of k1 (o2.at k1 id) (by simp [AObj.beq, beqL, AV.beq, AV.beqP, oAA, AA.beq])
      have s2 : sameAt h2 h3 B.a = true := sameAt_of (o2.at k1 id) (o3.at (o2.at k1 id) id) (by simp [AObj.beq, beqL, AV.beq, AV.beqP, oAA, AA.beq])
      have k2 := o2.at k1 id
      have k3 := o3.at k2 id
      have k4' := o3.at (o2.at k4 id) id
      have hv3 : Sl1 h3 (intSl b3 (places x ps 0)) (intCells (places x ps 0)) := Sl1.ints fun hne => (c3 hne).2
      obtain ⟨δ, e4, d4, o4, t4⟩ := append_ints (h := h3) (b := h1.length) (l := ou (fl s)) (v := intSl b3 (places x ps 0)) (l2 := places x ps 0) (fun hne => o3.at (c2 hne) id) hv3 (by omega)
      have hlt1 := A1.lt
      have hlen12 := o2.1
      have hlen23 := o3.1
      have ht4 := t4 B.a (by omega) (fun h => by omega)
      obtain ⟨b4, hb4⟩ : ∃ b4, (if ou (fl s) = [] then h3.length else h1.length) = b4 := ⟨_, rfl⟩
      have hb4' : h1.length ≤ b4 := by rw [← hb4]; split <;> omega
      rw [hb4] at e4 d4
      obtain ⟨L, hL⟩ : ∃ L, ou (fl s) ++ places x ps 0 = L := ⟨_, rfl⟩
      rw [hL] at e4 d4
      have hLl : L.length ≤ 9000000000000 := by rw [← hL]; simp; omega
      obtain ⟨h4, hh4⟩ : ∃ h4, h3.apply δ = h4 := ⟨_, rfl⟩
      rw [hh4] at d4 o4
      have o14 : Only (fun c => c = B.ou) h1 h4 := by
        refine ⟨by have := o4.1; omega, fun c hc hne => ?_⟩
        rw [o4.2 c (by omega) (fun h => by omega), o3.2 c (by omega) id, o2.2 c hc id]
      have k5 : h4[B.ou]? = some (.cells (outC n ob ou) 30 true) := o4.at k4' (fun h => by omega)
      have k5' : h4[B.a]? = _ := o4.at k3 (fun h => by omega)
      obtain ⟨h5, hh5⟩ : ∃ h5, h4.set B.ou (.cells ((outC n ob ou).set s (intSl b4 L)) 30 true) = h5 := ⟨_, rfl⟩
      have o15 : Only (fun c => c = B.ou) h1 h5 := by rw [← hh5]; exact o14.trans (.set rfl)
      have k6 : h5[B.ou]? = some (.cells ((outC n ob ou).set s (intSl b4 L)) 30 true) := by rw [← hh5, List.getElem?_set_self (lt_of_at k5)]
      have k6' : h5[B.a]? = _ := o15.at k1 n3
      have k6s : ((outC n ob ou).set s (intSl b4 L))[s]? = some (intSl b4 L) := List.getElem?_set_self (by rw [outC_len]; exact hs)
      have d5 : L ≠ [] → h5[b4]? = some (.cells (intCells L) 3 true) := fun hne => by
        rw [← hh5, List.getElem?_set_ne (by omega)]; exact d4 hne
      have e6 := sort_run (h := h5) (b := b4) (l := L) d5 hLl
      obtain ⟨h6, hh6⟩ : ∃ h6, (if L = [] then h5 else h5.set b4 (.cells (intCells (isort L)) 3 true)) = h6 := ⟨_, rfl⟩
      rw [hh6] at e6
      have o16 : Only (fun c => c = B.ou) h1 h6 := by
        rw [← hh6]
        split
        · exact o15
        · refine ⟨by have := o15.1; simp; omega, fun c hc hne => ?_⟩
          rw [List.getElem?_set_ne (by omega), o15.2 c hc hne]
      have hni : isort L = [] ↔ L = [] := by rw [← List.length_eq_zero_iff, isort_len, List.length_eq_zero_iff]
      have A6 := A1.renew (s := s) (b := b4) (l := isort L) o16 (by
        rw [intSl_len (l' := L) isort_len, ← hh6]
        split
        · exact k6
        · rw [List.getElem?_set_ne (by omega)]; exact k6) (fun hne => by
        rw [← hh6, if_neg (fun h => hne (hni.2 h))]
        have := lt_of_at (d5 fun h => hne (hni.2 h))
        exact ⟨by simp [this], hb4'⟩) (by rw [isort_len]; omega)
      have Ht6 : TrX h6 Bt T X ps := Ht1.keep o16 fun b hb => (hd b hb).2.2
      have o06 : Only (fun c => c = B.nx ∨ c = B.fl ∨ c = B.ou) h h6 := (q1.mono fun _ _ h => .inl h).trans (o16.mono fun _ _ h => .inr (.inr h))
      have hend := fun hR => row_end (R := fun r h' => ∃ tab' fl' ob' ou' bl, r = intSl bl (kidn X x 256) ∧ RowX h B n tab fl ob ou X ps s x h' tab' fl' ob' ou' bl) H A6 Ht6 hn hd hx hf hfs hs0 (fun s' c hne => by rw [htR]; simp [hne]) (fun c _ => by rw [if_neg hx0, htR]; simp) (fun s' hne => by simp [hne]) (by simp [rowOut, hx0, hL]) o06 (fun c hc => by
        rcases hc with hc | ⟨s', h1', h2', h3'⟩
        · exact .inl (.inl hc)
        · by_cases he : s' = s
          · subst he
            simp only [if_true] at h2' h3'
            rw [h3']
            exact .inr (by omega)
          · simp only [if_neg he] at h2' h3'
            exact .inl (.inr ⟨s', h1', h2', h3'⟩)) hR
      have hend' := hend fun h' tab' fl' bl I => ⟨tab', fl', _, _, bl, rfl, I⟩
      have g6 := outC_at (ob := ob) (ou := ou) hf
      simp only [c100, Wt_seq] at hend' ⊢
      simp [-AV.cells, -AV.one, -touchD, -Touch.same, touchD_no, touchD_new, touchD_set, same_no, same_blk, same_heaps, -AV.notTup, cells_agg, cells_int, cells_sl, one_agg, one_int, one_sl, c100_r0, c100_r1, c100_r2, c100_r3, c100_r4, c100_r5, fieldA, aload, row, g1, g2, g3, g4, g5, g6, aindexAddr, hs, hs1, hsn, hf, hfn, hle, hle', nums_len, nums_get, outC_len, outC_get, grid_len, hs00', hrow, rowC_len, rowC_one, hspl, hh1, k1, k2, k3, k4, k4', k5, k5', k6, k6', k6s, e2, e3, e4, ht4, hh4, s1, s2, astore, intSl_one, intSl_cells, hh5, e6]
      simpa using hend'
  obtain ⟨r, h', h1, tab', fl', ob', ou', bl, rfl, h2⟩ := key
  exact ⟨h', tab', fl', ob', ou', bl, h1, h2⟩
end
end Go.AM
