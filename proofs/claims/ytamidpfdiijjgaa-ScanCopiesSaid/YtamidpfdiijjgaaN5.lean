/-
  'All'; the laws' own scanner; the closed example.
-/
import Derived.Test.YtamidpfdiijjgaaN4
namespace Go.AM
open Go Go.Proofs
set_option linter.unusedVariables false
set_option linter.unusedSimpArgs false
set_option maxRecDepth 100000

section
variable {h : Heap} {v u : AV} {l : List Txt} {nc : List Bool} {t : Txt}

theorem begs_fold_le (hg : bgood l = true) (hl : l.length ≤ 200) : (begs (l.map fold)).length ≤ 4096 := by
  have := bgood_begs (l := l.map fold) (by rw [bgood_fold]; exact hg)
  simp at this
  omega

theorem PatH.slB {h₀ h : Heap} {l : List Txt} {b : Nat} (H : PatH h₀ l b h) : ∀ c, slB (txtSl b l) = some c → c < h.length := fun c hc => by
  simp only [txtSl] at hc
  obtain ⟨rfl, hne⟩ := slB_buf hc
  exact lt_of_at (H.at_ hne).1

/-- 'All': refused patterns. -/
theorem scan_all_bad (hv : Sl1 h v (strCells l)) (hp : ∀ p ∈ l, p.length ≤ 9223372036854775800) (hl : l.length ≤ 200) (hg : bgood l = false) :
    ∃ h', D cfg 64 [v, u, .str t] h = some (.sl none 0 0, h') ∧ Only (fun _ => False) h h' := by
  have key : ∃ r h', D cfg 64 [v, u, .str t] h = some (r, h') ∧ (r = .sl none 0 0 ∧ Only (fun _ => False) h h') := by
    refine call64 (R := fun r h' => r = .sl none 0 0 ∧ Only (fun _ => False) h h') (args := [v, u, .str t]) (h := h) (by simp) ?_
    have hlen := fun L => hv.len (t := 38) (e := 9) (by simp) (L := L)
    simp only [strCells_len] at hlen
    have hf := fun Q hq => folds_loop (u := u) (t := t) (Q := Q) hv hl hp hq
    simp [c64, c64_r0, c64_r1, c64_r2, len1, hlen]
    refine hf _ fun b h1 H1 => ?_
    obtain ⟨h2, e2, o2⟩ := build_bad (bud := 4096) (Sl1.txt (s := true) fun hne => (H1.at_ hne).1) H1.slB (by simp; omega) (by rw [bgood_fold]; exact hg)
    simp [c64_r7, c64_r8, c64_r9, e2, extractV]
    exact H1.only.trans o2
  obtain ⟨r, h', h1, rfl, h2⟩ := key
  exact ⟨h', h1, h2⟩

theorem scan_all (hv : Sl1 h v (strCells l)) (hu : Sl1 h u (boolCells nc)) (hl : l.length ≤ 200) (hg : bgood l = true) (hn : nc.length ≤ 1000000000) (ht : t.length * l.length ≤ 1000000) (ht2 : t.length ≤ 1000000) :
    ∃ b h', D cfg 64 [v, u, .str t] h = some (hitSl b (hitsTo nc t l t.length), h') ∧ Only (fun _ => False) h h' ∧ ((hitsTo nc t l t.length).length ≠ 0 → h'[b]? = some (.cells (hitCells (hitsTo nc t l t.length)) 75 true)) := by
  have key : ∃ r h', D cfg 64 [v, u, .str t] h = some (r, h') ∧ (∃ b, r = hitSl b (hitsTo nc t l t.length) ∧ Only (fun _ => False) h h' ∧ ((hitsTo nc t l t.length).length ≠ 0 → h'[b]? = some (.cells (hitCells (hitsTo nc t l t.length)) 75 true))) := by
    refine call64 (R := fun r h' => ∃ b, r = hitSl b (hitsTo nc t l t.length) ∧ Only (fun _ => False) h h' ∧ ((hitsTo nc t l t.length).length ≠ 0 → h'[b]? = some (.cells (hitCells (hitsTo nc t l t.length)) 75 true))) (args := [v, u, .str t]) (h := h) (by simp) ?_
    have hlen := fun L => hv.len (t := 38) (e := 9) (by simp) (L := L)
    simp only [strCells_len] at hlen
    have hf := fun Q hq => folds_loop (u := u) (t := t) (Q := Q) hv hl (fun p hp => by have := (bgood_at hg hp).2; omega) hq
    simp [c64, c64_r0, c64_r1, c64_r2, len1, hlen]
    refine hf _ fun b h1 H1 => ?_
    have hb := begs_fold_le hg hl
    obtain ⟨B, tab, fl, ob, ou, h2, e2, o2, A, fA⟩ := build_ok (bud := 4096) (Sl1.txt (s := true) fun hne => (H1.at_ hne).1) H1.slB (by simp; omega) (by rw [bgood_fold]; exact hg) (by omega) hb
    have o02 := H1.only.trans o2
    obtain ⟨sb, lv, nv, h3, e3, X3, o3, f3, n3⟩ := scan_new A (hv.same o02) (hu.same o02) hg hl hn
    have o4 : Only (fun _ => False) h3 (h3 ++ [.cells (byteCells t) 5 true]) := .app
    have hlt : ∀ c, scFoot sb lv nv B (begs (l.map fold)).length ob ou c → c < (h3 ++ [AObj.cells (byteCells t) 5 true]).length := by
      intro c hc
      have : c < h3.length := by
        rcases hc with rfl | hc | hc | hc
        · obtain ⟨ring, _, g⟩ := X3.sc.hdr; exact lt_of_at g
        · rcases X3.l_ with ⟨rfl, _⟩ | ⟨b', o', g', c', cs', rfl, hr, _⟩
          · simp [AM.slB] at hc
          · simp [AM.slB] at hc; subst hc
            rcases Nat.lt_or_ge b' h3.length with h5 | h5
            · exact h5
            · simp [row, look_at, List.getElem?_eq_none h5] at hr
        · rcases X3.n_ with ⟨rfl, _⟩ | ⟨b', o', g', c', cs', rfl, hr, _⟩
          · simp [AM.slB] at hc
          · simp [AM.slB] at hc; subst hc
            rcases Nat.lt_or_ge b' h3.length with h5 | h5
            · exact h5
            · simp [row, look_at, List.getElem?_eq_none h5] at hr
        · exact X3.auto.at_.foot_lt hc
      simp; omega
    have hsb : h.length ≤ sb := by have := o02.1; omega
    have hsl : sb < h3.length := by obtain ⟨ring, _, g⟩ := X3.sc.hdr; exact lt_of_at g
    have hout := fun Q hq => out64_loop (tb := h3.length) (Q := Q) hlt (X3.same o4) (by simp) (by omega) ht ht2 hq
    simp only [outEnv64] at hout
    simp [c64_r7, c64_r8, c64_r10, c64_r11, c64_r12, e2, extractV, e3, aconv, len1, alen]
    refine hout _ fun b' h5 H5 => ?_
    have o05 : Only (fun _ => False) h h5 := ((o02.trans o3).trans o4).fresh H5.only fun c hc => by rw [hc]; exact hsb
    have hnt : (hitSl b' (hitsTo nc t l t.length)).notTup = true := bufSl_notTup
    simp [c64_r21, -AV.notTup, hnt]
    exact ⟨b', rfl, o05, fun hne => (H5.hit.at_ (fun e => hne (List.length_eq_zero_iff.1 e))).1⟩
  obtain ⟨r, h', h1, b, rfl, h2, h3⟩ := key
  exact ⟨b, h', h1, h2, h3⟩

/-! ### the laws' own scanner -/

def Fo63 (h₀ : Heap) (v u : AV) (l : List Txt) (m : Nat) (σ : St) : Prop :=
  ∃ i b h, m = l.length - i ∧ i ≤ l.length ∧ σ = ⟨[(0, v), (1, u), (5, txtSl b ((l.map fold).take i)), (6, .int .i64 i)], h⟩ ∧ PatH h₀ ((l.map fold).take i) b h

theorem folds63_loop {h₀ : Heap} (hv : Sl1 h₀ v (strCells l)) (hl : l.length ≤ 200) (hp : ∀ p ∈ l, p.length ≤ 1000000) {Q : AExit → St → Prop}
    (hq : ∀ b h, PatH h₀ (l.map fold) b h → Q (.exit 0) ⟨[(0, v), (1, u), (5, txtSl b (l.map fold)), (6, .int .i64 l.length), (12, .bool false)], h⟩) :
    Wt Try.prog (D cfg) (.loop c63_l3 (some [0, 1, 5, 6])) ⟨[(0, v), (1, u), (5, .sl none 0 0), (6, .int .i64 0)], h₀⟩ Q := by
  refine Wt.loop (Fo63 h₀ v u l) (m := l.length) ⟨0, 0, h₀, rfl, Nat.zero_le _, rfl, fun h => absurd rfl h, .refl⟩ ?_
  rintro m σ ⟨i, b, h, rfl, hi, rfl, H⟩
  have hcut : cut (some [0, 1, 5, 6]) [(0, v), (1, u), (5, txtSl b ((l.map fold).take i)), (6, .int .i64 (i : Int))] = [(0, v), (1, u), (5, txtSl b ((l.map fold).take i)), (6, .int .i64 i)] := by simp
  simp only [hcut]
  have hlen := fun L => hv.len (t := 38) (e := 9) (by simp) (L := L)
  simp only [strCells_len] at hlen
  by_cases hil : i < l.length
  · have hil' : (i : Int) < l.length := by omega
    have hwr : IntKind.wrap .i64 ((i : Int) + 1) = i + 1 := wrap_i64 (by omega) (by omega)
    have a1 := hv.at (t := 38) (e := 9) (by simp) (by simp) (i := i) (by rw [strCells_len]; exact hil)
    have b1 := (hv.same H.only).load (e := 9) (by simp) (i := i) (by rw [strCells_len]; exact hil)
    rw [strCells_get, txt_eq] at b1
    obtain ⟨h1, e1, o1⟩ := fold_ref (h := h) (s := txt l i) (hp _ (by rw [← txt_eq hil]; exact List.getElem_mem hil))
    have H1 : PatH h₀ ((l.map fold).take i) b h1 := ⟨fun hne => ⟨o1.at (H.at_ hne).1 id, (H.at_ hne).2⟩, H.only.trans o1⟩
    obtain ⟨δ, h2, b2, e2, e3, H2⟩ := H1.step (by simp; omega) (p := fold (txt l i))
    rw [← take_map hil] at e2 H2
    have hnext : Fo63 h₀ v u l (l.length - (i + 1)) ⟨[(0, v), (1, u), (5, txtSl b2 ((l.map fold).take (i + 1))), (6, .int .i64 (i + 1 : Nat))], h2⟩ := ⟨i + 1, b2, h2, rfl, hil, rfl, H2⟩
    simp [-List.map_take, c63_l3, c63_r3, c63_r4, c63_r5, len1, hlen, hil, hil', a1, b1, e1, abuildSlice, afill, zeros, e2, e3, hwr]
    exact ⟨l.length - (i + 1), by omega, by simpa [-List.map_take] using hnext⟩
  · have : i = l.length := by omega
    subst this
    rw [show (l.map fold).take l.length = l.map fold by rw [← List.length_map (f := fold), List.take_length]] at H ⊢
    have := hq b h H
    simp [c63_l3, c63_r3, len1, hlen]
    simpa using this

theorem make_scan (hv : Sl1 h v (strCells l)) (hu : Sl1 h u (boolCells nc)) (hl : l.length ≤ 200) (hg : bgood l = true) (hn : nc.length ≤ 1000000000) :
    ∃ sb lv nv B tab fl ob ou h', D cfg 63 [v, u] h = some (scPtr sb, h') ∧ ScanX h' sb lv nv B l nc [] tab fl ob ou ∧ Only (fun _ => False) h h' ∧ (∀ c, scFoot sb lv nv B (begs (l.map fold)).length ob ou c → h.length ≤ c) := by
  have key : ∃ r h', D cfg 63 [v, u] h = some (r, h') ∧ (∃ sb lv nv B tab fl ob ou, r = scPtr sb ∧ ScanX h' sb lv nv B l nc [] tab fl ob ou ∧ Only (fun _ => False) h h' ∧ (∀ c, scFoot sb lv nv B (begs (l.map fold)).length ob ou c → h.length ≤ c)) := by
    refine call63 (R := fun r h' => ∃ sb lv nv B tab fl ob ou, r = scPtr sb ∧ ScanX h' sb lv nv B l nc [] tab fl ob ou ∧ Only (fun _ => False) h h' ∧ (∀ c, scFoot sb lv nv B (begs (l.map fold)).length ob ou c → h.length ≤ c)) (args := [v, u]) (h := h) (by simp) ?_
    have hlen := fun L => hv.len (t := 38) (e := 9) (by simp) (L := L)
    simp only [strCells_len] at hlen
    have hf := fun Q hq => folds63_loop (u := u) (Q := Q) hv hl (fun p hp => by have := (bgood_at hg hp).2; omega) hq
    simp [c63, c63_r0, c63_r1, c63_r2]
    refine hf _ fun b h1 H1 => ?_
    have hb := begs_fold_le hg hl
    obtain ⟨B, tab, fl, ob, ou, h2, e2, o2, A, fA⟩ := build_ok (bud := 4096) (Sl1.txt (s := true) fun hne => (H1.at_ hne).1) H1.slB (by simp; omega) (by rw [bgood_fold]; exact hg) (by omega) hb
    have o02 := H1.only.trans o2
    obtain ⟨δ1, h3, x1, x2, d3, o3⟩ := copy_buf (t := 38) (e := 9) (k := 16) (by simp) (by simp) (by simp) (by simp) (hv.same o02) (by simp [strCells_len, roomMax]; omega) (by rw [strCells_len]; omega)
    obtain ⟨δ2, h4, x3, x4, d4, o4⟩ := copy_buf (t := 68) (e := 4) (k := 1) (by simp) (by simp) (by simp) (by simp) ((hu.same o02).same o3) (by simp [boolCells_len, roomMax]; omega) (by rw [boolCells_len]; omega)
    rw [strCells_len] at x1
    rw [boolCells_len] at x3
    have hv4 : Sl1 h4 (bufSl h2.length l.length (strCells l)) (strCells l) := by have := Sl1.buf (h := h4) (b := h2.length) (e := 9) (s := true) (xs := strCells l) (fun hne => o4.at (d3 hne) id); rwa [strCells_len] at this
    have hu4 : Sl1 h4 (bufSl h3.length nc.length (boolCells nc)) (boolCells nc) := by have := Sl1.buf (h := h4) (b := h3.length) (e := 4) (s := true) (xs := boolCells nc) d4; rwa [boolCells_len] at this
    obtain ⟨sb, lv, nv, h5, e5, X5, o5, f5, n5⟩ := scan_new ((A.same o3).same o4) hv4 hu4 hg hl hn
    have hfin : ∃ sb' lv nv B tab fl ob ou, scPtr sb = scPtr sb' ∧ ScanX h5 sb' lv nv B l nc [] tab fl ob ou ∧ Only (fun _ => False) h h5 ∧ (∀ c, scFoot sb' lv nv B (begs (l.map fold)).length ob ou c → h.length ≤ c) := by
      refine ⟨sb, lv, nv, B, tab, fl, ob, ou, rfl, X5, ((o02.trans o3).trans o4).trans o5, fun c hc => ?_⟩
      have i1 := o02.1
      have i2 := o3.1
      have i3 := o4.1
      have i4 := H1.only.1
      rcases f5 c hc with hc | hc
      · have := fA c hc; omega
      · omega
    simp [c63_r6, c63_r7, c63_r9, e2, extractV, x1, x2, x3, x4, e5]
    simpa using hfin
  obtain ⟨r, h', h1, sb, lv, nv, B, tab, fl, ob, ou, rfl, h2, h3, h4⟩ := key
  exact ⟨sb, lv, nv, B, tab, fl, ob, ou, h', h1, h2, h3, h4⟩
end

theorem awake15w : ∃ h', D cfg 62 [] [] = some (.bool true, h') := by
  have key : ∃ r h', D cfg 62 [] [] = some (r, h') ∧ (r = .bool true) := by
    refine call62 (R := fun r h' => r = .bool true) (args := []) (h := []) (by simp) ?_
    have hv : Sl1 [.cells (strCells [[97]]) 9 true] (.sl (some ⟨0, 0, 1⟩) 1 1) (strCells [[97]]) := Sl1.cells (b := 0) (e := 9) (s := true) (xs := strCells [[97]]) rfl
    have hn0 : Sl1 [.cells (strCells [[97]]) 9 true] (.sl none 0 0) (boolCells []) := .nil
    have hg : bgood [[97]] = true := by decide
    obtain ⟨b1, h1, e1, o1, _⟩ := scan_all (t := [97, 65]) hv hn0 (by simp) hg (by simp) (by simp) (by simp)
    have hh1 : hitsTo [] [97, 65] [[97]] 2 = [(0, 1)] := by decide
    have hh2 : hitsTo [true] [97, 65] [[97]] 2 = [(0, 1), (0, 2)] := by decide
    have hl2 : ([97, 65] : Txt).length = 2 := rfl
    rw [hl2, hh1] at e1
    have e1' : D cfg 64 [.sl (some ⟨0, 0, 1⟩) 1 1, .sl none 0 0, .str [97, 65]] [.cells [.str [97]] 9 true] = some (hitSl b1 [(0, 1)], h1) := e1
    have hv2 : Sl1 (h1 ++ [.cells (strCells [[97]]) 9 true] ++ [.cells (boolCells [true]) 4 true]) (.sl (some ⟨h1.length, 0, 1⟩) 1 1) (strCells [[97]]) := Sl1.cells (b := h1.length) (e := 9) (s := true) (xs := strCells [[97]]) (by simp)
    have hn2 : Sl1 (h1 ++ [.cells (strCells [[97]]) 9 true] ++ [.cells (boolCells [true]) 4 true]) (.sl (some ⟨h1.length + 1, 0, 1⟩) 1 1) (boolCells [true]) := Sl1.cells (b := h1.length + 1) (e := 4) (s := true) (xs := boolCells [true]) (by simp)
    obtain ⟨b2, h2, e2, _, _⟩ := scan_all (t := [97, 65]) hv2 hn2 (by simp) hg (by simp) (by simp) (by simp)
    rw [hl2, hh2] at e2
    have e2' : D cfg 64 [.sl (some ⟨h1.length, 0, 1⟩) 1 1, .sl (some ⟨h1.length + 1, 0, 1⟩) 1 1, .str [97, 65]] (h1 ++ [.cells [.str [97]] 9 true, .cells [.bool true] 4 true]) = some (hitSl b2 [(0, 1), (0, 2)], h2) := by
      have : h1 ++ [.cells [.str [97]] 9 true, .cells [.bool true] 4 true] = h1 ++ [.cells (strCells [[97]]) 9 true] ++ [.cells (boolCells [true]) 4 true] := by simp [strCells, boolCells]
      rw [this]; exact e2
    simp [c62, c62_r0, c62_r1, abuildSlice, afill, zeros, e1', e2', len1, hitSl_len]
  obtain ⟨r, h', h1, rfl⟩ := key
  exact ⟨h', h1⟩

theorem awake15c {fs : List FuncId} (hf : fs.contains 62 = true) {h : Heap} : mixed fs (D cfg) 62 [] h = some (.bool true, h) := by
  obtain ⟨h', hx⟩ := awake15w
  exact awake_ofD hx hf
end Go.AM
