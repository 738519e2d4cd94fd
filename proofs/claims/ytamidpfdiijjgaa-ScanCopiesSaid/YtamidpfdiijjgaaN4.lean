/-
  What a scanner finds in a text: 'All'.
-/
import Derived.Test.YtamidpfdiijjgaaN3
namespace Go.AM
open Go Go.Proofs
set_option linter.unusedVariables false
set_option linter.unusedSimpArgs false
set_option maxRecDepth 100000

section
variable {h : Heap} {v : AV} {l : List Txt}
def Fw61 (v : AV) (l : List Txt) (h : Heap) (m : Nat) (σ : St) : Prop :=
  ∃ i, m = l.length - i ∧ i ≤ l.length ∧ i ≤ 15 ∧ σ = ⟨[(0, v), (3, .int .i64 i)], h⟩ ∧ bgood (l.take i) = true

theorem few15_run (hv : Sl1 h v (strCells l)) (hl : l.length ≤ 9223372036854775807) : D cfg 61 [v] h = some (.bool (fewB 15 l), h) := by
  refine D_eq (call61 (R := fun r h' => r = _ ∧ h' = _) (by simp) ?_)
  have hlen := fun L => hv.len (t := 38) (e := 9) (by simp) (L := L)
  simp only [strCells_len] at hlen
  simp [c61, c61_r0, c61_r1]
  refine Wt.loop (Fw61 v l h) (m := l.length) ⟨0, rfl, Nat.zero_le _, by omega, rfl, rfl⟩ ?_
  rintro m σ ⟨i, rfl, hi, hi20, rfl, hg⟩
  have hcut : cut (some [0, 3]) [(0, v), (3, .int .i64 (i : Int))] = [(0, v), (3, .int .i64 i)] := by simp
  simp only [hcut]
  by_cases hil : i < l.length
  · have hil' : (i : Int) < l.length := by omega
    by_cases h15 : i < 15
    · have h15' : (i : Int) < 15 := by omega
      have hwr : IntKind.wrap .i64 ((i : Int) + 1) = i + 1 := wrap_i64 (by omega) (by omega)
      have a1 := hv.at (t := 38) (e := 9) (by simp) (by simp) (i := i) (by rw [strCells_len]; exact hil)
      have b1 := hv.load (e := 9) (by simp) (i := i) (by rw [strCells_len]; exact hil)
      rw [strCells_get, txt_eq] at b1
      have htk : l.take (i + 1) = l.take i ++ [txt l i] := by rw [List.take_succ_eq_append_getElem hil, txt_eq hil]
      by_cases hp : 1 ≤ (txt l i).length ∧ (txt l i).length ≤ 16
      · have hnext : Fw61 v l h (l.length - (i + 1)) ⟨[(0, v), (3, .int .i64 (i + 1 : Nat))], h⟩ := ⟨i + 1, rfl, hil, by omega, rfl, by rw [htk, bgood_snoc, hg]; simp [hp]⟩
        have h1 : ¬ ((txt l i).length < 1) := by omega
        have h2 : ¬ (16 < (txt l i).length) := by omega
        have h3 : ¬ (((txt l i).length : Int) < 1) := by omega
        have h4 : ¬ ((16 : Int) < (txt l i).length) := by omega
        have h5 : ¬ (txt l i = []) := fun e => by rw [e] at h1; simp at h1
        simp [c61_l2, c61_r2, c61_r3, c61_r4, len1, hlen, alen9, hil, hil', h15, h15', a1, b1, h1, h2, h3, h4, h5, hwr]
        exact ⟨l.length - (i + 1), by omega, by simpa using hnext⟩
      · have hbg : fewB 15 l = false := by
          have : bgood l = false := by
            simp only [bgood, List.all_eq_false, decide_eq_true_eq]
            refine ⟨txt l i, ?_, hp⟩
            rw [← txt_eq hil]; exact List.getElem_mem hil
          simp [fewB, this]
        by_cases h1 : (txt l i).length < 1
        · have h0 : txt l i = [] := List.length_eq_zero_iff.1 (by omega)
          simp [c61_l2, c61_r2, c61_r4, c61_r5, len1, hlen, alen9, hil, hil', h15, h15', a1, b1, h0, hbg]
        · have h2 : 16 < (txt l i).length := by omega
          have h3 : ¬ (((txt l i).length : Int) < 1) := by omega
          have h4 : (16 : Int) < (txt l i).length := by omega
          have h5 : ¬ (txt l i = []) := fun e => by rw [e] at h1; simp at h1
          simp [c61_l2, c61_r2, c61_r4, c61_r5, len1, hlen, alen9, hil, hil', h15, h15', a1, b1, h1, h2, h3, h4, h5, hbg]
    · have h15' : ¬ ((i : Int) < 15) := by omega
      have hgt : ¬ (l.length ≤ 15) := by omega
      have hgt' : ¬ ((l.length : Int) ≤ 15) := by omega
      simp [c61_l2, c61_r2, c61_r6, len1, hlen, hil, hil', h15, h15', hgt, hgt', fewB]
  · have : i = l.length := by omega
    subst this
    rw [List.take_length] at hg
    have hle : l.length ≤ 15 := hi20
    have hle' : (l.length : Int) ≤ 15 := by omega
    simp [c61_l2, c61_r2, c61_r6, len1, hlen, hle, hle', fewB, hg]


end

/-! ### hits -/

def hitCells (l : List (Int × Int)) : List AV := l.flatMap fun p => [.int .i64 p.1, .int .i64 p.2]
theorem hitCells_len {l : List (Int × Int)} : (hitCells l).length = l.length * 2 := by
  induction l with
  | nil => rfl
  | cons x r ih => simp only [hitCells, List.flatMap_cons, List.length_append, List.length_cons, List.length_nil] at ih ⊢; omega
theorem hitCells_app {a b : List (Int × Int)} : hitCells (a ++ b) = hitCells a ++ hitCells b := by simp [hitCells]
def hitSl (b : Nat) (l : List (Int × Int)) : AV := bufSl b l.length (hitCells l)
theorem hitSl_len {L : Look} {b : Nat} {l : List (Int × Int)} : alen Try.prog L 71 (hitSl b l) = some (.int .i64 l.length) := by
  unfold hitSl bufSl
  split
  · rename_i e; simp [alen, e]
  · simp [alen]

def hitsTo (nc : List Bool) (t : Txt) (l : List Txt) : Nat → List (Int × Int)
  | 0 => []
  | n + 1 => hitsTo nc t l n ++ (hits nc (t.take (n + 1)) l 0).map fun z => (z, ((n + 1 : Nat) : Int))

theorem hitsTo_len {nc : List Bool} {t : Txt} {l : List Txt} : ∀ {n : Nat}, (hitsTo nc t l n).length ≤ n * l.length
  | 0 => by simp [hitsTo]
  | n + 1 => by
    have h1 := hitsTo_len (nc := nc) (t := t) (l := l) (n := n)
    have h2 := hits_len (nc := nc) (w := t.take (n + 1)) (l := l) (i := 0)
    simp only [hitsTo, List.length_append, List.length_map, Nat.add_mul]
    omega

/-- Where hits lie. -/
structure HitH (h₀ : Heap) (l : List (Int × Int)) (b : Nat) (h : Heap) : Prop where
  at_ : l.length ≠ 0 → h[b]? = some (.cells (hitCells l) 75 true) ∧ h₀.length ≤ b
  
theorem HitH.step {h₀ h : Heap} {l : List (Int × Int)} {b : Nat} (H : HitH h₀ l b h) (hh : h₀.length ≤ h.length) (hn : l.length ≤ 1000000) {p : Int × Int} :
    ∃ δ h' b', b' = (if l.length = 0 then h.length + 1 else b) ∧ append2 Try.prog (look (h ++ [AObj.cells [.int .i64 p.1, .int .i64 p.2] 75 true])) (h.length + 1) 71 71 [hitSl b l, .sl (some ⟨h.length, 0, 2⟩) 1 1] = some (hitSl b' (l ++ [p]), δ) ∧ Heap.apply (h ++ [AObj.cells [.int .i64 p.1, .int .i64 p.2] 75 true]) δ = h' ∧
      HitH h₀ (l ++ [p]) b' h' ∧ Only (fun c => c = b ∧ l.length ≠ 0) h h' := by
  obtain ⟨δ, h', e1, e2, e3, e4⟩ := append_buf (t := 71) (e := 75) (k := 2) (by simp) (by simp) (by decide) (by simp) (by simp) (h := h) (b := b) (n := l.length) (xs := hitCells l) (ys := [.int .i64 p.1, .int .i64 p.2]) (by simp) (by rw [hitCells_len]) (fun hne => (H.at_ hne).1) hn
  have e : hitCells l ++ [AV.int .i64 p.1, AV.int .i64 p.2] = hitCells (l ++ [p]) := by rw [hitCells_app]; rfl
  rw [e] at e1 e3
  refine ⟨δ, h', if l.length = 0 then h.length + 1 else b, rfl, ?_, e2, ⟨fun _ => ⟨e3, ?_⟩⟩, e4⟩
  · simp only [hitSl, List.length_append, List.length_cons, List.length_nil]
    exact e1
  · split
    · omega
    · rename_i hne; exact (H.at_ hne).2

theorem HitH.keep {h₀ h h' : Heap} {l : List (Int × Int)} {b : Nat} {fp : Nat → Prop} (H : HitH h₀ l b h) (ho : Only fp h h') (hf : l.length ≠ 0 → ¬ fp b) : HitH h₀ l b h' :=
  ⟨fun hne => ⟨ho.at (H.at_ hne).1 (hf hne), (H.at_ hne).2⟩⟩

/-! ### the loops of 'All' -/

theorem take_map {l : List Txt} {i : Nat} (hi : i < l.length) : (l.map fold).take (i + 1) = (l.map fold).take i ++ [fold (txt l i)] := by
  rw [List.take_succ_eq_append_getElem (by simpa using hi)]
  simp [txt_eq hi]

def Fo64 (h₀ : Heap) (v u : AV) (l : List Txt) (t : Txt) (m : Nat) (σ : St) : Prop :=
  ∃ i b h, m = l.length - i ∧ i ≤ l.length ∧ σ = ⟨[(0, v), (1, u), (2, .str t), (7, txtSl b ((l.map fold).take i)), (18, v), (19, .int .i64 l.length), (20, .int .i64 i)], h⟩ ∧ PatH h₀ ((l.map fold).take i) b h

theorem folds_loop {h₀ : Heap} {v u : AV} {l : List Txt} {t : Txt} (hv : Sl1 h₀ v (strCells l)) (hl : l.length ≤ 200) (hp : ∀ p ∈ l, p.length ≤ 9223372036854775800) {Q : AExit → St → Prop}
    (hq : ∀ b h, PatH h₀ (l.map fold) b h → Q (.exit 0) ⟨[(0, v), (1, u), (2, .str t), (7, txtSl b (l.map fold)), (18, v), (19, .int .i64 l.length), (20, .int .i64 l.length), (21, .bool false)], h⟩) :
    Wt Try.prog (D cfg) (.loop c64_l3 (some [0, 1, 2, 7, 18, 19, 20])) ⟨[(0, v), (1, u), (2, .str t), (7, .sl none 0 0), (18, v), (19, .int .i64 l.length), (20, .int .i64 0)], h₀⟩ Q := by
  refine Wt.loop (Fo64 h₀ v u l t) (m := l.length) ⟨0, 0, h₀, rfl, Nat.zero_le _, rfl, fun h => absurd rfl h, .refl⟩ ?_
  rintro m σ ⟨i, b, h, rfl, hi, rfl, H⟩
  have hcut : cut (some [0, 1, 2, 7, 18, 19, 20]) [(0, v), (1, u), (2, .str t), (7, txtSl b ((l.map fold).take i)), (18, v), (19, .int .i64 l.length), (20, .int .i64 (i : Int))] = [(0, v), (1, u), (2, .str t), (7, txtSl b ((l.map fold).take i)), (18, v), (19, .int .i64 l.length), (20, .int .i64 i)] := by simp
  simp only [hcut]
  by_cases hil : i < l.length
  · have hil' : (i : Int) < l.length := by omega
    have hwr : IntKind.wrap .i64 ((i : Int) + 1) = i + 1 := wrap_i64 (by omega) (by omega)
    have a1 := hv.at (t := 38) (e := 9) (by simp) (by simp) (i := i) (by rw [strCells_len]; exact hil)
    have b1 := (hv.same H.only).load (e := 9) (by simp) (i := i) (by rw [strCells_len]; exact hil)
    rw [strCells_get, txt_eq] at b1
    obtain ⟨h1, e1, o1⟩ := fold_auto (h := h) (s := txt l i) (hp _ (by rw [← txt_eq hil]; exact List.getElem_mem hil))
    have H1 : PatH h₀ ((l.map fold).take i) b h1 := ⟨fun hne => ⟨o1.at (H.at_ hne).1 id, (H.at_ hne).2⟩, H.only.trans o1⟩
    obtain ⟨δ, h2, b2, e2, e3, H2⟩ := H1.step (by simp; omega) (p := fold (txt l i))
    rw [← take_map hil] at e2 H2
    have hnext : Fo64 h₀ v u l t (l.length - (i + 1)) ⟨[(0, v), (1, u), (2, .str t), (7, txtSl b2 ((l.map fold).take (i + 1))), (18, v), (19, .int .i64 l.length), (20, .int .i64 (i + 1 : Nat))], h2⟩ := ⟨i + 1, b2, h2, rfl, hil, rfl, H2⟩
    simp [-List.map_take, c64_l3, c64_r3, c64_r4, c64_r5, c64_r6, hil, hil', a1, b1, e1, abuildSlice, afill, zeros, e2, e3, hwr]
    exact ⟨l.length - (i + 1), by omega, by simpa [-List.map_take] using hnext⟩
  · have : i = l.length := by omega
    subst this
    rw [show (l.map fold).take l.length = l.map fold by rw [← List.length_map (f := fold), List.take_length]] at H ⊢
    have := hq b h H
    simp [c64_l3, c64_r3]
    simpa using this

section
variable {h₀ : Heap} {sb : Nat} {lv nv : AV} {B : AB} {l : List Txt} {nc : List Bool} {t : Txt} {tab : Nat → Nat → Nat} {fl ob : Nat → Nat} {ou : Nat → List Int}

/-- On the way: the scanner, the hits; what there was but the scanner's head stays. -/
structure AllI (h₁ : Heap) (sb : Nat) (lv nv : AV) (B : AB) (l : List Txt) (nc : List Bool) (w : Txt) (tab : Nat → Nat → Nat) (fl ob : Nat → Nat) (ou : Nat → List Int) (hs : List (Int × Int)) (b : Nat) (h : Heap) : Prop where
  sc : ScanX h sb lv nv B l nc w tab fl ob ou
  hit : HitH h₁ hs b h
  only : Only (fun c => c = sb) h₁ h

/-- A hit more. -/
theorem AllI.more {h₁ h : Heap} {w : Txt} {hs : List (Int × Int)} {b : Nat} (H : AllI h₁ sb lv nv B l nc w tab fl ob ou hs b h) (hlt : ∀ c, scFoot sb lv nv B (begs (l.map fold)).length ob ou c → c < h₁.length) (hn : hs.length ≤ 1000000) {p : Int × Int} :
    ∃ δ h' b', b' = (if hs.length = 0 then h.length + 1 else b) ∧ append2 Try.prog (look (h ++ [AObj.cells [.int .i64 p.1, .int .i64 p.2] 75 true])) (h.length + 1) 71 71 [hitSl b hs, .sl (some ⟨h.length, 0, 2⟩) 1 1] = some (hitSl b' (hs ++ [p]), δ) ∧ Heap.apply (h ++ [AObj.cells [.int .i64 p.1, .int .i64 p.2] 75 true]) δ = h' ∧
      AllI h₁ sb lv nv B l nc w tab fl ob ou (hs ++ [p]) b' h' ∧ Only (fun c => c = b ∧ hs.length ≠ 0) h h' := by
  obtain ⟨δ, h2, b2, e0, e2, e3, H2, o2⟩ := H.hit.step H.only.1 hn (p := p)
  refine ⟨δ, h2, b2, e0, e2, e3, ⟨H.sc.keep o2 fun c hc hb => ?_, H2, ⟨Nat.le_trans H.only.1 o2.1, fun c hc hne => ?_⟩⟩, o2⟩
  · have h1 := hlt c hc
    have h2 := (H.hit.at_ hb.2).2
    have := hb.1
    omega
  · rw [o2.2 c (Nat.lt_of_lt_of_le hc H.only.1) (fun hb => by have h2 := (H.hit.at_ hb.2).2; have := hb.1; omega), H.only.2 c hc hne]

abbrev inEnv64 (hv : AV) (sb tb n i : Nat) (ov : AV) (m k : Nat) : Env := [(12, hv), (13, scPtr sb), (42, byteSl tb n), (43, .int .i64 n), (44, .int .i64 i), (50, ov), (51, .int .i64 m), (52, .int .i64 k)]

def mk64 (n : Nat) (O : List Int) : List (Int × Int) := O.map fun z => (z, (n : Int))
theorem mk64_len {n : Nat} {O : List Int} : (mk64 n O).length = O.length := by simp [mk64]
theorem mk64_snoc {n : Nat} {O : List Int} {z : Int} : mk64 n (O ++ [z]) = mk64 n O ++ [(z, (n : Int))] := by simp [mk64]

def In64 (h₁ : Heap) (sb : Nat) (lv nv : AV) (B : AB) (l : List Txt) (nc : List Bool) (w : Txt) (tab : Nat → Nat → Nat) (fl ob : Nat → Nat) (ou : Nat → List Int) (hs : List (Int × Int)) (tb n i : Nat) (ov : AV) (O : List Int) (m : Nat) (σ : St) : Prop :=
  ∃ k b h, m = O.length - k ∧ k ≤ O.length ∧ σ = ⟨inEnv64 (hitSl b (hs ++ mk64 w.length (O.take k))) sb tb n i ov O.length k, h⟩ ∧ AllI h₁ sb lv nv B l nc w tab fl ob ou (hs ++ mk64 w.length (O.take k)) b h ∧ Sl1 h ov (intCells O) ∧
    ((hs ++ mk64 w.length (O.take k)).length ≠ 0 → slB ov ≠ some b) ∧ (∀ c, slB ov = some c → c < h.length)

theorem in64_loop {h₁ h : Heap} {w : Txt} {hs : List (Int × Int)} {b tb n i : Nat} {ov : AV} {O : List Int} (hlt : ∀ c, scFoot sb lv nv B (begs (l.map fold)).length ob ou c → c < h₁.length) (H : AllI h₁ sb lv nv B l nc w tab fl ob ou hs b h) (hov : Sl1 h ov (intCells O)) (hb : hs.length ≠ 0 → slB ov ≠ some b) (hn : hs.length + O.length ≤ 1000000) (hovl : ∀ c, slB ov = some c → c < h.length) {Q : AExit → St → Prop}
    (hq : ∀ b' h', AllI h₁ sb lv nv B l nc w tab fl ob ou (hs ++ mk64 w.length O) b' h' → Q (.exit 4) ⟨inEnv64 (hitSl b' (hs ++ mk64 w.length O)) sb tb n i ov O.length O.length ++ [(53, .bool false)], h'⟩) :
    Wt Try.prog (D cfg) (.loop c64_l16 (some [12, 13, 42, 43, 44, 50, 51, 52])) ⟨inEnv64 (hitSl b hs) sb tb n i ov O.length 0, h⟩ Q := by
  have h00 : hs ++ mk64 w.length (O.take 0) = hs := by simp [mk64]
  refine Wt.loop (In64 h₁ sb lv nv B l nc w tab fl ob ou hs tb n i ov O) (m := O.length) ⟨0, b, h, rfl, Nat.zero_le _, by rw [h00], by rw [h00]; exact H, hov, by rw [h00]; exact hb, hovl⟩ ?_
  rintro m σ ⟨k, b1, h1, rfl, hk, rfl, H1, hov1, hb1, hl1⟩
  have hcut : cut (some [12, 13, 42, 43, 44, 50, 51, 52]) (inEnv64 (hitSl b1 (hs ++ mk64 w.length (O.take k))) sb tb n i ov O.length k) = inEnv64 (hitSl b1 (hs ++ mk64 w.length (O.take k))) sb tb n i ov O.length k := by simp
  simp only [hcut]
  by_cases hkO : k < O.length
  · have hkO' : (k : Int) < O.length := by omega
    have hwr : IntKind.wrap .i64 ((k : Int) + 1) = k + 1 := wrap_i64 (by omega) (by omega)
    have a1 := hov1.at (t := 30) (e := 3) (by simp) (by simp) (i := k) (by rw [intCells_len]; exact hkO)
    have c1 := hov1.load (e := 3) (by simp) (i := k) (by rw [intCells_len]; exact hkO)
    rw [intCells_get] at c1
    have e1 := scan_at H1.sc.sc
    have htk : mk64 w.length (O.take (k + 1)) = mk64 w.length (O.take k) ++ [(O[k], (w.length : Int))] := by
      rw [List.take_succ_eq_append_getElem hkO, mk64_snoc]
    obtain ⟨hs1, hhs1⟩ : ∃ x, hs ++ mk64 w.length (O.take k) = x := ⟨_, rfl⟩
    have hs2 : hs ++ mk64 w.length (O.take (k + 1)) = hs1 ++ [(O[k], (w.length : Int))] := by rw [htk, ← hhs1, List.append_assoc]
    have hsl : hs1.length ≤ 1000000 := by rw [← hhs1]; simp [mk64_len]; omega
    rw [hhs1] at H1 hb1 ⊢
    obtain ⟨δ, h2, b2, e0, e2, e3, H2, o2⟩ := H1.more hlt hsl (p := (O[k], (w.length : Int)))
    have hov2 := hov1.keep o2 fun c hc hb => hb1 hb.2 (by rw [hc, hb.1])
    have hnext : In64 h₁ sb lv nv B l nc w tab fl ob ou hs tb n i ov O (O.length - (k + 1)) ⟨inEnv64 (hitSl b2 (hs1 ++ [(O[k], (w.length : Int))])) sb tb n i ov O.length (k + 1), h2⟩ := by
      refine ⟨k + 1, b2, h2, rfl, hkO, by rw [hs2], by rw [hs2]; exact H2, hov2, fun _ hc => ?_, fun c hc => Nat.lt_of_lt_of_le (hl1 c hc) o2.1⟩
      have h5 := hl1 _ hc
      rw [e0] at hc h5
      split at hc
      · rename_i h6
        rw [if_pos h6] at h5
        omega
      · rename_i h6; exact hb1 h6 hc
    simp only [inEnv64] at hnext
    simp [c64_l16, c64_r16, c64_r17, c64_r18, c64_r19, hkO, hkO', a1, c1, e1, abuild, abuildSlice, afill, zeros, splice, e2, e3, hwr]
    exact ⟨O.length - (k + 1), by omega, by simpa using hnext⟩
  · have : k = O.length := by omega
    subst this
    rw [List.take_length] at H1 ⊢
    have := hq b1 h1 H1
    simp only [inEnv64] at this
    simp [c64_l16, c64_r16]
    simpa using this

abbrev outEnv64 (hv : AV) (sb tb n i : Nat) : Env := [(12, hv), (13, scPtr sb), (42, byteSl tb n), (43, .int .i64 n), (44, .int .i64 i)]

def Ot64 (h₁ : Heap) (sb : Nat) (lv nv : AV) (B : AB) (l : List Txt) (nc : List Bool) (t : Txt) (tab : Nat → Nat → Nat) (fl ob : Nat → Nat) (ou : Nat → List Int) (tb : Nat) (m : Nat) (σ : St) : Prop :=
  ∃ i b h, m = t.length - i ∧ i ≤ t.length ∧ σ = ⟨outEnv64 (hitSl b (hitsTo nc t l i)) sb tb t.length i, h⟩ ∧ AllI h₁ sb lv nv B l nc (t.take i) tab fl ob ou (hitsTo nc t l i) b h

theorem hitsTo_succ {i : Nat} : hitsTo nc t l (i + 1) = hitsTo nc t l i ++ mk64 (i + 1) (hits nc (t.take (i + 1)) l 0) := rfl

theorem out64_loop {h₁ : Heap} {tb : Nat} (hlt : ∀ c, scFoot sb lv nv B (begs (l.map fold)).length ob ou c → c < h₁.length) (H : ScanX h₁ sb lv nv B l nc [] tab fl ob ou) (htb : h₁[tb]? = some (.cells (byteCells t) 5 true)) (hts : tb ≠ sb) (hn : t.length * l.length ≤ 1000000) (hn2 : t.length ≤ 1000000) {Q : AExit → St → Prop}
    (hq : ∀ b' h', AllI h₁ sb lv nv B l nc t tab fl ob ou (hitsTo nc t l t.length) b' h' → Q (.exit 2) ⟨outEnv64 (hitSl b' (hitsTo nc t l t.length)) sb tb t.length t.length ++ [(45, .bool false)], h'⟩) :
    Wt Try.prog (D cfg) (.loop c64_l13 (some [12, 13, 42, 43, 44])) ⟨outEnv64 (.sl none 0 0) sb tb t.length 0, h₁⟩ Q := by
  refine Wt.loop (Ot64 h₁ sb lv nv B l nc t tab fl ob ou tb) (m := t.length) ⟨0, 0, h₁, rfl, Nat.zero_le _, rfl, ⟨H, ⟨fun h => absurd rfl h⟩, .refl⟩⟩ ?_
  rintro m σ ⟨i, b, h, rfl, hi, rfl, HI⟩
  have hcut : cut (some [12, 13, 42, 43, 44]) (outEnv64 (hitSl b (hitsTo nc t l i)) sb tb t.length i) = outEnv64 (hitSl b (hitsTo nc t l i)) sb tb t.length i := by simp
  simp only [hcut]
  by_cases hit : i < t.length
  · have hit' : (i : Int) < t.length := by omega
    have hwr : IntKind.wrap .i64 ((i : Int) + 1) = i + 1 := wrap_i64 (by omega) (by omega)
    have g1 : h[tb]? = some (.cells (byteCells t) 5 true) := HI.only.at htb hts
    have hcl : (byteCells t).length = t.length := byteCells_len
    have hb : (byteCells t)[i]? = some (.int .u8 t[i].toNat) := by simp [byteCells, hit]
    have q1 := cell_load g1 hcl (t := 5) (by simp) hb
    have hwl : (t.take i).length = i := by simp; omega
    obtain ⟨bo, h2, e1, H2, o2, d2⟩ := scan_step HI.sc (by omega) (b := t[i])
    have htk : t.take i ++ [t[i]] = t.take (i + 1) := (List.take_succ_eq_append_getElem hit).symm
    rw [htk] at e1 H2 d2
    obtain ⟨O, hO⟩ : ∃ O, hits nc (t.take (i + 1)) l 0 = O := ⟨_, rfl⟩
    have hOl : O.length ≤ l.length := by rw [← hO]; exact hits_len
    rw [hO] at e1 d2
    have hsb : h₁.length ≤ h.length := HI.only.1
    have hsb1 : sb < h₁.length := hlt sb (.inl rfl)
    have A2 : AllI h₁ sb lv nv B l nc (t.take (i + 1)) tab fl ob ou (hitsTo nc t l i) b h2 := ⟨H2, HI.hit.keep o2 fun hne => by have := (HI.hit.at_ hne).2; omega, HI.only.trans o2⟩
    have hov : Sl1 h2 (intSl bo O) (intCells O) := Sl1.ints fun hne => (d2 hne).2
    have hov2 : ∀ c, slB (intSl bo O) = some c → h.length ≤ c ∧ c < h2.length := fun c hc => by
      by_cases h0 : O = []
      · rw [h0, intSl_nil] at hc; simp [slB] at hc
      · rw [intSl_ne h0] at hc
        simp [slB] at hc
        subst hc
        exact ⟨(d2 h0).1, lt_of_at (d2 h0).2⟩
    have hlen := hitsTo_len (nc := nc) (t := t) (l := l) (n := i)
    have hmul : (i + 1) * l.length ≤ t.length * l.length := Nat.mul_le_mul_right _ hit
    rw [Nat.add_mul] at hmul
    have hin := fun Q hq => in64_loop (tb := tb) (n := t.length) (i := i) (Q := Q) hlt A2 hov (fun hne hc => by
      have h5 := lt_of_at (HI.hit.at_ hne).1
      have := (hov2 _ hc).1
      omega) (by omega) (fun c hc => (hov2 c hc).2) hq
    have hwl1 : (t.take (i + 1)).length = i + 1 := by simp; omega
    rw [hwl1] at hin
    have hlO := fun L => intSl_lenA (L := L) (b := bo) (l := O)
    simp only [inEnv64, byteSl] at hin
    simp [c64_l13, c64_r13, c64_r14, c64_r15, hit, hit', aindexAddr, q1, e1, len1, hlO]
    refine hin _ fun b' h' A3 => ?_
    rw [← hO, ← hitsTo_succ] at A3
    have hnext : Ot64 h₁ sb lv nv B l nc t tab fl ob ou tb (t.length - (i + 1)) ⟨outEnv64 (hitSl b' (hitsTo nc t l (i + 1))) sb tb t.length (i + 1), h'⟩ := ⟨i + 1, b', h', rfl, hit, rfl, A3⟩
    rw [← hO, ← hitsTo_succ]
    simp only [outEnv64, byteSl] at hnext
    simp [c64_r20, hwr]
    exact ⟨t.length - (i + 1), by omega, by simpa using hnext⟩
  · have : i = t.length := by omega
    subst this
    rw [List.take_length] at HI
    have := hq b h HI
    simp only [outEnv64] at this
    simp [c64_l13, c64_r13]
    simpa using this
end
end Go.AM
