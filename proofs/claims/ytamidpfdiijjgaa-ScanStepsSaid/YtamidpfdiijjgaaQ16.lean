/-
  The law ScanSteps returns true.
-/
import Derived.Test.YtamidpfdiijjgaaN6
import Derived.Test.YtamidpfdiijjgaaL16
namespace Go.AM
open Go Go.Proofs
set_option linter.unusedVariables false
set_option linter.unusedSimpArgs false
set_option maxRecDepth 100000

noncomputable abbrev F16 : CallF := mixed [62] (D cfg)
theorem awake16 {h : Heap} : F16 62 [] h = some (.bool true, h) := awake15c rfl
theorem F16_D {f : FuncId} (hf : f ≠ 62) {args : List AV} {h : Heap} : F16 f args h = D cfg f args h := mixed_D (by simp [hf])

section
variable {v u hv ov : AV} {l : List Txt} {nc : List Bool} {t : Txt}

abbrev env16 (v u : AV) (t : Txt) (sb : Nat) (hv : AV) (at_ n : Nat) : Env := [(0, v), (1, u), (2, .str t), (7, scPtr sb), (8, hv), (9, .int .i64 at_), (10, .int .i64 n)]
abbrev wenv16 (v u : AV) (t : Txt) (sb : Nat) (hv : AV) (at_ n : Nat) (ov w : AV) (j : Nat) : Env := [(0, v), (1, u), (2, .str t), (7, scPtr sb), (8, hv), (9, .int .i64 at_), (10, .int .i64 n), (11, ov), (12, w), (13, .int .i64 j)]

def Wn16 (h₀ : Heap) (v u : AV) (l : List Txt) (nc : List Bool) (t : Txt) (sb : Nat) (hv : AV) (at_ n : Nat) (ov : AV) (m : Nat) (σ : St) : Prop :=
  ∃ j bw h, m = l.length - j ∧ j ≤ l.length ∧ σ = ⟨wenv16 v u t sb hv at_ n ov (intSl bw (hits nc (t.take n) (l.take j) 0)) j, h⟩ ∧ Only (fun _ => False) h₀ h ∧ (hits nc (t.take n) (l.take j) 0 ≠ [] → h₀.length ≤ bw ∧ h[bw]? = some (.cells (intCells (hits nc (t.take n) (l.take j) 0)) 3 true))

theorem want16 {h₀ : Heap} {sb at_ n : Nat} (hvv : Sl1 h₀ v (strCells l)) (hu : Sl1 h₀ u (boolCells nc)) (hl : l.length ≤ 1000) (hp : ∀ p ∈ l, p.length ≤ 1000000) (ht : t.length ≤ 1000000) (hn : n ≤ t.length) {Q : AExit → St → Prop}
    (hq : ∀ h bw, Only (fun _ => False) h₀ h → (hits nc (t.take n) l 0 ≠ [] → h₀.length ≤ bw ∧ h[bw]? = some (.cells (intCells (hits nc (t.take n) l 0)) 3 true)) → Q (.exit 2) ⟨wenv16 v u t sb hv at_ n ov (intSl bw (hits nc (t.take n) l 0)) l.length ++ [(53, .bool false)], h⟩) :
    Wt Try.prog F16 (.loop c16_l14 (some [0, 1, 2, 7, 8, 9, 10, 11, 12, 13])) ⟨wenv16 v u t sb hv at_ n ov (.sl none 0 0) 0, h₀⟩ Q := by
  refine Wt.loop (Wn16 h₀ v u l nc t sb hv at_ n ov) (m := l.length) ⟨0, 0, h₀, rfl, Nat.zero_le _, by simp [hits, intSl], .refl, fun h => absurd rfl h⟩ ?_
  rintro m σ ⟨j, bw, h, rfl, hj, rfl, ho, hw⟩
  have hcut : cut (some [0, 1, 2, 7, 8, 9, 10, 11, 12, 13]) (wenv16 v u t sb hv at_ n ov (intSl bw (hits nc (t.take n) (l.take j) 0)) j) = wenv16 v u t sb hv at_ n ov (intSl bw (hits nc (t.take n) (l.take j) 0)) j := by simp
  simp only [hcut]
  have hlen := fun L => hvv.len (t := 38) (e := 9) (by simp) (L := L)
  simp only [strCells_len] at hlen
  have hlen2 := fun L => hu.len (t := 68) (e := 4) (by simp) (L := L)
  simp only [boolCells_len] at hlen2
  by_cases hjl : j < l.length
  · have hjl' : (j : Int) < l.length := by omega
    have hwr : IntKind.wrap .i64 ((j : Int) + 1) = j + 1 := wrap_i64 (by omega) (by omega)
    have a1 := hvv.at (t := 38) (e := 9) (by simp) (by simp) (i := j) (by rw [strCells_len]; exact hjl)
    have b1 := (hvv.same ho).load (e := 9) (by simp) (i := j) (by rw [strCells_len]; exact hjl)
    rw [strCells_get, txt_eq] at b1
    have htk : l.take (j + 1) = l.take j ++ [txt l j] := by rw [List.take_succ_eq_append_getElem hjl, txt_eq hjl]
    have hpl := hp (txt l j) (by rw [← txt_eq hjl]; exact List.getElem_mem hjl)
    obtain ⟨h1, e1, o1⟩ := at_ref (h := h) (p := txt l j) (s := t) (nc := nth nc j) (e := n) hpl ht
    rw [patAt_hit hn] at e1
    have ho1 := ho.trans o1
    have hout : hits nc (t.take n) (l.take (j + 1)) 0 = if hitB (nth nc j) (txt l j) (t.take n) then hits nc (t.take n) (l.take j) 0 ++ [(j : Int)] else hits nc (t.take n) (l.take j) 0 := by
      rw [htk, hits_app]
      simp [Nat.min_eq_left hj]
    have step : (hitB (nth nc j) (txt l j) (t.take n) = true ∧ ∃ δ h2 bw2, append2 Try.prog (look (h1 ++ [AObj.cells [.int .i64 j] 3 true])) (h1.length + 1) 30 30 [intSl bw (hits nc (t.take n) (l.take j) 0), .sl (some ⟨h1.length, 0, 1⟩) 1 1] = some (intSl bw2 (hits nc (t.take n) (l.take (j + 1)) 0), δ) ∧ Heap.apply (h1 ++ [AObj.cells [.int .i64 j] 3 true]) δ = h2 ∧
        Wn16 h₀ v u l nc t sb hv at_ n ov (l.length - (j + 1)) ⟨wenv16 v u t sb hv at_ n ov (intSl bw2 (hits nc (t.take n) (l.take (j + 1)) 0)) (j + 1), h2⟩) ∨
        (hitB (nth nc j) (txt l j) (t.take n) = false ∧ Wn16 h₀ v u l nc t sb hv at_ n ov (l.length - (j + 1)) ⟨wenv16 v u t sb hv at_ n ov (intSl bw (hits nc (t.take n) (l.take j) 0)) (j + 1), h1⟩) := by
      cases he : hitB (nth nc j) (txt l j) (t.take n) with
      | true =>
        left
        rw [if_pos he] at hout
        obtain ⟨δ, h2, e2, e3, e4, o2⟩ := append_int (h := h1) (b := bw) (l := hits nc (t.take n) (l.take j) 0) (x := j) (fun hne => o1.at (hw hne).2 id) (by have := hits_len (nc := nc) (w := t.take n) (l := l.take j) (i := 0); simp at this; omega)
        rw [← hout] at e2 e4
        refine ⟨rfl, δ, h2, _, e2, e3, j + 1, _, h2, rfl, hjl, rfl, ho1.fresh o2 fun c e => by rw [e.1]; exact (hw e.2).1, fun _ => ⟨?_, e4⟩⟩
        have := ho1.1
        split
        · omega
        · rename_i hne; exact (hw hne).1
      | false =>
        right
        rw [if_neg (by rw [he]; simp)] at hout
        refine ⟨rfl, j + 1, bw, h1, rfl, hjl, by rw [hout], ho1, ?_⟩
        rw [hout]
        exact fun hne => ⟨(hw hne).1, o1.at (hw hne).2 id⟩
    by_cases hjn : j < nc.length
    · have hjn' : (j : Int) < nc.length := by omega
      have a2 := hu.at (t := 68) (e := 4) (by simp) (by simp) (i := j) (by rw [boolCells_len]; exact hjn)
      have b2 := (hu.same ho).load (e := 4) (by simp) (i := j) (by rw [boolCells_len]; exact hjn)
      rw [boolCells_get] at b2
      rcases step with ⟨ht1, δ, h2, bw2, e2, e3, hnext⟩ | ⟨hf1, hnext⟩
      · rw [ht1] at e1
        simp only [wenv16] at hnext
        simp [c16_l14, c16_r14, c16_r15, c16_r16, c16_r17, len1, hlen, hlen2, hjl, hjl', hjn, hjn', a1, b1, a2, b2, F16_D, e1, abuildSlice, afill, zeros, e2, e3, hwr]
        exact ⟨l.length - (j + 1), by omega, by simpa using hnext⟩
      · rw [hf1] at e1
        simp only [wenv16] at hnext
        simp [c16_l14, c16_r14, c16_r15, c16_r16, len1, hlen, hlen2, hjl, hjl', hjn, hjn', a1, b1, a2, b2, F16_D, e1, hwr]
        exact ⟨l.length - (j + 1), by omega, by simpa using hnext⟩
    · have hjn' : ¬ ((j : Int) < nc.length) := by omega
      have hnf : nth nc j = false := by simp [nth, List.getElem?_eq_none (Nat.not_lt.1 hjn)]
      rw [hnf] at e1 step
      rcases step with ⟨ht1, δ, h2, bw2, e2, e3, hnext⟩ | ⟨hf1, hnext⟩
      · rw [ht1] at e1
        simp only [wenv16] at hnext
        simp [c16_l14, c16_r14, c16_r15, c16_r16, c16_r17, len1, hlen, hlen2, hjl, hjl', hjn, hjn', a1, b1, F16_D, e1, abuildSlice, afill, zeros, e2, e3, hwr]
        exact ⟨l.length - (j + 1), by omega, by simpa using hnext⟩
      · rw [hf1] at e1
        simp only [wenv16] at hnext
        simp [c16_l14, c16_r14, c16_r15, c16_r16, len1, hlen, hlen2, hjl, hjl', hjn, hjn', a1, b1, F16_D, e1, hwr]
        exact ⟨l.length - (j + 1), by omega, by simpa using hnext⟩
  · have : j = l.length := by omega
    subst this
    rw [List.take_length] at hw ⊢
    have := hq h bw ho hw
    simp only [wenv16] at this
    simp [c16_l14, c16_r14, len1, hlen]
    simpa using this

abbrev cenv16 (v u : AV) (t : Txt) (sb : Nat) (hv : AV) (at_ n : Nat) (w : AV) (k : Nat) : Env := [(0, v), (1, u), (2, .str t), (7, scPtr sb), (8, hv), (9, .int .i64 at_), (10, .int .i64 n), (12, w), (14, .int .i64 k)]

def Cp16 (h : Heap) (v u : AV) (t : Txt) (sb : Nat) (hv : AV) (base n : Nat) (w : AV) (len : Nat) (m : Nat) (σ : St) : Prop :=
  ∃ k : Nat, m = len - k ∧ k ≤ len ∧ σ = ⟨cenv16 v u t sb hv (base + k) n w k, h⟩

theorem cmp16 {h : Heap} {sb hb base n : Nat} {w : AV} {O : List Int} {HS : List (Int × Int)} (hO : Sl1 h w (intCells O)) (hHb : HS.length ≠ 0 → h[hb]? = some (.cells (hitCells HS) 75 true)) (hat : ∀ k (hk : k < O.length), HS[base + k]? = some (O[k], (n : Int))) (hs : HS.length ≤ 1000000) (hOl : O.length ≤ 1000000) (hn : n ≤ 1000000) (hbl : base ≤ 1000000) {Q : AExit → St → Prop}
    (hq : Q (.exit 4) ⟨cenv16 v u t sb (hitSl hb HS) (base + O.length) n w O.length ++ [(90, .bool false)], h⟩) :
    Wt Try.prog F16 (.loop c16_l21 (some [0, 1, 2, 7, 8, 9, 10, 12, 14])) ⟨cenv16 v u t sb (hitSl hb HS) base n w 0, h⟩ Q := by
  refine Wt.loop (Cp16 h v u t sb (hitSl hb HS) base n w O.length) (m := O.length) ⟨0, rfl, Nat.zero_le _, rfl⟩ ?_
  rintro m σ ⟨k, rfl, hk, rfl⟩
  have hcut : cut (some [0, 1, 2, 7, 8, 9, 10, 12, 14]) (cenv16 v u t sb (hitSl hb HS) (base + k) n w k) = cenv16 v u t sb (hitSl hb HS) (base + k) n w k := by simp
  simp only [hcut]
  have hlen := fun L => hO.len (t := 30) (e := 3) (by simp) (L := L)
  simp only [intCells_len] at hlen
  by_cases hkO : k < O.length
  · have hkO' : (k : Int) < O.length := by omega
    have hp := hat k hkO
    have hi := (List.getElem?_eq_some_iff.1 hp).1
    obtain ⟨q, hqe⟩ : ∃ q : Nat, base + k = q := ⟨_, rfl⟩
    have hnext : Cp16 h v u t sb (hitSl hb HS) base n w O.length (O.length - (k + 1)) ⟨cenv16 v u t sb (hitSl hb HS) (base + (k + 1)) n w (k + 1), h⟩ := ⟨k + 1, rfl, hkO, rfl⟩
    rw [show base + (k + 1) = q + 1 by omega] at hnext
    rw [hqe] at hp hi ⊢
    have hwr : IntKind.wrap .i64 ((k : Int) + 1) = k + 1 := wrap_i64 (by omega) (by omega)
    have hwr2 : IntKind.wrap .i64 ((q : Int) + 1) = q + 1 := wrap_i64 (by omega) (by omega)
    have a1 := hO.at (t := 30) (e := 3) (by simp) (by simp) (i := k) (by rw [intCells_len]; exact hkO)
    have c1 := hO.load (e := 3) (by simp) (i := k) (by rw [intCells_len]; exact hkO)
    rw [intCells_get] at c1
    have a2 := hit_addr (b := hb) hi
    obtain ⟨l0, l1⟩ := hit_load hHb hp
    have hnge : ¬ (HS.length ≤ q) := by omega
    simp only [cenv16] at hnext
    simp [c16_l21, c16_r21, c16_r22, c16_r23, c16_r25, len1, hlen, hkO, hkO', hitSl_len, hnge, a1, c1, a2, fieldA, l0, l1, hwr, hwr2]
    exact ⟨O.length - (k + 1), by omega, by simpa using hnext⟩
  · have : k = O.length := by omega
    subst this
    simp only [cenv16] at hq
    simp [c16_l21, c16_r21, len1, hlen]
    simpa using hq

def St16 (h₁ : Heap) (v u : AV) (l : List Txt) (nc : List Bool) (t : Txt) (sb : Nat) (lv nv : AV) (B : AB) (tab : Nat → Nat → Nat) (fl ob : Nat → Nat) (ou : Nat → List Int) (hv : AV) (m : Nat) (σ : St) : Prop :=
  ∃ i h, m = t.length - i ∧ i ≤ t.length ∧ σ = ⟨env16 v u t sb hv (hitsTo nc t l i).length (i + 1), h⟩ ∧ ScanX h sb lv nv B l nc (t.take i) tab fl ob ou ∧ Only (fun c => c = sb) h₁ h

theorem steps16 {h₁ : Heap} {sb hb : Nat} {lv nv : AV} {B : AB} {tab : Nat → Nat → Nat} {fl ob : Nat → Nat} {ou : Nat → List Int} (X : ScanX h₁ sb lv nv B l nc [] tab fl ob ou) (hvv : Sl1 h₁ v (strCells l)) (hvb : slB v ≠ some sb) (hu : Sl1 h₁ u (boolCells nc)) (hub : slB u ≠ some sb) (hl : l.length ≤ 15) (hp : ∀ p ∈ l, p.length ≤ 16) (ht : t.length ≤ 300)
    (hHb : (hitsTo nc t l t.length).length ≠ 0 → h₁[hb]? = some (.cells (hitCells (hitsTo nc t l t.length)) 75 true)) {Q : AExit → St → Prop}
    (hq : ∀ h, Q (.exit 0) ⟨env16 v u t sb (hitSl hb (hitsTo nc t l t.length)) (hitsTo nc t l t.length).length (t.length + 1) ++ [(41, .bool false)], h⟩) :
    Wt Try.prog F16 (.loop c16_l9 (some [0, 1, 2, 7, 8, 9, 10])) ⟨env16 v u t sb (hitSl hb (hitsTo nc t l t.length)) 0 1, h₁⟩ Q := by
  refine Wt.loop (St16 h₁ v u l nc t sb lv nv B tab fl ob ou (hitSl hb (hitsTo nc t l t.length))) (m := t.length) ⟨0, h₁, rfl, Nat.zero_le _, rfl, by simpa using X, .refl⟩ ?_
  rintro m σ ⟨i, h, rfl, hi, rfl, XI, ho⟩
  obtain ⟨a, ha⟩ : ∃ a, (hitsTo nc t l i).length = a := ⟨_, rfl⟩
  rw [ha]
  have hcut : cut (some [0, 1, 2, 7, 8, 9, 10]) (env16 v u t sb (hitSl hb (hitsTo nc t l t.length)) a (i + 1)) = env16 v u t sb (hitSl hb (hitsTo nc t l t.length)) a (i + 1) := by simp
  simp only [hcut]
  have hll := hitsTo_len (nc := nc) (t := t) (l := l) (n := t.length)
  have hll2 : (hitsTo nc t l t.length).length ≤ 4500 := Nat.le_trans hll (Nat.mul_le_mul ht hl)
  have hal := hitsTo_len (nc := nc) (t := t) (l := l) (n := i)
  have hal2 : a ≤ 4500 := by
    rw [← ha]
    have hi3 : i ≤ 300 := by omega
    exact Nat.le_trans hal (Nat.mul_le_mul hi3 hl)
  by_cases hit : i < t.length
  · have hit' : (i : Int) + 1 ≤ t.length := by omega
    have hwr : IntKind.wrap .i64 ((i : Int) + 1 + 1) = i + 1 + 1 := wrap_i64 (by omega) (by omega)
    have hwr2 : IntKind.wrap .i64 (i : Int) = i := wrap_i64 (by omega) (by omega)
    have hti : t[i]? = some t[i] := List.getElem?_eq_getElem hit
    have hwl : (t.take i).length = i := by simp; omega
    obtain ⟨bo, h2, e1, X2, o2, d2⟩ := scan_step XI (by omega) (b := t[i])
    have htk : t.take i ++ [t[i]] = t.take (i + 1) := (List.take_succ_eq_append_getElem hit).symm
    rw [htk] at e1 X2 d2
    have ho2 : Only (fun c => c = sb) h₁ h2 := ho.trans o2
    have hv2 := hvv.keep ho2 fun c hc e => hvb (by rw [hc, e])
    have hu2 := hu.keep ho2 fun c hc e => hub (by rw [hc, e])
    have hat := fun k hk => hitsTo_at (nc := nc) (t := t) (l := l) (n := i) (m := t.length) (k := k) hit hk
    have hsuc : hitsTo nc t l (i + 1) = hitsTo nc t l i ++ mk64 (i + 1) (hits nc (t.take (i + 1)) l 0) := rfl
    have hwant := fun Q hq => want16 (Q := Q) (sb := sb) (at_ := a) (hv := hitSl hb (hitsTo nc t l t.length)) (ov := intSl bo (hits nc (t.take (i + 1)) l 0)) (n := i + 1) hv2 hu2 (by omega) (fun p h => by have := hp p h; omega) (by omega) hit hq
    obtain ⟨O, hO⟩ : ∃ O, hits nc (t.take (i + 1)) l 0 = O := ⟨_, rfl⟩
    have hOl : O.length ≤ l.length := by rw [← hO]; exact hits_len
    rw [hO] at e1 d2 hat hsuc hwant
    rw [ha] at hat
    have hcast : ((i + 1 : Nat) : Int) = (i : Int) + 1 := rfl
    simp only [wenv16] at hwant
    rw [hcast] at hwant
    simp [c16_l9, c16_r9, c16_r11, c16_r12, c16_r13, len1, alen9, hit, hit', hwr2, aindex, hti, F16_D, e1]
    refine hwant _ fun h3 bw o3 d3 => ?_
    have X3 := X2.same o3
    have ho3 : Only (fun c => c = sb) h₁ h3 := ho2.trans (o3.mono fun _ _ => False.elim)
    have sO : Sl1 h3 (intSl bo O) (intCells O) := Sl1.ints fun hne => o3.at (d2 hne).2 id
    have sW : Sl1 h3 (intSl bw O) (intCells O) := Sl1.ints fun hne => (d3 hne).2
    have e2 := same_ints sO sW (by omega)
    have e3 := scan_at X3.sc
    have hwl1 : (t.take (i + 1)).length = i + 1 := by simp; omega
    rw [hwl1] at e3
    have hH3 : (hitsTo nc t l t.length).length ≠ 0 → h3[hb]? = some (.cells (hitCells (hitsTo nc t l t.length)) 75 true) := fun hne => by
      refine ho3.at (hHb hne) fun e => ?_
      obtain ⟨ring, _, g⟩ := X.sc.hdr
      have := hHb hne
      rw [e, g] at this
      simp at this
    have hcmp := fun Q hq => cmp16 (Q := Q) (v := v) (u := u) (t := t) (sb := sb) (base := a) (n := i + 1) sW hH3 hat (by omega) (by omega) (by omega) (by omega) hq
    simp only [cenv16] at hcmp
    rw [hcast] at hcmp
    have hnext : St16 h₁ v u l nc t sb lv nv B tab fl ob ou (hitSl hb (hitsTo nc t l t.length)) (t.length - (i + 1)) ⟨env16 v u t sb (hitSl hb (hitsTo nc t l t.length)) (a + O.length) (i + 1 + 1), h3⟩ := ⟨i + 1, h3, rfl, hit, by rw [hsuc, List.length_append, mk64_len, ha], X3, ho3⟩
    simp only [env16] at hnext
    simp [c16_r18, c16_r20, F16_D, e2, e3]
    refine hcmp _ ?_
    simp [c16_r10, hwr]
    exact ⟨t.length - (i + 1), by omega, by simpa using hnext⟩
  · have : i = t.length := by omega
    subst this
    rw [← ha]
    have := hq h
    simp only [env16] at this
    have hii : ¬ ((t.length : Int) + 1 ≤ t.length) := by omega
    simp [c16_l9, c16_r9, len1, alen9, hii]
    simpa using this

theorem scansteps_walk {h₀ : Heap} (hvv : Sl1 h₀ v (strCells l)) (hvb : ∀ b, slB v = some b → b < h₀.length) (hu : Sl1 h₀ u (boolCells nc)) (hub : ∀ b, slB u = some b → b < h₀.length) (hl : l.length ≤ 9223372036854775807) :
    Wt Try.prog F16 c16 ⟨argsEnv 0 [v, u, .str t], h₀⟩ (Ends Try.prog [.tmp 6] fun r _ => r = .bool true) := by
  have e1 := few15_run hvv (by omega)
  have hlen2 := fun L => hu.len (t := 68) (e := 4) (by simp) (L := L)
  simp only [boolCells_len] at hlen2
  cases hf : fewB 15 l with
  | false =>
    rw [hf] at e1
    simp [c16, c16_r0, c16_r1, c16_r2, F16_D, e1, awake16]
  | true =>
    rw [hf] at e1
    simp only [fewB, Bool.and_eq_true, decide_eq_true_eq] at hf
    obtain ⟨hl15, hg⟩ := hf
    by_cases h30 : 30 < nc.length
    · have h30' : (30 : Int) < nc.length := by omega
      simp [c16, c16_r0, c16_r1, c16_r2, F16_D, e1, len1, hlen2, h30, h30', awake16]
    · have h30' : ¬ ((30 : Int) < nc.length) := by omega
      by_cases h300 : 300 < t.length
      · have h300' : (300 : Int) < t.length := by omega
        simp [c16, c16_r0, c16_r1, c16_r2, F16_D, e1, len1, hlen2, h30, h30', alen9, h300, h300', awake16]
      · have h300' : ¬ ((300 : Int) < t.length) := by omega
        obtain ⟨sb, lv, nv, B, tab, fl, ob, ou, h1, e2, X1, o1, f1⟩ := make_scan hvv hu (by omega) hg (by omega)
        have hm : t.length * l.length ≤ 300 * 15 := Nat.mul_le_mul (by omega) hl15
        obtain ⟨hb, h2, e3, o2, d2⟩ := scan_all (t := t) (hvv.same o1) (hu.same o1) (by omega) hg (by omega) (by omega) (by omega)
        have o02 := o1.trans o2
        have hsb := f1 sb (.inl rfl)
        have hloop := fun Q hq => steps16 (t := t) (Q := Q) (X1.same o2) (hvv.same o02) (fun hc => by have := hvb sb hc; omega) (hu.same o02) (fun hc => by have := hub sb hc; omega) hl15 (fun p hp => (bgood_at hg hp).2) (by omega) d2 hq
        simp only [env16] at hloop
        simp [c16, c16_r0, c16_r1, c16_r3, c16_r4, c16_r6, c16_r7, c16_r8, F16_D, e1, len1, hlen2, h30, h30', alen9, h300, h300', e2, e3]
        refine hloop _ fun h3 => ?_
        simp [c16_r26, len1, hitSl_len, awake16]
end
end Go.AM
