/-
  A scanner's step: which patterns end with a byte.
-/
import Derived.Test.YtamidpfdiijjgaaN1
namespace Go.AM
open Go Go.Proofs
set_option linter.unusedVariables false
set_option linter.unusedSimpArgs false
set_option maxRecDepth 100000

/-! ### plain -/

def hitB (nc : Bool) (p w : Txt) : Bool := if nc then decide (fold p <:+ fold w) else decide (p <:+ w)
def nth (nc : List Bool) (i : Nat) : Bool := (nc[i]?).getD false
/-- Which patterns end with a text's last byte. -/
def hits (nc : List Bool) (w : Txt) : List Txt → Nat → List Int
  | [], _ => []
  | p :: r, i => if hitB (nth nc i) p w then (i : Int) :: hits nc w r (i + 1) else hits nc w r (i + 1)

theorem fold_suffix {p w : Txt} (h : p <:+ w) : fold p <:+ fold w := by
  obtain ⟨t, rfl⟩ := h
  exact ⟨fold t, by simp [fold]⟩

theorem hitB_fold {nc : Bool} {p w : Txt} (h : hitB nc p w = true) : fold p <:+ fold w := by
  cases nc
  · simp [hitB] at h; exact fold_suffix h
  · simpa [hitB] using h

theorem hits_len {nc : List Bool} {w : Txt} : ∀ {l : List Txt} {i : Nat}, (hits nc w l i).length ≤ l.length
  | [], i => by simp [hits]
  | p :: r, i => by
    have := hits_len (nc := nc) (w := w) (l := r) (i := i + 1)
    simp only [hits]
    split <;> simp <;> omega

theorem hits_filter {nc : List Bool} {w : Txt} {L : List Txt} : ∀ {l : List Txt} {i : Nat}, (∀ k, k < l.length → txt L (i + k) = txt l k) →
    (outs (fold w) (l.map fold) i).filter (fun z => hitB (nth nc z.toNat) (txt L z.toNat) w) = hits nc w l i
  | [], i, _ => by simp [outs, hits]
  | p :: r, i, h => by
    have ih := hits_filter (nc := nc) (w := w) (L := L) (l := r) (i := i + 1) fun k hk => by
      have := h (k + 1) (by simp; omega)
      rw [show i + 1 + k = i + (k + 1) by omega, this]
      simp [txt]
    have hp : txt L i = p := by have := h 0 (by simp); simpa [txt] using this
    simp only [List.map_cons, outs, hits]
    by_cases h1 : fold p <:+ fold w
    · rw [if_pos h1, List.filter_cons]
      simp only [Int.toNat_natCast, hp, ih]
    · rw [if_neg h1, ih, if_neg]
      intro h2
      exact h1 (hitB_fold h2)

theorem outs_bound {x : Txt} : ∀ {l : List Txt} {i : Nat} {z : Int}, z ∈ outs x l i → ∃ k, k < l.length ∧ z = ((i + k : Nat) : Int) ∧ txt l k <:+ x
  | [], i, z, h => by simp [outs] at h
  | p :: r, i, z, h => by
    have key : z ∈ outs x r (i + 1) → ∃ k, k < (p :: r).length ∧ z = ((i + k : Nat) : Int) ∧ txt (p :: r) k <:+ x := fun h => by
      obtain ⟨k, h1, h2, h3⟩ := outs_bound h
      exact ⟨k + 1, by simp; omega, by rw [h2]; congr 1; omega, by simpa [txt] using h3⟩
    simp only [outs] at h
    split at h
    · rename_i hp
      rcases List.mem_cons.1 h with rfl | h
      · exact ⟨0, by simp, by simp, by simpa [txt] using hp⟩
      · exact key h
    · exact key h

theorem txt_map {l : List Txt} {k : Nat} : txt (l.map fold) k = fold (txt l k) := by
  simp only [txt, List.getElem?_map]
  cases l[k]? <;> rfl

theorem bgood_fold {l : List Txt} : bgood (l.map fold) = bgood l := by
  simp only [bgood, List.all_map]
  congr 1
  funext p
  simp [fold_len]

/-! ### slices of one cell an element, in general -/

theorem Sl1.srcG {h : Heap} {v : AV} {xs : List AV} {e : TypeId} (H : Sl1 h v xs) (he : tsz Try.prog e = 1) : srcCells Try.prog (look h) e v = some (xs.length, xs) := by
  rcases H with ⟨rfl, rfl⟩ | ⟨b, o, g, c, cs, rfl, h1, h2⟩
  · rfl
  · by_cases hl : xs.length = 0
    · have : xs = [] := List.length_eq_zero_iff.1 hl
      subst this; simp [srcCells]
    · have h3 : o + xs.length ≤ cs.length := by
        have := congrArg List.length h2
        simp at this
        omega
      simp [srcCells, hl, slCells, h1, h3, h2, he]

theorem bufSl_one {b n : Nat} {xs : List AV} : (bufSl b n xs).one = true := by unfold bufSl; split <;> rfl
theorem bufSl_cells {b n : Nat} {xs : List AV} : (bufSl b n xs).cells = [bufSl b n xs] := by unfold bufSl; split <;> rfl
theorem bufSl_notTup {b n : Nat} {xs : List AV} : (bufSl b n xs).notTup = true := by unfold bufSl; split <;> rfl
theorem slB_buf {b n c : Nat} {xs : List AV} (h : slB (bufSl b n xs) = some c) : c = b ∧ n ≠ 0 := by
  unfold bufSl at h
  split at h
  · simp [slB] at h
  · rename_i hne
    simp [slB] at h
    exact ⟨h.symm, hne⟩

theorem copy_buf {t e k : Nat} (ht : tk Try.prog t = .slice e) (he : tsz Try.prog e = 1) (hz : zeroOK Try.prog e = true) (hk : Try.prog.bytesOf e = k) {h : Heap} {v : AV} {xs : List AV} (hv : Sl1 h v xs) (hl : xs.length * k ≤ roomMax) (hl2 : xs.length ≤ 9223372036854775807) :
    ∃ δ h', append2 Try.prog (look h) h.length t t [.sl none 0 0, v] = some (bufSl h.length xs.length xs, δ) ∧ h.apply δ = h' ∧ (xs.length ≠ 0 → h'[h.length]? = some (.cells xs e true)) ∧ Only (fun _ => False) h h' := by
  have hs := hv.srcG he
  by_cases h0 : xs.length = 0
  · have : xs = [] := List.length_eq_zero_iff.1 h0
    subst this
    exact ⟨.no, h, by simp [append2, aappend, ht, he, hs, aappendE, bufSl], rfl, fun h => absurd rfl h, .refl⟩
  · refine ⟨.new (.cells xs e true), h ++ [.cells xs e true], ?_, rfl, fun _ => by simp, .app⟩
    have hne : ¬ (xs = []) := fun e => h0 (by rw [e]; rfl)
    simp [append2, aappend, ht, he, hs, aappendE, bufSl, hne, hk, hl, hl2, hz]

def boolCells (l : List Bool) : List AV := l.map .bool
theorem boolCells_len {l : List Bool} : (boolCells l).length = l.length := by simp [boolCells]
theorem boolCells_get {l : List Bool} {i : Nat} (h : i < (boolCells l).length) : (boolCells l)[i] = .bool (nth l i) := by
  rw [boolCells_len] at h
  simp [boolCells, nth, List.getElem?_eq_getElem h]

theorem beq_sl {a : Option AA} {n c : Nat} : AV.beq (.sl a n c) (.sl a n c) = true := by
  cases a <;> simp [AV.beq, AV.beqP, oAA, AA.beq]
theorem Sl1.beq {h : Heap} {v : AV} {xs : List AV} (H : Sl1 h v xs) : v.beq v = true := by
  rcases H with ⟨rfl, _⟩ | ⟨b, o, g, c, cs, rfl, _, _⟩ <;> exact beq_sl
theorem beqL_bytes : ∀ {l : Txt}, beqL AV.beq (byteCells l) (byteCells l) = true
  | [] => rfl
  | b :: r => by
    have := beqL_bytes (l := r)
    simp only [byteCells, List.map_cons, beqL] at this ⊢
    rw [this]
    simp [AV.beq, AV.beqP]
theorem beq_hdr {B : AB} {lv nv : AV} {s n : Nat} {ring : Txt} (h1 : lv.beq lv = true) (h2 : nv.beq nv = true) : AObj.beq (.cells (hdrC B.ptr lv nv s n ring) 136 false) (.cells (hdrC B.ptr lv nv s n ring) 136 false) = true := by
  have := beqL_bytes (l := ring)
  simp [AObj.beq, hdrC, beqL, h1, h2, this]
  simp [AV.beq, AV.beqP, oAA, AA.beq]

/-! ### the scanner -/

structure ScanX (h : Heap) (sb : Nat) (lv nv : AV) (B : AB) (l : List Txt) (nc : List Bool) (w : Txt) (tab : Nat → Nat → Nat) (fl ob : Nat → Nat) (ou : Nat → List Int) : Prop where
  sc : ScanH h sb B.ptr lv nv (st (begs (l.map fold)) (lsuf (begs (l.map fold)) (fold w))) w
  auto : AutoX h B (begs (l.map fold)) (l.map fold) tab fl ob ou
  l_ : Sl1 h lv (strCells l)
  n_ : Sl1 h nv (boolCells nc)
  sepA : ¬ B.foot (begs (l.map fold)).length ob ou sb
  sepL : slB lv ≠ some sb
  sepN : slB nv ≠ some sb
  good : bgood l = true
  few : l.length ≤ 200

/-- All the blocks of a scanner. -/
def scFoot (sb : Nat) (lv nv : AV) (B : AB) (n : Nat) (ob : Nat → Nat) (ou : Nat → List Int) (c : Nat) : Prop := c = sb ∨ slB lv = some c ∨ slB nv = some c ∨ B.foot n ob ou c

section
variable {h : Heap} {sb : Nat} {lv nv : AV} {B : AB} {l : List Txt} {nc : List Bool} {w : Txt} {tab : Nat → Nat → Nat} {fl ob : Nat → Nat} {ou : Nat → List Int}

theorem ScanX.keep {h' : Heap} {fp : Nat → Prop} (H : ScanX h sb lv nv B l nc w tab fl ob ou) (ho : Only fp h h') (hf : ∀ c, scFoot sb lv nv B (begs (l.map fold)).length ob ou c → ¬ fp c) : ScanX h' sb lv nv B l nc w tab fl ob ou := by
  obtain ⟨ring, h1, h2⟩ := H.sc.hdr
  exact ⟨⟨ring, h1, ho.at h2 (hf _ (.inl rfl))⟩, H.auto.keep ho fun c hc => hf c (.inr (.inr (.inr hc))), H.l_.keep ho fun c hc => hf c (.inr (.inl hc)), H.n_.keep ho fun c hc => hf c (.inr (.inr (.inl hc))), H.sepA, H.sepL, H.sepN, H.good, H.few⟩
theorem ScanX.same {h' : Heap} (H : ScanX h sb lv nv B l nc w tab fl ob ou) (ho : Only (fun _ => False) h h') : ScanX h' sb lv nv B l nc w tab fl ob ou := H.keep ho fun _ _ => id

/-- The header, turned. -/
theorem ScanX.turn {h' : Heap} {w' : Txt} (H : ScanX h sb lv nv B l nc w tab fl ob ou) (ho : Only (fun c => c = sb) h h') (hh : ScanH h' sb B.ptr lv nv (st (begs (l.map fold)) (lsuf (begs (l.map fold)) (fold w'))) w') : ScanX h' sb lv nv B l nc w' tab fl ob ou :=
  ⟨hh, H.auto.keep ho fun c hc e => H.sepA (e ▸ hc), H.l_.keep ho fun c hc e => H.sepL (e ▸ hc), H.n_.keep ho fun c hc e => H.sepN (e ▸ hc), H.sepA, H.sepL, H.sepN, H.good, H.few⟩

abbrev stepEnv (sb : Nat) (rv ov : AV) (n k : Nat) : Env := [(0, scPtr sb), (5, rv), (52, ov), (53, .int .i64 n), (54, .int .i64 k)]

def In65 (h₀ : Heap) (sb : Nat) (ov : AV) (O : List Int) (c : Int → Bool) (m : Nat) (σ : St) : Prop :=
  ∃ k bl h, m = O.length - k ∧ k ≤ O.length ∧ σ = ⟨stepEnv sb (intSl bl ((O.take k).filter c)) ov O.length k, h⟩ ∧ Only (fun _ => False) h₀ h ∧ ((O.take k).filter c ≠ [] → h₀.length ≤ bl ∧ h[bl]? = some (.cells (intCells ((O.take k).filter c)) 3 true))

theorem step_loop {h₀ : Heap} {ov : AV} (H : ScanX h₀ sb lv nv B l nc w tab fl ob ou) (hw : w.length ≤ 1000000000000) (hov : Sl1 h₀ ov (intCells (outs (fold w) (l.map fold) 0))) {Q : AExit → St → Prop}
    (hq : ∀ h' bl, Only (fun _ => False) h₀ h' → (hits nc w l 0 ≠ [] → h₀.length ≤ bl ∧ h'[bl]? = some (.cells (intCells (hits nc w l 0)) 3 true)) → Q (.exit 0) ⟨stepEnv sb (intSl bl (hits nc w l 0)) ov (outs (fold w) (l.map fold) 0).length (outs (fold w) (l.map fold) 0).length ++ [(55, .bool false)], h'⟩) :
    Wt Try.prog (D cfg) (.loop c65_l8 (some [0, 5, 52, 53, 54])) ⟨stepEnv sb (.sl none 0 0) ov (outs (fold w) (l.map fold) 0).length 0, h₀⟩ Q := by
  have hfil := hits_filter (nc := nc) (w := w) (L := l) (l := l) (i := 0) fun k _ => by rw [Nat.zero_add]
  have hOb := fun z hz => outs_bound (x := fold w) (l := l.map fold) (i := 0) (z := z) hz
  have hOl := outs_len (x := fold w) (l := l.map fold) (i := 0)
  rw [List.length_map] at hOl
  obtain ⟨O, hO⟩ : ∃ O, outs (fold w) (l.map fold) 0 = O := ⟨_, rfl⟩
  rw [hO] at hov hfil hOb hOl hq ⊢
  obtain ⟨c, hc⟩ : ∃ c : Int → Bool, c = fun z => hitB (nth nc z.toNat) (txt l z.toNat) w := ⟨_, rfl⟩
  rw [← hc] at hfil
  have hfew := H.few
  refine Wt.loop (In65 h₀ sb ov O c) (m := O.length) ⟨0, 0, h₀, rfl, Nat.zero_le _, by simp [intSl], .refl, fun h => absurd rfl h⟩ ?_
  rintro m σ ⟨k, bl, h, rfl, hk, rfl, ho, hb⟩
  have hcut : cut (some [0, 5, 52, 53, 54]) (stepEnv sb (intSl bl ((O.take k).filter c)) ov O.length k) = stepEnv sb (intSl bl ((O.take k).filter c)) ov O.length k := by simp
  simp only [hcut]
  have H1 := H.same ho
  obtain ⟨ring, hr, g1⟩ := H1.sc.hdr
  have hl := hdrC_len (a := B.ptr) (lv := lv) (nv := nv) (s := st (begs (l.map fold)) (lsuf (begs (l.map fold)) (fold w))) (n := w.length) hr.1
  have hrow : ∀ off, row (look h) ⟨sb, off, 21⟩ = some (hdrC B.ptr lv nv (st (begs (l.map fold)) (lsuf (begs (l.map fold)) (fold w))) w.length ring) := fun off => by simp [row, g1, hl]
  by_cases hkO : k < O.length
  · have hkO' : (k : Int) < O.length := by omega
    have hwr : IntKind.wrap .i64 ((k : Int) + 1) = k + 1 := wrap_i64 (by omega) (by omega)
    have a1 := hov.at (t := 30) (e := 3) (by simp) (by simp) (i := k) (by rw [intCells_len]; exact hkO)
    have b1 := (hov.same ho).load (e := 3) (by simp) (i := k) (by rw [intCells_len]; exact hkO)
    rw [intCells_get] at b1
    obtain ⟨z, hz, hze, hzs⟩ := hOb O[k] (List.getElem_mem hkO)
    rw [Nat.zero_add] at hze
    rw [List.length_map] at hz
    rw [hze] at b1
    rw [txt_map] at hzs
    have hzl : (z : Int) < l.length := by omega
    have llen := fun L => H1.l_.len (t := 38) (e := 9) (by simp) (L := L)
    have nlen := fun L => H1.n_.len (t := 68) (e := 4) (by simp) (L := L)
    simp only [strCells_len] at llen
    simp only [boolCells_len] at nlen
    have a2 := H1.l_.at (t := 38) (e := 9) (by simp) (by simp) (i := z) (by rw [strCells_len]; exact hz)
    have b2 := H1.l_.load (e := 9) (by simp) (i := z) (by rw [strCells_len]; exact hz)
    rw [strCells_get, txt_eq] at b2
    have hpl : (txt l z).length ≤ 16 := (bgood_at H.good (p := txt l z) (by rw [← txt_eq hz]; exact List.getElem_mem hz)).2
    have hpw : (txt l z).length ≤ w.length := by have := hzs.length_le; simpa [fold_len] using this
    have e3 := scan_stands H1.sc hpl hpw hw
    have htake : O.take (k + 1) = O.take k ++ [(z : Int)] := by rw [List.take_succ_eq_append_getElem hkO, hze]
    have hcz : c z = hitB (nth nc z) (txt l z) w := by rw [hc]; simp
    have hflt : (O.take (k + 1)).filter c = if c z then (O.take k).filter c ++ [(z : Int)] else (O.take k).filter c := by
      rw [htake, List.filter_append]
      by_cases hcz' : c z <;> simp [hcz']
    have hcond : (c z = true ∧ ∃ δ h2 bl2, append2 Try.prog (look (h ++ [AObj.cells [.int .i64 z] 3 true])) (h.length + 1) 30 30 [intSl bl ((O.take k).filter c), .sl (some ⟨h.length, 0, 1⟩) 1 1] = some (intSl bl2 ((O.take (k + 1)).filter c), δ) ∧ Heap.apply (h ++ [AObj.cells [.int .i64 z] 3 true]) δ = h2 ∧
        In65 h₀ sb ov O c (O.length - (k + 1)) ⟨stepEnv sb (intSl bl2 ((O.take (k + 1)).filter c)) ov O.length (k + 1), h2⟩) ∨ (c z = false ∧ In65 h₀ sb ov O c (O.length - (k + 1)) ⟨stepEnv sb (intSl bl ((O.take k).filter c)) ov O.length (k + 1), h⟩) := by
      by_cases hcz' : c z = true
      · left
        rw [if_pos hcz'] at hflt
        obtain ⟨δ, h2, x1, x2, x3, x4⟩ := append_int (h := h) (b := bl) (l := (O.take k).filter c) (x := z) (fun hne => (hb hne).2) (by have := List.length_filter_le c (O.take k); simp at this; omega)
        rw [← hflt] at x1 x3
        refine ⟨hcz', δ, h2, _, x1, x2, k + 1, _, h2, rfl, hkO, rfl, ho.fresh x4 fun q hq => by rw [hq.1]; exact (hb hq.2).1, fun _ => ⟨?_, x3⟩⟩
        have := ho.1
        split
        · omega
        · rename_i hne; exact (hb hne).1
      · right
        have hcz2 : c z = false := by simpa using hcz'
        rw [if_neg hcz'] at hflt
        exact ⟨hcz2, k + 1, bl, h, rfl, hkO, by rw [hflt], ho, by rw [hflt]; exact hb⟩
    have q1 := cell_load g1 hl (t := 38) (by simp) hdrC_1
    have q2 := cell_load g1 hl (t := 68) (by simp) hdrC_2
    by_cases hzn1 : z < nc.length
    · have hzn' : (z : Int) < nc.length := by omega
      have a4 := H1.n_.at (t := 68) (e := 4) (by simp) (by simp) (i := z) (by rw [boolCells_len]; exact hzn1)
      have b4 := H1.n_.load (e := 4) (by simp) (i := z) (by rw [boolCells_len]; exact hzn1)
      rw [boolCells_get] at b4
      cases hzn2 : nth nc z with
      | true =>
        rw [hzn2] at b4
        rcases hcond with ⟨_, δ, h2, bl2, x1, x2, hnext⟩ | ⟨hf, _⟩
        · simp only [stepEnv] at hnext
          simp [c65_l8, c65_r8, c65_r9, c65_r10, c65_r11, c65_r12, hkO, hkO', a1, b1, fieldA, q1, q2, len1, llen, nlen, hz, hzl, hzn1, hzn', a4, b4, abuildSlice, afill, zeros, x1, x2, hwr]
          exact ⟨O.length - (k + 1), by omega, by simpa using hnext⟩
        · rw [hcz, hzn2] at hf
          simp [hitB, hzs] at hf
      | false =>
        rw [hzn2] at b4
        have hcd : c z = decide (txt l z <:+ w) := by rw [hcz, hzn2]; simp [hitB]
        rw [← hcd] at e3
        rcases hcond with ⟨ht, δ, h2, bl2, x1, x2, hnext⟩ | ⟨hf, hnext⟩
        · rw [ht] at e3
          simp only [stepEnv] at hnext
          simp [c65_l8, c65_r8, c65_r9, c65_r10, c65_r11, c65_r12, hkO, hkO', a1, b1, fieldA, q1, q2, len1, llen, nlen, hz, hzl, hzn1, hzn', a4, b4, a2, b2, e3, abuildSlice, afill, zeros, x1, x2, hwr]
          exact ⟨O.length - (k + 1), by omega, by simpa using hnext⟩
        · rw [hf] at e3
          simp only [stepEnv] at hnext
          simp [c65_l8, c65_r8, c65_r9, c65_r10, c65_r11, c65_r12, hkO, hkO', a1, b1, fieldA, q1, q2, len1, llen, nlen, hz, hzl, hzn1, hzn', a4, b4, a2, b2, e3, hwr]
          exact ⟨O.length - (k + 1), by omega, by simpa using hnext⟩
    · have hzn' : ¬ ((z : Int) < nc.length) := by omega
      have hzn2 : nth nc z = false := by simp [nth, List.getElem?_eq_none (Nat.not_lt.1 hzn1)]
      have hcd : c z = decide (txt l z <:+ w) := by rw [hcz, hzn2]; simp [hitB]
      rw [← hcd] at e3
      rcases hcond with ⟨ht, δ, h2, bl2, x1, x2, hnext⟩ | ⟨hf, hnext⟩
      · rw [ht] at e3
        simp only [stepEnv] at hnext
        simp [c65_l8, c65_r8, c65_r9, c65_r10, c65_r11, c65_r12, hkO, hkO', a1, b1, fieldA, q1, q2, len1, llen, nlen, hz, hzl, hzn1, hzn', a2, b2, e3, abuildSlice, afill, zeros, x1, x2, hwr]
        exact ⟨O.length - (k + 1), by omega, by simpa using hnext⟩
      · rw [hf] at e3
        simp only [stepEnv] at hnext
        simp [c65_l8, c65_r8, c65_r9, c65_r10, c65_r11, c65_r12, hkO, hkO', a1, b1, fieldA, q1, q2, len1, llen, nlen, hz, hzl, hzn1, hzn', a2, b2, e3, hwr]
        exact ⟨O.length - (k + 1), by omega, by simpa using hnext⟩
  · have : k = O.length := by omega
    subst this
    rw [List.take_length, hfil] at hb ⊢
    have := hq h bl ho hb
    simp only [stepEnv] at this
    simp [c65_l8, c65_r8]
    simpa using this
end
end Go.AM
