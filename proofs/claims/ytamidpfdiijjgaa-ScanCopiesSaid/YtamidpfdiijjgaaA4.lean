/-
  What 'row' does: the loop over the bytes.
-/
import Derived.Test.YtamidpfdiijjgaaA3
namespace Go.AM
open Go Go.Proofs
set_option linter.unusedVariables false
set_option linter.unusedSimpArgs false
set_option maxRecDepth 100000

theorem wrap_u16 {n : Int} (h : 0 ≤ n) (h' : n ≤ 65535) : IntKind.wrap .u16 n = n := by
  simp only [IntKind.wrap, IntKind.signed, IntKind.bits]
  simp
  omega

def kidn (X : List Txt) (x : Txt) (b : Nat) : List Int := (kids X x b).map fun y => ((st X y : Nat) : Int)

theorem kids_len {X : List Txt} {x : Txt} : ∀ {n : Nat}, (kids X x n).length ≤ n
  | 0 => by simp [kids]
  | n + 1 => by
    have := kids_len (X := X) (x := x) (n := n)
    simp only [kids]
    split
    · simp; omega
    · omega

theorem kidn_len {X : List Txt} {x : Txt} {n : Nat} : (kidn X x n).length ≤ n := by simp only [kidn, List.length_map]; exact kids_len

abbrev rowEnv (B : AB) (Bt : TB) (s f : Nat) (lv : AV) (b : Nat) : Env := [(0, B.ptr), (1, Bt.ptr), (2, .int .i64 s), (7, .int .i64 f), (8, lv), (69, .int .i64 b)]

structure RowI (h₀ : Heap) (B : AB) (n : Nat) (tab : Nat → Nat → Nat) (fl : Nat → Nat) (ob : Nat → Nat) (ou : Nat → List Int) (X : List Txt) (s f : Nat) (x : Txt) (b : Nat) (h : Heap) (tab' : Nat → Nat → Nat) (fl' : Nat → Nat) (bl : Nat) : Prop where
  at_ : AutoAt h B n tab' fl' ob ou
  t1 : ∀ s' c, s' ≠ s → tab' s' c = tab s' c
  t2 : ∀ c, c < 256 → tab' s c = if c < b ∧ x ++ [UInt8.ofNat c] ∈ X then st X (x ++ [UInt8.ofNat c]) else tab s c
  f1 : x ≠ [] → ∀ c, c < b → x ++ [UInt8.ofNat c] ∈ X → fl' (st X (x ++ [UInt8.ofNat c])) = tab f c
  f2 : ∀ s', (x = [] ∨ ∀ c, c < b → X[s']? ≠ some (x ++ [UInt8.ofNat c])) → fl' s' = fl s'
  only : Only (fun c => c = B.nx ∨ c = B.fl) h₀ h
  blk : kidn X x b ≠ [] → h₀.length ≤ bl ∧ h[bl]? = some (.cells (intCells (kidn X x b)) 3 true)

def RowL (h₀ : Heap) (B : AB) (Bt : TB) (n : Nat) (tab : Nat → Nat → Nat) (fl : Nat → Nat) (ob : Nat → Nat) (ou : Nat → List Int) (X : List Txt) (s f : Nat) (x : Txt) (m : Nat) (σ : St) : Prop :=
  ∃ b tab' fl' bl h, m = 256 - b ∧ b ≤ 256 ∧ σ = ⟨rowEnv B Bt s f (intSl bl (kidn X x b)) b, h⟩ ∧ RowI h₀ B n tab fl ob ou X s f x b h tab' fl' bl

section
variable {h₀ : Heap} {B : AB} {Bt : TB} {T : TM} {n : Nat} {tab : Nat → Nat → Nat} {fl : Nat → Nat} {ob : Nat → Nat} {ou : Nat → List Int} {X ps : List Txt} {s f : Nat} {x : Txt}

theorem byte_inj {a b : Nat} (ha : a < 256) (hb : b < 256) (h : UInt8.ofNat a = UInt8.ofNat b) : a = b := by
  have := congrArg UInt8.toNat h
  simp at this
  omega

/-- A round that meets a child: behind its fail. -/
theorem row_next (H : AutoAt h₀ B n tab fl ob ou) (hn : n = X.length) {b : Nat} (hb : b < 256) {h2 : Heap} {tab1 : Nat → Nat → Nat} {fl2 : Nat → Nat} {bl : Nat} (hs : s < n) (hm : x ++ [UInt8.ofNat b] ∈ X)
    (t1 : ∀ s' c, s' ≠ s → tab1 s' c = tab s' c) (t2 : ∀ c, c < 256 → tab1 s c = if c < b ∧ x ++ [UInt8.ofNat c] ∈ X then st X (x ++ [UInt8.ofNat c]) else tab s c)
    (H2 : AutoAt h2 B n tab1 fl2 ob ou) (f1 : x ≠ [] → ∀ c, c < b + 1 → x ++ [UInt8.ofNat c] ∈ X → fl2 (st X (x ++ [UInt8.ofNat c])) = tab f c)
    (f2 : ∀ s', (x = [] ∨ ∀ c, c < b + 1 → X[s']? ≠ some (x ++ [UInt8.ofNat c])) → fl2 s' = fl s') (o2 : Only (fun c => c = B.nx ∨ c = B.fl) h₀ h2)
    (hbl : kidn X x b ≠ [] → h₀.length ≤ bl ∧ h2[bl]? = some (.cells (intCells (kidn X x b)) 3 true)) :
    ∃ tab2 h3 δ h4 bl', (grid n tab1).set (s * 256 + b) (.int .u16 ((st X (x ++ [UInt8.ofNat b]) : Nat) : Int)) = grid n tab2 ∧ h2.set B.nx (.cells (grid n tab2) 132 true) = h3 ∧
      append2 Try.prog (look (h3 ++ [AObj.cells [.int .i64 ((st X (x ++ [UInt8.ofNat b]) : Nat) : Int)] 3 true])) (h3.length + 1) 30 30 [intSl bl (kidn X x b), .sl (some ⟨h3.length, 0, 1⟩) 1 1] = some (intSl bl' (kidn X x (b + 1)), δ) ∧
      Heap.apply (h3 ++ [AObj.cells [.int .i64 ((st X (x ++ [UInt8.ofNat b]) : Nat) : Int)] 3 true]) δ = h4 ∧ RowI h₀ B n tab fl ob ou X s f x (b + 1) h4 tab2 fl2 bl' := by
  have hc := st_lt hm
  obtain ⟨n1, n2, n3, n4, n5, n6⟩ := H2.ne
  have hsm := H2.small
  let tab2 : Nat → Nat → Nat := fun s' b' => if s' = s ∧ b' = b then st X (x ++ [UInt8.ofNat b]) else tab1 s' b'
  have hle : ∀ s' b', tab2 s' b' ≤ 65535 := by
    intro s' b'
    simp only [tab2]
    split
    · omega
    · exact H2.le s' b'
  have H3 := H2.setNx hle
  have hk : kidn X x (b + 1) = kidn X x b ++ [((st X (x ++ [UInt8.ofNat b]) : Nat) : Int)] := by simp [kidn, kids, hm]
  have o3 : Only (fun c => c = B.nx ∨ c = B.fl) h₀ (h2.set B.nx (.cells (grid n tab2) 132 true)) := o2.trans (.set (.inl rfl))
  have hlt := H.lt
  have hbl3 : kidn X x b ≠ [] → (h2.set B.nx (.cells (grid n tab2) 132 true))[bl]? = some (.cells (intCells (kidn X x b)) 3 true) := fun hne => by
    obtain ⟨h5, h6⟩ := hbl hne
    rw [List.getElem?_set_ne (by omega)]; exact h6
  obtain ⟨δ, h4, e1, e2, e3, e4⟩ := append_int (h := h2.set B.nx (.cells (grid n tab2) 132 true)) (b := bl) (l := kidn X x b) (x := ((st X (x ++ [UInt8.ofNat b]) : Nat) : Int)) hbl3 (by have := kidn_len (X := X) (x := x) (n := b); omega)
  refine ⟨tab2, _, δ, h4, _, grid_set hs hb, rfl, by rw [hk]; exact e1, e2, ?_⟩
  have hfoot : ∀ c, B.foot n ob ou c → ¬ (c = bl ∧ kidn X x b ≠ []) := by
    rintro c hf ⟨rfl, hne⟩
    have := H.foot_lt hf
    have := (hbl hne).1
    omega
  refine ⟨H3.keep e4 hfoot, fun s' c hne => ?_, fun c hc' => ?_, f1, f2, ?_, fun _ => ⟨?_, by rw [hk]; exact e3⟩⟩
  · simp only [tab2, hne, false_and, if_false]; exact t1 s' c hne
  · simp only [tab2, true_and]
    by_cases hcb : c = b
    · subst hcb
      rw [if_pos rfl, if_pos ⟨by omega, hm⟩]
    · rw [if_neg hcb, t2 c hc']
      by_cases h7 : c < b
      · simp only [h7, true_and, show c < b + 1 by omega]
      · rw [if_neg (fun h => h7 h.1), if_neg (fun h => by have := h.1; omega)]
  · refine ⟨Nat.le_trans o3.1 e4.1, fun c hc' hne => ?_⟩
    rw [e4.2 c (Nat.lt_of_lt_of_le hc' o3.1) (fun h => by have := (hbl h.2).1; have := h.1; omega), o3.2 c hc' hne]
  · split
    · have := o3.1; omega
    · rename_i hne; exact (hbl hne).1

theorem row_loop (H : AutoAt h₀ B n tab fl ob ou) (Ht : TrX h₀ Bt T X ps) (hn : n = X.length) (hd : ∀ b, Bt.foot T b → b ≠ B.nx ∧ b ≠ B.fl) (hx : X[s]? = some x) (hf : f < n) (hfs : x ≠ [] → f ≠ s) (hs0 : s = 0 ↔ x = []) {Q : AExit → St → Prop}
    (hq : ∀ h' tab' fl' bl, RowI h₀ B n tab fl ob ou X s f x 256 h' tab' fl' bl → Q (.exit 0) ⟨rowEnv B Bt s f (intSl bl (kidn X x 256)) 256 ++ [(70, .bool false)], h'⟩) :
    Wt Try.prog (D cfg) (.loop c100_l9 (some [0, 1, 2, 7, 8, 69])) ⟨rowEnv B Bt s f (.sl none 0 0) 0, h₀⟩ Q := by
  have hs : s < n := by rw [hn]; exact (List.getElem?_eq_some_iff.1 hx).1
  have hk0 : kidn X x 0 = [] := rfl
  refine Wt.loop (RowL h₀ B Bt n tab fl ob ou X s f x) (m := 256) ⟨0, tab, fl, 0, h₀, rfl, by omega, by rw [hk0, intSl_nil], ?_⟩ ?_
  · exact ⟨H, fun _ _ _ => rfl, fun c _ => by rw [if_neg (fun h => by have := h.1; omega)], fun _ c hc => by omega, fun _ _ => rfl, .refl, fun h => absurd hk0 h⟩
  rintro m σ ⟨b, tab1, fl1, bl, h1, rfl, hb, rfl, I⟩
  have hcut : cut (some [0, 1, 2, 7, 8, 69]) (rowEnv B Bt s f (intSl bl (kidn X x b)) b) = rowEnv B Bt s f (intSl bl (kidn X x b)) b := by simp
  simp only [hcut]
  have hwr : IntKind.wrap .i64 ((b : Int) + 1) = b + 1 := wrap_i64 (by omega) (by omega)
  by_cases hb256 : b < 256
  · have hb' : (b : Int) < 256 := by omega
    have hc8 : (UInt8.ofNat b).toNat = b := by simp; omega
    have hw8 : IntKind.wrap .u8 (b : Int) = (b : Int) := wrap_u8 (by omega) (by omega)
    have Ht1 : TrX h1 Bt T X ps := Ht.keep I.only fun c hc => by have := hd c hc; intro h; rcases h with h | h <;> simp [h] at this
    have A1 := I.at_
    have g1 := A1.hdr
    have g2 := A1.fls
    have g3 := A1.nx
    by_cases hm : x ++ [UInt8.ofNat b] ∈ X
    · have hc := st_at hm
      have hcl := st_lt hm
      have e1 := tr_child Ht1 hx hc
      rw [hc8] at e1
      have hw16 : IntKind.wrap .u16 ((st X (x ++ [UInt8.ofNat b]) : Nat) : Int) = ((st X (x ++ [UInt8.ofNat b]) : Nat) : Int) := wrap_u16 (by omega) (by have := A1.small; omega)
      have hcn : ((st X (x ++ [UInt8.ofNat b]) : Nat) : Int) < n := by omega
      have hcn' : st X (x ++ [UInt8.ofNat b]) < n := by omega
      have hsn : (s : Int) < n := by omega
      have hsb : s * 256 + b + 1 ≤ n * 256 := by omega
      have hcn1 : st X (x ++ [UInt8.ofNat b]) + 1 ≤ n := by omega
      have hfn : (f : Int) < n := by omega
      by_cases hx0 : x = []
      · have hs00 := hs0.2 hx0
        obtain ⟨tab2, h3, δ, h4, bl', e2, e3, e4, e5, I2⟩ := row_next (f := f) H hn hb256 hs hm I.t1 I.t2 A1 (fun h => absurd hx0 h) (fun s' h => I.f2 s' (.inl hx0)) I.only I.blk
        have hnext : RowL h₀ B Bt n tab fl ob ou X s f x (256 - (b + 1)) ⟨rowEnv B Bt s f (intSl bl' (kidn X x (b + 1))) (b + 1 : Nat), h4⟩ := ⟨b + 1, tab2, fl1, bl', h4, rfl, by omega, rfl, I2⟩
        have hs00' : ¬ (0 < s) := by omega
        simp [c100_l9, c100_r9, c100_r10, c100_r11, c100_r12, c100_r13, c100_r15, c100_r16, c100_r17, hb', aconv, hw8, e1, extractV, hs00', fieldA, aload, row, g1, g3, hw16, aindexAddr, hsn, hs, hsb, hb256, grid_len, astore, e2, e3, abuildSlice, afill, zeros, e4, e5, hwr]
        exact ⟨_, by omega, hnext⟩
      · have hs00 : s ≠ 0 := fun h => hx0 (hs0.1 h)
        have hs00' : 0 < s := by omega
        obtain ⟨fl2, hfl2⟩ : ∃ g : Nat → Nat, g = fun s' => if s' = st X (x ++ [UInt8.ofNat b]) then tab1 f b else fl1 s' := ⟨_, rfl⟩
        have hset : (nums n fl1).set (st X (x ++ [UInt8.ofNat b])) (.int .i64 ((tab1 f b : Nat) : Int)) = nums n fl2 := by rw [nums_set, hfl2]
        obtain ⟨h2, hh2⟩ : ∃ h2, h1.set B.fl (.cells (nums n fl2) 3 true) = h2 := ⟨_, rfl⟩
        have A2 : AutoAt h2 B n tab1 fl2 ob ou := by rw [← hh2]; exact A1.setFl
        have hlt := H.lt
        have o2 : Only (fun c => c = B.nx ∨ c = B.fl) h₀ h2 := by rw [← hh2]; exact I.only.trans (.set (.inr rfl))
        have hblk : kidn X x b ≠ [] → h₀.length ≤ bl ∧ h2[bl]? = some (.cells (intCells (kidn X x b)) 3 true) := fun hne => by
          obtain ⟨h5, h6⟩ := I.blk hne
          refine ⟨h5, ?_⟩
          rw [← hh2, List.getElem?_set_ne (by omega)]; exact h6
        obtain ⟨tab2, h3, δ, h4, bl', e2, e3, e4, e5, I2⟩ := row_next (f := f) H hn hb256 hs hm I.t1 I.t2 A2 (fun _ c hcb hcm => by
            rw [hfl2]
            simp only
            by_cases hcb' : c = b
            · subst hcb'; rw [if_pos rfl, I.t1 f c (hfs hx0)]
            · rw [if_neg, I.f1 hx0 c (by omega) hcm]
              intro e
              have := st_inj hcm hm e
              simp at this
              have := byte_inj (a := c) (b := b) (by omega) hb256 (by simpa using this)
              exact hcb' this) (fun s' h => by
            rw [hfl2]
            simp only
            rcases h with h | h
            · exact absurd h hx0
            · rw [if_neg, I.f2 s' (.inr fun c hc' => h c (by omega))]
              rintro rfl
              exact h b (by omega) hc) o2 hblk
        have hnext : RowL h₀ B Bt n tab fl ob ou X s f x (256 - (b + 1)) ⟨rowEnv B Bt s f (intSl bl' (kidn X x (b + 1))) (b + 1 : Nat), h4⟩ := ⟨b + 1, tab2, fl2, bl', h4, rfl, by omega, rfl, I2⟩
        have g4 := A2.hdr
        have g5 := A2.nx
        have g6 := grid_at (tab := tab1) hf hb256
        have hw64 : IntKind.wrap .i64 ((tab1 f b : Nat) : Int) = tab1 f b := wrap_i64 (by omega) (by have := A1.le f b; omega)
        simp [c100_l9, c100_r9, c100_r10, c100_r11, c100_r12, c100_r13, c100_r14, c100_r15, c100_r16, c100_r17, hb', aconv, hw8, e1, extractV, hs00', fieldA, aload, row, g1, g2, g3, g4, g5, g6, hw16, hw64, aindexAddr, hsn, hs, hsb, hfn, hf, hcn, hcn', hcn1, hb256, grid_len, nums_len, astore, hset, hh2, e2, e3, abuildSlice, afill, zeros, e4, e5, hwr]
        exact ⟨_, by omega, hnext⟩
    · have e1 := tr_child_none Ht1 hx hm
      rw [hc8] at e1
      have hkk : kidn X x (b + 1) = kidn X x b := by simp [kidn, kids, hm]
      have hnext : RowL h₀ B Bt n tab fl ob ou X s f x (256 - (b + 1)) ⟨rowEnv B Bt s f (intSl bl (kidn X x (b + 1))) (b + 1 : Nat), h1⟩ := by
        refine ⟨b + 1, tab1, fl1, bl, h1, rfl, by omega, rfl, A1, I.t1, fun c hc => ?_, fun h c hc hcm => ?_, fun s' h => I.f2 s' ?_, I.only, by rw [hkk]; exact I.blk⟩
        · rw [I.t2 c hc]
          by_cases hcb : c = b
          · subst hcb
            rw [if_neg (fun h => hm h.2), if_neg (fun h => hm h.2)]
          · by_cases h7 : c < b
            · simp only [h7, true_and, show c < b + 1 by omega]
            · rw [if_neg (fun h => h7 h.1), if_neg (fun h => by have := h.1; omega)]
        · by_cases hcb : c = b
          · subst hcb; exact absurd hcm hm
          · exact I.f1 h c (by omega) hcm
        · rcases h with h | h
          · exact .inl h
          · exact .inr fun c hc => h c (by omega)
      rw [hkk] at hnext
      simp [c100_l9, c100_r9, c100_r10, c100_r11, c100_r12, c100_r17, hb', aconv, hw8, e1, extractV, hwr]
      exact ⟨_, by omega, hnext⟩
  · have : b = 256 := by omega
    subst this
    have := hq h1 tab1 fl1 bl I
    simp [c100_l9, c100_r9]
    simpa using this
end
end Go.AM
