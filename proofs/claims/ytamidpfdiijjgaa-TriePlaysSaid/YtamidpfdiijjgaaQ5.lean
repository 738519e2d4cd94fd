/-
  The law TriePlays returns true.
-/
import Derived.Test.YtamidpfdiijjgaaP9
import Derived.Test.YtamidpfdiijjgaaL5
namespace Go.AM
open Go Go.Proofs
set_option linter.unusedVariables false
set_option linter.unusedSimpArgs false
set_option maxRecDepth 100000

noncomputable abbrev F5 : CallF := mixed [36] (D cfg)
theorem awake5a : saysTrue (acall cfg 40 36 [] []) = true := by kernel_rfl
theorem awake5 {h : Heap} : F5 36 [] h = some (.bool true, h) := awake_of awake5a rfl
theorem F5_D {f : FuncId} (hf : f ≠ 36) {args : List AV} {h : Heap} : F5 f args h = D cfg f args h := mixed_D (by simp [hf])

/-- What the plays hold: the trie, the cut patterns, the states' texts. -/
structure PlayH (h₀ h : Heap) (B : TB) (T : TM) (X ps Y : List Txt) (bc bt : Nat) : Prop where
  tr : TrX h B T X ps
  cut : ps.length ≠ 0 → h[bc]? = some (.cells (strCells ps) 9 true)
  text : h[bt]? = some (.cells (strCells Y) 9 true)
  newT : h₀.length ≤ bt
  newC : ps.length ≠ 0 → h₀.length ≤ bc
  newB : ∀ b, B.foot T b → h₀.length ≤ b
  ne : ps.length ≠ 0 → bt ≠ bc
  offT : ¬ B.foot T bt
  offC : ps.length ≠ 0 → ¬ B.foot T bc
  only : Only (fun _ => False) h₀ h

theorem PlayH.same {h₀ h h' : Heap} {B : TB} {T : TM} {X ps Y : List Txt} {bc bt : Nat} (H : PlayH h₀ h B T X ps Y bc bt) (ho : Only (fun _ => False) h h') : PlayH h₀ h' B T X ps Y bc bt :=
  ⟨H.tr.same ho, fun hp => ho.at (H.cut hp) id, ho.at H.text id, H.newT, H.newC, H.newB, H.ne, H.offT, H.offC, H.only.trans ho⟩

theorem PlayH.lt {h₀ h : Heap} {B : TB} {T : TM} {X ps Y : List Txt} {bc bt : Nat} (H : PlayH h₀ h B T X ps Y bc bt) : True := trivial

def txtSl (b : Nat) (l : List Txt) : AV := bufSl b l.length (strCells l)

theorem Sl1.txt {h : Heap} {b : Nat} {s : Bool} {l : List Txt} (hb : l.length ≠ 0 → h[b]? = some (.cells (strCells l) 9 s)) : Sl1 h (txtSl b l) (strCells l) := by
  have := Sl1.buf (h := h) (b := b) (e := 9) (s := s) (xs := strCells l) (by rw [strCells_len]; exact hb)
  rw [strCells_len] at this
  exact this

/-- A text more. -/
theorem append_txt {h : Heap} {b : Nat} {l : List Txt} {p : Txt} (hb : l.length ≠ 0 → h[b]? = some (.cells (strCells l) 9 true)) (hn : l.length ≤ 1000000) :
    ∃ δ h', append2 Try.prog (look (h ++ [AObj.cells [.str p] 9 true])) (h.length + 1) 38 38 [txtSl b l, .sl (some ⟨h.length, 0, 1⟩) 1 1] = some (txtSl (if l.length = 0 then h.length + 1 else b) (l ++ [p]), δ) ∧ Heap.apply (h ++ [AObj.cells [.str p] 9 true]) δ = h' ∧
      h'[if l.length = 0 then h.length + 1 else b]? = some (.cells (strCells (l ++ [p])) 9 true) ∧ Only (fun c => c = b ∧ l.length ≠ 0) h h' := by
  obtain ⟨δ, h', h1, h2, h3, h4⟩ := append_buf (t := 38) (e := 9) (k := 1) (by simp) (by simp) (by decide) (by simp) (by simp) (h := h) (b := b) (n := l.length) (xs := strCells l) (ys := [.str p]) (by simp) (by simp [strCells]) hb hn
  have e : strCells l ++ [AV.str p] = strCells (l ++ [p]) := by simp [strCells]
  rw [e] at h1 h3
  refine ⟨δ, h', ?_, h2, h3, h4⟩
  simp only [txtSl]
  rw [h1]
  simp

abbrev inEnv (v : AV) (ask bb : Int) (P cv tv : AV) (i : Nat) (p : Txt) (s k : Nat) : Env := [(0, v), (1, .int .i64 ask), (2, .int .u8 bb), (7, P), (8, cv), (9, tv), (10, .int .i64 i), (11, .str p), (12, .int .i64 s), (13, .int .i64 k)]

def c5_rest : SC := (.seq (.reg c5_r22 none (some [0, 1, 2, 7, 8, 9, 10, 11, 12, 13, 14, 16, 17, 18])) (.seq (.seq (.reg c5_r23 none (some [0, 1, 2, 7, 8, 9, 10, 11, 13, 14, 151])) (.cond (.tmp 151) (.seq (.reg c5_r24 none (some [6])) .ret) .skip (some [0, 1, 2, 7, 8, 9, 10, 11, 13, 14]))) (.reg c5_r25 none (some [0, 1, 2, 7, 8, 9, 10, 11, 12, 13]))))

theorem alen9 {L : Look} {s : Txt} : alen Try.prog L 9 (.str s) = some (.int .i64 s.length) := by simp [alen]

/-- The end of an inner round: up, deep, text. -/
theorem play_rest {h₀ h : Heap} {B : TB} {T : TM} {X ps Y : List Txt} {bc bt : Nat} (H : PlayH h₀ h B T X ps Y bc bt) {v cv : AV} {ask bb : Int} {i k s c : Nat} {p : Txt} (hk : k < p.length) (hp : p.length ≤ 16)
    (hs : X[s]? = some (p.take k)) (hc : X[c]? = some (p.take k ++ [p[k]])) (hcY : Y[c]? = some (p.take k ++ [p[k]])) {Q : AExit → St → Prop}
    (hq : ∀ h', PlayH h₀ h' B T X ps Y bc bt → Q .normal ⟨inEnv v ask bb B.ptr cv (txtSl bt Y) i p c k, h'⟩) :
    Wt Try.prog F5 c5_rest ⟨[(0, v), (1, .int .i64 ask), (2, .int .u8 bb), (7, B.ptr), (8, cv), (9, txtSl bt Y), (10, .int .i64 i), (11, .str p), (12, .int .i64 s), (13, .int .i64 k), (14, .int .i64 c)], h⟩ Q := by
  obtain ⟨q, h2, e2, hq2, o2⟩ := tr_parent H.tr hc
  have hqs : q = s := idx_unique H.tr.model.nodup hq2 hs
  subst hqs
  have H2 := H.same o2
  have e3 := tr_depth H2.tr hc
  have hcl : c < Y.length := (List.getElem?_eq_some_iff.1 hcY).1
  have sl := Sl1.txt (s := true) (fun _ => H2.text)
  have a1 := sl.at (t := 38) (e := 9) (by simp) (by simp) (i := c) (by rw [strCells_len]; exact hcl)
  have b1 := sl.load (e := 9) (by simp) (i := c) (by rw [strCells_len]; exact hcl)
  rw [strCells_get, show Y[c] = p.take k ++ [p[k]] from (List.getElem?_eq_some_iff.1 hcY).2, ← take_snoc hk] at b1
  have hwr : IntKind.wrap .i64 ((k : Int) + 1) = k + 1 := wrap_i64 (by omega) (by omega)
  have hkp : (k : Int) + 1 ≤ p.length := by omega
  have hkp' : ((k : Int) + 1).toNat = k + 1 := by omega
  have hkn : (0 : Int) ≤ (k : Int) + 1 := by omega
  have hpk : p[k]? = some p[k] := List.getElem?_eq_getElem hk
  have hend := hq h2 H2
  have hlen : (((p.take k ++ [p[k]]).length : Nat) : Int) = k + 1 := by rw [List.length_append, List.length_take]; simp; omega
  rw [hlen] at e3
  simp [c5_rest, c5_r22, c5_r23, c5_r24, c5_r25, F5_D, e2, extractV, a1, b1, aslice, bound, hwr, hkp, hkp', hkn, e3, aindex, hpk]
  simpa using hend

/-- How many texts there are when so much of a pattern has come. -/
theorem in_fact {ps : List Txt} {p : Txt} {k : Nat} (hk : k < p.length) : ∃ c, (begs (ps ++ [p]))[c]? = some (p.take k ++ [p[k]]) ∧ 1 ≤ c ∧ (addFrom (begs ps) [] (p.take (k + 1)))[c]? = some (p.take k ++ [p[k]]) ∧
    (c < (addFrom (begs ps) [] (p.take k)).length ∧ addFrom (begs ps) [] (p.take (k + 1)) = addFrom (begs ps) [] (p.take k) ∨ c = (addFrom (begs ps) [] (p.take k)).length ∧ addFrom (begs ps) [] (p.take (k + 1)) = addFrom (begs ps) [] (p.take k) ++ [p.take (k + 1)]) := by
  have hfull : ∀ {c : Nat} {x : Txt}, (addFrom (begs ps) [] (p.take (k + 1)))[c]? = some x → (begs (ps ++ [p]))[c]? = some x := by
    intro c x h
    rw [begs_snoc, ← List.take_append_drop (k + 1) p]
    have key : ∀ (r r' : Txt) (X : List Txt) (y : Txt), addFrom X y (r ++ r') = addFrom (addFrom X y r) (y ++ r) r' := by
      intro r
      induction r with
      | nil => intro r' X y; simp [addFrom]
      | cons b r ih => intro r' X y; simp only [List.cons_append, addFrom]; rw [ih]; simp
    rw [key]
    exact addFrom_old h
  have h0 : (begs ps)[0]? = some [] := by
    have : ∀ (ps X : List Txt), X[0]? = some [] → (ps.foldl (fun X p => addFrom X [] p) X)[0]? = some [] := by
      intro ps
      induction ps with
      | nil => intro X h; exact h
      | cons p ps ih => intro X h; exact ih _ (addFrom_old h)
    exact this ps _ rfl
  have hstep := addFrom_step (X := begs ps) hk
  rw [← take_snoc hk]
  have hc1 : ∀ {c : Nat}, (addFrom (begs ps) [] (p.take (k + 1)))[c]? = some (p.take (k + 1)) → 1 ≤ c := by
    intro c h
    cases c with
    | zero =>
      have := addFrom_old (r := p.take (k + 1)) (x := []) h0
      rw [this] at h
      simp at h
      rw [h] at hk
      simp at hk
    | succ c => omega
  by_cases hm : p.take (k + 1) ∈ begs ps
  · rw [if_pos hm] at hstep
    obtain ⟨c, hc⟩ := List.getElem?_of_mem hm
    have h1 := addFrom_old (r := p.take (k + 1)) (x := []) hc
    have h2 := addFrom_old (r := p.take k) (x := []) hc
    exact ⟨c, hfull h1, hc1 h1, h1, .inl ⟨(List.getElem?_eq_some_iff.1 h2).1, hstep⟩⟩
  · rw [if_neg hm] at hstep
    have h1 : (addFrom (begs ps) [] (p.take (k + 1)))[(addFrom (begs ps) [] (p.take k)).length]? = some (p.take (k + 1)) := by rw [hstep]; simp
    exact ⟨_, hfull h1, hc1 h1, h1, .inr ⟨rfl, hstep⟩⟩

theorem l15_eq : c5_l15 = (.seq (.seq (.reg c5_r15 none (some [0, 1, 2, 7, 8, 9, 10, 11, 12, 13, 77])) (.cond (.tmp 77) .skip (.exit 2) (some [0, 1, 2, 7, 8, 9, 10, 11, 12, 13]))) (.seq (.block 3 (.seq (.reg c5_r17 none (some [0, 1, 2, 7, 8, 9, 10, 11, 12, 13, 14, 15])) (.seq (.seq (.reg c5_r18 none (some [0, 1, 2, 7, 8, 9, 10, 11, 12, 13, 14, 100])) (.cond (.tmp 100) (.seq (.reg c5_r19 none (some [6])) .ret) .skip (some [0, 1, 2, 7, 8, 9, 10, 11, 12, 13, 14]))) (.seq (.seq (.reg c5_r20 none (some [0, 1, 2, 7, 8, 9, 10, 11, 12, 13, 14, 104])) (.cond (.tmp 104) (.reg c5_r21 none (some [0, 1, 2, 7, 8, 9, 10, 11, 12, 13, 14])) .skip (some [0, 1, 2, 7, 8, 9, 10, 11, 12, 13, 14]))) c5_rest)))) (.reg c5_r16 none (some [0, 1, 2, 7, 8, 9, 10, 11, 12, 13])))) := rfl

theorem play_round {h₀ h : Heap} {B : TB} {T : TM} {ps : List Txt} {p : Txt} {bc bt : Nat} {v : AV} {ask bb : Int} {i k s : Nat} (H : PlayH h₀ h B T (begs (ps ++ [p])) (ps ++ [p]) (addFrom (begs ps) [] (p.take k)) bc bt)
    (hk : k < p.length) (hp : p.length ≤ 16) (hps : ps.length ≤ 20) (hbl : (begs ps).length ≤ 1000) (hs : (begs (ps ++ [p]))[s]? = some (p.take k)) {Q : AExit → St → Prop}
    (hq : ∀ h' c, PlayH h₀ h' B T (begs (ps ++ [p])) (ps ++ [p]) (addFrom (begs ps) [] (p.take (k + 1))) bc bt → (begs (ps ++ [p]))[c]? = some (p.take (k + 1)) →
      Q .normal ⟨inEnv v ask bb B.ptr (txtSl bc (ps ++ [p])) (txtSl bt (addFrom (begs ps) [] (p.take (k + 1)))) i p c (k + 1), h'⟩) :
    Wt Try.prog F5 c5_l15 ⟨inEnv v ask bb B.ptr (txtSl bc (ps ++ [p])) (txtSl bt (addFrom (begs ps) [] (p.take k))) i p s k, h⟩ Q := by
  obtain ⟨c, hc, hc1, hcY, hcase⟩ := in_fact (ps := ps) hk
  have hpk : p[k]? = some p[k] := List.getElem?_eq_getElem hk
  have e1 := tr_child H.tr hs hc
  obtain ⟨Y, hY⟩ : ∃ Y, Y = addFrom (begs ps) [] (p.take k) := ⟨_, rfl⟩
  obtain ⟨Y', hY'⟩ : ∃ Y', Y' = addFrom (begs ps) [] (p.take (k + 1)) := ⟨_, rfl⟩
  rw [← hY'] at hcY hcase hq
  rw [← hY] at hcase H ⊢
  have hYl : Y.length ≤ 1016 := by
    have := addFrom_len (r := p.take k) (X := begs ps) (x := [])
    rw [← hY, List.length_take] at this
    omega
  have hYl0 : Y.length ≠ 0 := by
    have : [] ∈ Y := by rw [hY]; exact addFrom_mono (mem_begs.2 (.inl rfl))
    intro e
    rw [List.length_eq_zero_iff.1 e] at this
    simp at this
  have sl := fun L => (Sl1.txt (s := true) (fun _ => H.text)).len (t := 38) (e := 9) (by simp) (L := L)
  simp only [strCells_len] at sl
  have hwr : IntKind.wrap .i64 ((k : Int) + 1) = k + 1 := wrap_i64 (by omega) (by omega)
  have hkp : (k : Int) + 1 ≤ p.length := by omega
  have hkp' : ((k : Int) + 1).toNat = k + 1 := by omega
  have hkn : (0 : Int) ≤ (k : Int) + 1 := by omega
  have hc1' : ¬ ((c : Int) < 1) := by omega
  rw [l15_eq]
  have fin : ∀ h1, PlayH h₀ h1 B T (begs (ps ++ [p])) (ps ++ [p]) Y' bc bt → Wt Try.prog F5 c5_rest ⟨[(0, v), (1, .int .i64 ask), (2, .int .u8 bb), (7, B.ptr), (8, txtSl bc (ps ++ [p])), (9, txtSl bt Y'), (10, .int .i64 i), (11, .str p), (12, .int .i64 s), (13, .int .i64 k), (14, .int .i64 c)], h1⟩
      (inBlock 3 (andThen (fun s' => Wt Try.prog F5 (.reg c5_r16 none (some [0, 1, 2, 7, 8, 9, 10, 11, 12, 13])) s' Q) Q)) := by
    intro h1 H1
    refine play_rest H1 hk hp hs hc hcY fun h' H' => ?_
    have := hq h' c H' (by rw [take_snoc hk]; exact hc)
    simp only [inEnv] at this
    simp [c5_r16, hwr]
    simpa using this
  rcases hcase with ⟨hlt, hYY⟩ | ⟨hce, hYY⟩
  · have h1 : ¬ ((Y.length : Int) < c) := by omega
    have h2 : ¬ ((c : Int) = Y.length) := by omega
    have h3 : ¬ (Y.length < c) := by omega
    have h4 : ¬ (c = Y.length) := by omega
    rw [hYY] at fin
    simp [c5_r15, c5_r17, c5_r18, c5_r19, c5_r20, hk, len1, alen9, aindex, hpk, F5_D, e1, extractV, hc1', sl, h1, h2, h3, h4]
    simpa using fin h H
  · subst hce
    obtain ⟨δ, h', e2, e3, e4, o4⟩ := append_txt (h := h) (b := bt) (l := Y) (p := p.take (k + 1)) (fun _ => H.text) (by omega)
    rw [if_neg hYl0] at e2 e4
    rw [← hYY] at e2 e4
    have hpos : ∀ b, b = bt ∧ Y.length ≠ 0 → b = bt := fun b h => h.1
    have H' : PlayH h₀ h' B T (begs (ps ++ [p])) (ps ++ [p]) Y' bc bt := by
      refine ⟨H.tr.keep o4 fun b hb e => H.offT (e.1 ▸ hb), fun hp => o4.at (H.cut hp) fun e => H.ne hp e.1.symm, e4, H.newT, H.newC, H.newB, H.ne, H.offT, H.offC, H.only.fresh o4 fun c e => by rw [e.1]; exact H.newT⟩
    simp [c5_r15, c5_r17, c5_r18, c5_r19, c5_r20, c5_r21, hk, len1, alen9, aindex, hpk, F5_D, e1, extractV, hc1', sl, hwr, hkp, hkp', hkn, aslice, bound, abuildSlice, afill, zeros, e2, e3]
    simpa using fin h' H'

def In5 (h₀ : Heap) (B : TB) (T : TM) (ps : List Txt) (p : Txt) (bc bt : Nat) (v : AV) (ask bb : Int) (i : Nat) (m : Nat) (st : St) : Prop :=
  ∃ k s h, m = p.length - k ∧ k ≤ p.length ∧ st = ⟨inEnv v ask bb B.ptr (txtSl bc (ps ++ [p])) (txtSl bt (addFrom (begs ps) [] (p.take k))) i p s k, h⟩ ∧
    PlayH h₀ h B T (begs (ps ++ [p])) (ps ++ [p]) (addFrom (begs ps) [] (p.take k)) bc bt ∧ (begs (ps ++ [p]))[s]? = some (p.take k)

theorem play_inner {h₀ h : Heap} {B : TB} {T : TM} {ps : List Txt} {p : Txt} {bc bt : Nat} {v : AV} {ask bb : Int} {i : Nat} (H : PlayH h₀ h B T (begs (ps ++ [p])) (ps ++ [p]) (begs ps) bc bt)
    (hp : p.length ≤ 16) (hps : ps.length ≤ 20) (hbl : (begs ps).length ≤ 1000) {Q : AExit → St → Prop}
    (hq : ∀ h' s, PlayH h₀ h' B T (begs (ps ++ [p])) (ps ++ [p]) (begs (ps ++ [p])) bc bt →
      Q (.exit 2) ⟨inEnv v ask bb B.ptr (txtSl bc (ps ++ [p])) (txtSl bt (begs (ps ++ [p]))) i p s p.length ++ [(77, .bool false)], h'⟩) :
    Wt Try.prog F5 (.loop c5_l15 (some [0, 1, 2, 7, 8, 9, 10, 11, 12, 13])) ⟨inEnv v ask bb B.ptr (txtSl bc (ps ++ [p])) (txtSl bt (begs ps)) i p 0 0, h⟩ Q := by
  have hY0 : addFrom (begs ps) [] (p.take 0) = begs ps := by simp [addFrom]
  refine Wt.loop (In5 h₀ B T ps p bc bt v ask bb i) (m := p.length) ⟨0, 0, h, rfl, Nat.zero_le _, by rw [hY0], by rw [hY0]; exact H, by simpa using H.tr.model.zero⟩ ?_
  rintro m st ⟨k, s, h1, rfl, hk, rfl, H1, hs⟩
  have hcut : cut (some [0, 1, 2, 7, 8, 9, 10, 11, 12, 13]) (inEnv v ask bb B.ptr (txtSl bc (ps ++ [p])) (txtSl bt (addFrom (begs ps) [] (p.take k))) i p s k) = inEnv v ask bb B.ptr (txtSl bc (ps ++ [p])) (txtSl bt (addFrom (begs ps) [] (p.take k))) i p s k := by simp
  simp only [hcut]
  by_cases hkp : k < p.length
  · refine play_round H1 hkp hp hps hbl hs fun h' c H' hc => ?_
    exact ⟨p.length - (k + 1), by omega, k + 1, c, h', rfl, hkp, rfl, H', hc⟩
  · have : k = p.length := by omega
    subst this
    rw [List.take_length, ← begs_snoc] at H1
    have := hq h1 s H1
    simp [c5_l15, c5_r15, len1, alen9, ← begs_snoc]
    simpa using this

theorem begs_len {ps : List Txt} (hp : ∀ p ∈ ps, p.length ≤ 16) : (begs ps).length ≤ 1 + 16 * ps.length := by
  have key : ∀ (ps X : List Txt), (∀ p ∈ ps, p.length ≤ 16) → (ps.foldl (fun X p => addFrom X [] p) X).length ≤ X.length + 16 * ps.length := by
    intro ps
    induction ps with
    | nil => intro X _; simp
    | cons p ps ih =>
      intro X h
      have h1 := ih (addFrom X [] p) fun q hq => h q (List.mem_cons_of_mem _ hq)
      have h2 := addFrom_len (r := p) (X := X) (x := [])
      have h3 := h p (List.mem_cons_self ..)
      simp only [List.foldl_cons, List.length_cons]
      omega
  exact key ps _ hp

abbrev outEnv (v : AV) (ask bb : Int) (P cv tv : AV) (i : Nat) : Env := [(0, v), (1, .int .i64 ask), (2, .int .u8 bb), (7, P), (8, cv), (9, tv), (10, .int .i64 i)]

theorem play_outer {h₀ h : Heap} {B : TB} {T : TM} {ps l : List Txt} {bc bt : Nat} {v : AV} {ask bb : Int} {i : Nat} (hv : Sl1 h₀ v (strCells l)) (hvb : ∀ b, slB v = some b → b < h₀.length) (hl : l.length ≤ 20) (hi : i < l.length) (hpi : ps.length = i) (hp16 : ∀ p ∈ ps, p.length ≤ 16)
    (hlen : (txt l i).length ≤ 9223372036854775807) (H : PlayH h₀ h B T (begs ps) ps (begs ps) bc bt) {Q : AExit → St → Prop}
    (hq : ∀ h' B' T' bc', B'.ptr = B.ptr → PlayH h₀ h' B' T' (begs (ps ++ [(txt l i).take 16])) (ps ++ [(txt l i).take 16]) (begs (ps ++ [(txt l i).take 16])) bc' bt →
      Q .normal ⟨outEnv v ask bb B.ptr (txtSl bc' (ps ++ [(txt l i).take 16])) (txtSl bt (begs (ps ++ [(txt l i).take 16]))) (i + 1), h'⟩) :
    Wt Try.prog F5 c5_l7 ⟨outEnv v ask bb B.ptr (txtSl bc ps) (txtSl bt (begs ps)) i, h⟩ Q := by
  obtain ⟨p, hp⟩ : ∃ p, p = (txt l i).take 16 := ⟨_, rfl⟩
  rw [← hp] at hq
  have hpl : p.length ≤ 16 := by rw [hp]; simp; omega
  have hbl := begs_len hp16
  have hv1 := hv.same H.only
  have hlen1 := fun L => hv.len (t := 38) (e := 9) (by simp) (L := L)
  simp only [strCells_len] at hlen1
  have a1 := hv.at (t := 38) (e := 9) (by simp) (by simp) (i := i) (by rw [strCells_len]; exact hi)
  have b1 := hv1.load (e := 9) (by simp) (i := i) (by rw [strCells_len]; exact hi)
  rw [strCells_get, txt_eq] at b1
  obtain ⟨δ, h1, e2, e3, e4, o4⟩ := append_txt (h := h) (b := bc) (l := ps) (p := p) H.cut (by omega)
  obtain ⟨bc', hbc'⟩ : ∃ bc', bc' = if ps.length = 0 then h.length + 1 else bc := ⟨_, rfl⟩
  rw [← hbc'] at e2 e4
  have hfoot : ∀ b, B.foot T b → b < h.length := fun b hb => lt_of_foot H.tr.at_ hb
  have hbt := lt_of_at H.text
  have hneT : bt ≠ bc' := by
    rw [hbc']; split
    · omega
    · rename_i h; exact H.ne h
  have hoffC : ¬ B.foot T bc' := by
    rw [hbc']; split
    · intro hb; have := hfoot _ hb; omega
    · rename_i h; exact H.offC h
  have hnewC : h₀.length ≤ bc' := by
    have := H.only.1
    rw [hbc']; split
    · omega
    · rename_i h; exact H.newC h
  have H1 : TrX h1 B T (begs ps) ps := H.tr.keep o4 fun b hb e => H.offC e.2 (e.1 ▸ hb)
  have t1 : h1[bt]? = some (.cells (strCells (begs ps)) 9 true) := o4.at H.text fun e => H.ne e.2 e.1
  have o1 : Only (fun _ => False) h₀ h1 := H.only.fresh o4 fun c e => by rw [e.1]; exact H.newC e.2
  obtain ⟨B2, T2, h2, e5, e6, H2, o5, f2⟩ := tr_add H1 (by omega) (by omega) (p := txt l i) hlen
  rw [← hp, ← begs_snoc] at H2
  have hl1 : h.length ≤ h1.length := o4.1
  have hbc1 := lt_of_at e4
  have H3 : PlayH h₀ h2 B2 T2 (begs (ps ++ [p])) (ps ++ [p]) (begs ps) bc' bt := by
    refine ⟨H2, fun _ => o5.at e4 hoffC, o5.at t1 H.offT, H.newT, fun _ => hnewC, fun b hb => ?_, fun _ => hneT, fun hb => ?_, fun _ hb => ?_, o1.fresh o5 H.newB⟩
    · rcases f2 b hb with hb | hb
      · exact H.newB b hb
      · have := o1.1; omega
    · rcases f2 bt hb with hb | hb
      · exact H.offT hb
      · omega
    · rcases f2 bc' hb with hb | hb
      · exact hoffC hb
      · omega
  have hil : (i : Int) < l.length := by omega
  have hmin : (if (16 : Int) < ((txt l i).length : Int) then (16 : Int) else ((txt l i).length : Int)) = (p.length : Int) := by
    rw [hp]; simp; split <;> omega
  have htake : (txt l i).take p.length = p := by rw [hp]; simp
  have hple : p.length ≤ (txt l i).length := by rw [hp]; simp; omega
  have hwr : IntKind.wrap .i64 ((i : Int) + 1) = i + 1 := wrap_i64 (by omega) (by omega)
  simp only [outEnv]
  have b2 := (hv.same o1).load (e := 9) (by simp) (i := i) (by rw [strCells_len]; exact hi)
  rw [strCells_get, txt_eq] at b2
  have hin := fun Q hq => play_inner (Q := Q) (v := v) (ask := ask) (bb := bb) (i := i) H3 hpl (by omega) (by omega) hq
  simp only [inEnv] at hin
  rw [e6] at hin
  rw [hpi] at e5
  simp [c5_l7, c5_r7, c5_r9, c5_r10, c5_r11, c5_r12, c5_r13, c5_r14, hi, hil, len1, hlen1, a1, b1, alen9, amin, amin1, hmin, aslice, bound, hple, htake, abuildSlice, afill, zeros, e2, e3, F5_D, b2, e5]
  refine hin _ fun h3 s H4 => ?_
  have hps' : ∀ q ∈ ps ++ [p], q.length ≤ 16 := fun q hq => by
    simp at hq
    rcases hq with hq | rfl
    · exact hp16 q hq
    · exact hpl
  have c1 := tr_states H4.tr
  rw [e6] at c1
  have c2 := ref_states (Sl1.txt (s := true) H4.cut) (by simp; omega) (fun q hq => by have := hps' q hq; omega)
  rw [cnt_begs] at c2
  have c3 := fun L => (Sl1.txt (s := true) (fun _ => H4.text)).len (t := 38) (e := 9) (by simp) (L := L)
  simp only [strCells_len] at c3
  have hend := hq h3 B2 T2 bc' e6 H4
  simp only [outEnv] at hend
  simp [c5_r26, c5_r8, c5_r27, F5_D, c1, c2, len1, c3, hwr]
  simpa using hend

theorem take_txt {ps : List Txt} {i : Nat} (hi : i < ps.length) : ps.take (i + 1) = ps.take i ++ [txt ps i] := by
  rw [List.take_succ_eq_append_getElem hi, txt_eq hi]

theorem cuts_snoc {l : List Txt} {i : Nat} (hi : i < l.length) : cuts (l.take (i + 1)) = cuts (l.take i) ++ [(txt l i).take 16] := by
  rw [take_txt hi]; simp [cuts]

theorem cuts_le {l : List Txt} : ∀ p ∈ cuts l, p.length ≤ 16 := by
  intro p hp
  simp [cuts] at hp
  obtain ⟨q, _, rfl⟩ := hp
  simp; omega

def Out5 (h₀ : Heap) (v : AV) (l : List Txt) (ask bb : Int) (P : AV) (bt : Nat) (m : Nat) (st : St) : Prop :=
  ∃ i B T bc h, m = l.length - i ∧ i ≤ l.length ∧ B.ptr = P ∧ st = ⟨outEnv v ask bb P (txtSl bc (cuts (l.take i))) (txtSl bt (begs (cuts (l.take i)))) i, h⟩ ∧ PlayH h₀ h B T (begs (cuts (l.take i))) (cuts (l.take i)) (begs (cuts (l.take i))) bc bt

theorem play_outer_loop {h₀ h : Heap} {B : TB} {T : TM} {l : List Txt} {bc bt : Nat} {v : AV} {ask bb : Int} (hv : Sl1 h₀ v (strCells l)) (hvb : ∀ b, slB v = some b → b < h₀.length) (hl : l.length ≤ 20)
    (hlen : ∀ p ∈ l, p.length ≤ 9223372036854775807) (H : PlayH h₀ h B T (begs []) [] (begs []) bc bt) {Q : AExit → St → Prop}
    (hq : ∀ h' B' T' bc', B'.ptr = B.ptr → PlayH h₀ h' B' T' (begs (cuts l)) (cuts l) (begs (cuts l)) bc' bt →
      Q (.exit 0) ⟨outEnv v ask bb B.ptr (txtSl bc' (cuts l)) (txtSl bt (begs (cuts l))) l.length ++ [(48, .bool false)], h'⟩) :
    Wt Try.prog F5 (.loop c5_l7 (some [0, 1, 2, 7, 8, 9, 10])) ⟨outEnv v ask bb B.ptr (txtSl bc []) (txtSl bt (begs [])) 0, h⟩ Q := by
  have hc0 : cuts (l.take 0) = [] := rfl
  refine Wt.loop (Out5 h₀ v l ask bb B.ptr bt) (m := l.length) ⟨0, B, T, bc, h, rfl, Nat.zero_le _, rfl, by rw [hc0], by rw [hc0]; exact H⟩ ?_
  rintro m st ⟨i, B1, T1, bc1, h1, rfl, hi, hP, rfl, H1⟩
  have hcut : cut (some [0, 1, 2, 7, 8, 9, 10]) (outEnv v ask bb B.ptr (txtSl bc1 (cuts (l.take i))) (txtSl bt (begs (cuts (l.take i)))) i) = outEnv v ask bb B.ptr (txtSl bc1 (cuts (l.take i))) (txtSl bt (begs (cuts (l.take i)))) i := by simp
  simp only [hcut]
  by_cases hil : i < l.length
  · rw [← hP]
    refine play_outer hv hvb hl hil (by simp [cuts]; omega) cuts_le (by rw [← txt_eq hil]; exact hlen _ (List.getElem_mem hil)) H1 fun h' B' T' bc' e H' => ?_
    rw [← cuts_snoc hil] at H' ⊢
    exact ⟨l.length - (i + 1), by omega, i + 1, B', T', bc', h', rfl, hil, e, rfl, H'⟩
  · have : i = l.length := by omega
    subst this
    rw [List.take_length] at H1 ⊢
    have hlen1 := fun L => hv.len (t := 38) (e := 9) (by simp) (L := L)
    simp only [strCells_len] at hlen1
    have := hq h1 B1 T1 bc1 hP H1
    simp [c5_l7, c5_r7, len1, hlen1]
    simpa using this

/-! ### what ends in each state -/

theorem append_int {h : Heap} {b : Nat} {l : List Int} {x : Int} (hb : l ≠ [] → h[b]? = some (.cells (intCells l) 3 true)) (hn : l.length ≤ 1000000) :
    ∃ δ h', append2 Try.prog (look (h ++ [AObj.cells [.int .i64 x] 3 true])) (h.length + 1) 30 30 [intSl b l, .sl (some ⟨h.length, 0, 1⟩) 1 1] = some (intSl (if l = [] then h.length + 1 else b) (l ++ [x]), δ) ∧ Heap.apply (h ++ [AObj.cells [.int .i64 x] 3 true]) δ = h' ∧
      h'[if l = [] then h.length + 1 else b]? = some (.cells (intCells (l ++ [x])) 3 true) ∧ Only (fun c => c = b ∧ l ≠ []) h h' := by
  have hne : l.length ≠ 0 ↔ l ≠ [] := by rw [ne_eq, List.length_eq_zero_iff]
  have hz : (if l.length = 0 then h.length + 1 else b) = if l = [] then h.length + 1 else b := by
    by_cases hl : l = []
    · subst hl; rfl
    · rw [if_neg hl, if_neg (hne.2 hl)]
  obtain ⟨δ, h', h1, h2, h3, h4⟩ := append_buf (t := 30) (e := 3) (k := 1) (by simp) (by simp) (by decide) (by simp) (by simp) (h := h) (b := b) (n := l.length) (xs := intCells l) (ys := [.int .i64 x]) (by simp) (by simp [intCells]) (fun e => hb (hne.1 e)) hn
  have e : intCells l ++ [AV.int .i64 x] = intCells (l ++ [x]) := by simp [intCells]
  rw [e, hz] at h1 h3
  refine ⟨δ, h', ?_, h2, h3, h4.mono fun c _ e => ⟨e.1, hne.1 e.2⟩⟩
  rw [intSl_buf, h1, intSl_buf]
  simp

abbrev wantEnv (ask bb : Int) (P cv tv : AV) (s : Nat) (w : AV) (i : Nat) : Env := [(1, .int .i64 ask), (2, .int .u8 bb), (7, P), (8, cv), (9, tv), (19, .int .i64 s), (20, w), (21, .int .i64 i)]

def In33 (hs : Heap) (cv tv : AV) (P : AV) (ask bb : Int) (ps : List Txt) (x : Txt) (s : Nat) (m : Nat) (st : St) : Prop :=
  ∃ i bw h, m = ps.length - i ∧ i ≤ ps.length ∧ st = ⟨wantEnv ask bb P cv tv s (intSl bw (places x (ps.take i) 0)) i, h⟩ ∧ Only (fun _ => False) hs h ∧ (places x (ps.take i) 0 ≠ [] → hs.length ≤ bw ∧ h[bw]? = some (.cells (intCells (places x (ps.take i) 0)) 3 true))

theorem want_loop {hs : Heap} {cv tv P : AV} {ask bb : Int} {ps X : List Txt} {x : Txt} {s : Nat} (hcv : Sl1 hs cv (strCells ps)) (htv : Sl1 hs tv (strCells X)) (hs1 : X[s]? = some x) (hn : ps.length ≤ 1000) {Q : AExit → St → Prop}
    (hq : ∀ h bw, Only (fun _ => False) hs h → (places x ps 0 ≠ [] → h[bw]? = some (.cells (intCells (places x ps 0)) 3 true)) → Q (.exit 6) ⟨wantEnv ask bb P cv tv s (intSl bw (places x ps 0)) ps.length ++ [(174, .bool false)], h⟩) :
    Wt Try.prog F5 (.loop c5_l33 (some [1, 2, 7, 8, 9, 19, 20, 21])) ⟨wantEnv ask bb P cv tv s (.sl none 0 0) 0, hs⟩ Q := by
  refine Wt.loop (In33 hs cv tv P ask bb ps x s) (m := ps.length) ⟨0, 0, hs, rfl, Nat.zero_le _, by simp [places, intSl], .refl, fun h => absurd rfl h⟩ ?_
  rintro m st ⟨i, bw, h, rfl, hi, rfl, ho, hw⟩
  have hcut : cut (some [1, 2, 7, 8, 9, 19, 20, 21]) (wantEnv ask bb P cv tv s (intSl bw (places x (ps.take i) 0)) i) = wantEnv ask bb P cv tv s (intSl bw (places x (ps.take i) 0)) i := by simp
  simp only [hcut]
  have hsl := (List.getElem?_eq_some_iff.1 hs1).1
  have clen := fun L => hcv.len (t := 38) (e := 9) (by simp) (L := L)
  simp only [strCells_len] at clen
  by_cases hip : i < ps.length
  · have hwr : IntKind.wrap .i64 ((i : Int) + 1) = i + 1 := wrap_i64 (by omega) (by omega)
    have a1 := hcv.at (t := 38) (e := 9) (by simp) (by simp) (i := i) (by rw [strCells_len]; exact hip)
    have b1 := (hcv.same ho).load (e := 9) (by simp) (i := i) (by rw [strCells_len]; exact hip)
    have a2 := htv.at (t := 38) (e := 9) (by simp) (by simp) (i := s) (by rw [strCells_len]; exact hsl)
    have b2 := (htv.same ho).load (e := 9) (by simp) (i := s) (by rw [strCells_len]; exact hsl)
    rw [strCells_get, txt_eq] at b1
    rw [strCells_get, show X[s] = x from (List.getElem?_eq_some_iff.1 hs1).2] at b2
    have hpl : places x (ps.take (i + 1)) 0 = if txt ps i = x then places x (ps.take i) 0 ++ [(i : Int)] else places x (ps.take i) 0 := by
      rw [take_txt hip, places_app]
      simp [Nat.min_eq_left (Nat.le_of_lt hip)]
    by_cases he : txt ps i = x
    · rw [if_pos he] at hpl
      obtain ⟨δ, h', e2, e3, e4, o4⟩ := append_int (h := h) (b := bw) (l := places x (ps.take i) 0) (x := i) (fun hne => (hw hne).2) (by have := places_len (p := x) (l := ps.take i) (i := 0); simp at this; omega)
      rw [← hpl] at e2 e4
      have hnext : In33 hs cv tv P ask bb ps x s (ps.length - (i + 1)) ⟨wantEnv ask bb P cv tv s (intSl (if places x (ps.take i) 0 = [] then h.length + 1 else bw) (places x (ps.take (i + 1)) 0)) (i + 1), h'⟩ := by
        refine ⟨i + 1, _, h', rfl, hip, rfl, ho.fresh o4 fun c e => by rw [e.1]; exact (hw e.2).1, fun _ => ⟨?_, e4⟩⟩
        have := ho.1
        split
        · omega
        · rename_i hne; exact (hw hne).1
      simp only [wantEnv] at hnext
      simp [c5_l33, c5_r33, c5_r34, c5_r35, c5_r36, len1, clen, hip, a1, a2, b1, b2, he, abuildSlice, afill, zeros, e2, e3, hwr]
      exact ⟨ps.length - (i + 1), by omega, by simpa using hnext⟩
    · rw [if_neg he] at hpl
      have hnext : In33 hs cv tv P ask bb ps x s (ps.length - (i + 1)) ⟨wantEnv ask bb P cv tv s (intSl bw (places x (ps.take (i + 1)) 0)) (i + 1), h⟩ := by
        refine ⟨i + 1, _, h, rfl, hip, rfl, ho, ?_⟩
        rw [hpl]; exact hw
      rw [hpl] at hnext
      simp only [wantEnv] at hnext
      simp [c5_l33, c5_r33, c5_r34, c5_r35, c5_r36, len1, clen, hip, a1, a2, b1, b2, he, hwr]
      exact ⟨ps.length - (i + 1), by omega, by simpa using hnext⟩
  · have : i = ps.length := by omega
    subst this
    rw [List.take_length] at hw ⊢
    have := hq h bw ho fun hne => (hw hne).2
    simp only [wantEnv] at this
    simp [c5_l33, c5_r33, len1, clen]
    simpa using this

abbrev endEnv (ask bb : Int) (P cv tv : AV) (s : Nat) : Env := [(1, .int .i64 ask), (2, .int .u8 bb), (7, P), (8, cv), (9, tv), (19, .int .i64 s)]

def En5 (h₀ : Heap) (B : TB) (T : TM) (X ps : List Txt) (bc bt : Nat) (ask bb : Int) (m : Nat) (st : St) : Prop :=
  ∃ s h, m = X.length - s ∧ s ≤ X.length ∧ st = ⟨endEnv ask bb B.ptr (txtSl bc ps) (txtSl bt X) s, h⟩ ∧ PlayH h₀ h B T X ps X bc bt

theorem ends_loop {h₀ h : Heap} {B : TB} {T : TM} {X ps : List Txt} {bc bt : Nat} {ask bb : Int} (H : PlayH h₀ h B T X ps X bc bt) (hps : ps.length ≤ 1000) (hX : X.length ≤ 100000) {Q : AExit → St → Prop}
    (hq : ∀ h', PlayH h₀ h' B T X ps X bc bt → Q (.exit 4) ⟨endEnv ask bb B.ptr (txtSl bc ps) (txtSl bt X) X.length ++ [(168, .bool false)], h'⟩) :
    Wt Try.prog F5 (.loop c5_l29 (some [1, 2, 7, 8, 9, 19])) ⟨endEnv ask bb B.ptr (txtSl bc ps) (txtSl bt X) 0, h⟩ Q := by
  refine Wt.loop (En5 h₀ B T X ps bc bt ask bb) (m := X.length) ⟨0, h, rfl, Nat.zero_le _, rfl, H⟩ ?_
  rintro m st ⟨s, h1, rfl, hs, rfl, H1⟩
  have hcut : cut (some [1, 2, 7, 8, 9, 19]) (endEnv ask bb B.ptr (txtSl bc ps) (txtSl bt X) s) = endEnv ask bb B.ptr (txtSl bc ps) (txtSl bt X) s := by simp
  simp only [hcut]
  have tlen := fun L => (Sl1.txt (s := true) (fun _ => H1.text)).len (t := 38) (e := 9) (by simp) (L := L)
  simp only [strCells_len] at tlen
  by_cases hsx : s < X.length
  · have hwr : IntKind.wrap .i64 ((s : Int) + 1) = s + 1 := wrap_i64 (by omega) (by omega)
    have hx : X[s]? = some X[s] := List.getElem?_eq_getElem hsx
    have hin := fun Q hq => want_loop (Q := Q) (P := B.ptr) (ask := ask) (bb := bb) (s := s) (Sl1.txt (s := true) H1.cut) (Sl1.txt (s := true) (fun _ => H1.text)) hx hps hq
    simp only [wantEnv] at hin
    simp [c5_l29, c5_r29, c5_r31, c5_r32, len1, tlen, hsx]
    refine hin _ fun h2 bw o2 hw => ?_
    have H2 := H1.same o2
    obtain ⟨b7, h7, e7, o7, d7⟩ := tr_ends H2.tr hps hx
    have s1 : Sl1 h7 (intSl b7 (places X[s] ps 0)) (intCells (places X[s] ps 0)) := Sl1.ints fun hne => (d7 hne).2
    have s2 : Sl1 h7 (intSl bw (places X[s] ps 0)) (intCells (places X[s] ps 0)) := Sl1.ints fun hne => o7.at (hw hne) id
    have e8 := same_ints s1 s2 (by have := places_len (p := X[s]) (l := ps) (i := 0); omega)
    have hnext : En5 h₀ B T X ps bc bt ask bb (X.length - (s + 1)) ⟨endEnv ask bb B.ptr (txtSl bc ps) (txtSl bt X) (s + 1), h7⟩ := ⟨s + 1, h7, rfl, hsx, rfl, H2.same o7⟩
    simp only [endEnv] at hnext
    simp [c5_r37, c5_r38, c5_r30, F5_D, e7, e8, hwr]
    exact ⟨X.length - (s + 1), by omega, by simpa using hnext⟩
  · have : s = X.length := by omega
    subst this
    have := hq h1 H1
    simp only [endEnv] at this
    simp [c5_l29, c5_r29, len1, tlen]
    simpa using this

def c5_last : SC := (.seq (.reg c5_r39 none (some [2, 7, 22])) (.seq (.reg c5_r40 none (some [7, 22, 23, 24])) (.seq (.reg c5_r41 none (some [7, 22, 23, 24, 27])) (.seq (.reg c5_r42 none (some [7, 22, 23, 24, 27, 30])) (.seq (.reg c5_r43 none (some [6])) .ret)))))

theorem alen30 {L : Look} : alen Try.prog L 30 (.sl none 0 0) = some (.int .i64 0) := by simp [alen]

theorem play_last {h₀ h : Heap} {B : TB} {T : TM} {X ps : List Txt} {bc bt : Nat} {ask bb : Int} {ρ : Env} (H : PlayH h₀ h B T X ps X bc bt) (hps : ps.length ≤ 1000) (hX : X.length ≤ 100000)
    (h1 : ρ.get 1 = some (.int .i64 ask)) (h2 : ρ.get 2 = some (.int .u8 bb)) (h7 : ρ.get 7 = some B.ptr) (h9 : ρ.get 9 = some (txtSl bt X)) :
    Wt Try.prog F5 c5_last ⟨ρ, h⟩ (Ends Try.prog [.tmp 6] fun r _ => r = .bool true) := by
  have p1 := place_run (h := h) (v := ask) (n := 100) (by decide) (by decide)
  obtain ⟨k, hk⟩ : ∃ k : Int, k = (X.length : Int) + ask % 100 := ⟨_, rfl⟩
  have hk0 : (X.length : Int) ≤ k := by omega
  have hk1 : k ≤ 100100 := by omega
  have tlen := fun L => (Sl1.txt (s := true) (fun _ => H.text)).len (t := 38) (e := 9) (by simp) (L := L)
  simp only [strCells_len] at tlen
  have e1 := tr_child_off H.tr (s := k) (.inr hk0) (b := bb)
  obtain ⟨g1, e2, o1⟩ := tr_parent_off H.tr (s := k) (.inr hk0)
  have H1 := H.tr.same o1
  obtain ⟨g2, e3, o2⟩ := tr_parent_off H1 (s := 0) (.inl (by omega))
  have H2 := H1.same o2
  obtain ⟨g3, e4, o3⟩ := tr_ends_off H2 hps (s := k) (.inr hk0)
  have H3 := H2.same o3
  obtain ⟨g4, e5, o4⟩ := tr_ends_off H3 hps (s := -1 - k) (.inl (by omega))
  have H4 := H3.same o4
  have e6 := tr_depth_off H4 (s := k) hk0
  have hw1 : IntKind.wrap .i64 ((X.length : Int) + ask % 100) = k := by rw [← hk]; exact wrap_i64 (by omega) (by omega)
  have hw2 : IntKind.wrap .i64 (-1 - k) = -1 - k := wrap_i64 (by omega) (by omega)
  simp [c5_last, c5_r39, c5_r40, c5_r41, c5_r42, c5_r43, F5_D, h1, h2, h7, h9, len1, tlen, p1, hw1, e1, e2, e3, e4, e5, e6, extractV, hw2, alen30, awake5]

theorem c5_split : c5 = (.seq (.reg c5_r0 none (some [0, 1, 2])) (.seq (.reg c5_r1 none (some [0, 1, 2, 7])) (.seq (.seq (.reg c5_r2 none (some [0, 1, 2, 7, 38])) (.cond (.tmp 38) (.seq (.reg c5_r3 none (some [6])) .ret) .skip (some [0, 1, 2, 7]))) (.seq (.reg c5_r4 none (some [0, 1, 2, 7, 8])) (.seq (.reg c5_r5 none (some [0, 1, 2, 7, 8, 9])) (.seq (.seq (.reg c5_r6 none (some [0, 1, 2, 7, 8, 9, 10])) (.block 0 (.loop c5_l7 (some [0, 1, 2, 7, 8, 9, 10])))) (.seq (.seq (.reg c5_r28 none (some [1, 2, 7, 8, 9, 19])) (.block 4 (.loop c5_l29 (some [1, 2, 7, 8, 9, 19])))) c5_last))))))) := rfl

theorem plays_walk {h₀ : Heap} {v : AV} {l : List Txt} {ask bb : Int} (hv : Sl1 h₀ v (strCells l)) (hvb : ∀ b, slB v = some b → b < h₀.length) (hlen : ∀ p ∈ l, p.length ≤ 9223372036854775807) (hll : l.length ≤ 9223372036854775807) :
    Wt Try.prog F5 c5 ⟨argsEnv 0 [v, .int .i64 ask, .int .u8 bb], h₀⟩ (Ends Try.prog [.tmp 6] fun r _ => r = .bool true) := by
  obtain ⟨B, h1, e1, H, o1, f1⟩ := tr_new (h := h₀)
  have vlen := fun L => hv.len (t := 38) (e := 9) (by simp) (L := L)
  simp only [strCells_len] at vlen
  rw [c5_split]
  by_cases hl : l.length ≤ 20
  · have hl' : ¬ ((20 : Int) < l.length) := by omega
    have hl'' : ¬ (20 < l.length) := by omega
    have hlt : ∀ b, B.foot T0 b → b < h1.length := fun b hb => lt_of_foot H.at_ hb
    have H0 : PlayH h₀ (h1 ++ [.cells [.str []] 9 true]) B T0 (begs []) [] (begs []) 0 h1.length :=
      ⟨H.same .app, fun e => absurd rfl e, by simp [begs, strCells], o1.1, fun e => absurd rfl e, f1, fun e => absurd rfl e, fun hb => by have := hlt _ hb; omega, fun e => absurd rfl e, o1.trans .app⟩
    have hloop := fun Q hq => play_outer_loop (Q := Q) (ask := ask) (bb := bb) hv hvb hl hlen H0 hq
    have e8 : txtSl 0 [] = .sl none 0 0 := rfl
    have e9 : txtSl h1.length (begs []) = .sl (some ⟨h1.length, 0, 1⟩) 1 1 := rfl
    rw [e8, e9] at hloop
    simp only [outEnv] at hloop
    simp [c5_r0, c5_r1, c5_r2, c5_r4, c5_r5, c5_r6, F5_D, e1, len1, vlen, hl', hl'', abuildSlice, afill, zeros]
    refine hloop _ fun h2 B2 T2 bc2 e2 H2 => ?_
    have hX : (begs (cuts l)).length ≤ 100000 := by
      have := begs_len (cuts_le (l := l))
      have h2 : (cuts l).length = l.length := by simp [cuts]
      omega
    have hps : (cuts l).length ≤ 1000 := by simp [cuts]; omega
    have hends := fun Q hq => ends_loop (Q := Q) (ask := ask) (bb := bb) H2 hps hX hq
    simp only [endEnv] at hends
    rw [e2] at hends
    simp [c5_r28]
    refine hends _ fun h3 H3 => ?_
    rw [inBlock_same, andThen_normal]
    exact play_last (ask := ask) (bb := bb) H3 hps hX (by simp) (by simp) (by simp [e2]) (by simp)
  · have hl' : (20 : Int) < l.length := by omega
    have hl'' : 20 < l.length := by omega
    simp [c5_r0, c5_r1, c5_r2, c5_r3, F5_D, e1, len1, vlen, hl', hl'', awake5]

end Go.AM
