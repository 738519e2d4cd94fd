/-
  What 'Add' does.
-/
import Derived.Test.YtamidpfdiijjgaaP1
namespace Go.AM
open Go Go.Proofs
set_option linter.unusedVariables false
set_option linter.unusedSimpArgs false
set_option maxRecDepth 100000

theorem at_app {h : Heap} {x : AObj} {b : Nat} : (h ++ [x])[b]? = if b = h.length then some x else h[b]? := by
  by_cases hb : b = h.length
  · subst hb; simp
  · rw [if_neg hb]
    by_cases hl : b < h.length
    · exact List.getElem?_append_left hl
    · rw [List.getElem?_eq_none (by simp; omega), List.getElem?_eq_none (by omega)]
theorem at_put {h : Heap} {c b : Nat} {o : AObj} : (h.set c o)[b]? = if c = b then (h[b]?).map (fun _ => o) else h[b]? := by
  rw [List.getElem?_set]
  split
  · rename_i e
    subst e
    by_cases hl : c < h.length <;> simp [hl]
  · rfl

@[simp] theorem byteCells_get {l : List UInt8} {i : Nat} (h : i < (byteCells l).length) : (byteCells l)[i] = .int .u8 ((l[i]'(by simpa [byteCells] using h)).toNat : Int) := by simp [byteCells]

theorem bne_dec {a b : Nat} : (a != b) = !decide (a = b) := by by_cases h : a = b <;> simp [h]

/-- A number that no block behind the end has. -/
theorem off_end {h : Heap} {b : Nat} (hb : b < h.length) : (b = h.length ↔ False) ∧ (h.length = b ↔ False) ∧ (∀ k, b = h.length + k ↔ False) ∧ (∀ k, h.length + k = b ↔ False) ∧ (∀ k j, b = h.length + k + j ↔ False) ∧ (∀ k j, h.length + k + j = b ↔ False) ∧
    (∀ k j l, b = h.length + k + j + l ↔ False) ∧ (∀ k j l, h.length + k + j + l = b ↔ False) ∧ (∀ l : Heap, (h ++ l)[b]? = h[b]?) := by
  refine ⟨?_, ?_, fun k => ?_, fun k => ?_, fun k j => ?_, fun k j => ?_, fun k j l => ?_, fun k j l => ?_, fun l => List.getElem?_append_left hb⟩ <;> exact ⟨fun e => by omega, False.elim⟩

abbrev addEnv (B : TB) (bp k : Nat) (st i : Int) : Env := [(0, B.ptr), (5, .int .i64 st), (16, .sl (some ⟨bp, 0, k⟩) k k), (17, .int .i64 k), (18, .int .i64 i)]

/-- A round that finds the child. -/
theorem add_old {h : Heap} {B : TB} {T : TM} (H : TrieAt h B T) {p : List UInt8} {bp : Nat} (hp : h[bp]? = some (.cells (byteCells p) 5 true)) {st : Int} {i : Nat} (hi : i < p.length) (hk : p.length ≤ 1000) {c : Nat}
    (hc : T.child st p[i].toNat = some c) {Q : AExit → St → Prop} (hq : Q .normal ⟨addEnv B bp p.length c (i + 1 : Nat), h ++ [.cells [.int .i64 st, .int .u8 p[i].toNat] 118 false]⟩) :
    Wt Try.prog (D cfg) c31_l3 ⟨addEnv B bp p.length st i, h⟩ Q := by
  have h1 := H.hdr
  obtain ⟨es, cl, h2, h3, h4⟩ := H.map
  have hbl : (byteCells p).length = p.length := by simp [byteCells]
  have hb : (byteCells p)[i]? = some (.int .u8 p[i].toNat) := by simp [byteCells, hi]
  have hw : IntKind.wrap .i64 ((i : Int) + 1) = (i : Int) + 1 := wrap_i64 (by omega) (by omega)
  have hm := off_end (lt_of_at h2)
  have ht := off_end (lt_of_at h1)
  have h5 := h4 st p[i].toNat
  rw [hc] at h5
  have h6 : ∀ L : Look, L B.m = some (.map 113 es cl) → alookup Try.prog L 113 (.map (some B.m)) (ekey st p[i].toNat) true = some (.tup [.int .i64 c, .bool true]) := fun L hL => by
    rw [look_edge hL, h5]; rfl
  have h7 := h6 (look (h ++ [.cells [.int .i64 st, .int .u8 p[i].toNat] 118 false])) (by simp [look_at, at_app, hm, h2])
  simp only [ekey] at h7
  simp [c31_l3, c31_r3, c31_r4, c31_r5, c31_r6, c31_r7, c31_r11, c31_r12, hi, aindexAddr, aload, row, hp, hbl, hb, build_edge, astore, splice, at_app, fieldA, hm, ht, h1, ekey, h7, extractV, hw]
  simpa using hq
/-- A state more. -/
def TM.grow (T : TM) (st b : Int) : TM := ⟨T.up ++ [(st, b)], T.ends ++ [[]], T.deep ++ [(T.deep[st.toNat]?).getD 0 + 1], T.n⟩
def TB.grow (B : TB) : TB := { B with eb := B.eb ++ [0] }

theorem childIn_app {s b st b₀ : Int} : ∀ {l : List (Int × Int)} {i : Nat}, childIn s b (l ++ [(st, b₀)]) i = match childIn s b l i with
    | some j => some j
    | none => if st = s ∧ b₀ = b then some (i + l.length) else none
  | [], i => by simp [childIn]
  | (s', b') :: r, i => by
    simp only [List.cons_append, childIn]
    split
    · rfl
    · rw [childIn_app]
      simp only [List.length_cons]
      rw [show i + 1 + r.length = i + (r.length + 1) by omega]

theorem TM.child_grow (T : TM) (hp : 0 < T.size) {st b₀ : Int} (hn : T.child st b₀ = none) (s b : Int) : (T.grow st b₀).child s b = if s = st ∧ b = b₀ then some T.size else T.child s b := by
  have ht : (T.up ++ [(st, b₀)]).tail = T.up.tail ++ [(st, b₀)] := by
    cases h : T.up with
    | nil => simp [TM.size, h] at hp
    | cons x xs => rfl
  have hl : 1 + T.up.tail.length = T.size := by simp [TM.size] at hp ⊢; omega
  simp only [TM.child, TM.grow, ht, childIn_app, hl]
  by_cases h : s = st ∧ b = b₀
  · obtain ⟨rfl, rfl⟩ := h
    simp only [TM.child] at hn
    simp [hn]
  · have h' : ¬ (st = s ∧ b₀ = b) := fun e => h ⟨e.1.symm, e.2.symm⟩
    rw [if_neg h, if_neg h']
    cases childIn s b T.up.tail 1 <;> rfl

theorem grown_at {B : TB} {T : TM} {st b₀ : Int} {n : Nat} (h1 : T.ends.length = n) (h2 : B.eb.length = n) {i : Nat} {l : List Int} {b : Nat} (hl : (T.grow st b₀).ends[i]? = some l) (hb : B.grow.eb[i]? = some b) (hne : l ≠ []) :
    T.ends[i]? = some l ∧ B.eb[i]? = some b := by
  simp only [TM.grow, TB.grow, List.getElem?_append] at hl hb
  by_cases hi : i < n
  · rw [if_pos (by omega)] at hl hb
    exact ⟨hl, hb⟩
  · rw [if_neg (by omega)] at hl
    cases hk : i - T.ends.length with
    | zero => rw [hk] at hl; simp at hl; exact absurd hl hne
    | succ k => rw [hk] at hl; simp at hl

/-- A round that makes a state. -/
theorem add_new {h : Heap} {B : TB} {T : TM} (H : TrieAt h B T) {p : List UInt8} {bp : Nat} (hp : h[bp]? = some (.cells (byteCells p) 5 true)) {st : Int} {i : Nat} (hi : i < p.length) (hk : p.length ≤ 1000)
    (hst : 0 ≤ st ∧ st < T.size) (hsz : T.size < 1000000) (hdp : ∀ d ∈ T.deep, 0 ≤ d ∧ d ≤ 1000000)
    (hc : T.child st p[i].toNat = none) {Q : AExit → St → Prop} (hq : ∀ h', (∀ b, b ≠ B.t → b ≠ B.m → b ≠ B.u → b ≠ B.e → b ≠ B.d → b < h.length → h'[b]? = h[b]?) → h.length ≤ h'.length → TrieAt h' B.grow (T.grow st p[i].toNat) →
      Q .normal ⟨addEnv B bp p.length T.size (i + 1 : Nat), h'⟩) :
    Wt Try.prog (D cfg) c31_l3 ⟨addEnv B bp p.length st i, h⟩ Q := by
  have h1 := H.hdr
  obtain ⟨es, cl, h2, h3, h4⟩ := H.map
  have hbl : (byteCells p).length = p.length := by simp [byteCells]
  have hw : IntKind.wrap .i64 ((i : Int) + 1) = (i : Int) + 1 := wrap_i64 (by omega) (by omega)
  have hm := off_end (lt_of_at h2)
  have ht := off_end (lt_of_at h1)
  have hu := off_end (lt_of_at H.ups)
  have he := off_end (lt_of_at H.ends)
  have hd := off_end (lt_of_at H.deep)
  have hnd := H.nodup
  simp at hnd
  obtain ⟨⟨n1, n2, n3, n4⟩, ⟨n5, n6, n7⟩, ⟨n8, n9⟩, n10⟩ := hnd
  have hu1 := H.ups
  have he1 := H.ends
  have hd1 := H.deep
  have h5 := h4 st p[i].toNat
  rw [hc] at h5
  simp only [Option.map_none] at h5
  have h6 : ∀ L : Look, L B.m = some (.map 113 es cl) → alookup Try.prog L 113 (.map (some B.m)) (ekey st p[i].toNat) true = some (.tup [.int .i64 0, .bool false]) := fun L hL => by
    rw [look_edge hL, h5]
  have h7 := h6 (look (h ++ [.cells [.int .i64 st, .int .u8 p[i].toNat] 118 false])) (by simp [look_at, at_app, hm, h2])
  simp only [ekey] at h7
  have hsh : shapeOf (ekey st p[i].toNat) = some (.many [.int .i64, .int .u8]) := by simp [ekey, shapeOf, kks, kkOfV]
  have h8 : ∀ (L : Look) (v : AV), L B.m = some (.map 113 es cl) → amapUpdate Try.prog L 113 (.map (some B.m)) (ekey st p[i].toNat) v = some (.set B.m (.map 113 (mput (ekey st p[i].toNat) v cl es) (cl + 1))) := fun L v hL => by
    simp [amapUpdate, hL, hsh, h5]
  have h9 := fun v => h8 (look (h ++ [.cells [.int .i64 st, .int .u8 p[i].toNat] 118 false])) v (by simp [look_at, at_app, hm, h2])
  simp only [ekey] at h9
  simp [c31_l3, c31_r3, c31_r4, c31_r5, c31_r6, c31_r7, c31_r8, c31_r9, hi, aindexAddr, aload, row, hp, hbl, build_edge, astore, splice, at_app, fieldA, hm, ht, h1, ekey, h7, extractV, hw, len1, alen, h9]
  have hlu : (pairCells T.up).length = 2 * T.size := pairCells_len
  have hle := H.endsLen
  have hld : (intCells T.deep).length = T.size := by rw [intCells_len, H.lenD]
  have hldd := H.lenD
  have hst1 : st.toNat < T.size := by omega
  have hst2 : st.toNat < T.deep.length := by omega
  have hr1 := room_of (n := T.size + 1) (k := 16) (by omega) (by decide)
  have hr2 := room_of (n := T.size + 1) (k := 24) (by omega) (by decide)
  have hr3 := room_of (n := T.size + 1) (k := 8) (by omega) (by decide)
  have hl6 : T.size + 1 ≤ 9223372036854775807 := by omega
  have hmul : T.size * 2 = 2 * T.size := by omega
  have hn : ¬ (T.size + 1 ≤ T.size) := by omega
  have ta1 : List.take (2 * T.size) (pairCells T.up) = pairCells T.up := by rw [← hlu, List.take_length]
  have ta2 : List.take T.size (List.zipWith intSl B.eb T.ends) = List.zipWith intSl B.eb T.ends := by rw [← hle, List.take_length]
  have ta3 : List.take T.size (intCells T.deep) = intCells T.deep := by rw [← hld, List.take_length]
  have hdw : IntKind.wrap .i64 (T.deep[st.toNat] + 1) = T.deep[st.toNat] + 1 := by
    have := hdp _ (List.getElem_mem hst2)
    exact wrap_i64 (by omega) (by omega)
  have m1 := Ne.symm n1
  have m2 := Ne.symm n2
  have m3 := Ne.symm n3
  have m4 := Ne.symm n4
  have m5 := Ne.symm n5
  have m6 := Ne.symm n6
  have m7 := Ne.symm n7
  have m8 := Ne.symm n8
  have m9 := Ne.symm n9
  have m10 := Ne.symm n10
  simp [c31_r10, at_put, at_app, hm, ht, hu, he, hd, n1, n2, n3, n4, n5, n6, n7, n8, n9, n10, m1, m2, m3, m4, m5, m6, m7, m8, m9, m10, h1, hu1, he1, hd1, aload, row, fieldA, abuildSlice, afill, zeros, splice, append2, aappend, srcCells, slCells,
    aappendE, hlu, hle, hld, hldd, hst, hst1, hst2, hr1, hr2, hr3, hl6, hmul, aindexAddr, astore, hn, ta1, ta2, ta3, hdw, bne_dec, c31_r11, c31_r12, hw]
  refine hq _ ?_ (by simp; omega) ?_
  · intro b b1 b2 b3 b4 b5 hb
    have c1 := Ne.symm b1
    have c2 := Ne.symm b2
    have c3 := Ne.symm b3
    have c4 := Ne.symm b4
    have c5 := Ne.symm b5
    have hoff := off_end hb
    simp [at_put, at_app, hoff, c1, c2, c3, c4, c5]
  · have hsz' : (T.grow st p[i].toNat).size = T.size + 1 := by simp [TM.grow, TM.size]
    refine ⟨?_, ?_, ?_, ?_, ?_, ?_, ?_, ?_, ?_, ?_, ?_, ?_, ?_⟩
    · rw [hsz']
      simp [TB.grow, TM.grow, at_put, at_app, hm, ht, hu, he, hd, n1, n2, n3, n4, n5, n6, n7, n8, n9, n10, m1, m2, m3, m4, m5, m6, m7, m8, m9, m10, h1]
      omega
    · refine ⟨mput (ekey st p[i].toNat) (.int .i64 T.size) cl es, cl + 1, ?_, h3.put, fun s b => ?_⟩
      · simp [TB.grow, at_put, at_app, hm, ht, hu, he, hd, n1, n2, n3, n4, n5, n6, n7, n8, n9, n10, m1, m2, m3, m4, m5, m6, m7, m8, m9, m10, h2, ekey]
      · rw [mfind_mput h3, h4, T.child_grow H.pos hc]
        split <;> rfl
    · simp [TB.grow, TM.grow, at_put, at_app, hm, ht, hu, he, hd, n1, n2, n3, n4, n5, n6, n7, n8, n9, n10, m1, m2, m3, m4, m5, m6, m7, m8, m9, m10, hu1, pairCells]
    · simp [TB.grow, TM.grow, at_put, at_app, hm, ht, hu, he, hd, n1, n2, n3, n4, n5, n6, n7, n8, n9, n10, m1, m2, m3, m4, m5, m6, m7, m8, m9, m10, he1]
      rw [List.zipWith_append (by rw [H.lenB, H.lenE])]
      simp [intSl]
    · simp [TB.grow, TM.grow, at_put, at_app, hm, ht, hu, he, hd, n1, n2, n3, n4, n5, n6, n7, n8, n9, n10, m1, m2, m3, m4, m5, m6, m7, m8, m9, m10, hd1, intCells, List.getElem?_eq_getElem hst2]
    · intro j l b hl hb hne
      obtain ⟨hj1, hj2⟩ := grown_at H.lenE H.lenB hl hb hne
      obtain ⟨h10, h11⟩ := H.inner j l b hj1 hj2 hne
      refine ⟨?_, h11⟩
      simp at h11
      obtain ⟨b1, b2, b3, b4, b5⟩ := h11
      have c1 := Ne.symm b1
      have c2 := Ne.symm b2
      have c3 := Ne.symm b3
      have c4 := Ne.symm b4
      have c5 := Ne.symm b5
      have hoff := off_end (lt_of_at h10)
      simp [at_put, at_app, hoff, c1, c2, c3, c4, c5, h10]
    · intro j k l l' b b' hl hl' hne hne' hb hb' e
      obtain ⟨a1, a2⟩ := grown_at H.lenE H.lenB hl hb hne
      obtain ⟨a3, a4⟩ := grown_at H.lenE H.lenB hl' hb' hne'
      exact H.apart j k l l' b b' a1 a3 hne hne' a2 a4 e
    · exact H.nodup
    · rw [hsz']; simp [TM.grow, H.lenE]
    · rw [hsz']; simp [TM.grow, H.lenD]
    · rw [hsz']; simp [TB.grow, H.lenB]
    · rw [hsz']; omega
    · rw [hsz']; omega

/-! ### the whole of Add -/

/-- A trie, gone through by bytes from a state; the state at the end. -/
def TM.run (T : TM) (st : Int) : List UInt8 → TM × Int
  | [] => (T, st)
  | b :: r => match T.child st b.toNat with
    | some c => T.run c r
    | none => (T.grow st b.toNat).run T.size r

def TM.deepOK (T : TM) : Prop := ∀ d ∈ T.deep, 0 ≤ d ∧ d < T.size

theorem TM.grow_size {T : TM} {st b : Int} : (T.grow st b).size = T.size + 1 := by simp [TM.grow, TM.size]

theorem TM.deepOK.grow {T : TM} (h : T.deepOK) {st b : Int} (hl : st.toNat < T.deep.length) : (T.grow st b).deepOK := by
  intro d hd
  rw [TM.grow_size]
  simp [TM.grow] at hd
  rcases hd with hd | hd
  · have := h d hd; omega
  · rw [List.getElem?_eq_getElem hl] at hd
    have := h _ (List.getElem_mem hl)
    simp at hd
    omega

theorem childIn_lt {s b : Int} : ∀ {l : List (Int × Int)} {i j : Nat}, childIn s b l i = some j → i ≤ j ∧ j < i + l.length
  | [], i, j, h => by simp [childIn] at h
  | (s', b') :: r, i, j, h => by
    simp only [childIn] at h
    split at h
    · simp at h; subst h; simp
    · have := childIn_lt h
      simp; omega

theorem TM.child_lt {T : TM} {s b : Int} {c : Nat} (h : T.child s b = some c) : 0 < c ∧ c < T.size := by
  have := childIn_lt h
  simp [TM.size] at this ⊢
  omega

/-- The same five blocks. -/
def TB.like (B B' : TB) : Prop := B'.t = B.t ∧ B'.m = B.m ∧ B'.u = B.u ∧ B'.e = B.e ∧ B'.d = B.d

structure AddI (h₀ : Heap) (B₀ : TB) (T₀ : TM) (p : List UInt8) (bp : Nat) (i : Nat) (B : TB) (T : TM) (st : Int) (h : Heap) : Prop where
  trie : TrieAt h B T
  like : B₀.like B
  le : i ≤ p.length
  run : T.run st (p.drop i) = T₀.run 0 p
  st : 0 ≤ st ∧ st < T.size
  size : T.size + (p.length - i) ≤ 1000000
  deep : T.deepOK
  only : Only (fun b => b ∈ [B₀.t, B₀.m, B₀.u, B₀.e, B₀.d]) h₀ h
  bytes : h[bp]? = some (.cells (byteCells p) 5 true)
  n : T.n = T₀.n
  foots : ∀ b, B.foot T b → B₀.foot T₀ b
  lens : ∀ l ∈ T.ends, l.length ≤ 9000000000000

theorem TB.foot_grow {h : Heap} {B : TB} {T : TM} (H : TrieAt h B T) {st b₀ : Int} {b : Nat} (hb : B.grow.foot (T.grow st b₀) b) : B.foot T b := by
  rcases hb with hb | ⟨i, l, hl, hne, hb⟩
  · exact .inl hb
  · obtain ⟨h1, h2⟩ := grown_at H.lenE H.lenB hl hb hne
    exact .inr ⟨i, l, h1, hne, h2⟩

theorem add_loop {h₀ : Heap} {B₀ : TB} {T₀ : TM} {p : List UInt8} {bp : Nat} (hk : p.length ≤ 1000) (hbp : bp ∉ [B₀.t, B₀.m, B₀.u, B₀.e, B₀.d]) (hI : AddI h₀ B₀ T₀ p bp 0 B₀ T₀ 0 h₀) {Q : AExit → St → Prop}
    (hq : ∀ B T st h, AddI h₀ B₀ T₀ p bp p.length B T st h → Q (.exit 0) ⟨addEnv B bp p.length st p.length ++ [(19, .bool false)], h⟩) :
    Wt Try.prog (D cfg) (.loop c31_l3 (some [0, 5, 16, 17, 18])) ⟨addEnv B₀ bp p.length 0 0, h₀⟩ Q := by
  refine Wt.loop (fun m s => ∃ i B T st h, m = p.length - i ∧ s = ⟨addEnv B bp p.length st i, h⟩ ∧ AddI h₀ B₀ T₀ p bp i B T st h) (m := p.length) ⟨0, B₀, T₀, 0, h₀, rfl, rfl, hI⟩ ?_
  rintro m s ⟨i, B, T, st, h, rfl, rfl, hI⟩
  have hcut : cut (some [0, 5, 16, 17, 18]) (addEnv B bp p.length st i) = addEnv B bp p.length st i := by simp
  simp only [hcut]
  by_cases hi : i < p.length
  · have hdrop : p.drop i = p[i] :: p.drop (i + 1) := List.drop_eq_getElem_cons hi
    have hrun := hI.run
    rw [hdrop] at hrun
    simp only [TM.run] at hrun
    have hlen := hI.trie.lenD
    cases hc : T.child st p[i].toNat with
    | some c =>
      rw [hc] at hrun
      have hcl := TM.child_lt hc
      refine add_old hI.trie hI.bytes hi hk hc ?_
      refine ⟨p.length - (i + 1), by omega, i + 1, B, T, c, _, rfl, rfl, ?_⟩
      exact ⟨hI.trie.app, hI.like, hi, hrun, by omega, by have := hI.size; omega, hI.deep, hI.only.trans .app, by rw [List.getElem?_append_left (lt_of_at hI.bytes)]; exact hI.bytes, hI.n, hI.foots, hI.lens⟩
    | none =>
      rw [hc] at hrun
      have hs := hI.size
      have hst := hI.st
      refine add_new hI.trie hI.bytes hi hk hI.st (by omega) (fun d hd => by have := hI.deep d hd; omega) hc fun h' hoth hle htr => ?_
      obtain ⟨e1, e2, e3, e4, e5⟩ := hI.like
      refine ⟨p.length - (i + 1), by omega, i + 1, B.grow, T.grow st p[i].toNat, T.size, h', rfl, rfl, ?_⟩
      have hb := hbp
      simp at hb
      refine ⟨htr, ⟨e1, e2, e3, e4, e5⟩, hi, hrun, ?_, ?_, hI.deep.grow (by omega), hI.only.trans ⟨hle, fun b hb hn => ?_⟩, ?_, hI.n, fun b hb => hI.foots b (TB.foot_grow hI.trie hb), fun l hl => ?_⟩
      · rw [TM.grow_size]; omega
      · rw [TM.grow_size]; omega
      · simp at hn
        exact hoth b (by rw [e1]; exact hn.1) (by rw [e2]; exact hn.2.1) (by rw [e3]; exact hn.2.2.1) (by rw [e4]; exact hn.2.2.2.1) (by rw [e5]; exact hn.2.2.2.2) hb
      · rw [hoth bp (by rw [e1]; exact hb.1) (by rw [e2]; exact hb.2.1) (by rw [e3]; exact hb.2.2.1) (by rw [e4]; exact hb.2.2.2.1) (by rw [e5]; exact hb.2.2.2.2) (lt_of_at hI.bytes)]
        exact hI.bytes
      · simp [TM.grow] at hl
        rcases hl with hl | rfl
        · exact hI.lens l hl
        · simp
  · have hie : i = p.length := by have := hI.le; omega
    subst hie
    have := hq B T st h hI
    simp [c31_l3, c31_r3]
    simpa using this

/-- A pattern's end noted: one number more. -/
def TM.note (T : TM) (st : Int) : TM := { T with ends := T.ends.set st.toNat ((T.ends[st.toNat]?).getD [] ++ [T.n]), n := T.n + 1 }

/-- Add. -/
def TM.add (T : TM) (p : List UInt8) : TM := (T.run 0 (p.take 16)).1.note (T.run 0 (p.take 16)).2

theorem lt_of_foot {h : Heap} {B : TB} {T : TM} (H : TrieAt h B T) {b : Nat} (hb : B.foot T b) : b < h.length := by
  rcases hb with hb | ⟨i, l, hl, hne, hb⟩
  · simp at hb
    obtain ⟨es, c, hm, _⟩ := H.map
    rcases hb with rfl | rfl | rfl | rfl | rfl
    · exact lt_of_at H.hdr
    · exact lt_of_at hm
    · exact lt_of_at H.ups
    · exact lt_of_at H.ends
    · exact lt_of_at H.deep
  · exact lt_of_at (H.inner i l b hl hb hne).1

theorem zip_set {eb : List Nat} {ends : List (List Int)} {k b' : Nat} {l : List Int} (h1 : k < ends.length) (h2 : k < eb.length) : (List.zipWith intSl eb ends).set k (intSl b' l) = List.zipWith intSl (eb.set k b') (ends.set k l) := by
  apply List.ext_getElem?
  intro i
  by_cases hi : i = k
  · subst hi
    rw [List.getElem?_set_self (by simp; omega)]
    simp [List.getElem?_zipWith, h1, h2]
  · rw [List.getElem?_set_ne (Ne.symm hi), List.getElem?_zipWith, List.getElem?_zipWith, List.getElem?_set_ne (Ne.symm hi), List.getElem?_set_ne (Ne.symm hi)]

theorem note_at {h h' : Heap} {B : TB} {T : TM} (H : TrieAt h B T) {st : Int} {l : List Int} {b' : Nat} (hst : 0 ≤ st ∧ st < T.size) (hl : T.ends[st.toNat]? = some l) (hlen : h.length ≤ h'.length)
    (hb' : h.length ≤ b' ∨ (l ≠ [] ∧ B.eb[st.toNat]? = some b'))
    (h1 : h'[B.t]? = some (.cells [.map (some B.m), .sl (some ⟨B.u, 0, 2 * T.size⟩) T.size T.size, .sl (some ⟨B.e, 0, T.size⟩) T.size T.size, .sl (some ⟨B.d, 0, T.size⟩) T.size T.size, .int .i64 (T.n + 1)] 116 false))
    (h2 : h'[B.e]? = some (.cells ((List.zipWith intSl B.eb T.ends).set st.toNat (intSl b' (l ++ [T.n]))) 30 true)) (h3 : h'[b']? = some (.cells (intCells (l ++ [T.n])) 3 true))
    (h4 : ∀ b, b < h.length → b ≠ B.t → b ≠ B.e → b ≠ b' → h'[b]? = h[b]?) :
    TrieAt h' { B with eb := B.eb.set st.toNat b' } (T.note st) ∧ Only (B.foot T) h h' ∧ ∀ b, TB.foot { B with eb := B.eb.set st.toNat b' } (T.note st) b → B.foot T b ∨ h.length ≤ b := by
  have hE := H.lenE
  have hB := H.lenB
  have hlE : st.toNat < T.ends.length := by omega
  have hlB : st.toNat < B.eb.length := by omega
  have hne : l ++ [T.n] ≠ [] := by simp
  have hlt := fun b (hb : B.foot T b) => lt_of_foot H hb
  have hno : b' ∉ [B.t, B.m, B.u, B.e, B.d] := by
    rcases hb' with hb | ⟨hl0, hb⟩
    · intro hm; have := hlt b' (.inl hm); omega
    · exact (H.inner _ l b' hl hb hl0).2
  have hno' := hno
  simp at hno'
  obtain ⟨o1, o2, o3, o4, o5⟩ := hno'
  have hnd := H.nodup
  simp at hnd
  obtain ⟨⟨n1, n2, n3, n4⟩, ⟨n5, n6, n7⟩, ⟨n8, n9⟩, n10⟩ := hnd
  have hends : (T.note st).ends = T.ends.set st.toNat (l ++ [T.n]) := by simp [TM.note, hl]
  have old : ∀ (k : Nat) (l' : List Int) (b : Nat), k ≠ st.toNat → T.ends[k]? = some l' → B.eb[k]? = some b → l' ≠ [] → b ≠ b' := by
    intro k l' b hk hl' hbk hne' e
    subst e
    rcases hb' with hb | ⟨hl0, hb⟩
    · have := hlt b (.inr ⟨k, l', hl', hne', hbk⟩); omega
    · exact hk (H.apart k st.toNat l' l b b hl' hl hne' hl0 hbk hb rfl)
  have at' : ∀ (k : Nat) (l' : List Int) (b : Nat), (T.note st).ends[k]? = some l' → (B.eb.set st.toNat b')[k]? = some b → (k = st.toNat ∧ l' = l ++ [T.n] ∧ b = b') ∨ (k ≠ st.toNat ∧ T.ends[k]? = some l' ∧ B.eb[k]? = some b) := by
    intro k l' b h5 h6
    rw [hends] at h5
    by_cases hk : k = st.toNat
    · subst hk
      rw [List.getElem?_set_self hlE] at h5
      rw [List.getElem?_set_self hlB] at h6
      simp at h5 h6
      exact .inl ⟨rfl, h5.symm, h6.symm⟩
    · rw [List.getElem?_set_ne (Ne.symm hk)] at h5 h6
      exact .inr ⟨hk, h5, h6⟩
  obtain ⟨es, c, m1, m2, m3⟩ := H.map
  refine ⟨⟨h1, ⟨es, c, ?_, m2, m3⟩, ?_, ?_, ?_, ?_, ?_, H.nodup, ?_, H.lenD, ?_, H.pos, H.small⟩, ⟨hlen, fun b hb hn => ?_⟩, ?_⟩
  · rw [h4 B.m (hlt _ (.inl (by simp))) (Ne.symm n1) n6 (Ne.symm o2)]; exact m1
  · rw [h4 B.u (hlt _ (.inl (by simp))) (Ne.symm n2) n8 (Ne.symm o3)]; exact H.ups
  · rw [h2, hends, zip_set hlE hlB]
  · rw [h4 B.d (hlt _ (.inl (by simp))) (Ne.symm n4) (Ne.symm n10) (Ne.symm o5)]; exact H.deep
  · intro k l' b h5 h6 hne'
    rcases at' k l' b h5 h6 with ⟨rfl, rfl, rfl⟩ | ⟨hk, h7, h8⟩
    · exact ⟨h3, hno⟩
    · obtain ⟨h9, h10⟩ := H.inner k l' b h7 h8 hne'
      refine ⟨?_, h10⟩
      simp at h10
      rw [h4 b (lt_of_at h9) h10.1 h10.2.2.2.1 (old k l' b hk h7 h8 hne')]
      exact h9
  · intro k j l' l'' b b'' h5 h6 hne' hne'' h7 h8 e
    rcases at' k l' b h5 h7 with ⟨rfl, rfl, rfl⟩ | ⟨hk, h9, h10⟩
    · rcases at' j l'' b'' h6 h8 with ⟨rfl, rfl, rfl⟩ | ⟨hj, h11, h12⟩
      · rfl
      · exact absurd e.symm (old j l'' b'' hj h11 h12 hne'')
    · rcases at' j l'' b'' h6 h8 with ⟨rfl, rfl, rfl⟩ | ⟨hj, h11, h12⟩
      · exact absurd e (old k l' b hk h9 h10 hne')
      · exact H.apart k j l' l'' b b'' h9 h11 hne' hne'' h10 h12 e
  · rw [hends]; simp [hE]; rfl
  · simp [hB]; rfl
  · refine h4 b hb (fun e => hn (.inl (by simp [e]))) (fun e => hn (.inl (by simp [e]))) fun e => ?_
    subst e
    rcases hb' with hb2 | ⟨hl0, hb2⟩
    · omega
    · exact hn (.inr ⟨_, l, hl, hl0, hb2⟩)
  · rintro b (hb | ⟨k, l', h5, hne', h6⟩)
    · exact .inl (.inl hb)
    · rcases at' k l' b h5 h6 with ⟨rfl, rfl, rfl⟩ | ⟨hk, h7, h8⟩
      · rcases hb' with hb2 | ⟨hl0, hb2⟩
        · exact .inr hb2
        · exact .inl (.inr ⟨_, l, hl, hl0, hb2⟩)
      · exact .inl (.inr ⟨k, l', h7, hne', h8⟩)

theorem intSl_nil {b : Nat} : intSl b [] = .sl none 0 0 := by simp [intSl]

/-- Behind the loop: the pattern's end is noted in its state; case one: none ended there. -/
theorem add_tail_nil {h : Heap} {B : TB} {T : TM} (H : TrieAt h B T) {st : Int} (hst : 0 ≤ st ∧ st < T.size) (hn : 0 ≤ T.n ∧ T.n ≤ 9000000000000) (hl : T.ends[st.toNat]? = some []) {ρ : Env} (h0 : ρ.get 0 = some B.ptr) (h5 : ρ.get 5 = some (.int .i64 st))
    {R : AV → Heap → Prop} (hR : ∀ h' B', B'.t = B.t → TrieAt h' B' (T.note st) → Only (B.foot T) h h' → (∀ b, B'.foot (T.note st) b → B.foot T b ∨ h.length ≤ b) → R (.int .i64 T.n) h') :
    Wt Try.prog (D cfg) (.seq (.reg c31_r13 (some [(3, 17)]) (some [0])) (.seq (.reg c31_r14 none (some [0])) (.seq (.reg c31_r15 none (some [4])) .ret))) ⟨ρ, h⟩ (Ends Try.prog [.tmp 4] R) := by
  have h1 := H.hdr
  have he1 := H.ends
  have ht := off_end (lt_of_at h1)
  have he := off_end (lt_of_at he1)
  have hnd := H.nodup
  simp at hnd
  obtain ⟨⟨n1, n2, n3, n4⟩, ⟨n5, n6, n7⟩, ⟨n8, n9⟩, n10⟩ := hnd
  have m3 := Ne.symm n3
  have hle := H.endsLen
  have hst1 : st.toNat < T.size := by omega
  have hlE : st.toNat < T.ends.length := by have := H.lenE; omega
  have hlB : st.toNat < B.eb.length := by have := H.lenB; omega
  have hl' : T.ends[st.toNat] = [] := by rw [List.getElem?_eq_getElem hlE] at hl; simpa using hl
  have hcell : (List.zipWith intSl B.eb T.ends)[st.toNat]? = some (.sl none 0 0) := by
    simp [List.getElem?_zipWith, List.getElem?_eq_getElem hlE, List.getElem?_eq_getElem hlB, hl', intSl]
  have fin : ∀ h' : Heap, h.length ≤ h'.length → h'[B.t]? = some (.cells [.map (some B.m), .sl (some ⟨B.u, 0, 2 * T.size⟩) T.size T.size, .sl (some ⟨B.e, 0, T.size⟩) T.size T.size, .sl (some ⟨B.d, 0, T.size⟩) T.size T.size, .int .i64 (T.n + 1)] 116 false) →
      h'[B.e]? = some (.cells ((List.zipWith intSl B.eb T.ends).set st.toNat (intSl (h.length + 1) ([] ++ [T.n]))) 30 true) → h'[h.length + 1]? = some (.cells (intCells ([] ++ [T.n])) 3 true) →
      (∀ b, b < h.length → b ≠ B.t → b ≠ B.e → b ≠ h.length + 1 → h'[b]? = h[b]?) → R (.int .i64 T.n) h' := fun h' g0 g1 g2 g3 g4 =>
    let ⟨a1, a2, a3⟩ := note_at H hst hl g0 (.inl (by omega)) g1 g2 g3 g4
    hR h' { B with eb := B.eb.set st.toNat (h.length + 1) } rfl a1 a2 a3
  have hw : IntKind.wrap .i64 (T.n + 1) = T.n + 1 := wrap_i64 (by omega) (by omega)
  have hst1' : st.toNat + 1 ≤ T.size := hst1
  have hw' : IntKind.wrap .i64 T.n = T.n := wrap_i64 (by omega) (by omega)
  simp [c31_r13, c31_r14, c31_r15, h0, h5, aload, row, fieldA, h1, he1, hle, aindexAddr, hst, hst1, hcell, abuildSlice, afill, zeros, append2, aappend, srcCells, slCells, aappendE, at_app, at_put, ht, he, n3, m3, astore, bne_dec, roomMax, hw, hw', hl', intSl_nil, hst1']
  refine fin _ ?_ ?_ ?_ ?_ ?_
  · simp
  · simp [at_put, ht, h1, m3, n3]
  · simp [at_put, he, he1, m3, n3, intSl]
  · simp [at_put, ht, he, List.getElem?_append, intCells]
  · intro b hb b1 b2 b3
    have hoff := off_end hb
    simp [at_put, hoff, Ne.symm b1, Ne.symm b2]

/-- Behind the loop: the pattern's end is noted in its state; case two: some ended there. -/
theorem add_tail_cons {h : Heap} {B : TB} {T : TM} (H : TrieAt h B T) {st : Int} (hst : 0 ≤ st ∧ st < T.size) (hn : 0 ≤ T.n ∧ T.n ≤ 9000000000000) {l : List Int} (hl : T.ends[st.toNat]? = some l) (hl0 : l ≠ []) (hll : l.length ≤ 9000000000000) {ρ : Env} (h0 : ρ.get 0 = some B.ptr) (h5 : ρ.get 5 = some (.int .i64 st))
    {R : AV → Heap → Prop} (hR : ∀ h' B', B'.t = B.t → TrieAt h' B' (T.note st) → Only (B.foot T) h h' → (∀ b, B'.foot (T.note st) b → B.foot T b ∨ h.length ≤ b) → R (.int .i64 T.n) h') :
    Wt Try.prog (D cfg) (.seq (.reg c31_r13 (some [(3, 17)]) (some [0])) (.seq (.reg c31_r14 none (some [0])) (.seq (.reg c31_r15 none (some [4])) .ret))) ⟨ρ, h⟩ (Ends Try.prog [.tmp 4] R) := by
  have h1 := H.hdr
  have he1 := H.ends
  have ht := off_end (lt_of_at h1)
  have he := off_end (lt_of_at he1)
  have hnd := H.nodup
  simp at hnd
  obtain ⟨⟨n1, n2, n3, n4⟩, ⟨n5, n6, n7⟩, ⟨n8, n9⟩, n10⟩ := hnd
  have m3 := Ne.symm n3
  have hle := H.endsLen
  have hst1 : st.toNat < T.size := by omega
  have hlE : st.toNat < T.ends.length := by have := H.lenE; omega
  have hlB : st.toNat < B.eb.length := by have := H.lenB; omega
  have hl' : T.ends[st.toNat] = l := by rw [List.getElem?_eq_getElem hlE] at hl; simpa using hl
  obtain ⟨hin, hnot⟩ := H.inner st.toNat l B.eb[st.toNat] hl (by simp [hlB]) hl0
  simp at hnot
  obtain ⟨o1, o2, o3, o4, o5⟩ := hnot
  have p1 := Ne.symm o1
  have p4 := Ne.symm o4
  have hb := off_end (lt_of_at hin)
  have hsl : ∀ b, intSl b l = .sl (some ⟨b, 0, l.length⟩) l.length l.length := fun b => by simp [intSl, hl0]
  have hnn : ¬ (l.length + 1 ≤ l.length) := by omega
  have hr : (l.length + 1) * 8 ≤ 140737488355328 := by omega
  have hl6 : l.length + 1 ≤ 9223372036854775807 := by omega
  have fin : ∀ h' : Heap, h.length ≤ h'.length → h'[B.t]? = some (.cells [.map (some B.m), .sl (some ⟨B.u, 0, 2 * T.size⟩) T.size T.size, .sl (some ⟨B.e, 0, T.size⟩) T.size T.size, .sl (some ⟨B.d, 0, T.size⟩) T.size T.size, .int .i64 (T.n + 1)] 116 false) →
      h'[B.e]? = some (.cells ((List.zipWith intSl B.eb T.ends).set st.toNat (intSl B.eb[st.toNat] (l ++ [T.n]))) 30 true) → h'[B.eb[st.toNat]]? = some (.cells (intCells (l ++ [T.n])) 3 true) →
      (∀ b, b < h.length → b ≠ B.t → b ≠ B.e → b ≠ B.eb[st.toNat] → h'[b]? = h[b]?) → R (.int .i64 T.n) h' := fun h' g0 g1 g2 g3 g4 =>
    let ⟨a1, a2, a3⟩ := note_at H hst hl g0 (.inr ⟨hl0, by simp [hlB]⟩) g1 g2 g3 g4
    hR h' { B with eb := B.eb.set st.toNat B.eb[st.toNat] } rfl a1 a2 a3
  have hw : IntKind.wrap .i64 (T.n + 1) = T.n + 1 := wrap_i64 (by omega) (by omega)
  have hst1' : st.toNat + 1 ≤ T.size := hst1
  have hw' : IntKind.wrap .i64 T.n = T.n := wrap_i64 (by omega) (by omega)
  simp [c31_r13, c31_r14, c31_r15, h0, h5, aload, row, fieldA, h1, he1, hle, aindexAddr, hst, hst1, abuildSlice, afill, zeros, append2, aappend, srcCells, slCells, aappendE, at_app, at_put, ht, he, n3, m3, astore, bne_dec, roomMax, hw, hw', hl', hst1', hsl, hin, hb, o1, o2, o3, o4, o5, p1, p4, hnn, hr, hl6, intCells_len, take_all, hl0]
  refine fin _ ?_ ?_ ?_ ?_ ?_
  · simp
  · simp [at_put, ht, h1, m3, n3, hb, o1, o4, p1, p4]
  · simp [at_put, he, he1, m3, n3, hb, o1, o4, p1, p4, intSl]
  · simp [at_put, hb, o1, o4, p1, p4, hin, intCells]
  · intro b hb' b1 b2 b3
    have hoff := off_end hb'
    simp [at_put, hoff, Ne.symm b1, Ne.symm b2, Ne.symm b3]

theorem trie_add {h : Heap} {B : TB} {T : TM} (H : TrieAt h B T) (hd : T.deepOK) (hs : T.size ≤ 900000) (hn : 0 ≤ T.n ∧ T.n ≤ 9000000000000) (hE : ∀ l ∈ T.ends, l.length ≤ 9000000000000) {p : List UInt8} (hp : p.length ≤ 9223372036854775807) :
    ∃ B' h', D cfg 31 [B.ptr, .str p] h = some (.int .i64 T.n, h') ∧ B'.t = B.t ∧ TrieAt h' B' (T.add p) ∧ (T.add p).deepOK ∧ Only (B.foot T) h h' ∧ (∀ b, B'.foot (T.add p) b → B.foot T b ∨ h.length ≤ b) := by
  have key : ∃ r h', D cfg 31 [B.ptr, .str p] h = some (r, h') ∧ (r = .int .i64 T.n ∧ ∃ B', B'.t = B.t ∧ TrieAt h' B' (T.add p) ∧ (T.add p).deepOK ∧ Only (B.foot T) h h' ∧ (∀ b, B'.foot (T.add p) b → B.foot T b ∨ h.length ≤ b)) := by
    refine call31 (R := fun r h' => r = .int .i64 T.n ∧ ∃ B', B'.t = B.t ∧ TrieAt h' B' (T.add p) ∧ (T.add p).deepOK ∧ Only (B.foot T) h h' ∧ (∀ b, B'.foot (T.add p) b → B.foot T b ∨ h.length ≤ b)) (args := [B.ptr, .str p]) (h := h) (by simp) ?_
    obtain ⟨q, hq⟩ : ∃ q, q = p.take 16 := ⟨_, rfl⟩
    have hq1 : q.length ≤ p.length := by rw [hq]; simp; omega
    have hq2 : q.length ≤ 16 := by rw [hq]; simp; omega
    have hmin : (if (16 : Int) < (p.length : Int) then (16 : Int) else (p.length : Int)) = (q.length : Int) := by
      rw [hq]; simp; split <;> omega
    have htake : p.take q.length = q := by
      rw [hq]; simp
    have hq3 : (0 : Int) ≤ (q.length : Int) ∧ (q.length : Int) ≤ (p.length : Int) := by omega
    simp [c31, c31_r0, c31_r1, c31_r2, len1, alen, amin, amin1, aslice, bound, aconv, hmin, htake, hq1, hq3]
    have hfoot := fun b hb => lt_of_foot H (b := b) hb
    have hI : AddI (h ++ [.cells (byteCells q) 5 true]) B T q h.length 0 B T 0 (h ++ [.cells (byteCells q) 5 true]) :=
      ⟨H.app, ⟨rfl, rfl, rfl, rfl, rfl⟩, Nat.zero_le _, rfl, ⟨by omega, by have := H.pos; omega⟩, by omega, hd, .refl, by simp [at_app], rfl, fun b hb => hb, hE⟩
    refine add_loop (by omega) (fun hm => absurd (hfoot _ (.inl hm)) (by omega)) hI fun B2 T2 st2 h2 hI2 => ?_
    rw [inBlock_same, andThen_normal]
    have hrun := hI2.run
    rw [List.drop_length] at hrun
    simp only [TM.run] at hrun
    have hadd : T.add p = T2.note st2 := by simp only [TM.add, ← hq, ← hrun]
    have hst2 := hI2.st
    have hlE2 : st2.toNat < T2.ends.length := by have := hI2.trie.lenE; omega
    obtain ⟨l, hl⟩ : ∃ l, T2.ends[st2.toNat]? = some l := ⟨_, List.getElem?_eq_getElem hlE2⟩
    have hfin : ∀ h' B', B'.t = B2.t → TrieAt h' B' (T2.note st2) → Only (B2.foot T2) h2 h' → (∀ b, B'.foot (T2.note st2) b → B2.foot T2 b ∨ h2.length ≤ b) → (fun r h' => r = AV.int .i64 T.n ∧ ∃ B', B'.t = B.t ∧ TrieAt h' B' (T.add p) ∧ (T.add p).deepOK ∧ Only (B.foot T) h h' ∧ (∀ b, B'.foot (T.add p) b → B.foot T b ∨ h.length ≤ b)) (.int .i64 T2.n) h' := by
      intro h' B' e1 e2 e3 e4
      have hlen : h.length ≤ h2.length := by have := hI2.only.1; simp at this; omega
      have ho : Only (B.foot T) h h' := (Only.app.trans (hI2.only.mono fun b _ hb => .inl hb)).trans (e3.mono fun b _ hb => hI2.foots b hb)
      refine ⟨by rw [hI2.n], B', by rw [e1]; exact hI2.like.1, by rw [hadd]; exact e2, ?_, ho, fun b hb => ?_⟩
      · rw [hadd]
        exact hI2.deep
      · rw [hadd] at hb
        rcases e4 b hb with hb | hb
        · exact .inl (hI2.foots b hb)
        · exact .inr (by omega)
    have hn2 : 0 ≤ T2.n ∧ T2.n ≤ 9000000000000 := by rw [hI2.n]; exact hn
    by_cases hl0 : l = []
    · subst hl0
      exact add_tail_nil hI2.trie hst2 hn2 hl (by simp) (by simp) hfin
    · exact add_tail_cons hI2.trie hst2 hn2 hl hl0 (hI2.lens l (List.mem_of_getElem? hl)) (by simp) (by simp) hfin
  obtain ⟨r, h', h1, rfl, B', h2⟩ := key
  exact ⟨B', h', h1, h2⟩

end Go.AM
