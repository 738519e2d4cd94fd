/-
  What the law TrackNumbers stands on, part 3.
-/
import Derived.Test.YtamidpfdiijjgaaW21b
namespace Go.AM
open Go Go.Proofs Go.RowKit
set_option linter.unusedVariables false
set_option linter.unusedSimpArgs false
set_option maxRecDepth 100000
def relPS (c : Cont) (p : PS) : PS := { p with least := false, by_ := c.distance + c.within }
def relB (c : Cont) (n : Nat) : Bool := decide (0 < n) && (c.rel && decide (0 < c.within))
def newPS (c : Cont) (i : Nat) (first : Bool) : PS := ⟨c, i, first, 0, true, [], false⟩
def notPS (c : Cont) (i : Nat) : PS := ⟨c, i, false, 0, false, [], false⟩
def relL (c : Cont) (ps : List PS) : List PS := if relB c ps.length then (match ps[ps.length - 1]? with | some q => ps.set (ps.length - 1) (relPS c q) | none => ps) else ps
def addT (T : TS) (i : Nat) (c : Cont) : TS :=
 if c.not then { T with nots := T.nots ++ [notPS c i] }
 else { T with parts := relL c T.parts ++ [newPS c i (decide (T.parts.length = 0))] }
def newTo (l : List Cont) (most : Nat) : Nat → TS
 | 0 => ⟨most, 0, [], [], false, false⟩
 | k + 1 => match l[k]? with
  | some c => addT (newTo l most k) k c
  | none => newTo l most k
theorem relL_len {c : Cont} {ps : List PS} : (relL c ps).length = ps.length := by
 unfold relL
 split
 · split <;> simp
 · rfl
theorem addT_len {T : TS} {i : Nat} {c : Cont} : (addT T i c).parts.length + (addT T i c).nots.length = T.parts.length + T.nots.length + 1 := by
 unfold addT
 split
 · simp; omega
 · simp [relL_len]; omega
theorem addT_most {T : TS} {i : Nat} {c : Cont} : (addT T i c).most = T.most ∧ (addT T i c).at_ = T.at_ ∧ (addT T i c).bad = T.bad ∧ (addT T i c).over = T.over := by
 unfold addT
 split <;> exact ⟨rfl, rfl, rfl, rfl⟩
theorem newTo_len {l : List Cont} {most : Nat} : ∀ {k : Nat}, (newTo l most k).parts.length + (newTo l most k).nots.length ≤ k
 | 0 => by simp [newTo]
 | k + 1 => by
  have := newTo_len (l := l) (most := most) (k := k)
  simp only [newTo]
  split
  · rw [addT_len]; omega
  · omega
theorem newTo_most {l : List Cont} {most : Nat} : ∀ {k : Nat}, (newTo l most k).most = most ∧ (newTo l most k).at_ = 0 ∧ (newTo l most k).bad = false ∧ (newTo l most k).over = false
 | 0 => ⟨rfl, rfl, rfl, rfl⟩
 | k + 1 => by
  have := newTo_most (l := l) (most := most) (k := k)
  simp only [newTo]
  split
  · obtain ⟨a, b, c, d⟩ := addT_most (T := newTo l most k) (i := k) (c := ‹_›)
    rw [a, b, c, d]; exact this
  · exact this
theorem partC_11 {p : PS} {kp : AV} {b : Bool} : (partC p kp).set 11 (.bool b) = partC { p with least := b } kp := rfl
theorem partC_10 {p : PS} {kp : AV} {n : Int} : (partC p kp).set 10 (.int .i64 n) = partC { p with by_ := n } kp := rfl
theorem tC_2 {most at_ : Nat} {pv nv v : AV} {bad over : Bool} : (tC most at_ pv nv bad over).set 2 v = tC most at_ v nv bad over := rfl
theorem tC_3 {most at_ : Nat} {pv nv v : AV} {bad over : Bool} : (tC most at_ pv nv bad over).set 3 v = tC most at_ pv v bad over := rfl
theorem append_buf2 {t e k : Nat} (ht : tk Try.prog t = .slice e) (hk : tsz Try.prog e = k) (hk0 : 0 < k) (hz : zeroOK Try.prog e = true) (hby : Try.prog.bytesOf e ≤ 1000) {h : Heap} {b n : Nat} {xs ys : List AV} (hys : ys.length = k) (hxs : xs.length = n * k)
  (hb : n ≠ 0 → h[b]? = some (.cells xs e true)) (hn : n ≤ 1000000) :
  ∃ δ h', append2 Try.prog (look (h ++ [AObj.cells ys e true])) (h.length + 1) t t [bufSl b n xs, .sl (some ⟨h.length, 0, k⟩) 1 1] = some (bufSl (if n = 0 then h.length + 1 else b) (n + 1) (xs ++ ys), δ) ∧ Heap.apply (h ++ [AObj.cells ys e true]) δ = h' ∧
   h'[if n = 0 then h.length + 1 else b]? = some (.cells (xs ++ ys) e true) ∧ Only (fun c => c = b ∧ n ≠ 0) h h' := by
 have hsrc : srcCells Try.prog (look (h ++ [AObj.cells ys e true])) e (.sl (some ⟨h.length, 0, k⟩) 1 1) = some (1, ys) := by
  simp [srcCells, slCells, row, hk, hys]
  exact List.take_of_length_le (by omega)
 have hroom : ∀ m, m ≤ 1000001 → m * Try.prog.bytesOf e ≤ roomMax := fun m hm => by
  have := Nat.mul_le_mul hm hby
  simp only [roomMax]
  omega
 by_cases hn0 : n = 0
 · subst hn0
   have hxs0 : xs = [] := List.length_eq_zero_iff.1 (by simpa using hxs)
   subst hxs0
   refine ⟨.new (.cells ys e true), h ++ [AObj.cells ys e true] ++ [AObj.cells ys e true], ?_, rfl, ?_, ?_⟩
   · have h1 := hroom 1 (by omega)
     simp only [append2, aappend, ht, hk, hsrc, hk0, if_true, bufSl, aappendE]
     simp at h1
     simp [h1, hz]
   · simp
   · rw [List.append_assoc]; exact .app
 · have hb1 := hb hn0
   have hlt := lt_of_at hb1
   have hb2 : (h ++ [AObj.cells ys e true])[b]? = some (.cells xs e true) := by rw [List.getElem?_append_left hlt]; exact hb1
   rw [if_neg hn0]
   refine ⟨.set b (.cells (xs ++ ys) e true), (h ++ [AObj.cells ys e true]).set b (.cells (xs ++ ys) e true), ?_, rfl, ?_, ?_⟩
   · have h1 := hroom (n + 1) (by omega)
     have h2 : ¬ (n + 1 ≤ n) := by omega
     have h3 : n + 1 ≤ 9223372036854775807 := by omega
     have h4 : xs.take (n * k) = xs := List.take_of_length_le (by omega)
     simp only [append2, aappend, ht, hk, hsrc, hk0, if_true, bufSl, hn0, if_false, aappendE, look_at, hb2]
     simp [h1, hz, h2, h3, hxs, h4]
   · rw [List.getElem?_set_self (by simp; omega)]
   · exact Only.app.trans (.set ⟨rfl, hn0⟩)
theorem min_run {m : Int} : amin [.int .i64 m, .int .i64 32] = some (.int .i64 (min m 32)) := by
 simp only [amin, List.foldl, amin1, if_true]
 congr 2
 split <;> omega
theorem max_run {m : Int} {most : Nat} (hm : (most : Int) = max 1 (min m 32)) : amax [.int .i64 1, .int .i64 (min m 32)] = some (.int .i64 most) := by
 simp only [amax, List.foldl, amax1, if_true]
 congr 2
 split <;> omega
structure I72 (h₀ h : Heap) (tb pa nb : Nat) (T : TS) (fl : FL) : Prop where
 tr : TrackAt h tb pa nb T fl
 only : Only (fun _ => False) h₀ h
 fresh : ∀ c, trF tb fl c → h₀.length ≤ c
 fpa : fl.length ≠ 0 → h₀.length ≤ pa
 fnb : T.nots.length ≠ 0 → h₀.length ≤ nb
abbrev env72 (tb : Nat) (v : AV) (n i : Nat) : Env := [(5, tPtr tb), (14, v), (15, .int .i64 n), (16, .int .i64 i)]
def In72 (h₀ : Heap) (tb : Nat) (v : AV) (l : List Cont) (most : Nat) (m : Nat) (σ : St) : Prop := ∃ i pa nb fl h, m = l.length - i ∧ i ≤ l.length ∧ σ = ⟨env72 tb v l.length i, h⟩ ∧ I72 h₀ h tb pa nb (newTo l most i) fl
theorem add_part {h₀ h : Heap} {tb pa nb : Nat} {T : TS} {fl : FL} (I : I72 h₀ h tb pa nb T fl) (hl : T.parts.length ≤ 1000000) {q : PS} (hq : q.kept = []) :
  ∃ (h1 h2 h3 : Heap) (pa' : Nat) (fl' : FL) (δ : Delta), h ++ [AObj.cells (partC q (.ptr none)) 147 false] = h1 ∧
   append2 Try.prog (look (h1 ++ [AObj.cells [ptPtr h.length] 148 true])) (h1.length + 1) 141 141 [bufSl pa fl.length (ptrCells fl), .sl (some ⟨h1.length, 0, 1⟩) 1 1] = some (bufSl pa' fl'.length (ptrCells fl'), δ) ∧ Heap.apply (h1 ++ [AObj.cells [ptPtr h.length] 148 true]) δ = h2 ∧
   astore Try.prog (look h2) 141 (.ptr (some ⟨tb, 2, 6⟩)) (bufSl pa' fl'.length (ptrCells fl')) = some (.set tb (.cells (tC T.most T.at_ (bufSl pa' fl'.length (ptrCells fl')) (bufSl nb T.nots.length (notCells T.nots)) T.bad T.over) 144 false)) ∧
   h2.set tb (.cells (tC T.most T.at_ (bufSl pa' fl'.length (ptrCells fl')) (bufSl nb T.nots.length (notCells T.nots)) T.bad T.over) 144 false) = h3 ∧
   I72 h₀ h3 tb pa' nb { T with parts := T.parts ++ [q] } fl' := by
 have H := I.tr
 obtain ⟨h1, hh1⟩ : ∃ h1, h ++ [AObj.cells (partC q (.ptr none)) 147 false] = h1 := ⟨_, rfl⟩
 have o1 : Only (fun _ => False) h h1 := by rw [← hh1]; exact .app
 have hl1 : h1.length = h.length + 1 := by rw [← hh1]; simp
 have g1 : h1[h.length]? = some (.cells (partC q (.ptr none)) 147 false) := by rw [← hh1]; simp
 have H1 := H.same o1
 obtain ⟨δ, h2, e1, e2, g2, o2⟩ := append_buf (t := 141) (e := 148) (k := 1) (by simp) (by simp) (by decide) (by simp) (by simp) (h := h1) (b := pa) (n := fl.length) (xs := ptrCells fl) (ys := [ptPtr h.length]) (by simp) (by rw [ptrCells_len]; omega) H1.pv (by rw [H.ps.len]; exact hl)
 have hpc : ptrCells fl ++ [ptPtr h.length] = ptrCells (fl ++ [(h.length, [])]) := by simp [ptrCells]
 rw [hpc] at e1 g2
 have hfl' : fl.length + 1 = (fl ++ [(h.length, ([] : List Nat))]).length := by simp
 rw [hfl'] at e1
 obtain ⟨pa', hpa'⟩ : ∃ pa', (if fl.length = 0 then h1.length + 1 else pa) = pa' := ⟨_, rfl⟩
 rw [hpa'] at e1 g2
 have htp : fl.length ≠ 0 → pa ≠ tb := fun hne e => by
  have h5 := H1.pv hne
  have h6 := H1.hdr
  rw [e, h6] at h5
  injection h5 with h5; injection h5 with _ _ h5; exact absurd h5 (by simp)
 have hnp : fl.length ≠ 0 → T.nots.length ≠ 0 → nb ≠ pa := fun hne hnn e => by
  have h5 := H1.pv hne
  have h6 := H1.nv hnn
  rw [← e, h6] at h5
  injection h5 with h5; injection h5 with _ h5 _; exact absurd h5 (by decide)
 have d2 := o2.at H1.hdr fun e => htp e.2 e.1.symm
 have s2 := cell_store d2 tC_len (t := 141) (by simp) (v := bufSl pa' (fl ++ [(h.length, ([] : List Nat))]).length (ptrCells (fl ++ [(h.length, [])]))) bufSl_one (off := 2) (by decide)
 rw [tC_2] at s2
 obtain ⟨h3, hh3⟩ : ∃ h3, h2.set tb (.cells (tC T.most T.at_ (bufSl pa' (fl ++ [(h.length, ([] : List Nat))]).length (ptrCells (fl ++ [(h.length, [])]))) (bufSl nb T.nots.length (notCells T.nots)) T.bad T.over) 144 false) = h3 := ⟨_, rfl⟩
 have o3 : Only (fun c => c = tb) h2 h3 := by rw [← hh3]; exact .set rfl
 have htl := lt_of_at H.hdr
 have hpl : pa' = pa ∧ fl.length ≠ 0 ∨ pa' = h1.length + 1 := by
  rw [← hpa']
  by_cases h0 : fl.length = 0
  · exact .inr (by rw [if_pos h0])
  · exact .inl ⟨by rw [if_neg h0], h0⟩
 have hpt : pa' ≠ tb := by
  rcases hpl with ⟨e, hne⟩ | e
  · rw [e]; exact htp hne
  · omega
 have hno : ∀ c, flF fl c → ¬ (c = pa ∧ fl.length ≠ 0) := fun c hc e => H1.ps.not (H1.pv e.2) (.inl rfl) (e.1 ▸ hc)
 have hnt : ∀ c, flF fl c → ¬ (c = tb) := fun c hc e => H1.ps.not H1.hdr (.inr (by decide)) (e ▸ hc)
 have P1 : PartsAt h1 (T.parts ++ [q]) (fl ++ [(h.length, [])]) := H1.ps.snoc ⟨by rw [g1]; rfl, by rw [hq]; trivial⟩ (by simp) fun c hc hm => by
  simp at hc
  have := H.ps.lt hm
  omega
 have hlen0 := I.only.1
 refine ⟨h1, h2, h3, pa', fl ++ [(h.length, [])], δ, hh1, e1, e2, s2, hh3, ⟨⟨?_, ?_, ?_, ?_⟩, ?_, ?_, ?_, ?_⟩⟩
 · rw [← hh3, List.getElem?_set_self (lt_of_at d2)]
 · intro _
   exact o3.at g2 hpt
 · intro hne
   have h5 := H1.nv hne
   have hntb : nb ≠ tb := fun e => by
    have h6 := H1.hdr
    rw [e, h6] at h5
    injection h5 with h5; injection h5 with _ _ h5; exact absurd h5 (by simp)
   exact o3.at (o2.at h5 fun e => hnp e.2 hne e.1) hntb
 · have P2 := P1.keep o2 fun c hc e => by
    exact P1.not (H1.pv e.2) (.inl rfl) (e.1 ▸ hc)
   exact P2.keep o3 fun c hc e => P2.not d2 (.inr (by decide)) (e ▸ hc)
 · refine ((I.only.trans o1).fresh o2 fun c e => ?_).fresh o3 fun c e => ?_
   · rw [e.1]; exact I.fpa e.2
   · rw [e]; exact I.fresh tb (.inl rfl)
 · rintro c (rfl | ⟨k, f, hf, hc⟩)
   · exact I.fresh _ (.inl rfl)
   · by_cases hk : k < fl.length
     · rw [List.getElem?_append_left hk] at hf
       exact I.fresh c (.inr ⟨k, f, hf, hc⟩)
     · have h7 := (List.getElem?_eq_some_iff.1 hf).1
       simp at h7
       have h8 : k = fl.length := by omega
       subst h8
       simp at hf
       subst hf
       simp at hc
       omega
 · intro _
   rcases hpl with ⟨e, hne⟩ | e
   · rw [e]; exact I.fpa hne
   · omega
 · exact I.fnb
theorem build_ptr {n b : Nat} : abuildSlice Try.prog n 141 1 [(0, ptPtr b)] = some (.sl (some ⟨n, 0, 1⟩) 1 1, .new (.cells [ptPtr b] 148 true)) := by
 simp [abuildSlice, afill, zeros, splice]
theorem build_not {n : Nat} {p : PS} : abuildSlice Try.prog n 142 1 [(0, .agg (notCell p))] = some (.sl (some ⟨n, 0, 15⟩) 1 1, .new (.cells (notCell p) 147 true)) := by
 simp [abuildSlice, afill, zeros, splice, notCell, partC, contCell]
theorem build_p147 {c : Cont} {i : Nat} : abuild Try.prog 147 [(0, c.av), (1, .int .i64 i)] = some (.agg (notCell (notPS c i))) := by
 simp [abuild, afill, zeros, splice, notCell, partC, contCell, notPS]
theorem build_q147 {c : Cont} {i : Nat} {b : Bool} : abuild Try.prog 147 [(0, c.av), (1, .int .i64 i), (2, .bool b), (4, .bool true)] = some (.agg (partC (newPS c i b) (.ptr none))) := by
 simp [abuild, afill, zeros, splice, notCell, partC, contCell, newPS]
theorem add_not {h₀ h : Heap} {tb pa nb : Nat} {T : TS} {fl : FL} (I : I72 h₀ h tb pa nb T fl) (hl : T.nots.length ≤ 1000000) {q : PS} :
  ∃ (h2 h3 : Heap) (nb' : Nat) (δ : Delta),
   append2 Try.prog (look (h ++ [AObj.cells (notCell q) 147 true])) (h.length + 1) 142 142 [bufSl nb T.nots.length (notCells T.nots), .sl (some ⟨h.length, 0, 15⟩) 1 1] = some (bufSl nb' (T.nots ++ [q]).length (notCells (T.nots ++ [q])), δ) ∧ Heap.apply (h ++ [AObj.cells (notCell q) 147 true]) δ = h2 ∧
   astore Try.prog (look h2) 142 (.ptr (some ⟨tb, 3, 6⟩)) (bufSl nb' (T.nots ++ [q]).length (notCells (T.nots ++ [q]))) = some (.set tb (.cells (tC T.most T.at_ (bufSl pa fl.length (ptrCells fl)) (bufSl nb' (T.nots ++ [q]).length (notCells (T.nots ++ [q]))) T.bad T.over) 144 false)) ∧
   h2.set tb (.cells (tC T.most T.at_ (bufSl pa fl.length (ptrCells fl)) (bufSl nb' (T.nots ++ [q]).length (notCells (T.nots ++ [q]))) T.bad T.over) 144 false) = h3 ∧
   I72 h₀ h3 tb pa nb' { T with nots := T.nots ++ [q] } fl := by
 have H := I.tr
 obtain ⟨δ, h2, e1, e2, g2, o2⟩ := append_buf2 (t := 142) (e := 147) (k := 15) (by simp) (by simp) (by decide) (by simp) (by simp) (h := h) (b := nb) (n := T.nots.length) (xs := notCells T.nots) (ys := notCell q) rfl notCells_len H.nv hl
 have hpc : notCells T.nots ++ notCell q = notCells (T.nots ++ [q]) := by simp [notCells]
 rw [hpc] at e1 g2
 have hfl' : T.nots.length + 1 = (T.nots ++ [q]).length := by simp
 rw [hfl'] at e1
 obtain ⟨nb', hnb'⟩ : ∃ nb', (if T.nots.length = 0 then h.length + 1 else nb) = nb' := ⟨_, rfl⟩
 rw [hnb'] at e1 g2
 have htp : T.nots.length ≠ 0 → nb ≠ tb := fun hne e => by
  have h5 := H.nv hne
  have h6 := H.hdr
  rw [e, h6] at h5
  injection h5 with h5; injection h5 with _ _ h5; exact absurd h5 (by simp)
 have hnp : T.nots.length ≠ 0 → fl.length ≠ 0 → pa ≠ nb := fun hnn hne e => by
  have h5 := H.pv hne
  have h6 := H.nv hnn
  rw [e, h6] at h5
  injection h5 with h5; injection h5 with _ h5 _; exact absurd h5 (by decide)
 have d2 := o2.at H.hdr fun e => htp e.2 e.1.symm
 have s2 := cell_store d2 tC_len (t := 142) (by simp) (v := bufSl nb' (T.nots ++ [q]).length (notCells (T.nots ++ [q]))) bufSl_one (off := 3) (by decide)
 rw [tC_3] at s2
 obtain ⟨h3, hh3⟩ : ∃ h3, h2.set tb (.cells (tC T.most T.at_ (bufSl pa fl.length (ptrCells fl)) (bufSl nb' (T.nots ++ [q]).length (notCells (T.nots ++ [q]))) T.bad T.over) 144 false) = h3 := ⟨_, rfl⟩
 have o3 : Only (fun c => c = tb) h2 h3 := by rw [← hh3]; exact .set rfl
 have htl := lt_of_at H.hdr
 have hpl : nb' = nb ∧ T.nots.length ≠ 0 ∨ nb' = h.length + 1 := by
  rw [← hnb']
  by_cases h0 : T.nots.length = 0
  · exact .inr (by rw [if_pos h0])
  · exact .inl ⟨by rw [if_neg h0], h0⟩
 have hpt : nb' ≠ tb := by
  rcases hpl with ⟨e, hne⟩ | e
  · rw [e]; exact htp hne
  · omega
 have hlen0 := I.only.1
 refine ⟨h2, h3, nb', δ, e1, e2, s2, hh3, ⟨⟨?_, ?_, ?_, ?_⟩, ?_, ?_, ?_, ?_⟩⟩
 · rw [← hh3, List.getElem?_set_self (lt_of_at d2)]
 · intro hne
   have h5 := H.pv hne
   have hntb : pa ≠ tb := fun e => by
    have h6 := H.hdr
    rw [e, h6] at h5
    injection h5 with h5; injection h5 with _ _ h5; exact absurd h5 (by simp)
   exact o3.at (o2.at h5 fun e => hnp e.2 hne e.1) hntb
 · intro _
   exact o3.at g2 hpt
 · have P2 := H.ps.keep o2 fun c hc e => H.ps.not (H.nv e.2) (.inl rfl) (e.1 ▸ hc)
   exact P2.keep o3 fun c hc e => P2.not d2 (.inr (by decide)) (e ▸ hc)
 · refine (I.only.fresh o2 fun c e => ?_).fresh o3 fun c e => ?_
   · rw [e.1]; exact I.fnb e.2
   · rw [e]; exact I.fresh tb (.inl rfl)
 · exact I.fresh
 · exact I.fpa
 · intro _
   rcases hpl with ⟨e, hne⟩ | e
   · rw [e]; exact I.fnb hne
   · omega
theorem I72.same {h₀ h h' : Heap} {tb pa nb : Nat} {T : TS} {fl : FL} (I : I72 h₀ h tb pa nb T fl) (o : Only (fun _ => False) h h') : I72 h₀ h' tb pa nb T fl :=
 ⟨I.tr.same o, I.only.trans o, I.fresh, I.fpa, I.fnb⟩
theorem rel_part {h₀ h : Heap} {tb pa nb : Nat} {T : TS} {fl : FL} (I : I72 h₀ h tb pa nb T fl) {c : Cont} {k : Nat} {f : Nat × List Nat} {q : PS} (hf : fl[k]? = some f) (hq : T.parts[k]? = some q) :
  ∃ h1 h2 o1 o2, astore Try.prog (look h) 4 (.ptr (some ⟨f.1, 11, 15⟩)) (.bool false) = some (.set f.1 o1) ∧ h.set f.1 o1 = h1 ∧ astore Try.prog (look h1) 3 (.ptr (some ⟨f.1, 10, 15⟩)) (.int .i64 (c.distance + c.within)) = some (.set f.1 o2) ∧ h1.set f.1 o2 = h2 ∧ Only (fun x => x = f.1) h h1 ∧ I72 h₀ h2 tb pa nb { T with parts := T.parts.set k (relPS c q) } fl := by
 have H := I.tr
 have hp := H.ps.at_ k q f hq hf
 have s1 := cell_store hp.hdr partC_len (t := 4) (by simp) (v := .bool false) rfl (off := 11) (by decide)
 rw [partC_11] at s1
 obtain ⟨h1, hh1⟩ : ∃ h1, h.set f.1 (.cells (partC { q with least := false } (headP f.2 (.ptr none))) 147 false) = h1 := ⟨_, rfl⟩
 have g1 : h1[f.1]? = some (.cells (partC { q with least := false } (headP f.2 (.ptr none))) 147 false) := by rw [← hh1, List.getElem?_set_self (lt_of_at hp.hdr)]
 have s2 := cell_store g1 partC_len (t := 3) (by simp) (v := .int .i64 (c.distance + c.within)) rfl (off := 10) (by decide)
 rw [partC_10] at s2
 obtain ⟨h2, hh2⟩ : ∃ h2, h1.set f.1 (.cells (partC (relPS c q) (headP f.2 (.ptr none))) 147 false) = h2 := ⟨_, rfl⟩
 have o1 : Only (fun x => x = f.1) h h1 := by rw [← hh1]; exact .set rfl
 have o2 : Only (fun x => x = f.1) h h2 := by rw [← hh2]; exact o1.trans (.set rfl)
 have hm : flF fl f.1 := ⟨k, f, hf, List.mem_cons_self ..⟩
 have hnd := List.nodup_cons.1 (H.ps.nd k f hf)
 have hPA : PartAt h2 f.1 (relPS c q) f.2 := ⟨by rw [← hh2, List.getElem?_set_self (lt_of_at g1)], hp.chain.keep o2 fun b hb e => hnd.1 (e ▸ hb)⟩
 have P2 := H.ps.put hf o2 (fun x hx => by rw [hx]; exact List.mem_cons_self ..) hPA (H.ps.nd k f hf) fun x hx => .inl hx
 have hset : fl.set k (f.1, f.2) = fl := by
  apply List.ext_getElem?
  intro i
  by_cases hik : i = k
  · subst hik; rw [List.getElem?_set_self (List.getElem?_eq_some_iff.1 hf).1, hf]
  · rw [List.getElem?_set_ne (Ne.symm hik)]
 rw [hset] at P2
 refine ⟨h1, h2, _, _, s1, hh1, s2, hh2, o1, ⟨⟨o2.at H.hdr fun e => H.ps.not H.hdr (.inr (by decide)) (e ▸ hm), fun hne => o2.at (H.pv hne) fun e => H.ps.not (H.pv hne) (.inl rfl) (e ▸ hm), fun hne => o2.at (H.nv hne) fun e => H.ps.not (H.nv hne) (.inl rfl) (e ▸ hm), P2⟩, I.only.fresh o2 fun x hx => ?_, I.fresh, I.fpa, I.fnb⟩⟩
 rw [hx]; exact I.fresh _ (.inr hm)
theorem store_box {h : Heap} {c : Cont} : astore Try.prog (look (h ++ [AObj.cells [.str [], .bool false, .bool false, .int .i64 0, .int .i64 0, .bool false, .int .i64 0, .int .i64 0] 52 false])) 52 (.ptr (some ⟨h.length, 0, 8⟩)) (.agg [.str c.bytes, .bool c.nocase, .bool c.not, .int .i64 c.offset, .int .i64 c.depth, .bool c.rel, .int .i64 c.distance, .int .i64 c.within]) = some (.set h.length (.cells [.str c.bytes, .bool c.nocase, .bool c.not, .int .i64 c.offset, .int .i64 c.depth, .bool c.rel, .int .i64 c.distance, .int .i64 c.within] 52 false)) := by
 simp [astore, splice]
theorem new_round {h₀ h : Heap} {v : AV} {l : List Cont} {tb pa nb most : Nat} {fl : FL} (hv : SlC h₀ v l) (hsm : ∀ c ∈ l, c.small) (hll : l.length ≤ 1000) {i : Nat} (hi : i < l.length) (I : I72 h₀ h tb pa nb (newTo l most i) fl) {Q : AExit → St → Prop}
  (hq : ∀ st, In72 h₀ tb v l most (l.length - (i + 1)) st → Q .normal st) :
  Wt Try.prog (D cfg) c72_l3 ⟨env72 tb v l.length i, h⟩ Q := by
 have hil : (i : Int) < l.length := by omega
 have hwr : IntKind.wrap .i64 ((i : Int) + 1) = i + 1 := wrap_i64 (by omega) (by omega)
 obtain ⟨c, hc⟩ : ∃ c, c = l[i] := ⟨_, rfl⟩
 have hcs : c.small := hsm c (by rw [hc]; exact List.getElem_mem hi)
 have a1 := hv.at hi
 have b1 := (hv.same I.only).load hi
 rw [← hc] at b1
 obtain ⟨h1, hh1⟩ : ∃ h1, h ++ [.cells (contCell c) 52 false] = h1 := ⟨_, rfl⟩
 have hbc : h1[h.length]? = some (.cells (contCell c) 52 false) := by rw [← hh1]; simp
 have o1 : Only (fun _ => False) h h1 := by rw [← hh1]; exact .app
 obtain ⟨c0, c1, c2, c3, c4, c5, c6, c7⟩ := contLoads hbc
 have lc := cont_ld (off := 0) (g := 8) hbc rfl (c := c) rfl
 have hst : newTo l most (i + 1) = addT (newTo l most i) i c := by simp only [newTo, List.getElem?_eq_getElem hi, hc]
 have I1 := I.same o1
 have hle := newTo_len (l := l) (most := most) (k := i)
 obtain ⟨T, hT⟩ : ∃ T, newTo l most i = T := ⟨_, rfl⟩
 rw [hT] at hst I1 hle
 have q2 := cell_load I1.tr.hdr tC_len (t := 141) (by simp) (off := 2) rfl
 have q3 := cell_load I1.tr.hdr tC_len (t := 142) (by simp) (off := 3) rfl
 cases hnot : c.not with
 | true =>
  obtain ⟨h2, h3, nb', δ, e1, e2, s2, hh3, I3⟩ := add_not I1 (by omega) (q := notPS c i)
  have hT' : addT T i c = { T with nots := T.nots ++ [notPS c i] } := by simp [addT, hnot]
  rw [← hT', ← hst] at I3
  have hnext : In72 h₀ tb v l most (l.length - (i + 1)) ⟨env72 tb v l.length (i + 1), h3⟩ := ⟨i + 1, pa, nb', fl, h3, rfl, hi, rfl, I3⟩
  have := hq _ hnext
  simp only [env72] at this
  have v1 : (bufSl nb T.nots.length (notCells T.nots)).notTup = true := bufSl_notTup
  have v2 : (bufSl nb' (T.nots ++ [notPS c i]).length (notCells (T.nots ++ [notPS c i]))).notTup = true := bufSl_notTup
  have bp := build_p147 (c := c) (i := i)
  have bn := fun n => build_not (n := n) (p := notPS c i)
  rw [hnot] at c2
  simp only [contCell, Cont.av] at bp lc b1 hh1
  generalize bufSl nb T.nots.length (notCells T.nots) = w1 at *
  generalize bufSl nb' (T.nots ++ [notPS c i]).length (notCells (T.nots ++ [notPS c i])) = w2 at *
  generalize bufSl pa fl.length (ptrCells fl) = w3 at *
  generalize notCell (notPS c i) = w4 at *
  simp [c72_l3, c72_r3, c72_r4, c72_r5, c72_r6, c72_r11, hil, hi, a1, b1, zeros, store_box, splice, hh1, fieldA, c2, q3, lc, bp, bn, e1, e2, s2, hh3, hwr]
  simpa using this
 | false =>
  have hsl := I1.tr.sl
  obtain ⟨pv, hpv⟩ : ∃ pv, bufSl pa fl.length (ptrCells fl) = pv := ⟨_, rfl⟩
  rw [hpv] at q2 hsl
  have hlen := fun L => hsl.len (L := L) (t := 141) (e := 148) (by simp)
  rw [ptrCells_len, I1.tr.ps.len] at hlen
  have v1 : pv.notTup = true := by rw [← hpv]; exact bufSl_notTup
  rw [hnot] at c2
  obtain ⟨c7, c8⟩ := c7
  have bq := fun b => build_q147 (c := c) (i := i) (b := b)
  have bp := fun n => build_ptr (n := n) (b := h1.length)
  obtain ⟨N, hN⟩ : ∃ N, T.parts.length = N := ⟨_, rfl⟩
  rw [hN] at hlen
  have tail : ∀ {T2 : TS} {h6 : Heap}, I72 h₀ h6 tb pa nb T2 fl → T2.parts.length = N → h6[h.length]? = some (.cells (contCell c) 52 false) → addT T i c = { T2 with parts := T2.parts ++ [newPS c i (decide (N = 0))] } →
    Wt Try.prog (D cfg) (.reg c72_r10 none (some [5, 14, 15, 16])) ⟨[(5, tPtr tb), (6, .int .i64 i), (7, .ptr (some ⟨h.length, 0, 8⟩)), (14, v), (15, .int .i64 l.length), (16, .int .i64 i)], h6⟩ (inBlock 1 (andThen (fun s' => Wt Try.prog (D cfg) (.reg c72_r11 none (some [5, 14, 15, 16])) s' Q) Q)) := by
   intro T2 h6 I6 hn2 hbox hT'
   have lc := cont_ld (off := 0) (g := 8) hbox rfl (c := c) rfl
   have q2 := cell_load I6.tr.hdr tC_len (t := 141) (by simp) (off := 2) rfl
   rw [hpv] at q2
   obtain ⟨h2, h3, h4, pa', fl', δ, hh2, e1, e2, s2, hh3, I3⟩ := add_part I6 (by omega) (q := newPS c i (decide (N = 0))) rfl
   rw [← hT', ← hst] at I3
   rw [hpv] at e1
   have hnext : In72 h₀ tb v l most (l.length - (i + 1)) ⟨env72 tb v l.length (i + 1), h4⟩ := ⟨i + 1, pa', nb, fl', h4, rfl, hi, rfl, I3⟩
   have := hq _ hnext
   simp only [env72] at this
   obtain ⟨w2, hw2⟩ : ∃ w2, bufSl pa' fl'.length (ptrCells fl') = w2 := ⟨_, rfl⟩
   rw [hw2] at e1 s2 hh3
   have v2 : w2.notTup = true := by rw [← hw2]; exact bufSl_notTup
   generalize bufSl nb T2.nots.length (notCells T2.nots) = w1 at *
   obtain ⟨w4, hw4⟩ : ∃ w4, partC (newPS c i (decide (N = 0))) (.ptr none) = w4 := ⟨_, rfl⟩
   have bq1 := bq (decide (N = 0))
   have bp := fun n => build_ptr (n := n) (b := h6.length)
   have hw15 : w4.length = 15 := by rw [← hw4]; rfl
   have hone : (∀ x, x ∈ w4 → x.one = true) = True := by
    rw [← hw4]
    simp [partC, contCell, newPS, AV.one]
   rw [hw4] at bq1 hh2
   simp only [contCell, Cont.av] at bq1 lc
   simp [-AV.notTup, -AV.one, hone, hw15, v1, v2, notTup_ptr, c72_r10, c72_r11, fieldA, q2, len1, hlen, lc, bq1, bp, hh2, e1, e2, s2, hh3, hwr]
   simpa using this
  simp only [contCell, Cont.av] at b1 hh1
  by_cases hrel : relB c N = true
  · simp only [relB, Bool.and_eq_true, decide_eq_true_eq] at hrel
    obtain ⟨r1, r2, r3⟩ := hrel
    obtain ⟨K, hK⟩ : ∃ K, N = K + 1 := ⟨N - 1, by omega⟩
    have hKp : K < T.parts.length := by omega
    have hKf : K < fl.length := by rw [I1.tr.ps.len]; exact hKp
    obtain ⟨f, hf⟩ : ∃ f, fl[K]? = some f := ⟨_, List.getElem?_eq_getElem hKf⟩
    obtain ⟨q, hqq⟩ : ∃ q, T.parts[K]? = some q := ⟨_, List.getElem?_eq_getElem hKp⟩
    obtain ⟨h2, h3, x1, x2, s1, hh2, s2, hh3, o2, I3⟩ := rel_part I1 (c := c) hf hqq
    have hT' : addT T i c = { ({ T with parts := T.parts.set K (relPS c q) } : TS) with parts := T.parts.set K (relPS c q) ++ [newPS c i (decide (N = 0))] } := by
     have hb : relB c N = true := by simp [relB, r1, r2, r3]
     have hk1 : N - 1 = K := by omega
     simp only [addT, hnot, Bool.false_eq_true, if_false, relL, hN, hb, if_true, hk1, hqq]
    have hfm : flF fl f.1 := ⟨K, f, hf, List.mem_cons_self ..⟩
    have hne : h.length ≠ f.1 := fun e => I1.tr.ps.not hbc (.inr (by decide)) (e ▸ hfm)
    have hbox2 := o2.at hbc hne
    have hneb : (h.length != f.1) = true := by simpa using hne
    have o3 : Only (fun x => x = f.1) h2 h3 := by rw [← hh3]; exact .set rfl
    have hbox3 := o3.at hbox2 hne
    have t1 := tail I3 (by simp [hN]) hbox3 hT'
    have r1' : (0 : Int) < N := by omega
    have hwK : IntKind.wrap .i64 ((N : Int) - 1) = K := by rw [wrap_i64 (by omega) (by omega)]; omega
    have hKc : K < (ptrCells fl).length := by rw [ptrCells_len]; exact hKf
    have aK := hsl.at (t := 141) (e := 148) (by simp) (by simp) hKc
    have lK := hsl.load (e := 148) (by simp) hKc
    rw [ptrCells_get hf] at lK
    have hdi := hcs.di
    have hww := hcs.w
    have hwA : IntKind.wrap .i64 (c.distance + c.within) = c.distance + c.within := wrap_i64 (by omega) (by omega)
    have henp : (elp pv K).notTup = true := by unfold elp; split <;> rfl
    rw [r2] at c5
    simp [-AV.notTup, v1, henp, notTup_ptr, c72_l3, c72_r3, c72_r4, c72_r5, c72_r7, c72_r8, c72_r9, hil, hi, a1, b1, zeros, store_box, splice, hh1, fieldA, c2, c5, c6, c7, q2, len1, hlen, r1, r1', r3, hwK, aK, lK, hwA, hneb, s1, hh2, s2, hh3]
    simpa using t1
  · have hT' : addT T i c = { T with parts := T.parts ++ [newPS c i (decide (N = 0))] } := by simp [addT, hnot, relL, hN, hrel]
    have t1 := tail I1 hN hbc hT'
    by_cases r1 : 0 < N
    · have r1' : (0 : Int) < N := by omega
      cases r2 : c.rel with
      | true =>
       have r3 : ¬ (0 < c.within) := fun h => hrel (by simp [relB, r1, r2, h])
       rw [r2] at c5
       simp [-AV.notTup, v1, notTup_ptr, c72_l3, c72_r3, c72_r4, c72_r5, c72_r7, c72_r8, hil, hi, a1, b1, zeros, store_box, splice, hh1, fieldA, c2, c5, c7, q2, len1, hlen, r1, r1', r3]
       simpa using t1
      | false =>
       rw [r2] at c5
       simp [-AV.notTup, v1, notTup_ptr, c72_l3, c72_r3, c72_r4, c72_r5, c72_r7, c72_r8, hil, hi, a1, b1, zeros, store_box, splice, hh1, fieldA, c2, c5, c7, q2, len1, hlen, r1, r1']
       simpa using t1
    · have r1' : ¬ ((0 : Int) < N) := by omega
      have r0 : N = 0 := by omega
      simp [-AV.notTup, v1, notTup_ptr, c72_l3, c72_r3, c72_r4, c72_r5, c72_r7, c72_r8, hil, hi, a1, b1, zeros, store_box, splice, hh1, fieldA, c2, c5, c7, q2, len1, hlen, r1, r1']
      simpa using t1
theorem new_run {h : Heap} {v : AV} {l : List Cont} (hv : SlC h v l) (hsm : ∀ c ∈ l, c.small) (hll : l.length ≤ 1000) {m : Int} {most : Nat} (hm : (most : Int) = max 1 (min m 32)) :
  ∃ tb pa nb fl h', D cfg 72 [v, .int .i64 m] h = some (tPtr tb, h') ∧ TrackAt h' tb pa nb (newTo l most l.length) fl ∧ Only (fun _ => False) h h' ∧ (∀ c, trF tb fl c → h.length ≤ c) := by
 have key : ∃ r h', D cfg 72 [v, .int .i64 m] h = some (r, h') ∧ (∃ tb pa nb fl, r = tPtr tb ∧ TrackAt h' tb pa nb (newTo l most l.length) fl ∧ Only (fun _ => False) h h' ∧ (∀ c, trF tb fl c → h.length ≤ c)) := by
  refine call72 (R := fun r h' => ∃ tb pa nb fl, r = tPtr tb ∧ TrackAt h' tb pa nb (newTo l most l.length) fl ∧ Only (fun _ => False) h h' ∧ (∀ c, trF tb fl c → h.length ≤ c)) (args := [v, .int .i64 m]) (h := h) (by simp) ?_
  have hvt : v.notTup = true := by rcases hv with ⟨rfl, _⟩ | ⟨_, _, _, _, rfl, _, _⟩ <;> rfl
  have hlen := fun L => hv.len (L := L)
  have m1 := min_run (m := m)
  have m2 := max_run hm
  obtain ⟨h1, hh1⟩ : ∃ h1, h ++ [AObj.cells (tC most 0 (.sl none 0 0) (.sl none 0 0) false false) 144 false] = h1 := ⟨_, rfl⟩
  have g1 : h1[h.length]? = some (.cells (tC most 0 (.sl none 0 0) (.sl none 0 0) false false) 144 false) := by rw [← hh1]; simp
  have o1 : Only (fun _ => False) h h1 := by rw [← hh1]; exact .app
  have I0 : I72 h h1 h.length 0 0 (newTo l most 0) [] := by
   refine ⟨⟨?_, fun e => absurd rfl e, fun e => absurd rfl e, .nil⟩, o1, ?_, fun e => absurd rfl e, fun e => absurd rfl e⟩
   · rw [g1]; rfl
   · rintro c (rfl | ⟨k, f, hf, _⟩)
     · exact Nat.le_refl _
     · simp at hf
  simp only [tC] at hh1
  simp [-AV.notTup, hvt, notTup_ptr, c72, c72_r0, c72_r1, c72_r2, m1, m2, abuild, afill, zeros, splice, len1, hlen]
  simp [AV.notTup] at hh1 ⊢
  rw [hh1]
  refine Wt.loop (In72 h h.length v l most) (m := l.length) ⟨0, 0, 0, [], h1, rfl, Nat.zero_le _, rfl, I0⟩ ?_
  rintro m' σ ⟨i, pa, nb, fl, h2, rfl, hi, rfl, I⟩
  have hcut : cut (some [5, 14, 15, 16]) (env72 h.length v l.length i) = env72 h.length v l.length i := by simp
  simp only [hcut]
  by_cases hil : i < l.length
  · refine new_round hv hsm hll hil I fun st hst => ?_
    exact ⟨_, by omega, hst⟩
  · have hi2 : i = l.length := by omega
    subst hi2
    simp [-AV.notTup, hvt, notTup_ptr, c72_l3, c72_r3, c72_r12]
    try simp [AV.notTup]
    exact ⟨_, _, _, I.tr, I.only, I.fresh⟩
 obtain ⟨r, h', h1, tb, pa, nb, fl, rfl, h2, h3, h4⟩ := key
 exact ⟨tb, pa, nb, fl, h', h1, h2, h3, h4⟩
def hereN (ends : List Bool) (n : Nat) (ps : List PS) : Nat → Bool
 | 0 => match ps[0]? with
  | some p => saysB ends n p && !p.c.rel
  | none => false
 | k + 1 => match ps[k]?, ps[k + 1]? with
  | some q, some p => saysB ends n p && (!p.c.rel || afterB p.c q (hereN ends n ps k) n)
  | _, _ => false
def keptTo (n : Nat) (hn : Nat → Bool) (ps : List PS) : Nat → List PS
 | 0 => ps
 | k + 1 => match ps[k]? with
  | some p => (keptTo n hn ps k).set k (p.keep n (hn k))
  | none => keptTo n hn ps k
def overTo (n most : Nat) (hn : Nat → Bool) (ps : List PS) (o : Bool) : Nat → Bool
 | 0 => o
 | k + 1 => match ps[k]? with
  | some p => overTo n most hn ps o k || decide (most < (p.keep n (hn k)).kept.length)
  | none => overTo n most hn ps o k
def badTo (ends : List Bool) (n : Nat) (ns : List PS) (b : Bool) : Nat → Bool
 | 0 => b
 | k + 1 => match ns[k]? with
  | some p => badTo ends n ns b k || saysB ends n p
  | none => badTo ends n ns b k
def stepT (T : TS) (ends : List Bool) : TS :=
 if T.over then T
 else
  let hn := hereN ends (T.at_ + 1) T.parts
  { T with
   at_ := T.at_ + 1
   parts := keptTo (T.at_ + 1) hn T.parts T.parts.length
   over := overTo (T.at_ + 1) T.most hn T.parts T.over T.parts.length
   bad := badTo ends (T.at_ + 1) T.nots T.bad T.nots.length }
theorem keptTo_len {n : Nat} {hn : Nat → Bool} {ps : List PS} : ∀ {k : Nat}, (keptTo n hn ps k).length = ps.length
 | 0 => rfl
 | k + 1 => by
  simp only [keptTo]
  split
  · rw [List.length_set, keptTo_len]
  · exact keptTo_len
theorem keptTo_ge {n : Nat} {hn : Nat → Bool} {ps : List PS} {i : Nat} : ∀ {k : Nat}, k ≤ i → (keptTo n hn ps k)[i]? = ps[i]?
 | 0, _ => rfl
 | k + 1, h => by
  simp only [keptTo]
  split
  · rw [List.getElem?_set_ne (by omega), keptTo_ge (by omega)]
  · exact keptTo_ge (by omega)
structure SB (h : Heap) (tb pa nb bt eb : Nat) (T : TS) (fl : FL) (v : AV) (ends : List Bool) : Prop where
 tr : TrackAt h tb pa nb T fl
 bt_ : h[bt]? = some (.cells [tPtr tb] 84 false)
 eb_ : h[eb]? = some (.cells [v] 68 false)
 ev : Sl1 h v (boolCells ends)
theorem SB.same {h h' : Heap} {tb pa nb bt eb : Nat} {T : TS} {fl : FL} {v : AV} {ends : List Bool} (H : SB h tb pa nb bt eb T fl v ends) (o : Only (fun _ => False) h h') : SB h' tb pa nb bt eb T fl v ends :=
 ⟨H.tr.same o, o.at H.bt_ id, o.at H.eb_ id, H.ev.same o⟩
abbrev boxP (b : Nat) : AV := .ptr (some ⟨b, 0, 1⟩)
abbrev hereSl (hb N : Nat) : AV := .sl (some ⟨hb, 0, N⟩) N N
def hereV (ends : List Bool) (n : Nat) (ps : List PS) (i : Nat) : AV := .bool (hereN ends n ps i)
abbrev env7 (bt eb hb N : Nat) (pv : AV) (k : Nat) : Env := [(2, boxP bt), (5, .fn (.func 108) [boxP eb, boxP bt]), (6, hereSl hb N), (33, pv), (34, .int .i64 N), (35, .int .i64 k)]
def In7 (hA : Heap) (bt eb : Nat) (pv : AV) (ends : List Bool) (n : Nat) (ps : List PS) (m : Nat) (σ : St) : Prop := ∃ k h, m = ps.length - k ∧ k ≤ ps.length ∧ σ = ⟨env7 bt eb hA.length ps.length pv k, h⟩ ∧ Only (fun _ => False) hA h ∧ h[hA.length]? = some (.cells (fillC (hereV ends n ps) (.bool false) ps.length k) 4 true)
theorem fillC_set' {f : Nat → AV} {z v : AV} {n k : Nat} (hk : k < n) (hv : v = f k) : (fillC f z n k).set k v = fillC f z n (k + 1) := by rw [hv]; exact fillC_set hk
theorem here_loop {hA h : Heap} {tb pa nb bt eb : Nat} {T : TS} {fl : FL} {v : AV} {ends : List Bool} (S : SB hA tb pa nb bt eb T fl v ends) (hsm : ∀ p ∈ T.parts, p.small) (hat : T.at_ ≤ 1000000) (hpl : T.parts.length ≤ 1000) (ho : Only (fun _ => False) hA h)
  (hg : h[hA.length]? = some (.cells (fillC (hereV ends T.at_ T.parts) (.bool false) T.parts.length 0) 4 true)) {Q : AExit → St → Prop}
  (hq : ∀ h', Only (fun _ => False) hA h' → h'[hA.length]? = some (.cells (fillC (hereV ends T.at_ T.parts) (.bool false) T.parts.length T.parts.length) 4 true) → Q (.exit 0) ⟨env7 bt eb hA.length T.parts.length (bufSl pa fl.length (ptrCells fl)) T.parts.length ++ [(36, .bool false)], h'⟩) :
  Wt Try.prog (D cfg) (.loop c73_l7 (some [2, 5, 6, 33, 34, 35])) ⟨env7 bt eb hA.length T.parts.length (bufSl pa fl.length (ptrCells fl)) 0, h⟩ Q := by
 have hs0 := S.tr.sl
 have hdr0 := S.tr.hdr
 obtain ⟨pv, hpv⟩ : ∃ pv, bufSl pa fl.length (ptrCells fl) = pv := ⟨_, rfl⟩
 rw [hpv] at hs0 hdr0 hq ⊢
 have hnt : pv.notTup = true := by rw [← hpv]; exact bufSl_notTup
 refine Wt.loop (In7 hA bt eb pv ends T.at_ T.parts) (m := T.parts.length) ⟨0, h, rfl, Nat.zero_le _, rfl, ho, hg⟩ ?_
 rintro m σ ⟨k, h1, rfl, hk, rfl, o1, g1⟩
 have hcut : cut (some [2, 5, 6, 33, 34, 35]) (env7 bt eb hA.length T.parts.length pv k) = env7 bt eb hA.length T.parts.length pv k := by simp
 simp only [hcut]
 obtain ⟨N, hN⟩ : ∃ N, T.parts.length = N := ⟨_, rfl⟩
 rw [hN] at g1 hk hq ⊢
 by_cases hkl : k < N
 · have hkl' : (k : Int) < N := by omega
   have hkp : k < T.parts.length := by omega
   have hfl : k < fl.length := by rw [S.tr.ps.len]; exact hkp
   obtain ⟨p, hp⟩ : ∃ p, T.parts[k]? = some p := ⟨_, List.getElem?_eq_getElem hkp⟩
   obtain ⟨f, hf⟩ : ∃ f, fl[k]? = some f := ⟨_, List.getElem?_eq_getElem hfl⟩
   have hps := hsm p (List.mem_of_getElem? hp)
   have S1 := S.same o1
   have hpa := S1.tr.ps.at_ k p f hp hf
   have hic : k < (ptrCells fl).length := by rw [ptrCells_len]; exact hfl
   have a1 := hs0.at (t := 141) (e := 148) (by simp) (by simp) hic
   have l1 := (hs0.same o1).load (e := 148) (by simp) hic
   rw [ptrCells_get hf] at l1
   have hwr : IntKind.wrap .i64 ((k : Int) + 1) = k + 1 := wrap_i64 (by omega) (by omega)
   have henp : (elp pv k).notTup = true := by unfold elp; split <;> rfl
   obtain ⟨h2, e2, o2⟩ := says_run (off := 0) (g := 15) hpa.hdr partC_len (by rw [List.drop_zero, List.take_of_length_le (by rw [partC_len]; decide)]) S1.eb_ S1.bt_ S1.tr.hdr tC_len rfl S1.ev hps.c (by omega)
   obtain ⟨sb, hsb⟩ : ∃ sb, saysB ends T.at_ p = sb := ⟨_, rfl⟩
   rw [hsb] at e2
   have g2 := o2.at g1 id
   have hfk : k < (fillC (hereV ends T.at_ T.parts) (.bool false) N k).length := by rw [fillC_len]; exact hkl
   have s2 := cell_store g2 fillC_len (t := 4) (by simp) (v := .bool sb) rfl (off := k) hkl
   obtain ⟨h3, hh3⟩ : ∃ h3, h2.set hA.length (.cells ((fillC (hereV ends T.at_ T.parts) (.bool false) N k).set k (.bool sb)) 4 true) = h3 := ⟨_, rfl⟩
   have g3 : h3[hA.length]? = some (.cells ((fillC (hereV ends T.at_ T.parts) (.bool false) N k).set k (.bool sb)) 4 true) := by rw [← hh3, List.getElem?_set_self (lt_of_at g2)]
   have o23 : Only (fun c => c = hA.length) h2 h3 := by rw [← hh3]; exact .set rfl
   have o3 : Only (fun _ => False) hA h3 := (o1.trans o2).fresh o23 fun c e => by omega
   have S3 := S.same o3
   have hl3 : ((fillC (hereV ends T.at_ T.parts) (.bool false) N k).set k (.bool sb)).length = N := by rw [List.length_set, fillC_len]
   have q3 := cell_load g3 hl3 (t := 4) (by simp) (off := k) (v := .bool sb) (by rw [List.getElem?_set_self hfk])
   have hpa3 := S3.tr.ps.at_ k p f hp hf
   have qr := cell_load hpa3.hdr partC_len (t := 4) (by simp) (off := 5) rfl
   have a2 : aindexAddr Try.prog 68 (hereSl hA.length N) (.int .i64 k) = some (.ptr (some ⟨hA.length, k, N⟩)) := by simp [aindexAddr, hkl, hkl']
   have hmove : ∀ b h4, Only (fun _ => False) hA h4 → h4[hA.length]? = some (.cells ((fillC (hereV ends T.at_ T.parts) (.bool false) N k).set k (.bool b)) 4 true) → b = hereN ends T.at_ T.parts k → In7 hA bt eb pv ends T.at_ T.parts (T.parts.length - (k + 1)) ⟨env7 bt eb hA.length N pv (k + 1), h4⟩ := by
    intro b h4 o4 g4 hb
    refine ⟨k + 1, h4, rfl, by omega, by rw [hN], o4, ?_⟩
    rw [g4, hN, fillC_set' hkl (by rw [hereV, hb])]
   cases hsb2 : sb with
   | false =>
    subst hsb2
    have hres : false = hereN ends T.at_ T.parts k := by
     cases k with
     | zero => simp only [hereN, hp, hsb]; rfl
     | succ j =>
      have hj : T.parts[j]? = some T.parts[j] := List.getElem?_eq_getElem (by omega)
      simp only [hereN, hp, hj, hsb]; rfl
    have hnext := hmove false h3 o3 g3 hres
    simp only [env7] at hnext
    simp [-AV.notTup, hnt, notTup_ptr, henp, c73_l7, c73_r7, c73_r8, c73_r9, c73_r10, c73_r12, astep_callv, astepT_callv, callV, hkl, hkl', a1, l1, e2, a2, s2, hh3, q3, fieldA, hwr]
    refine ⟨N - (k + 1), by omega, ?_⟩
    rw [hN] at hnext
    simpa using hnext
   | true =>
    subst hsb2
    cases hrel : p.c.rel with
    | false =>
     have hres : true = hereN ends T.at_ T.parts k := by
      cases k with
      | zero => simp only [hereN, hp, hsb, hrel]; rfl
      | succ j =>
       have hj : T.parts[j]? = some T.parts[j] := List.getElem?_eq_getElem (by omega)
       simp only [hereN, hp, hj, hsb, hrel]; rfl
     rw [hrel] at qr
     have hnext := hmove true h3 o3 g3 hres
     simp only [env7] at hnext
     simp [-AV.notTup, hnt, notTup_ptr, henp, c73_l7, c73_r7, c73_r8, c73_r9, c73_r10, c73_r12, astep_callv, astepT_callv, callV, hkl, hkl', a1, l1, e2, a2, s2, hh3, q3, fieldA, qr, hwr]
     refine ⟨N - (k + 1), by omega, ?_⟩
     rw [hN] at hnext
     simpa using hnext
    | true =>
     rw [hrel] at qr
     have last : ∀ b h4, Only (fun _ => False) h3 h4 → b = hereN ends T.at_ T.parts k → ∃ h5, astore Try.prog (look h4) 4 (.ptr (some ⟨hA.length, k, N⟩)) (.bool b) = some (.set hA.length (.cells ((fillC (hereV ends T.at_ T.parts) (.bool false) N k).set k (.bool b)) 4 true)) ∧ h4.set hA.length (.cells ((fillC (hereV ends T.at_ T.parts) (.bool false) N k).set k (.bool b)) 4 true) = h5 ∧ In7 hA bt eb pv ends T.at_ T.parts (N - (k + 1)) ⟨env7 bt eb hA.length N pv (k + 1), h5⟩ := by
      intro b h4 o4 hb
      have g4 := o4.at g3 id
      have s4 := cell_store g4 hl3 (t := 4) (by simp) (v := .bool b) rfl (off := k) hkl
      rw [List.set_set] at s4
      refine ⟨_, s4, rfl, ?_⟩
      rw [← hN]
      have h9 := hmove b (h4.set hA.length (.cells ((fillC (hereV ends T.at_ T.parts) (.bool false) N k).set k (.bool b)) 4 true)) ((o3.trans o4).fresh (.set (fp := fun c => c = hA.length) rfl) fun c e => by omega) (by rw [List.getElem?_set_self (lt_of_at g4)]) hb
      rw [← hN] at h9
      exact h9
     cases k with
     | zero =>
      have hres : false = hereN ends T.at_ T.parts 0 := by simp only [hereN, hp, hrel]; simp
      obtain ⟨h5, s5, hh5, hnext⟩ := last false h3 .refl hres
      simp only [env7] at hnext
      simp at hnext a1 l1 a2 s2 hh3 q3 s5 hh5 hwr
      simp [-AV.notTup, hnt, notTup_ptr, henp, c73_l7, c73_r7, c73_r8, c73_r9, c73_r10, c73_r11, c73_r12, astep_callv, astepT_callv, callV, hkl, hkl', a1, l1, e2, a2, s2, hh3, q3, fieldA, qr, s5, hh5, hwr]
      refine ⟨N - 1, by omega, ?_⟩
      simpa using hnext
     | succ j =>
      have hjp : j < T.parts.length := by omega
      have hjf : j < fl.length := by rw [S.tr.ps.len]; exact hjp
      obtain ⟨q, hqj⟩ : ∃ q, T.parts[j]? = some q := ⟨_, List.getElem?_eq_getElem hjp⟩
      obtain ⟨f', hf'⟩ : ∃ f', fl[j]? = some f' := ⟨_, List.getElem?_eq_getElem hjf⟩
      have hpq := S3.tr.ps.at_ j q f' hqj hf'
      have hsq := hsm q (List.mem_of_getElem? hqj)
      have hjc : j < (ptrCells fl).length := by rw [ptrCells_len]; exact hjf
      have a3 := hs0.at (t := 141) (e := 148) (by simp) (by simp) hjc
      have l3 := (hs0.same o3).load (e := 148) (by simp) hjc
      rw [ptrCells_get hf'] at l3
      have hwj : IntKind.wrap .i64 (((j + 1 : Nat) : Int) - 1) = j := by rw [wrap_i64 (by omega) (by omega)]; omega
      obtain ⟨h4, e4, o4⟩ := after_run hpa3 hpq hps.c hsq (here := hereN ends T.at_ T.parts j) (e := T.at_) (by omega)
      have hres : afterB p.c q (hereN ends T.at_ T.parts j) T.at_ = hereN ends T.at_ T.parts (j + 1) := by simp only [hereN, hp, hqj, hsb, hrel]; simp
      obtain ⟨h5, s5, hh5, hnext⟩ := last _ h4 o4 hres
      obtain ⟨hj, hhj⟩ : ∃ hj, hereN ends T.at_ T.parts j = hj := ⟨_, rfl⟩
      obtain ⟨rb, hrb⟩ : ∃ rb, afterB p.c q (hereN ends T.at_ T.parts j) T.at_ = rb := ⟨_, rfl⟩
      rw [hrb] at e4 s5 hh5
      rw [hhj] at e4
      have a4 : aindexAddr Try.prog 68 (hereSl hA.length N) (.int .i64 j) = some (.ptr (some ⟨hA.length, j, N⟩)) := by
       have : j < N := by omega
       simp [aindexAddr, this]
      have q4 := cell_load g3 hl3 (t := 4) (by simp) (off := j) (v := .bool hj) (by rw [List.getElem?_set_ne (by omega), fillC_get (by omega), if_pos (by omega), hereV, hhj])
      have henq : (elp pv j).notTup = true := by unfold elp; split <;> rfl
      have qb := cell_load S3.bt_ (n := 1) rfl (t := 84) (by simp) (off := 0) rfl
      have qd := S3.tr.hdr
      rw [hpv] at qd
      have qd2 := cell_load qd tC_len (t := 141) (by simp) (off := 2) rfl
      have qd1 := cell_load qd tC_len (t := 3) (by simp) (off := 1) rfl
      have hj0 : (0 : Int) < (j : Int) + 1 := by omega
      simp only [env7] at hnext
      obtain ⟨K, hK⟩ : ∃ K, j + 1 = K := ⟨_, rfl⟩
      rw [hK] at hnext a1 l1 a2 s2 hh3 q3 s5 hh5 hwr henp hwj hkl hkl' ⊢
      have hK0 : 0 < K := by omega
      have hK0' : (0 : Int) < K := by omega
      simp [-AV.notTup, hnt, notTup_ptr, henp, henq, c73_l7, c73_r7, c73_r8, c73_r9, c73_r10, c73_r11, c73_r12, astep_callv, astepT_callv, callV, hkl, hkl', a1, l1, e2, a2, s2, hh3, q3, fieldA, qr, hK0, hK0', qb, qd2, hwj, a3, l3, a4, q4, qd1, e4, s5, hh5, hwr]
      refine ⟨N - (K + 1), by omega, ?_⟩
      simpa using hnext
 · have hk2 : k = N := by omega
   subst hk2
   have := hq h1 o1 g1
   simp only [env7] at this
   simp [-AV.notTup, hnt, notTup_ptr, c73_l7, c73_r7]
   simpa using this
theorem tC_1 {most at_ n : Nat} {pv nv : AV} {bad over : Bool} : (tC most at_ pv nv bad over).set 1 (.int .i64 n) = tC most n pv nv bad over := rfl
theorem tC_4 {most at_ : Nat} {pv nv : AV} {bad over b : Bool} : (tC most at_ pv nv bad over).set 4 (.bool b) = tC most at_ pv nv b over := rfl
theorem tC_5 {most at_ : Nat} {pv nv : AV} {bad over b : Bool} : (tC most at_ pv nv bad over).set 5 (.bool b) = tC most at_ pv nv bad b := rfl
theorem TrackAt.head {h h' : Heap} {tb pa nb : Nat} {T : TS} {fl : FL} (H : TrackAt h tb pa nb T fl) {n : Nat} {bad over : Bool} (e : h.set tb (.cells (tC T.most n (bufSl pa fl.length (ptrCells fl)) (bufSl nb T.nots.length (notCells T.nots)) bad over) 144 false) = h') : TrackAt h' tb pa nb { T with at_ := n, bad := bad, over := over } fl ∧ Only (fun c => c = tb) h h' := by
 have o : Only (fun c => c = tb) h h' := by rw [← e]; exact .set rfl
 refine ⟨⟨?_, fun hne => o.at (H.pv hne) fun e => ?_, fun hne => o.at (H.nv hne) fun e => ?_, H.ps.keep o fun c hc e => H.ps.not H.hdr (.inr (by decide)) (e ▸ hc)⟩, o⟩
 · rw [← e, List.getElem?_set_self (lt_of_at H.hdr)]
 · have h5 := H.pv hne
   rw [e, H.hdr] at h5
   injection h5 with h5; injection h5 with _ _ h5; exact absurd h5 (by simp)
 · have h5 := H.nv hne
   rw [e, H.hdr] at h5
   injection h5 with h5; injection h5 with _ _ h5; exact absurd h5 (by simp)
structure I14 (hB h : Heap) (tb pa nb : Nat) (T : TS) (fl fl' : FL) (hn : Nat → Bool) (k : Nat) : Prop where
 tr : TrackAt h tb pa nb { T with parts := keptTo T.at_ hn T.parts k, over := overTo T.at_ T.most hn T.parts T.over k } fl'
 same : ptrCells fl' = ptrCells fl
 only : Only (trF tb fl) hB h
 sub : ∀ c, flF fl' c → flF fl c ∨ hB.length ≤ c
abbrev env14 (bt eb hb N : Nat) (pv : AV) (k : Nat) : Env := [(2, boxP bt), (5, .fn (.func 108) [boxP eb, boxP bt]), (6, hereSl hb N), (87, pv), (88, .int .i64 N), (89, .int .i64 k)]
def In14 (hB : Heap) (bt eb hb : Nat) (pv : AV) (tb pa nb : Nat) (T : TS) (fl : FL) (hn : Nat → Bool) (m : Nat) (σ : St) : Prop := ∃ k h fl', m = T.parts.length - k ∧ k ≤ T.parts.length ∧ σ = ⟨env14 bt eb hb T.parts.length pv k, h⟩ ∧ I14 hB h tb pa nb T fl fl' hn k
theorem kept_loop {hB : Heap} {tb pa nb bt eb hb : Nat} {T : TS} {fl : FL} {ends : List Bool} (H : TrackAt hB tb pa nb T fl) (hbt : hB[bt]? = some (.cells [tPtr tb] 84 false)) (hsm : ∀ p ∈ T.parts, p.small) (hat : T.at_ ≤ 1000000) (hpl : T.parts.length ≤ 1000)
  (hg : hB[hb]? = some (.cells (fillC (hereV ends T.at_ T.parts) (.bool false) T.parts.length T.parts.length) 4 true)) {Q : AExit → St → Prop}
  (hq : ∀ h' fl', I14 hB h' tb pa nb T fl fl' (hereN ends T.at_ T.parts) T.parts.length → Q (.exit 2) ⟨env14 bt eb hb T.parts.length (bufSl pa fl.length (ptrCells fl)) T.parts.length ++ [(90, .bool false)], h'⟩) :
  Wt Try.prog (D cfg) (.loop c73_l14 (some [2, 5, 6, 87, 88, 89])) ⟨env14 bt eb hb T.parts.length (bufSl pa fl.length (ptrCells fl)) 0, hB⟩ Q := by
 have hs0 := H.sl
 obtain ⟨pv, hpv⟩ : ∃ pv, bufSl pa fl.length (ptrCells fl) = pv := ⟨_, rfl⟩
 rw [hpv] at hs0 hq ⊢
 have hnt : pv.notTup = true := by rw [← hpv]; exact bufSl_notTup
 obtain ⟨hn, hhn⟩ : ∃ hn, hereN ends T.at_ T.parts = hn := ⟨_, rfl⟩
 rw [hhn] at hq
 refine Wt.loop (In14 hB bt eb hb pv tb pa nb T fl hn) (m := T.parts.length) ⟨0, hB, fl, rfl, Nat.zero_le _, rfl, ⟨H, rfl, .refl, fun c hc => .inl hc⟩⟩ ?_
 rintro m σ ⟨k, h1, fl', rfl, hk, rfl, I⟩
 have hcut : cut (some [2, 5, 6, 87, 88, 89]) (env14 bt eb hb T.parts.length pv k) = env14 bt eb hb T.parts.length pv k := by simp
 simp only [hcut]
 obtain ⟨N, hN⟩ : ∃ N, T.parts.length = N := ⟨_, rfl⟩
 rw [hN] at hk hq hg ⊢
 have hnbt : ¬ trF tb fl bt := by
  rintro (e | e)
  · rw [e, H.hdr] at hbt; injection hbt with h5; injection h5 with _ h5 _; exact absurd h5 (by decide)
  · exact H.ps.not hbt (.inr (by decide)) e
 have hnhb : ¬ trF tb fl hb := by
  rintro (e | e)
  · rw [e, H.hdr] at hg; injection hg with h5; injection h5 with _ _ h5; exact absurd h5 (by simp)
  · exact H.ps.not hg (.inl rfl) e
 by_cases hkl : k < N
 · have hkl' : (k : Int) < N := by omega
   have hkp : k < T.parts.length := by omega
   have hlf : fl'.length = N := by have := I.tr.ps.len; rw [keptTo_len, hN] at this; exact this
   have hlf0 : fl.length = N := by rw [H.ps.len]; exact hN
   obtain ⟨p, hp⟩ : ∃ p, T.parts[k]? = some p := ⟨_, List.getElem?_eq_getElem hkp⟩
   obtain ⟨f, hf⟩ : ∃ f, fl'[k]? = some f := ⟨_, List.getElem?_eq_getElem (by omega)⟩
   have hps := hsm p (List.mem_of_getElem? hp)
   have hpk : (keptTo T.at_ hn T.parts k)[k]? = some p := by rw [keptTo_ge (Nat.le_refl _), hp]
   have hpa := I.tr.ps.at_ k p f hpk hf
   have hic : k < (ptrCells fl).length := by rw [ptrCells_len]; omega
   have hnpa : ∀ b, slB pv = some b → ¬ trF tb fl b := by
    intro b hb'
    rw [← hpv] at hb'
    obtain ⟨rfl, hne⟩ := slB_buf hb'
    have h5 := H.pv hne
    rintro (e | e)
    · rw [e, H.hdr] at h5; injection h5 with h5; injection h5 with _ _ h5; exact absurd h5 (by simp)
    · exact H.ps.not h5 (.inl rfl) e
   have a1 := hs0.at (t := 141) (e := 148) (by simp) (by simp) hic
   have l1 := (hs0.keep I.only hnpa).load (e := 148) (by simp) hic
   have hfc : (ptrCells fl)[k] = ptPtr f.1 := by
    have h6 : (ptrCells fl')[k]'(by rw [ptrCells_len]; omega) = ptPtr f.1 := ptrCells_get hf _
    simp only [I.same] at h6
    exact h6
   rw [hfc] at l1
   have hwr : IntKind.wrap .i64 ((k : Int) + 1) = k + 1 := wrap_i64 (by omega) (by omega)
   have henp : (elp pv k).notTup = true := by unfold elp; split <;> rfl
   have qb := cell_load (I.only.at hbt hnbt) (n := 1) rfl (t := 84) (by simp) (off := 0) rfl
   have qd1 := cell_load I.tr.hdr tC_len (t := 3) (by simp) (off := 1) rfl
   have qh := cell_load (I.only.at hg hnhb) fillC_len (t := 4) (by simp) (off := k) (v := .bool (hn k)) (by rw [fillC_get hkl, if_pos hkl, hereV, hhn])
   have a2 : aindexAddr Try.prog 68 (hereSl hb N) (.int .i64 k) = some (.ptr (some ⟨hb, k, N⟩)) := by simp [aindexAddr, hkl, hkl']
   obtain ⟨h2, kbs', e2, P2, o2, nd2, sub2⟩ := keep_run hpa (I.tr.ps.nd k f hf) hps (n := T.at_) (by omega) (ended := hn k)
   have PP := I.tr.ps.put hf o2 (fun c hc => by rcases hc with hc | hc; exact hc ▸ List.mem_cons_self ..; exact List.mem_cons_of_mem _ hc) P2 nd2 sub2
   have hkt : keptTo T.at_ hn T.parts (k + 1) = (keptTo T.at_ hn T.parts k).set k (p.keep T.at_ (hn k)) := by simp only [keptTo, hp]
   have hot : overTo T.at_ T.most hn T.parts T.over (k + 1) = (overTo T.at_ T.most hn T.parts T.over k || decide (T.most < (p.keep T.at_ (hn k)).kept.length)) := by simp only [overTo, hp]
   have hfm : ∀ c, (c = f.1 ∨ c ∈ f.2) → flF fl' c := fun c hc => ⟨k, f, hf, by rcases hc with hc | hc; exact hc ▸ List.mem_cons_self ..; exact List.mem_cons_of_mem _ hc⟩
   have hps' : ptrCells (fl'.set k (f.1, kbs')) = ptrCells fl := by rw [ptrCells_set hf, I.same]
   have T2 : TrackAt h2 tb pa nb { T with parts := keptTo T.at_ hn T.parts (k + 1), over := overTo T.at_ T.most hn T.parts T.over k } (fl'.set k (f.1, kbs')) := by
    refine ⟨?_, fun hne => ?_, fun hne => ?_, by rw [hkt]; exact PP⟩
    · rw [ptrCells_set hf, List.length_set]
      exact o2.at I.tr.hdr fun e => I.tr.ps.not I.tr.hdr (.inr (by decide)) (hfm _ e)
    · rw [ptrCells_set hf]
      rw [List.length_set] at hne
      exact o2.at (I.tr.pv hne) fun e => I.tr.ps.not (I.tr.pv hne) (.inl rfl) (hfm _ e)
    · exact o2.at (I.tr.nv hne) fun e => I.tr.ps.not (I.tr.nv hne) (.inl rfl) (hfm _ e)
   have ho2 : Only (trF tb fl) hB h2 := by
    refine ⟨Nat.le_trans I.only.1 o2.1, fun c hc hnc => ?_⟩
    rw [o2.2 c (Nat.lt_of_lt_of_le hc I.only.1) fun e => ?_, I.only.2 c hc hnc]
    rcases I.sub c (hfm c e) with h6 | h6
    · exact hnc (.inr h6)
    · omega
   have hsub : ∀ c, flF (fl'.set k (f.1, kbs')) c → flF fl c ∨ hB.length ≤ c := by
    rintro c ⟨i, g, hg', hc⟩
    by_cases hik : i = k
    · subst hik
      rw [List.getElem?_set_self (List.getElem?_eq_some_iff.1 hf).1] at hg'
      cases hg'
      rcases List.mem_cons.1 hc with hc | hc
      · exact I.sub c (hfm c (.inl hc))
      · rcases sub2 c hc with h6 | h6
        · exact I.sub c (hfm c (.inr h6))
        · have := I.only.1
          exact .inr (by omega)
    · rw [List.getElem?_set_ne (Ne.symm hik)] at hg'
      exact I.sub c ⟨i, g, hg', hc⟩
   have qb2 := cell_load (ho2.at hbt hnbt) (n := 1) rfl (t := 84) (by simp) (off := 0) rfl
   have qo := cell_load T2.hdr tC_len (t := 4) (by simp) (off := 5) rfl
   have qm := cell_load T2.hdr tC_len (t := 3) (by simp) (off := 0) rfl
   have qn := cell_load P2.hdr partC_len (t := 3) (by simp) (off := 13) rfl
   obtain ⟨ob, hob⟩ : ∃ ob, overTo T.at_ T.most hn T.parts T.over (k + 1) = ob := ⟨_, rfl⟩
   have so := cell_store T2.hdr tC_len (t := 4) (by simp) (v := .bool ob) rfl (off := 5) (by decide)
   rw [tC_5] at so
   obtain ⟨h3, hh3⟩ : ∃ h3, h2.set tb (.cells (tC T.most T.at_ (bufSl pa (fl'.set k (f.1, kbs')).length (ptrCells (fl'.set k (f.1, kbs')))) (bufSl nb T.nots.length (notCells T.nots)) T.bad ob) 144 false) = h3 := ⟨_, rfl⟩
   obtain ⟨T3, o3⟩ := T2.head hh3
   have hnext : In14 hB bt eb hb pv tb pa nb T fl hn (N - (k + 1)) ⟨env14 bt eb hb N pv (k + 1), h3⟩ := by
    refine ⟨k + 1, h3, fl'.set k (f.1, kbs'), by rw [hN], by omega, by rw [hN], ⟨?_, hps', ?_, hsub⟩⟩
    · rw [hob]; exact T3
    · exact ho2.trans (o3.mono fun c _ e => .inl e)
   rw [hps'] at so hh3
   have hl' : (fl'.set k (f.1, kbs')).length = fl.length := by rw [List.length_set]; omega
   rw [hl', hpv] at so hh3
   generalize bufSl nb T.nots.length (notCells T.nots) = nv at *
   simp only [env14] at hnext
   have hwt := @wrap_i64
   cases hov : overTo T.at_ T.most hn T.parts T.over k with
   | true =>
    rw [hov] at qo
    have hobt : ob = true := by rw [← hob, hot, hov]; rfl
    rw [hobt] at so
    simp only [hobt] at hh3
    simp [-AV.notTup, hnt, notTup_ptr, henp, c73_l14, c73_r14, c73_r15, c73_r16, c73_r17, c73_r18, hkl, hkl', a1, l1, qb, fieldA, qd1, a2, qh, e2, qb2, qo, so, hh3, hwr]
    refine ⟨N - (k + 1), by omega, ?_⟩
    simpa using hnext
   | false =>
    rw [hov] at qo
    have hobt : ob = decide (T.most < (p.keep T.at_ (hn k)).kept.length) := by rw [← hob, hot, hov]; rfl
    obtain ⟨kl, hkl2⟩ : ∃ kl, (p.keep T.at_ (hn k)).kept.length = kl := ⟨_, rfl⟩
    rw [hkl2] at qn hobt
    by_cases hmk : T.most < kl
    · have hmk' : (T.most : Int) < kl := by omega
      have hob1 : ob = true := by rw [hobt]; simp [hmk]
      rw [hob1] at so
      simp only [hob1] at hh3
      simp [-AV.notTup, hnt, notTup_ptr, henp, c73_l14, c73_r14, c73_r15, c73_r16, c73_r17, c73_r18, hkl, hkl', a1, l1, qb, fieldA, qd1, a2, qh, e2, qb2, qo, qm, qn, hmk, hmk', so, hh3, hwr]
      refine ⟨N - (k + 1), by omega, ?_⟩
      simpa using hnext
    · have hmk' : ¬ ((T.most : Int) < kl) := by omega
      have hob1 : ob = false := by rw [hobt]; simp [hmk]
      rw [hob1] at so
      simp only [hob1] at hh3
      simp [-AV.notTup, hnt, notTup_ptr, henp, c73_l14, c73_r14, c73_r15, c73_r16, c73_r17, c73_r18, hkl, hkl', a1, l1, qb, fieldA, qd1, a2, qh, e2, qb2, qo, qm, qn, hmk, hmk', so, hh3, hwr]
      refine ⟨N - (k + 1), by omega, ?_⟩
      simpa using hnext
 · have hk2 : k = N := by omega
   subst hk2
   have := hq h1 fl' (by rw [← hN]; rw [← hN] at I; exact I)
   simp only [env14] at this
   simp [-AV.notTup, hnt, notTup_ptr, c73_l14, c73_r14]
   simpa using this
abbrev env20 (bt eb M i : Nat) : Env := [(2, boxP bt), (5, .fn (.func 108) [boxP eb, boxP bt]), (127, .int .i64 M), (128, .int .i64 i)]
def In20 (hC : Heap) (tb pa nb bt eb : Nat) (T : TS) (fl : FL) (v : AV) (ends : List Bool) (m : Nat) (σ : St) : Prop := ∃ i h, m = T.nots.length - i ∧ i ≤ T.nots.length ∧ σ = ⟨env20 bt eb T.nots.length i, h⟩ ∧ TrackAt h tb pa nb { T with bad := badTo ends T.at_ T.nots T.bad i } fl ∧ Only (fun c => c = tb) hC h
theorem beq_boxT {tb : Nat} {t : TypeId} : AObj.beq (.cells [tPtr tb] t false) (.cells [tPtr tb] t false) = true := by
 simp [AObj.beq, beqL, AV.beq, AV.beqP, oAA, AA.beq]
theorem nots_loop {hC : Heap} {tb pa nb bt eb : Nat} {T : TS} {fl : FL} {v : AV} {ends : List Bool} (S : SB hC tb pa nb bt eb T fl v ends) (hev : ∀ b, slB v = some b → b ≠ tb) (hsm : ∀ p ∈ T.nots, p.c.small) (hat : T.at_ ≤ 1000000) (hpl : T.nots.length ≤ 1000) {Q : AExit → St → Prop}
  (hq : ∀ h', TrackAt h' tb pa nb { T with bad := badTo ends T.at_ T.nots T.bad T.nots.length } fl → Only (fun c => c = tb) hC h' → h'[bt]? = some (.cells [tPtr tb] 84 false) → Q (.exit 4) ⟨env20 bt eb T.nots.length T.nots.length ++ [(129, .bool false)], h'⟩) :
  Wt Try.prog (D cfg) (.loop c73_l20 (some [2, 5, 127, 128])) ⟨env20 bt eb T.nots.length 0, hC⟩ Q := by
 refine Wt.loop (In20 hC tb pa nb bt eb T fl v ends) (m := T.nots.length) ⟨0, hC, rfl, Nat.zero_le _, rfl, S.tr, .refl⟩ ?_
 rintro m σ ⟨i, h1, rfl, hi, rfl, T1, o1⟩
 have hcut : cut (some [2, 5, 127, 128]) (env20 bt eb T.nots.length i) = env20 bt eb T.nots.length i := by simp
 simp only [hcut]
 have hbtn : bt ≠ tb := fun e => by
  have h5 := S.bt_
  rw [e, S.tr.hdr] at h5; injection h5 with h5; injection h5 with _ h5 _; exact absurd h5 (by decide)
 have hebn : eb ≠ tb := fun e => by
  have h5 := S.eb_
  rw [e, S.tr.hdr] at h5; injection h5 with h5; injection h5 with _ h5 _; exact absurd h5 (by decide)
 have b1 := o1.at S.bt_ hbtn
 obtain ⟨M, hM⟩ : ∃ M, T.nots.length = M := ⟨_, rfl⟩
 have hq' := fun h' => hq h'
 rw [hM] at hi ⊢
 by_cases hil : i < M
 · have hil' : (i : Int) < M := by omega
   have him : i < T.nots.length := by omega
   obtain ⟨p, hp⟩ : ∃ p, T.nots[i]? = some p := ⟨_, List.getElem?_eq_getElem him⟩
   have hps := hsm p (List.mem_of_getElem? hp)
   have hM0 : M ≠ 0 := by omega
   have hnv := T1.nv (by show T.nots.length ≠ 0; omega)
   have S1 : SB h1 tb pa nb bt eb { T with bad := badTo ends T.at_ T.nots T.bad i } fl v ends := ⟨T1, b1, o1.at S.eb_ hebn, S.ev.keep o1 hev⟩
   obtain ⟨h2, e2, o2⟩ := says_run (off := i * 15) hnv rfl (notCells_drop hp) S1.eb_ S1.bt_ S1.tr.hdr tC_len rfl S1.ev hps hat
   have hdr1 := T1.hdr
   have qb := cell_load b1 (n := 1) rfl (t := 84) (by simp) (off := 0) rfl
   have q3 := cell_load hdr1 tC_len (t := 142) (by simp) (off := 3) rfl
   have q4 := cell_load hdr1 tC_len (t := 4) (by simp) (off := 4) rfl
   have hncl : (notCells T.nots).length = M * 15 := by rw [notCells_len, hM]
   have hnvE : bufSl nb T.nots.length (notCells T.nots) = .sl (some ⟨nb, 0, (notCells T.nots).length⟩) M M := by
    simp only [bufSl, hM]
    rw [if_neg hM0]
   have a1 : aindexAddr Try.prog 142 (.sl (some ⟨nb, 0, (notCells T.nots).length⟩) M M) (.int .i64 i) = some (.ptr (some ⟨nb, i * 15, (notCells T.nots).length⟩)) := by simp [aindexAddr, hil, hil']
   have hwr : IntKind.wrap .i64 ((i : Int) + 1) = i + 1 := wrap_i64 (by omega) (by omega)
   have hbt' : badTo ends T.at_ T.nots T.bad (i + 1) = (badTo ends T.at_ T.nots T.bad i || saysB ends T.at_ p) := by simp only [badTo, hp]
   obtain ⟨bb, hbb⟩ : ∃ bb, badTo ends T.at_ T.nots T.bad (i + 1) = bb := ⟨_, rfl⟩
   have next : ∀ h3, Only (fun _ => False) h1 h3 → ∃ h4, astore Try.prog (look h3) 4 (.ptr (some ⟨tb, 4, 6⟩)) (.bool bb) = some (.set tb (.cells (tC T.most T.at_ (bufSl pa fl.length (ptrCells fl)) (bufSl nb T.nots.length (notCells T.nots)) bb T.over) 144 false)) ∧ h3.set tb (.cells (tC T.most T.at_ (bufSl pa fl.length (ptrCells fl)) (bufSl nb T.nots.length (notCells T.nots)) bb T.over) 144 false) = h4 ∧ In20 hC tb pa nb bt eb T fl v ends (M - (i + 1)) ⟨env20 bt eb M (i + 1), h4⟩ := by
    intro h3 o3
    have T3 := T1.same o3
    have s3 := cell_store T3.hdr tC_len (t := 4) (by simp) (v := .bool bb) rfl (off := 4) (by decide)
    rw [tC_4] at s3
    obtain ⟨h4, hh4⟩ : ∃ h4, h3.set tb (.cells (tC T.most T.at_ (bufSl pa fl.length (ptrCells fl)) (bufSl nb T.nots.length (notCells T.nots)) bb T.over) 144 false) = h4 := ⟨_, rfl⟩
    obtain ⟨T4, o4⟩ := T3.head hh4
    refine ⟨h4, s3, hh4, i + 1, h4, by rw [hM], by omega, by rw [hM], ?_, (o1.trans (o3.mono fun _ _ => False.elim)).trans o4⟩
    rw [hbb]; exact T4
   rw [hnvE] at q3 next
   have qb2 := fun h3 (o3 : Only (fun _ => False) h1 h3) => cell_load (o3.at b1 id) (n := 1) rfl (t := 84) (by simp) (off := 0) rfl
   cases hbad : badTo ends T.at_ T.nots T.bad i with
   | true =>
    rw [hbad] at q4
    have hbt1 : bb = true := by rw [← hbb, hbt', hbad]; rfl
    obtain ⟨h4, s4, hh4, hnext⟩ := next h1 .refl
    rw [hbt1] at s4 hh4
    have hsame : sameAt h1 h1 bt = true := sameAt_of b1 b1 beq_boxT
    simp only [env20] at hnext
    simp [-AV.notTup, notTup_ptr, c73_l20, c73_r20, c73_r21, c73_r22, c73_r23, astep_callv, astepT_callv, callV, hil, hil', qb, fieldA, q4, hsame, s4, hh4, hwr]
    refine ⟨M - (i + 1), by omega, ?_⟩
    simpa using hnext
   | false =>
    rw [hbad] at q4
    obtain ⟨sb, hsb⟩ : ∃ sb, saysB ends T.at_ p = sb := ⟨_, rfl⟩
    have hbt1 : bb = sb := by rw [← hbb, hbt', hbad, hsb]; rfl
    rw [hsb] at e2
    obtain ⟨h4, s4, hh4, hnext⟩ := next h2 o2
    rw [hbt1] at s4 hh4
    have hsame : sameAt h1 h2 bt = true := sameAt_of b1 (o2.at b1 id) beq_boxT
    simp only [env20] at hnext
    simp [-AV.notTup, notTup_ptr, c73_l20, c73_r20, c73_r21, c73_r22, c73_r23, astep_callv, astepT_callv, callV, hil, hil', qb, fieldA, q3, q4, a1, e2, hsame, s4, hh4, hwr]
    refine ⟨M - (i + 1), by omega, ?_⟩
    simpa using hnext
 · have hk2 : i = M := by omega
   subst hk2
   have := hq h1 (by rw [hM]; exact T1) o1 b1
   simp only [env20, hM] at this
   simp [-AV.notTup, notTup_ptr, c73_l20, c73_r20]
   simpa using this
theorem step_rest {h2 : Heap} {tb pa nb bt eb : Nat} {T : TS} {fl : FL} {v : AV} {ends : List Bool} (S : SB h2 tb pa nb bt eb T fl v ends) (hev : ∀ b, slB v = some b → ¬ trF tb fl b) (hsm : ∀ p ∈ T.parts, p.small) (hsn : ∀ p ∈ T.nots, p.c.small) (hat : T.at_ ≤ 1000000) (hpl : T.parts.length ≤ 1000) (hnl : T.nots.length ≤ 1000) {R : AV → Heap → Prop}
  (hR : ∀ h' fl', TrackAt h' tb pa nb { T with parts := keptTo T.at_ (hereN ends T.at_ T.parts) T.parts T.parts.length, over := overTo T.at_ T.most (hereN ends T.at_ T.parts) T.parts T.over T.parts.length, bad := badTo ends T.at_ T.nots T.bad T.nots.length } fl' →
   Only (trF tb fl) h2 h' → (∀ c, flF fl' c → flF fl c ∨ h2.length ≤ c) → R (.bool (overTo T.at_ T.most (hereN ends T.at_ T.parts) T.parts T.over T.parts.length)) h') :
  Wt Try.prog (D cfg) (.seq (.reg c73_r4 none (some [2, 5])) (.seq (.reg c73_r5 none (some [2, 5, 6])) (.seq (.seq (.reg c73_r6 none (some [2, 5, 6, 33, 34, 35])) (.block 0 (.loop c73_l7 (some [2, 5, 6, 33, 34, 35])))) (.seq (.seq (.reg c73_r13 none (some [2, 5, 6, 87, 88, 89])) (.block 2 (.loop c73_l14 (some [2, 5, 6, 87, 88, 89])))) (.seq (.seq (.reg c73_r19 none (some [2, 5, 127, 128])) (.block 4 (.loop c73_l20 (some [2, 5, 127, 128])))) (.seq (.reg c73_r24 none (some [4])) .ret)))))) ⟨[(2, boxP bt), (3, boxP eb)], h2⟩ (Ends Try.prog [.tmp 4] R) := by
 have hs0 := S.tr.sl
 have hdr0 := S.tr.hdr
 obtain ⟨pv, hpv⟩ : ∃ pv, bufSl pa fl.length (ptrCells fl) = pv := ⟨_, rfl⟩
 have hnt : pv.notTup = true := by rw [← hpv]; exact bufSl_notTup
 obtain ⟨nv, hnv⟩ : ∃ nv, bufSl nb T.nots.length (notCells T.nots) = nv := ⟨_, rfl⟩
 have hnn : nv.notTup = true := by rw [← hnv]; exact bufSl_notTup
 rw [hpv] at hs0 hdr0
 have hlen := fun L => hs0.len (L := L) (t := 141) (e := 148) (by simp)
 rw [ptrCells_len, S.tr.ps.len] at hlen
 have hnlen : ∀ L, alen Try.prog L 142 nv = some (.int .i64 T.nots.length) := fun L => by
  rw [← hnv]
  unfold bufSl
  split
  · rename_i h0; simp [alen, h0]
  · simp [alen]
 have qb := cell_load S.bt_ (n := 1) rfl (t := 84) (by simp) (off := 0) rfl
 have q2 := cell_load hdr0 tC_len (t := 141) (by simp) (off := 2) rfl
 obtain ⟨h3, hh3⟩ : ∃ h3, h2 ++ [AObj.cells (zeros [.bool false] T.parts.length) 4 true] = h3 := ⟨_, rfl⟩
 have o3 : Only (fun _ => False) h2 h3 := by rw [← hh3]; exact .app
 have g3 : h3[h2.length]? = some (.cells (fillC (hereV ends T.at_ T.parts) (.bool false) T.parts.length 0) 4 true) := by rw [← hh3, ← fillC_zero]; simp
 have qb3 := cell_load (o3.at S.bt_ id) (n := 1) rfl (t := 84) (by simp) (off := 0) rfl
 have q23 := cell_load (o3.at hdr0 id) tC_len (t := 141) (by simp) (off := 2) rfl
 have hb1 : (T.parts.length : Int) ≤ 281474976710656 := by omega
 have hb2 : (T.parts.length : Int) ≤ 9223372036854775807 := by omega
 have hloop := fun Q hq => here_loop (Q := Q) S hsm hat hpl o3 g3 hq
 simp only [env7] at hloop
 rw [hpv] at hloop
 simp [-AV.notTup, hnt, notTup_ptr, c73_r4, c73_r5, c73_r6, AV.plain, qb, fieldA, q2, len1, hlen, amakeSlice, hb1, hb2, hh3, qb3, q23]
 refine hloop _ fun h4 o4 g4 => ?_
 have S4 := S.same o4
 have hdr4 := S4.tr.hdr
 rw [hpv] at hdr4
 have qb4 := cell_load S4.bt_ (n := 1) rfl (t := 84) (by simp) (off := 0) rfl
 have q24 := cell_load hdr4 tC_len (t := 141) (by simp) (off := 2) rfl
 have hloop2 := fun Q hq => kept_loop (Q := Q) (eb := eb) S4.tr S4.bt_ hsm hat hpl g4 hq
 simp only [env14] at hloop2
 rw [hpv] at hloop2
 simp [-AV.notTup, hnt, notTup_ptr, c73_r13, qb4, fieldA, q24, len1, hlen]
 refine hloop2 _ fun h5 fl' I => ?_
 have hnbt : ∀ b o, h4[b]? = some o → (∃ cs t g, o = .cells cs t g ∧ (g = true ∨ (t ≠ 147 ∧ t ≠ 181)) ∧ ¬ (t = 144 ∧ g = false)) → ¬ trF tb fl b := by
  rintro b o hb ⟨cs, t, g, rfl, ht, hx⟩ (e | e)
  · rw [e, S4.tr.hdr] at hb; injection hb with h5; injection h5 with h5 h6 h7; exact hx ⟨h6.symm, h7.symm⟩
  · exact S4.tr.ps.not hb ht e
 have bt5 := I.only.at S4.bt_ (hnbt _ _ S4.bt_ ⟨_, _, _, rfl, .inr (by decide), by decide⟩)
 have eb5 := I.only.at S4.eb_ (hnbt _ _ S4.eb_ ⟨_, _, _, rfl, .inr (by decide), by decide⟩)
 have S5 : SB h5 tb pa nb bt eb { T with parts := keptTo T.at_ (hereN ends T.at_ T.parts) T.parts T.parts.length, over := overTo T.at_ T.most (hereN ends T.at_ T.parts) T.parts T.over T.parts.length } fl' v ends := ⟨I.tr, bt5, eb5, S4.ev.keep I.only hev⟩
 have hdr5 := I.tr.hdr
 have hnv' : bufSl nb ({ T with parts := keptTo T.at_ (hereN ends T.at_ T.parts) T.parts T.parts.length, over := overTo T.at_ T.most (hereN ends T.at_ T.parts) T.parts T.over T.parts.length } : TS).nots.length (notCells ({ T with parts := keptTo T.at_ (hereN ends T.at_ T.parts) T.parts T.parts.length, over := overTo T.at_ T.most (hereN ends T.at_ T.parts) T.parts T.over T.parts.length } : TS).nots) = nv := hnv
 rw [hnv'] at hdr5
 have qb5 := cell_load bt5 (n := 1) rfl (t := 84) (by simp) (off := 0) rfl
 have q35 := cell_load hdr5 tC_len (t := 142) (by simp) (off := 3) rfl
 have hloop3 := fun Q hq => nots_loop (Q := Q) S5 (fun b hb e => hev b hb (.inl e)) hsn hat hnl hq
 simp only [env20] at hloop3
 simp [-AV.notTup, hnn, notTup_ptr, c73_r19, qb5, fieldA, q35, len1, hnlen]
 refine hloop3 _ fun h6 T6 o6 bt6 => ?_
 have qb6 := cell_load bt6 (n := 1) rfl (t := 84) (by simp) (off := 0) rfl
 have q56 := cell_load T6.hdr tC_len (t := 4) (by simp) (off := 5) rfl
 have hlen4 := o4.1
 have := hR h6 fl' T6 (((o4.mono fun _ _ => False.elim).trans I.only).trans (o6.mono fun c _ e => .inl e)) fun c hc => by
  rcases I.sub c hc with h7 | h7
  · exact .inl h7
  · exact .inr (by omega)
 simp [c73_r24, qb6, fieldA, q56]
 simpa using this
theorem step_track {h : Heap} {tb pa nb : Nat} {T : TS} {fl : FL} {v : AV} {ends : List Bool} (H : TrackAt h tb pa nb T fl) (hv : Sl1 h v (boolCells ends)) (hev : ∀ b, slB v = some b → ¬ trF tb fl b) (hsm : ∀ p ∈ T.parts, p.small) (hsn : ∀ p ∈ T.nots, p.c.small) (hat : T.at_ ≤ 900000) (hpl : T.parts.length ≤ 1000) (hnl : T.nots.length ≤ 1000) :
  ∃ fl' h', D cfg 73 [tPtr tb, v] h = some (.bool (stepT T ends).over, h') ∧ TrackAt h' tb pa nb (stepT T ends) fl' ∧ Only (trF tb fl) h h' ∧ (∀ c, flF fl' c → flF fl c ∨ h.length ≤ c) := by
 have key : ∃ r h', D cfg 73 [tPtr tb, v] h = some (r, h') ∧ (∃ fl', r = .bool (stepT T ends).over ∧ TrackAt h' tb pa nb (stepT T ends) fl' ∧ Only (trF tb fl) h h' ∧ (∀ c, flF fl' c → flF fl c ∨ h.length ≤ c)) := by
  refine call73 (R := fun r h' => ∃ fl', r = .bool (stepT T ends).over ∧ TrackAt h' tb pa nb (stepT T ends) fl' ∧ Only (trF tb fl) h h' ∧ (∀ c, flF fl' c → flF fl c ∨ h.length ≤ c)) (args := [tPtr tb, v]) (h := h) (by simp) ?_
  have hvt : v.notTup = true := by rcases hv with ⟨rfl, _⟩ | ⟨_, _, _, _, _, rfl, _, _⟩ <;> rfl
  have hvc : v.cells = [v] := by rcases hv with ⟨rfl, _⟩ | ⟨_, _, _, _, _, rfl, _, _⟩ <;> rfl
  have hvo : v.one = true := by rcases hv with ⟨rfl, _⟩ | ⟨_, _, _, _, _, rfl, _, _⟩ <;> rfl
  obtain ⟨h1, hh1⟩ : ∃ h1, h ++ [AObj.cells [tPtr tb] 84 false] ++ [AObj.cells [v] 68 false] = h1 := ⟨_, rfl⟩
  have o1 : Only (fun _ => False) h h1 := by rw [← hh1, List.append_assoc]; exact .app
  have b1 : h1[h.length]? = some (.cells [tPtr tb] 84 false) := by rw [← hh1]; simp
  have eb1 : h1[h.length + 1]? = some (.cells [v] 68 false) := by rw [← hh1]; simp
  have T1 := H.same o1
  have q1 := cell_load b1 (n := 1) rfl (t := 84) (by simp) (off := 0) rfl
  have q5 := cell_load T1.hdr tC_len (t := 4) (by simp) (off := 5) rfl
  have hh1' : h ++ [AObj.cells [tPtr tb] 84 false, AObj.cells [v] 68 false] = h1 := by rw [← hh1]; simp
  cases hov : T.over with
  | true =>
   rw [hov] at q5
   have hst : stepT T ends = T := by simp only [stepT, hov, if_true]
   simp [-AV.notTup, -AV.cells, -AV.one, hvt, hvc, hvo, notTup_ptr, cells_ptr, one_ptr, c73, c73_r0, c73_r1, c73_r2, hh1, hh1', q1, fieldA, q5]
   rw [hst, hov]
   exact ⟨rfl, rfl, fl, T1, o1.mono fun _ _ => False.elim, fun c hc => .inl hc⟩
  | false =>
   rw [hov] at q5
   have q0 := cell_load T1.hdr tC_len (t := 3) (by simp) (off := 1) rfl
   obtain ⟨A, hA⟩ : ∃ A, T.at_ + 1 = A := ⟨_, rfl⟩
   have hwr : IntKind.wrap .i64 ((T.at_ : Int) + 1) = A := by rw [wrap_i64 (by omega) (by omega)]; omega
   have s1 := cell_store T1.hdr tC_len (t := 3) (by simp) (v := .int .i64 A) rfl (off := 1) (by decide)
   rw [tC_1] at s1
   obtain ⟨h2, hh2⟩ : ∃ h2, h1.set tb (.cells (tC T.most A (bufSl pa fl.length (ptrCells fl)) (bufSl nb T.nots.length (notCells T.nots)) T.bad T.over) 144 false) = h2 := ⟨_, rfl⟩
   obtain ⟨T2, o2⟩ := T1.head hh2
   have htl := lt_of_at H.hdr
   have S2 : SB h2 tb pa nb h.length (h.length + 1) { T with at_ := A, bad := T.bad, over := T.over } fl v ends := ⟨T2, o2.at b1 (by omega), o2.at eb1 (by omega), (hv.same o1).keep o2 fun b hb e => hev b hb (.inl e)⟩
   have hst : stepT T ends = { T with at_ := A, parts := keptTo A (hereN ends A T.parts) T.parts T.parts.length, over := overTo A T.most (hereN ends A T.parts) T.parts T.over T.parts.length, bad := badTo ends A T.nots T.bad T.nots.length } := by
    simp only [stepT, hov, hA]
    simp
   have hrest := step_rest (R := fun r h' => ∃ fl', r = .bool (stepT T ends).over ∧ TrackAt h' tb pa nb (stepT T ends) fl' ∧ Only (trF tb fl) h h' ∧ (∀ c, flF fl' c → flF fl c ∨ h.length ≤ c)) S2 hev hsm hsn (by show A ≤ 1000000; omega) hpl hnl fun h' fl' T' o' s' => by
    refine ⟨fl', by rw [hst], by rw [hst]; exact T', ((o1.mono fun _ _ => False.elim).trans (o2.mono fun c _ e => .inl e)).trans o', fun c hc => ?_⟩
    rcases s' c hc with h7 | h7
    · exact .inl h7
    · have h8 := o1.1
      have h9 := o2.1
      exact .inr (by omega)
   rw [hov] at s1 hh2
   generalize bufSl pa fl.length (ptrCells fl) = pv at *
   generalize bufSl nb T.nots.length (notCells T.nots) = nv at *
   simp [-AV.notTup, -AV.cells, -AV.one, hvt, hvc, hvo, notTup_ptr, cells_ptr, one_ptr, c73, c73_r0, c73_r1, c73_r3, hh1, hh1', q1, fieldA, q5, q0, hwr, s1, hh2]
   simpa using hrest
 obtain ⟨r, h', h1, fl', rfl, h2, h3, h4⟩ := key
 exact ⟨fl', h', h1, h2, h3, h4⟩
structure PS.ok (p : PS) (n : Nat) : Prop where
 c : p.c.small
 by_ : -2000000 ≤ p.by_ ∧ p.by_ ≤ 2000000
 kept : ∀ a ∈ p.kept, 0 ≤ a ∧ a ≤ n
 len : p.kept.length ≤ n
structure TS.ok (T : TS) : Prop where
 parts : ∀ p ∈ T.parts, p.ok T.at_
 nots : ∀ p ∈ T.nots, p.c.small
theorem PS.ok.mono {p : PS} {n m : Nat} (h : p.ok n) (hm : n ≤ m) : p.ok m := ⟨h.c, h.by_, fun a ha => by have := h.kept a ha; omega, by have := h.len; omega⟩
theorem PS.ok.small {p : PS} {n : Nat} (h : p.ok n) (hn : n ≤ 1000000) : p.small := ⟨h.c, by have := h.by_; omega, fun a ha => by have := h.kept a ha; omega, by have := h.len; omega⟩
theorem PS.ok.keep {p : PS} {n : Nat} (h : p.ok n) {b : Bool} : (p.keep ((n + 1 : Nat) : Int) b).ok (n + 1) := by
 have hk : ∀ a ∈ (p.keep ((n + 1 : Nat) : Int) b).kept, a ∈ p.kept ∨ a = ((n + 1 : Nat) : Int) := by
  intro a ha
  simp only [PS.keep] at ha
  split at ha
  · split at ha
    · exact .inr (by simpa using ha)
    · exact .inl ha
  · rcases List.mem_append.1 ha with ha | ha
    · exact .inl (List.mem_filter.1 ha).1
    · split at ha
      · exact .inr (by simpa using ha)
      · simp at ha
 refine ⟨h.c, h.by_, fun a ha => ?_, ?_⟩
 · rcases hk a ha with h1 | h1
   · have := h.kept a h1; omega
   · omega
 · have hl := h.len
   have hf : (keepL p ((n + 1 : Nat) : Int)).length ≤ p.kept.length := List.length_filter_le _ _
   simp only [PS.keep]
   split
   · split
     · simp
     · omega
   · obtain ⟨L, hL⟩ : ∃ L, (keepL p ((n + 1 : Nat) : Int)).length = L := ⟨_, rfl⟩
     rw [List.length_append, hL]
     split
     · show L + 1 ≤ n + 1; omega
     · show L + 0 ≤ n + 1; omega
theorem keptTo_mem {n : Nat} {hn : Nat → Bool} {ps : List PS} {q : PS} : ∀ {k : Nat}, q ∈ keptTo n hn ps k → ∃ p ∈ ps, q = p ∨ ∃ b, q = p.keep n b
 | 0, h => ⟨q, h, .inl rfl⟩
 | k + 1, h => by
  simp only [keptTo] at h
  split at h
  · rename_i p hp
    rcases List.mem_or_eq_of_mem_set h with h | h
    · exact keptTo_mem h
    · exact ⟨p, List.mem_of_getElem? hp, .inr ⟨_, h⟩⟩
  · exact keptTo_mem h
theorem TS.ok.step {T : TS} (h : T.ok) {ends : List Bool} : (stepT T ends).ok := by
 unfold stepT
 split
 · exact h
 · refine ⟨fun q hq => ?_, h.nots⟩
   obtain ⟨p, hp, e | ⟨b, e⟩⟩ := keptTo_mem hq
   · rw [e]; exact (h.parts p hp).mono (Nat.le_succ _)
   · rw [e]; exact (h.parts p hp).keep
theorem addT_ok {T : TS} (h : T.ok) {i : Nat} {c : Cont} (hc : c.small) : (addT T i c).ok := by
 have hdi := hc.di
 have hw := hc.w
 unfold addT
 split
 · refine ⟨h.parts, fun p hp => ?_⟩
   rcases List.mem_append.1 hp with hp | hp
   · exact h.nots p hp
   · simp at hp; subst hp; exact hc
 · refine ⟨fun p hp => ?_, h.nots⟩
   rcases List.mem_append.1 hp with hp | hp
   · unfold relL at hp
     split at hp
     · split at hp
       · rename_i q hq
         rcases List.mem_or_eq_of_mem_set hp with hp | hp
         · exact h.parts p hp
         · subst hp
           have := h.parts q (List.mem_of_getElem? hq)
           exact ⟨this.c, ⟨by show -2000000 ≤ c.distance + c.within; omega, by show c.distance + c.within ≤ 2000000; omega⟩, this.kept, this.len⟩
       · exact h.parts p hp
     · exact h.parts p hp
   · simp at hp
     subst hp
     exact ⟨hc, ⟨by show -2000000 ≤ (0 : Int); decide, by show (0 : Int) ≤ 2000000; decide⟩, fun a ha => by simp [newPS] at ha, by simp [newPS]⟩
theorem newTo_ok {l : List Cont} {most : Nat} (hl : ∀ c ∈ l, c.small) : ∀ {k : Nat}, (newTo l most k).ok
 | 0 => ⟨fun p hp => by simp [newTo] at hp, fun p hp => by simp [newTo] at hp⟩
 | k + 1 => by
  simp only [newTo]
  split
  · rename_i c hc
    exact addT_ok (newTo_ok hl) (hl c (List.mem_of_getElem? hc))
  · exact newTo_ok hl
theorem stepT_len {T : TS} {ends : List Bool} : (stepT T ends).parts.length = T.parts.length ∧ (stepT T ends).nots.length = T.nots.length ∧ (stepT T ends).at_ ≤ T.at_ + 1 := by
 unfold stepT
 split
 · exact ⟨rfl, rfl, by omega⟩
 · exact ⟨keptTo_len, rfl, Nat.le_refl _⟩
theorem step_ok {h : Heap} {tb pa nb : Nat} {T : TS} {fl : FL} {v : AV} {ends : List Bool} (H : TrackAt h tb pa nb T fl) (hv : Sl1 h v (boolCells ends)) (hev : ∀ b, slB v = some b → ¬ trF tb fl b) (hok : T.ok) (hat : T.at_ ≤ 900000) (hpl : T.parts.length + T.nots.length ≤ 1000) :
  ∃ fl' h', D cfg 73 [tPtr tb, v] h = some (.bool (stepT T ends).over, h') ∧ TrackAt h' tb pa nb (stepT T ends) fl' ∧ Only (trF tb fl) h h' ∧ (∀ c, flF fl' c → flF fl c ∨ h.length ≤ c) :=
 step_track H hv hev (fun p hp => (hok.parts p hp).small (by omega)) hok.nots hat (by omega) (by omega)
def allTo (hs : Nat → List Int) : Nat → List (Int × Int)
 | 0 => []
 | n + 1 => allTo hs n ++ (hs (n + 1)).map fun z => (z, ((n + 1 : Nat) : Int))
def endsOf (N : Nat) (zs : List Int) : List Bool := (List.range N).map fun (i : Nat) => decide ((i : Int) ∈ zs)
theorem endsOf_len {N : Nat} {zs : List Int} : (endsOf N zs).length = N := by simp [endsOf]
def stS (T0 : TS) (hs : Nat → List Int) (N : Nat) : Nat → TS
 | 0 => T0
 | n + 1 => stepT (stS T0 hs N n) (endsOf N (hs (n + 1)))
def runR (f : Nat → TS) (n : Nat) : Nat → Int × Bool × Int
 | 0 => (0, false, 0)
 | m + 1 => if (f n).holds then (n, true, if (f n).over then n else 0) else if (f n).over then (0, false, n) else runR f (n + 1) m
def runT (f : Nat → TS) (len : Nat) : Int × Bool × Int := if (f 0).holds then (0, true, 0) else runR f 1 len
theorem allTo_le {hs : Nat → List Int} {n : Nat} : ∀ k, ∃ r, allTo hs (n + k) = allTo hs n ++ r ∧ ∀ p ∈ r, (n : Int) < p.2
 | 0 => ⟨[], by simp, fun p hp => by simp at hp⟩
 | k + 1 => by
  obtain ⟨r, hr, h2⟩ := allTo_le (hs := hs) (n := n) k
  refine ⟨r ++ (hs (n + k + 1)).map fun z => (z, ((n + k + 1 : Nat) : Int)), by rw [show n + (k + 1) = (n + k) + 1 by omega]; simp only [allTo]; rw [hr, List.append_assoc], fun p hp => ?_⟩
  rcases List.mem_append.1 hp with hp | hp
  · exact h2 p hp
  · simp at hp
    obtain ⟨z, _, rfl⟩ := hp
    show (n : Int) < _
    omega
theorem allTo_at {hs : Nat → List Int} {n m t : Nat} (hm : n + 1 ≤ m) {z : Int} (ht : (hs (n + 1))[t]? = some z) : (allTo hs m)[(allTo hs n).length + t]? = some (z, ((n + 1 : Nat) : Int)) := by
 obtain ⟨r, hr, _⟩ := allTo_le (hs := hs) (n := n + 1) (m - (n + 1))
 rw [show n + 1 + (m - (n + 1)) = m by omega] at hr
 have htl := (List.getElem?_eq_some_iff.1 ht).1
 rw [hr]
 simp only [allTo]
 rw [List.append_assoc, List.getElem?_append_right (by omega), Nat.add_sub_cancel_left, List.getElem?_append_left (by simpa using htl)]
 simp [ht]
theorem allTo_after {hs : Nat → List Int} {n m : Nat} (hm : n ≤ m) {p : Int × Int} (hp : (allTo hs m)[(allTo hs n).length]? = some p) : (n : Int) < p.2 := by
 obtain ⟨r, hr, h2⟩ := allTo_le (hs := hs) (n := n) (m - n)
 rw [show n + (m - n) = m by omega] at hr
 rw [hr, List.getElem?_append_right (by omega)] at hp
 exact h2 p (List.mem_of_getElem? hp)
theorem stS_len {T0 : TS} {hs : Nat → List Int} {N : Nat} : ∀ {n : Nat}, (stS T0 hs N n).parts.length = T0.parts.length ∧ (stS T0 hs N n).nots.length = T0.nots.length ∧ (stS T0 hs N n).at_ ≤ T0.at_ + n
 | 0 => ⟨rfl, rfl, Nat.le_refl _⟩
 | n + 1 => by
  obtain ⟨a, b, c⟩ := stS_len (T0 := T0) (hs := hs) (N := N) (n := n)
  obtain ⟨d, e, f⟩ := stepT_len (T := stS T0 hs N n) (ends := endsOf N (hs (n + 1)))
  exact ⟨d.trans a, e.trans b, by simp only [stS]; omega⟩
theorem stS_ok {T0 : TS} {hs : Nat → List Int} {N : Nat} (h : T0.ok) : ∀ {n : Nat}, (stS T0 hs N n).ok
 | 0 => h
 | n + 1 => (stS_ok h).step
theorem endsOf_set {N : Nat} {zs : List Int} {t i : Nat} (ht : zs[t]? = some (i : Int)) (hi : i < N) : (boolCells (endsOf N (zs.take t))).set i (.bool true) = boolCells (endsOf N (zs.take (t + 1))) := by
 have htl := (List.getElem?_eq_some_iff.1 ht).1
 have htk : zs.take (t + 1) = zs.take t ++ [(i : Int)] := by
  rw [List.take_add_one, ht]; rfl
 apply List.ext_getElem?
 intro j
 by_cases hj : j < N
 · by_cases hji : j = i
   · subst hji
     rw [List.getElem?_set_self (by rw [boolCells_len, endsOf_len]; exact hj)]
     simp [boolCells, endsOf, hj, htk]
   · rw [List.getElem?_set_ne (Ne.symm hji)]
     have : ¬ ((j : Int) = (i : Int)) := by omega
     simp [boolCells, endsOf, hj, htk, this, hji]
 · rw [List.getElem?_eq_none (by rw [List.length_set, boolCells_len, endsOf_len]; omega), List.getElem?_eq_none (by rw [boolCells_len, endsOf_len]; omega)]
theorem bufSl_nt {b n : Nat} {xs : List AV} : AV.notTup (bufSl b n xs) = true := by
 unfold bufSl
 split <;> rfl
theorem build_sl {n b : Nat} {l : List Int} : abuildSlice Try.prog n 44 1 [(0, intSl b l)] = some (.sl (some ⟨n, 0, 1⟩) 1 1, .new (.cells [intSl b l] 30 true)) := by
 unfold intSl
 split <;> simp [abuildSlice, afill, zeros]
def neverAt (s : Txt) (l : List Cont) (e : Nat) : Bool := l.any fun c => c.not && endsAt c s e
def neverFrom (s : Txt) (l : List Cont) : Nat → Nat → Option Nat
 | _, 0 => none
 | e, n + 1 => if neverAt s l e then some e else neverFrom s l (e + 1) n
def neverC (l : List Cont) (s : Txt) : Option Nat := neverFrom s l 0 (s.length + 1)
theorem alen_intSl {L : Look} {b : Nat} {l : List Int} : alen Try.prog L 30 (intSl b l) = some (.int .i64 l.length) := by
 unfold intSl
 split
 · rename_i e; subst e; simp [alen]
 · simp [alen]
theorem LL.sl {h₀ h : Heap} {B : Nat} {bs : List Nat} {ls : List (List Int)} (H : LL h₀ h B bs ls) : Sl1 h (llSl B bs ls) (List.zipWith intSl bs ls) := by
 have hz : (List.zipWith intSl bs ls).length = ls.length := by simp [H.len]
 have := Sl1.buf (h := h) (b := B) (e := 30) (s := true) (xs := List.zipWith intSl bs ls) (fun hn => (H.top (by omega)).1)
 rw [hz] at this
 exact this
theorem LL.get {h₀ h : Heap} {B : Nat} {bs : List Nat} {ls : List (List Int)} (H : LL h₀ h B bs ls) {i : Nat} (hi : i < ls.length) :
  ∃ b, aindexAddr Try.prog 44 (llSl B bs ls) (.int .i64 i) = some (elp (llSl B bs ls) i) ∧ aload Try.prog (look h) 30 (elp (llSl B bs ls) i) = some (intSl b ls[i]) ∧ (ls[i] ≠ [] → h[b]? = some (.cells (intCells ls[i]) 3 true)) := by
 have hz : (List.zipWith intSl bs ls).length = ls.length := by simp [H.len]
 have hb : i < bs.length := by rw [H.len]; exact hi
 have a1 := H.sl.at (t := 44) (e := 30) (by simp) (by simp) (i := i) (by omega)
 have b1 := H.sl.load (e := 30) (by simp) (i := i) (by omega)
 rw [List.getElem_zipWith] at b1
 exact ⟨bs[i], a1, b1, fun hne => (H.each i ls[i] bs[i] (List.getElem?_eq_getElem hi) (List.getElem?_eq_getElem hb) hne).1⟩
def noEmpty (ls : List (List Int)) : Bool := ls.all fun l => decide (l ≠ [])
def holdsC (l : List Cont) (s : Txt) : Bool := noEmpty (endsAll l s).1 && (neverC l s).isNone
theorem noEmpty_step {ls : List (List Int)} {i : Nat} (hi : i < ls.length) (h : noEmpty (ls.take i) = true) : noEmpty (ls.take (i + 1)) = decide (ls[i] ≠ []) := by
 simp only [noEmpty] at h ⊢
 rw [List.take_succ_eq_append_getElem hi, List.all_append, h]
 simp
theorem noEmpty_no {ls : List (List Int)} {i : Nat} (hi : i < ls.length) (h : ls[i] = []) : noEmpty ls = false := by
 cases hx : noEmpty ls with
 | false => rfl
 | true =>
  simp only [noEmpty, List.all_eq_true] at hx
  have := hx ls[i] (List.getElem_mem hi)
  simp [h] at this
theorem endsAll_last {l : List Cont} {s : Txt} : ((endsAll l s).1 = [] → (endsAll l s).2 = []) ∧ (0 < (endsAll l s).1.length → (endsAll l s).1[(endsAll l s).1.length - 1]? = some (endsAll l s).2) := by
 have key : ∀ n (l : List Cont), l.length = n → ((endsAll l s).1 = [] → (endsAll l s).2 = []) ∧ (0 < (endsAll l s).1.length → (endsAll l s).1[(endsAll l s).1.length - 1]? = some (endsAll l s).2) := by
  intro n
  induction n with
  | zero =>
   intro l h
   have : l = [] := List.length_eq_zero_iff.1 h
   subst this
   exact ⟨fun _ => rfl, fun h => by simp [endsAll] at h⟩
  | succ n ih =>
   intro l h
   rcases List.eq_nil_or_concat l with e | ⟨k, c, e⟩
   · subst e; simp at h
   · have e' : l = k ++ [c] := by simpa using e
     subst e'
     simp at h
     have hst : endsAll (k ++ [c]) s = endsStep s (endsAll k s) c := by simp only [endsAll, List.foldl_append, List.foldl_cons, List.foldl_nil]
     rw [hst]
     unfold endsStep
     split
     · exact ih k h
     · refine ⟨fun h => by simp at h, fun h => ?_⟩
       simp
 exact key _ l rfl
theorem SlC.fields {h : Heap} {v : AV} {l : List Cont} (H : SlC h v l) {i : Nat} (hi : i < l.length) :
  ∃ p2 p5, fieldA Try.prog 52 2 (elC v i) = some (p2, .no) ∧ fieldA Try.prog 52 5 (elC v i) = some (p5, .no) ∧
   ∀ h', Only (fun _ => False) h h' → aload Try.prog (look h') 4 p2 = some (.bool l[i].not) ∧ aload Try.prog (look h') 4 p5 = some (.bool l[i].rel) := by
 rcases H with ⟨rfl, rfl⟩ | ⟨b, g, c, cs, rfl, h1, h2⟩
 · simp at hi
 · have h3 := h2 i l[i] (List.getElem?_eq_getElem hi)
   have at' : ∀ k, k < 8 → cs[i * 8 + k]? = (contCell l[i])[k]? := by
    intro k hk
    rw [← h3, List.getElem?_take, if_pos hk, List.getElem?_drop]
   refine ⟨.ptr (some ⟨b, i * 8 + 2, g⟩), .ptr (some ⟨b, i * 8 + 5, g⟩), by simp [fieldA, elC], by simp [fieldA, elC], fun h' ho => ?_⟩
   have h4 : ∀ k, AM.row (look h') { b := b, off := i * 8 + k, gen := g } = some cs := fun k => row_only ho h1 id
   constructor
   · simp only [aload, h4]
     simp [at' 2 (by omega)]
   · simp only [aload, h4]
     simp [at' 5 (by omega)]
section
variable {h : Heap} {s : Txt} {l : List Cont} {v : AV} {B : Nat} {bs : List Nat} {ls : List (List Int)} {ah : List Int} {i e : Nat} {pl : AV}
abbrev envK (v : AV) (s : Txt) (all : AV) (i : Nat) (pl : AV) (e : Nat) (ok : Bool) (k : Nat) : Env := [(0, v), (1, .str s), (5, all), (6, .int .i64 i), (7, pl), (8, .int .i64 e), (9, .bool ok), (10, .int .i64 k)]
def InK (hs : Heap) (v : AV) (s : Txt) (all : AV) (i : Nat) (pl : AV) (e : Nat) (c : Cont) (ah : List Int) (m : Nat) (st : St) : Prop :=
 ∃ k h, m = ah.length - k ∧ k ≤ ah.length ∧ st = ⟨envK v s all i pl e (behindB c e (ah.take k)) k, h⟩ ∧ Only (fun _ => False) hs h
theorem behind_step {c : Cont} {e : Int} {ah : List Int} {k : Nat} (hk : k < ah.length) : behindB c e (ah.take (k + 1)) = (behindB c e (ah.take k) || followsB c ah[k] e) := by
 simp only [behindB]
 rw [List.take_succ_eq_append_getElem hk, List.any_append]
 simp
theorem ok_loop {h₀ hs : Heap} {c : Cont} (hv : SlC hs v l) (hi : i < l.length) (hc : c = l[i]) (hcs : c.small) (H : LL h₀ hs B bs ls) (hls : 0 < ls.length) (hlast : ls[ls.length - 1]'(by omega) = ah) (hap : ∀ p ∈ ah, 0 ≤ p ∧ p ≤ 2000000) (han : ah.length ≤ 9000000) (he : e ≤ 2000000) (hln : ls.length ≤ 1000)
  {Q : AExit → St → Prop} (hq : ∀ h, Only (fun _ => False) hs h → Q (.exit 4) ⟨envK v s (llSl B bs ls) i pl e (behindB c e ah) ah.length ++ [(60, .bool false)], h⟩) :
  Wt Try.prog (D cfg) (.loop c44_l14 (some [0, 1, 5, 6, 7, 8, 9, 10])) ⟨envK v s (llSl B bs ls) i pl e false 0, hs⟩ Q := by
 obtain ⟨all, hall⟩ : ∃ all, all = llSl B bs ls := ⟨_, rfl⟩
 have hlen := fun L => H.sl.len (t := 44) (e := 30) (by simp) (L := L)
 have hz : (List.zipWith intSl bs ls).length = ls.length := by simp [H.len]
 rw [hz] at hlen
 obtain ⟨b, a1, b1, g1⟩ := H.get (i := ls.length - 1) (by omega)
 have b1' := fun (h : Heap) (ho : Only (fun _ => False) hs h) => (H.same ho).get (i := ls.length - 1) (by omega)
 rw [hlast] at b1 g1
 have hbz : bs[ls.length - 1]'(by rw [H.len]; omega) = bs[ls.length - 1]'(by rw [H.len]; omega) := rfl
 have b2 : ∀ h, Only (fun _ => False) hs h → aload Try.prog (look h) 30 (elp (llSl B bs ls) (ls.length - 1)) = some (intSl b ah) := by
  intro h ho
  have x1 := H.sl.load (e := 30) (by simp) (i := ls.length - 1) (by omega)
  have x2 := (H.same ho).sl.load (e := 30) (by simp) (i := ls.length - 1) (by omega)
  rw [x2, ← x1, b1]
 rw [← hall] at a1 hlen hq ⊢
 simp only [← hall] at b2
 have hw1 : IntKind.wrap .i64 ((ls.length : Int) - 1) = ((ls.length - 1 : Nat) : Int) := by rw [wrap_i64 (by omega) (by omega)]; omega
 refine Wt.loop (InK hs v s all i pl e c ah) (m := ah.length) ⟨0, hs, rfl, Nat.zero_le _, rfl, .refl⟩ ?_
 rintro m st ⟨k, h, rfl, hk, rfl, ho⟩
 have hcut : cut (some [0, 1, 5, 6, 7, 8, 9, 10]) (envK v s all i pl e (behindB c e (ah.take k)) k) = envK v s all i pl e (behindB c e (ah.take k)) k := by simp
 simp only [hcut]
 have b3 := b2 h ho
 by_cases hkl : k < ah.length
 · have hkl' : (k : Int) < ah.length := by omega
   have hwr : IntKind.wrap .i64 ((k : Int) + 1) = k + 1 := wrap_i64 (by omega) (by omega)
   have hst := behind_step (c := c) (e := e) hkl
   cases hb : behindB c e (ah.take k) with
   | true =>
    have hnext : InK hs v s all i pl e c ah (ah.length - (k + 1)) ⟨envK v s all i pl e true (k + 1), h⟩ := ⟨k + 1, h, rfl, hkl, by rw [hst, hb]; rfl, ho⟩
    simp only [envK] at hnext
    simp [c44_l14, c44_r14, c44_r15, c44_r16, len1, hlen, hw1, a1, b3, alen_intSl, hkl, hkl', hwr]
    exact ⟨ah.length - (k + 1), by omega, by simpa using hnext⟩
   | false =>
    have sl := Sl1.ints (h := h) (b := b) (l := ah) (fun hne => ho.at (g1 hne) id)
    have a4 := sl.at (t := 30) (e := 3) (by simp) (by simp) (i := k) (by rw [intCells_len]; exact hkl)
    have b4 := sl.load (e := 3) (by simp) (i := k) (by rw [intCells_len]; exact hkl)
    rw [intCells_get] at b4
    have a5 := hv.at hi
    have b5 := (hv.same ho).load hi
    rw [← hc] at b5
    have hp := hap ah[k] (List.getElem_mem hkl)
    obtain ⟨p, hp'⟩ : ∃ p : Nat, ah[k] = p := ⟨ah[k].toNat, by omega⟩
    obtain ⟨h2, e2, o2⟩ := follows_ref (h := h) hcs (p := p) (e := e) (by omega) he
    rw [← hp'] at e2
    have hnext : InK hs v s all i pl e c ah (ah.length - (k + 1)) ⟨envK v s all i pl e (followsB c ah[k] e) (k + 1), h2⟩ := ⟨k + 1, h2, rfl, hkl, by rw [hst, hb]; rfl, ho.trans o2⟩
    simp only [envK] at hnext
    simp [c44_l14, c44_r14, c44_r15, c44_r16, len1, hlen, hw1, a1, b3, alen_intSl, hkl, hkl', hwr, a4, b4, a5, b5, e2]
    exact ⟨ah.length - (k + 1), by omega, by simpa using hnext⟩
 · have : k = ah.length := by omega
   subst this
   rw [List.take_length]
   have hn := hq h ho
   simp only [envK] at hn
   simp [c44_l14, c44_r14, len1, hlen, hw1, a1, b3, alen_intSl]
   simpa using hn
end
abbrev envM (v : AV) (s : Txt) (all : AV) (i : Nat) (pl : AV) (e : Nat) : Env := [(0, v), (1, .str s), (5, all), (6, .int .i64 i), (7, pl), (8, .int .i64 e)]
def In44 (hs : Heap) (v : AV) (s : Txt) (all : AV) (i : Nat) (c : Cont) (ah : List Int) (m : Nat) (st : St) : Prop :=
 ∃ e b h, m = s.length + 1 - e ∧ e ≤ s.length + 1 ∧ st = ⟨envM v s all i (intSl b (hits c s ah e)) e, h⟩ ∧ Only (fun _ => False) hs h ∧ (hits c s ah e ≠ [] → h[b]? = some (.cells (intCells (hits c s ah e)) 3 true) ∧ hs.length ≤ b)
theorem ref_inner {h₀ hs : Heap} {s : Txt} {l : List Cont} {v : AV} {B : Nat} {bs : List Nat} {ls : List (List Int)} {ah : List Int} {i : Nat} {c : Cont} (hv : SlC hs v l) (hi : i < l.length) (hc : c = l[i]) (hcs : c.small) (H : LL h₀ hs B bs ls)
  (hlast0 : ls = [] → ah = []) (hlast : 0 < ls.length → ls[ls.length - 1]? = some ah) (hap : ∀ p ∈ ah, 0 ≤ p ∧ p ≤ 2000000) (han : ah.length ≤ 9000000) (hln : ls.length ≤ 1000) (hsl : s.length ≤ 100000) (hll : l.length ≤ 1000) {Q : AExit → St → Prop}
  (hq : ∀ b h, Only (fun _ => False) hs h → (hits c s ah (s.length + 1) ≠ [] → h[b]? = some (.cells (intCells (hits c s ah (s.length + 1))) 3 true) ∧ hs.length ≤ b) → Q (.exit 2) ⟨envM v s (llSl B bs ls) i (intSl b (hits c s ah (s.length + 1))) (s.length + 1) ++ [(25, .bool false)], h⟩) :
  Wt Try.prog (D cfg) (.loop c44_l8 (some [0, 1, 5, 6, 7, 8])) ⟨envM v s (llSl B bs ls) i (.sl none 0 0) 0, hs⟩ Q := by
 refine Wt.loop (In44 hs v s (llSl B bs ls) i c ah) (m := s.length + 1) ⟨0, 0, hs, rfl, Nat.zero_le _, by simp [hits, intSl], .refl, fun h => absurd rfl h⟩ ?_
 rintro m st ⟨e, b, h, rfl, he, rfl, ho, hb⟩
 have hcut : cut (some [0, 1, 5, 6, 7, 8]) (envM v s (llSl B bs ls) i (intSl b (hits c s ah e)) e) = envM v s (llSl B bs ls) i (intSl b (hits c s ah e)) e := by simp
 simp only [hcut]
 by_cases hes : e < s.length + 1
 · have hwr : IntKind.wrap .i64 ((e : Int) + 1) = e + 1 := wrap_i64 (by omega) (by omega)
   have hle : (e : Int) ≤ s.length := by omega
   have hle' : e ≤ s.length := by omega
   have a5 := hv.at hi
   have b5 := (hv.same ho).load hi
   rw [← hc] at b5
   obtain ⟨h1, e1, o1⟩ := ends_ref (h := h) hcs (s := s) (e := e) (by omega) (by omega)
   have ho1 := ho.trans o1
   have yes : ∀ h3, Only (fun _ => False) h h3 → hitB c s ah e = true → ∃ δ h4, append2 Try.prog (look (h3 ++ [AObj.cells [.int .i64 e] 3 true])) (h3.length + 1) 30 30 [intSl b (hits c s ah e), .sl (some ⟨h3.length, 0, 1⟩) 1 1] = some (intSl (if hits c s ah e = [] then h3.length + 1 else b) (hits c s ah (e + 1)), δ) ∧
     Heap.apply (h3 ++ [AObj.cells [.int .i64 e] 3 true]) δ = h4 ∧ In44 hs v s (llSl B bs ls) i c ah (s.length + 1 - (e + 1)) ⟨envM v s (llSl B bs ls) i (intSl (if hits c s ah e = [] then h3.length + 1 else b) (hits c s ah (e + 1))) (e + 1), h4⟩ := by
    intro h3 o3 hh
    have hlen := hits_len (c := c) (s := s) (ahead := ah) (n := e)
    obtain ⟨δ, h4, g1, g2, g3, g4⟩ := append_int (h := h3) (b := b) (l := hits c s ah e) (x := e) (fun hne => o3.at (hb hne).1 id) (by omega)
    have hst : hits c s ah (e + 1) = hits c s ah e ++ [(e : Int)] := by simp only [hits]; rw [if_pos hh]
    rw [← hst] at g1 g3
    refine ⟨δ, h4, g1, g2, e + 1, _, h4, rfl, hes, rfl, (ho.trans o3).fresh g4 fun x hx => by rw [hx.1]; exact (hb hx.2).2, fun _ => ⟨g3, ?_⟩⟩
    have := (ho.trans o3).1
    split
    · omega
    · rename_i hne; exact (hb hne).2
   have no : ∀ h3, Only (fun _ => False) h h3 → hitB c s ah e = false → In44 hs v s (llSl B bs ls) i c ah (s.length + 1 - (e + 1)) ⟨envM v s (llSl B bs ls) i (intSl b (hits c s ah e)) (e + 1), h3⟩ := by
    intro h3 o3 hh
    have hst : hits c s ah (e + 1) = hits c s ah e := by simp only [hits]; rw [hh]; simp
    refine ⟨e + 1, b, h3, rfl, hes, by rw [hst], ho.trans o3, ?_⟩
    rw [hst]
    exact fun hne => ⟨o3.at (hb hne).1 id, (hb hne).2⟩
   have b6 := (hv.same ho1).load hi
   rw [← hc] at b6
   have hlen := fun L => H.sl.len (t := 44) (e := 30) (by simp) (L := L)
   have hz : (List.zipWith intSl bs ls).length = ls.length := by simp [H.len]
   rw [hz] at hlen
   obtain ⟨p2, p5, _, f5, ff⟩ := hv.fields hi
   have f6 := (ff h1 ho1).2
   rw [← hc] at f6
   cases hat : endsAt c s e with
   | false =>
    rw [hat] at e1
    have hn := no h1 o1 (by simp [hitB, hat])
    simp only [envM] at hn
    simp [c44_l8, c44_r8, c44_r9, c44_r10, len1, alenS, hle, hle', a5, b5, e1, hwr]
    exact ⟨s.length + 1 - (e + 1), by omega, by simpa using hn⟩
   | true =>
    rw [hat] at e1
    cases hr : c.rel with
    | false =>
     rw [hr] at f6
     obtain ⟨δ, h4, g1, g2, g3⟩ := yes h1 o1 (by simp [hitB, hat, hr])
     simp only [envM] at g3
     simp [c44_l8, c44_r8, c44_r9, c44_r10, c44_r11, c44_r12, c44_r13, c44_r17, c44_r18, len1, alenS, hle, hle', a5, b5, e1, hwr, f5, f6, abuildSlice, afill, zeros, g1, g2]
     exact ⟨s.length + 1 - (e + 1), by omega, by simpa using g3⟩
    | true =>
     rw [hr] at f6
     by_cases hl0 : ls.length = 0
     · have hls : ls = [] := List.length_eq_zero_iff.1 hl0
       have hah : ah = [] := hlast0 hls
       have hn := no h1 o1 (by simp [hitB, hat, hr, hah, behindB])
       simp only [envM] at hn
       simp only [hl0] at hlen
       simp [c44_l8, c44_r8, c44_r9, c44_r10, c44_r11, c44_r12, c44_r13, c44_r17, c44_r18, len1, alenS, hle, hle', a5, b5, e1, hwr, f5, f6, hlen]
       exact ⟨s.length + 1 - (e + 1), by omega, by simpa using hn⟩
     · have hl1 : 0 < ls.length := by omega
       have hlast' : ls[ls.length - 1]'(by omega) = ah := by
        have := hlast hl1
        rw [List.getElem?_eq_getElem (by omega)] at this
        simpa using this
       have hk := fun Q hq => ok_loop (Q := Q) (s := s) (e := e) (pl := intSl b (hits c s ah e)) (hv.same ho1) hi hc hcs (H.same ho1) hl1 hlast' hap han (by omega) hln hq
       simp only [envK] at hk
       simp [c44_l8, c44_r8, c44_r9, c44_r10, c44_r11, c44_r12, c44_r13, len1, alenS, hle, hle', a5, b5, e1, f5, f6, hlen, hl1]
       refine hk _ fun h2 o2 => ?_
       cases hbe : behindB c e ah with
       | false =>
        have hn := no h2 (o1.trans o2) (by simp [hitB, hat, hr, hbe])
        simp only [envM] at hn
        simp [c44_r17, c44_r18, c44_r9, hwr]
        exact ⟨s.length + 1 - (e + 1), by omega, by simpa using hn⟩
       | true =>
        obtain ⟨δ, h4, g1, g2, g3⟩ := yes h2 (o1.trans o2) (by simp [hitB, hat, hr, hbe])
        simp only [envM] at g3
        simp [c44_r17, c44_r18, c44_r9, hwr, abuildSlice, afill, zeros, g1, g2]
        exact ⟨s.length + 1 - (e + 1), by omega, by simpa using g3⟩
 · have : e = s.length + 1 := by omega
   subst this
   have hle : ¬ (((s.length + 1 : Nat) : Int) ≤ s.length) := by omega
   have hn := hq b h ho hb
   simp only [envM] at hn
   have hle' : ¬ ((s.length : Int) + 1 ≤ s.length) := by omega
   simp [c44_l8, c44_r8, len1, alenS, hle']
   simpa using hn
theorem neverFrom_none {s : Txt} {l : List Cont} : ∀ {n e : Nat}, neverFrom s l e n = none ↔ ∀ x, e ≤ x → x < e + n → neverAt s l x = false
 | 0, e => by simp [neverFrom]; intro x h1 h2; omega
 | n + 1, e => by
  simp only [neverFrom]
  by_cases h : neverAt s l e = true
  · rw [if_pos h]
    constructor
    · intro hx; simp at hx
    · intro hx; have := hx e (by omega) (by omega); rw [h] at this; simp at this
  · rw [if_neg h, neverFrom_none (n := n)]
    have h' : neverAt s l e = false := by simpa using h
    constructor
    · intro hx x h1 h2
      by_cases he : x = e
      · subst he; exact h'
      · exact hx x (by omega) (by omega)
    · intro hx x h1 h2
      exact hx x (by omega) (by omega)
theorem neverC_none {s : Txt} {l : List Cont} : neverC l s = none ↔ ∀ x, x ≤ s.length → neverAt s l x = false := by
 rw [neverC, neverFrom_none]
 constructor
 · intro h x hx; exact h x (by omega) (by omega)
 · intro h x _ hx; exact h x (by omega)
theorem SlC.cells {h : Heap} {b : Nat} {e : TypeId} {g : Bool} {l : List Cont} (hl : l ≠ []) (hb : h[b]? = some (.cells (l.flatMap contCell) e g)) : SlC h (.sl (some ⟨b, 0, l.length * 8⟩) l.length l.length) l := by
 have hlen : ∀ l : List Cont, (l.flatMap contCell).length = l.length * 8 := by
  intro l
  induction l with
  | nil => rfl
  | cons c r ih => simp only [List.flatMap_cons, List.length_append, ih, List.length_cons]; simp [contCell]; omega
 refine .inr ⟨b, l.length * 8, l.length, l.flatMap contCell, rfl, by simp only [AM.row, look_at, hb]; rw [if_pos (hlen l)], ?_⟩
 have key : ∀ (l : List Cont) i c, l[i]? = some c → ((l.flatMap contCell).drop (i * 8)).take 8 = contCell c := by
  intro l
  induction l with
  | nil => intro i c h; simp at h
  | cons d r ih =>
   intro i c h
   cases i with
   | zero => simp at h; subst h; rfl
   | succ i =>
    have := ih i c (by simpa using h)
    rw [← this, show (i + 1) * 8 = 8 + i * 8 by omega, ← List.drop_drop]
    rfl
 exact key l
abbrev env44 (v : AV) (s : Txt) (all : AV) (i : Nat) : Env := [(0, v), (1, .str s), (5, all), (6, .int .i64 i)]
def Out44 (h₀ : Heap) (s : Txt) (l : List Cont) (v : AV) (m : Nat) (st : St) : Prop :=
 ∃ i B bs h, m = l.length - i ∧ i ≤ l.length ∧ st = ⟨env44 v s (llSl B bs (endsAll (l.take i) s).1) i, h⟩ ∧ LL h₀ h B bs (endsAll (l.take i) s).1 ∧ Only (fun _ => False) h₀ h
theorem ends_doc {h : Heap} {s : Txt} {l : List Cont} {v : AV} (hv : SlC h v l) (hsm : ∀ c ∈ l, c.small) (hsl : s.length ≤ 100000) (hll : l.length ≤ 1000) :
  ∃ h' B bs, D cfg 44 [v, .str s] h = some (llSl B bs (endsAll l s).1, h') ∧ LL h h' B bs (endsAll l s).1 ∧ Only (fun _ => False) h h' := by
 have key : ∃ r h', D cfg 44 [v, .str s] h = some (r, h') ∧ (∃ B bs, r = llSl B bs (endsAll l s).1 ∧ LL h h' B bs (endsAll l s).1 ∧ Only (fun _ => False) h h') := by
  refine call44 (R := fun r h' => ∃ B bs, r = llSl B bs (endsAll l s).1 ∧ LL h h' B bs (endsAll l s).1 ∧ Only (fun _ => False) h h') (args := [v, .str s]) (h := h) (by simp) ?_
  have hlen := fun L => hv.len (L := L)
  have H0 : LL h h 0 [] [] := ⟨rfl, fun e => absurd rfl e, fun i q b hq => by simp at hq⟩
  simp [c44, c44_r0, c44_r1, c44_r2]
  refine Wt.loop (Out44 h s l v) (m := l.length) ⟨0, 0, [], h, rfl, Nat.zero_le _, rfl, H0, .refl⟩ ?_
  rintro m st ⟨i, B, bs, h1, rfl, hi, rfl, H, ho⟩
  obtain ⟨ls, hls⟩ : ∃ ls, ls = (endsAll (l.take i) s).1 := ⟨_, rfl⟩
  obtain ⟨ah, hah⟩ : ∃ ah, ah = (endsAll (l.take i) s).2 := ⟨_, rfl⟩
  obtain ⟨ok1, ok2, ok3, ok4⟩ := endsAll_ok (l := l.take i) (s := s)
  obtain ⟨la0, la1⟩ := endsAll_last (l := l.take i) (s := s)
  rw [← hah] at ok1 ok2
  rw [← hls] at ok3 la0 la1
  rw [← hah] at la0 la1
  rw [← hls] at H ⊢
  have ok3' : ls.length ≤ l.length := by have : (l.take i).length ≤ l.length := (by simp; omega); omega
  have hcut : cut (some [0, 1, 5, 6]) (env44 v s (llSl B bs ls) i) = env44 v s (llSl B bs ls) i := by simp
  simp only [hcut]
  by_cases hil : i < l.length
  · have hil' : (i : Int) < l.length := by omega
    obtain ⟨c, hc⟩ : ∃ c, c = l[i] := ⟨_, rfl⟩
    have hcs : c.small := hsm c (by rw [hc]; exact List.getElem_mem hil)
    have a1 := hv.at hil
    obtain ⟨p2, p5, f2, _, ff⟩ := hv.fields hil
    have f6 := (ff h1 ho).1
    rw [← hc] at f6
    have hwr : IntKind.wrap .i64 ((i : Int) + 1) = i + 1 := wrap_i64 (by omega) (by omega)
    have hstep := endsAll_step (s := s) hil
    rw [← hc] at hstep
    cases hnot : c.not with
    | true =>
     rw [hnot] at f6
     have hst : endsAll (l.take (i + 1)) s = (ls, ah) := by rw [hstep, endsStep, if_pos hnot, hls, hah]
     have hnext : Out44 h s l v (l.length - (i + 1)) ⟨env44 v s (llSl B bs ls) (i + 1), h1⟩ := ⟨i + 1, B, bs, h1, rfl, hil, by rw [hst], by rw [hst]; exact H, ho⟩
     simp only [env44] at hnext
     simp [c44_l3, c44_r3, c44_r4, c44_r5, len1, hlen, hil, hil', a1, f2, f6, hwr]
     exact ⟨l.length - (i + 1), by omega, by simpa using hnext⟩
    | false =>
     rw [hnot] at f6
     have hst : endsAll (l.take (i + 1)) s = (ls ++ [hits c s ah (s.length + 1)], hits c s ah (s.length + 1)) := by rw [hstep, endsStep, hnot, hls, hah]; simp
     have hin := fun Q hq => ref_inner (Q := Q) (hv.same ho) hil hc hcs H la0 la1 (fun p hp => by have := ok1 p hp; omega) (by omega) (by omega) hsl hll hq
     simp only [envM] at hin
     simp at hin
     simp [c44_l3, c44_r3, c44_r4, c44_r5, c44_r6, c44_r7, len1, hlen, hil, hil', a1, f2, f6]
     refine hin _ fun b h2 o2 hb => ?_
     obtain ⟨δ, h3, B', e1, e2, e3, e4, e5⟩ := append_sl (h := h2) (H.same o2) (b := b) (l := hits c s ah (s.length + 1)) (fun hne => ⟨(hb hne).1, by have := (hb hne).2; have := ho.1; omega, fun hl e => by
      have h9 := lt_of_at (H.top hl).1
      have := (hb hne).2
      omega⟩) (by have := ho.1; have := o2.1; omega) (by omega)
     have hnext : Out44 h s l v (l.length - (i + 1)) ⟨env44 v s (llSl B' (bs ++ [b]) (ls ++ [hits c s ah (s.length + 1)])) (i + 1), h3⟩ := by
      refine ⟨i + 1, B', bs ++ [b], h3, rfl, hil, by rw [hst], by rw [hst]; exact e3, (ho.trans o2).fresh e4 fun x hx => by rw [hx.1]; exact (H.top hx.2).2⟩
     simp only [env44] at hnext
     simp [c44_r19, build_sl, e1, e2, hwr]
     exact ⟨l.length - (i + 1), by omega, by simpa using hnext⟩
  · have : i = l.length := by omega
    subst this
    rw [List.take_length] at hls
    subst hls
    have hfin : ∃ B' bs', llSl B bs (endsAll l s).1 = llSl B' bs' (endsAll l s).1 ∧ LL h h1 B' bs' (endsAll l s).1 ∧ Only (fun _ => False) h h1 := ⟨B, bs, rfl, H, ho⟩
    simp [c44_l3, c44_r3, c44_r20, len1, hlen]
    exact ⟨bufSl_nt, hfin⟩
 obtain ⟨r, h', h1, B, bs, rfl, h2⟩ := key
 exact ⟨h', B, bs, h1, h2⟩
def quietC (c : Cont) (s : Txt) (n : Nat) : Bool := (List.range n).all fun e => !(c.not && endsAt c s e)
def quiet (l : List Cont) (s : Txt) : Bool := l.all fun c => quietC c s (s.length + 1)
theorem quietC_step {c : Cont} {s : Txt} {n : Nat} (h : quietC c s n = true) : quietC c s (n + 1) = !(c.not && endsAt c s n) := by
 simp only [quietC] at h ⊢
 rw [List.range_succ, List.all_append, h]
 simp
theorem quiet_none {l : List Cont} {s : Txt} : quiet l s = (neverC l s).isNone := by
 rw [Bool.eq_iff_iff]
 have h1 : (neverC l s).isNone = true ↔ neverC l s = none := Option.isNone_iff_eq_none
 rw [h1, neverC_none]
 simp only [quiet, quietC, List.all_eq_true, List.mem_range, neverAt, List.any_eq_false]
 constructor
 · intro h x hx c hc hx2
   have := h c hc x (by omega)
   rw [hx2] at this
   simp at this
 · intro h c hc x hx
   have := h x (by omega) c hc
   cases hy : (c.not && endsAt c s x) with
   | false => rfl
   | true => exact absurd hy this
abbrev env99 (v : AV) (s : Txt) (i : Nat) : Env := [(0, v), (1, .str s), (5, .int .i64 i)]
abbrev env99i (v : AV) (s : Txt) (i e : Nat) : Env := [(0, v), (1, .str s), (5, .int .i64 i), (6, .int .i64 e)]
def In99 (hs : Heap) (v : AV) (s : Txt) (i : Nat) (c : Cont) (m : Nat) (st : St) : Prop :=
 ∃ e h, m = s.length + 1 - e ∧ e ≤ s.length + 1 ∧ quietC c s e = true ∧ st = ⟨env99i v s i e, h⟩ ∧ Only (fun _ => False) hs h
theorem never99_inner {hs : Heap} {s : Txt} {l : List Cont} {v : AV} {i : Nat} {c : Cont} (hv : SlC hs v l) (hi : i < l.length) (hc : c = l[i]) (hcs : c.small) (hsl : s.length ≤ 100000) (hll : l.length ≤ 1000) {Q : AExit → St → Prop}
  (hret : quietC c s (s.length + 1) = false → ∀ h, Only (fun _ => False) hs h → Q .ret ⟨[(4, .bool false)], h⟩)
  (hq : quietC c s (s.length + 1) = true → ∀ h e, Only (fun _ => False) hs h → Q (.exit 2) ⟨env99i v s i e ++ [(23, .bool false)], h⟩) :
  Wt Try.prog (D cfg) (.loop c99_l5 (some [0, 1, 5, 6])) ⟨env99i v s i 0, hs⟩ Q := by
 refine Wt.loop (In99 hs v s i c) (m := s.length + 1) ⟨0, hs, rfl, Nat.zero_le _, rfl, rfl, .refl⟩ ?_
 rintro m st ⟨e, h, rfl, he, hqe, rfl, ho⟩
 have hcut : cut (some [0, 1, 5, 6]) (env99i v s i e) = env99i v s i e := by simp
 simp only [hcut]
 have a1 := hv.at hi
 obtain ⟨p2, p5, f2, _, ff⟩ := hv.fields hi
 have f6 := (ff h ho).1
 rw [← hc] at f6
 have b1 := (hv.same ho).load hi
 rw [← hc] at b1
 by_cases hes : e < s.length + 1
 · have hle : (e : Int) ≤ s.length := by omega
   have hle' : e ≤ s.length := by omega
   have hwr : IntKind.wrap .i64 ((e : Int) + 1) = e + 1 := wrap_i64 (by omega) (by omega)
   cases hnot : c.not with
   | false =>
    rw [hnot] at f6
    have hquiet : quietC c s (s.length + 1) = true := by simp [quietC, hnot]
    have hn := hq hquiet h e ho
    simp only [env99i] at hn
    simp [c99_l5, c99_r5, len1, alenS, hle, hle', a1, f2, f6]
    simpa using hn
   | true =>
    rw [hnot] at f6
    obtain ⟨h1, e1, o1⟩ := ends_ref (h := h) hcs (s := s) (e := e) (by omega) (by omega)
    have hst := quietC_step hqe
    cases hat : endsAt c s e with
    | false =>
     rw [hat] at e1
     have hnext : In99 hs v s i c (s.length + 1 - (e + 1)) ⟨env99i v s i (e + 1), h1⟩ := ⟨e + 1, h1, rfl, hes, by rw [hst, hat]; simp, rfl, ho.trans o1⟩
     simp only [env99i] at hnext
     simp [c99_l5, c99_r5, c99_r6, c99_r7, c99_r8, len1, alenS, hle, hle', a1, f2, f6, b1, e1, hwr]
     exact ⟨s.length + 1 - (e + 1), by omega, by simpa using hnext⟩
    | true =>
     rw [hat] at e1
     have hloud : quietC c s (s.length + 1) = false := by
      cases hx : quietC c s (s.length + 1) with
      | false => rfl
      | true =>
       simp only [quietC, List.all_eq_true, List.mem_range] at hx
       have := hx e hes
       simp [hnot, hat] at this
     have hn := hret hloud h1 (ho.trans o1)
     simp [c99_l5, c99_r5, c99_r6, c99_r7, c99_r8, len1, alenS, hle, hle', a1, f2, f6, b1, e1]
     simpa using hn
 · have : e = s.length + 1 := by omega
   subst this
   have hle' : ¬ ((s.length : Int) + 1 ≤ s.length) := by omega
   have hn := hq hqe h (s.length + 1) ho
   simp only [env99i] at hn
   simp [c99_l5, c99_r5, len1, alenS, hle']
   simpa using hn
def Out99 (h₀ : Heap) (s : Txt) (l : List Cont) (v : AV) (m : Nat) (st : St) : Prop :=
 ∃ i h, m = l.length - i ∧ i ≤ l.length ∧ quiet (l.take i) s = true ∧ st = ⟨env99 v s i, h⟩ ∧ Only (fun _ => False) h₀ h
theorem never_doc {h : Heap} {s : Txt} {l : List Cont} {v : AV} (hv : SlC h v l) (hsm : ∀ c ∈ l, c.small) (hsl : s.length ≤ 100000) (hll : l.length ≤ 1000) :
  ∃ h', D cfg 99 [v, .str s] h = some (.bool (quiet l s), h') ∧ Only (fun _ => False) h h' := by
 have key : ∃ r h', D cfg 99 [v, .str s] h = some (r, h') ∧ (r = .bool (quiet l s) ∧ Only (fun _ => False) h h') := by
  refine call99 (R := fun r h' => r = .bool (quiet l s) ∧ Only (fun _ => False) h h') (args := [v, .str s]) (h := h) (by simp) ?_
  have hlen := fun L => hv.len (L := L)
  simp [c99, c99_r0, c99_r1]
  refine Wt.loop (Out99 h s l v) (m := l.length) ⟨0, h, rfl, Nat.zero_le _, rfl, rfl, .refl⟩ ?_
  rintro m st ⟨i, h1, rfl, hi, hqt, rfl, ho⟩
  have hcut : cut (some [0, 1, 5]) (env99 v s i) = env99 v s i := by simp
  simp only [hcut]
  by_cases hil : i < l.length
  · have hil' : (i : Int) < l.length := by omega
    obtain ⟨c, hc⟩ : ∃ c, c = l[i] := ⟨_, rfl⟩
    have hcs : c.small := hsm c (by rw [hc]; exact List.getElem_mem hil)
    have hwr : IntKind.wrap .i64 ((i : Int) + 1) = i + 1 := wrap_i64 (by omega) (by omega)
    have hst : quiet (l.take (i + 1)) s = quietC c s (s.length + 1) := by
     simp only [quiet] at hqt ⊢
     rw [List.take_succ_eq_append_getElem hil, List.all_append, hqt, ← hc]
     simp
    have hin := fun Q hr hq => never99_inner (Q := Q) (hv.same ho) hil hc hcs hsl hll hr hq
    simp only [env99i] at hin
    simp at hin
    simp [c99_l2, c99_r2, c99_r4, len1, hlen, hil, hil']
    refine hin _ (fun hloud h2 o2 => ?_) (fun hquiet h2 e o2 => ?_)
    · have hq : quiet l s = false := by
       cases hx : quiet l s with
       | false => rfl
       | true =>
        simp only [quiet, List.all_eq_true] at hx
        have := hx c (by rw [hc]; exact List.getElem_mem hil)
        rw [hloud] at this
        simp at this
      simp [hq]
      exact ho.trans o2
    · have hnext : Out99 h s l v (l.length - (i + 1)) ⟨env99 v s (i + 1), h2⟩ := ⟨i + 1, h2, rfl, hil, by rw [hst, hquiet], rfl, ho.trans o2⟩
      simp only [env99] at hnext
      simp [c99_r3, hwr]
      exact ⟨l.length - (i + 1), by omega, by simpa using hnext⟩
  · have : i = l.length := by omega
    subst this
    rw [List.take_length] at hqt
    simp [c99_l2, c99_r2, c99_r9, len1, hlen, hqt]
    exact ho
 obtain ⟨r, h', h1, rfl, h2⟩ := key
 exact ⟨h', h1, h2⟩
abbrev env48 (v : AV) (s : Txt) (out : AV) (i : Nat) : Env := [(0, v), (1, .str s), (5, out), (6, .int .i64 i)]
def In48 (v : AV) (s : Txt) (out : AV) (ls : List (List Int)) (h : Heap) (m : Nat) (st : St) : Prop := ∃ i, m = ls.length - i ∧ i ≤ ls.length ∧ noEmpty (ls.take i) = true ∧ st = ⟨env48 v s out i, h⟩
theorem holds_doc {h : Heap} {s : Txt} {l : List Cont} {v : AV} (hv : SlC h v l) (hsm : ∀ c ∈ l, c.small) (hsl : s.length ≤ 100000) (hll : l.length ≤ 1000) :
  ∃ h', D cfg 48 [v, .str s] h = some (.bool (holdsC l s), h') ∧ Only (fun _ => False) h h' := by
 have key : ∃ r h', D cfg 48 [v, .str s] h = some (r, h') ∧ (r = .bool (holdsC l s) ∧ Only (fun _ => False) h h') := by
  refine call48 (R := fun r h' => r = .bool (holdsC l s) ∧ Only (fun _ => False) h h') (args := [v, .str s]) (h := h) (by simp) ?_
  obtain ⟨h1, B, bs, e1, H1, o1⟩ := ends_doc hv hsm hsl hll
  obtain ⟨ls, hls⟩ : ∃ ls, ls = (endsAll l s).1 := ⟨_, rfl⟩
  obtain ⟨_, _, ok3, _⟩ := endsAll_ok (l := l) (s := s)
  rw [← hls] at e1 H1 ok3
  have hlen := fun L => H1.sl.len (t := 44) (e := 30) (by simp) (L := L)
  have hz : (List.zipWith intSl bs ls).length = ls.length := by simp [H1.len]
  rw [hz] at hlen
  obtain ⟨h2, e2, o2⟩ := never_doc (h := h1) (hv.same o1) hsm hsl hll
  rw [quiet_none] at e2
  obtain ⟨out, hout⟩ : ∃ out, out = llSl B bs ls := ⟨_, rfl⟩
  have hget := fun i hi => H1.get (i := i) hi
  rw [← hout] at e1 hlen hget
  simp [c48, c48_r0, c48_r1, c48_r2, e1]
  refine Wt.loop (In48 v s out ls h1) (m := ls.length) ⟨0, rfl, Nat.zero_le _, rfl, rfl⟩ ?_
  rintro m st ⟨i, rfl, hi, hno, rfl⟩
  have hcut : cut (some [0, 1, 5, 6]) (env48 v s out i) = env48 v s out i := by simp
  simp only [hcut]
  by_cases hil : i < ls.length
  · have hil' : (i : Int) < ls.length := by omega
    have hwr : IntKind.wrap .i64 ((i : Int) + 1) = i + 1 := wrap_i64 (by omega) (by omega)
    obtain ⟨b, a1, b1, _⟩ := hget i hil
    by_cases hne : ls[i] = []
    · have hh : holdsC l s = false := by simp only [holdsC, ← hls, noEmpty_no hil hne]; rfl
      have hl0 : (ls[i].length : Int) = 0 := by rw [hne]; rfl
      have hl0' : ls[i].length = 0 := by rw [hne]; rfl
      simp [c48_l3, c48_r3, c48_r5, c48_r6, hil', hil, a1, b1, len1, hlen, alen_intSl, hl0, hl0', hh, hne]
      exact o1
    · have hl0 : ¬ (ls[i].length = 0) := fun e => hne (List.length_eq_zero_iff.1 e)
      have hl0' : ¬ ((ls[i].length : Int) = 0) := by omega
      have hnext : In48 v s out ls h1 (ls.length - (i + 1)) ⟨env48 v s out (i + 1), h1⟩ := ⟨i + 1, rfl, hil, by rw [noEmpty_step hil hno]; simpa using hne, rfl⟩
      simp only [env48] at hnext
      simp [c48_l3, c48_r3, c48_r4, c48_r5, c48_r6, hil', hil, a1, b1, len1, hlen, alen_intSl, hl0, hl0', hwr, hne]
      exact ⟨ls.length - (i + 1), by omega, by simpa using hnext⟩
  · have : i = ls.length := by omega
    subst this
    rw [List.take_length] at hno
    have hh : holdsC l s = (neverC l s).isNone := by simp only [holdsC, ← hls, hno]; rfl
    simp [c48_l3, c48_r3, c48_r7, len1, hlen, e2, hh]
    exact o1.trans o2
 obtain ⟨r, h', h1, rfl, h2⟩ := key
 exact ⟨h', h1, h2⟩
def upTo (n : Nat) (l : List Int) : List Int := l.filter fun p => decide (p ≤ n)
theorem patAt_take {p s : Txt} {nc : Bool} {e n : Nat} (hn : n ≤ s.length) (he : e ≤ n) : patAt p nc (s.take n) e = patAt p nc s e := by
 simp only [patAt]
 by_cases hp : p.length ≤ e
 · have h1 : List.take p.length (List.drop (e - p.length) (List.take n s)) = List.take p.length (List.drop (e - p.length) s) := by
    rw [List.drop_take, List.take_take]
    congr 1
    omega
   have h2 : e ≤ (s.take n).length := by simp; omega
   have h3 : e ≤ s.length := by omega
   rw [h1, decide_eq_true h2, decide_eq_true h3]
 · simp [hp]
theorem endsAt_take {c : Cont} {s : Txt} {e n : Nat} (hn : n ≤ s.length) (he : e ≤ n) : endsAt c (s.take n) e = endsAt c s e := by
 simp only [endsAt, patAt_take hn he]
theorem behind_upTo {c : Cont} {e n : Nat} {ah : List Int} (he : e ≤ n) : behindB c e (upTo n ah) = behindB c e ah := by
 rw [Bool.eq_iff_iff]
 simp only [behindB, upTo, List.any_eq_true, List.mem_filter, decide_eq_true_eq]
 constructor
 · rintro ⟨p, ⟨h1, _⟩, h2⟩
   exact ⟨p, h1, h2⟩
 · rintro ⟨p, h1, h2⟩
   refine ⟨p, ⟨h1, ?_⟩, h2⟩
   simp only [followsB, Bool.and_eq_true, decide_eq_true_eq] at h2
   have := h2.1.1
   omega
theorem hits_take {c : Cont} {s : Txt} {ah : List Int} {n : Nat} (hn : n ≤ s.length) : ∀ k, k ≤ n + 1 → hits c (s.take n) (upTo n ah) k = hits c s ah k
 | 0, _ => rfl
 | k + 1, h => by
  have h1 : hitB c (s.take n) (upTo n ah) k = hitB c s ah k := by simp only [hitB, endsAt_take hn (show k ≤ n by omega), behind_upTo (c := c) (ah := ah) (show k ≤ n by omega)]
  simp only [hits, h1, hits_take hn k (by omega)]
theorem hits_upTo {c : Cont} {s : Txt} {ah : List Int} {n : Nat} : ∀ m, upTo n (hits c s ah m) = hits c s ah (min m (n + 1))
 | 0 => by simp [hits, upTo]
 | m + 1 => by
  have ih := hits_upTo (c := c) (s := s) (ah := ah) (n := n) m
  by_cases h : m ≤ n
  · have e1 : min (m + 1) (n + 1) = min m (n + 1) + 1 := by omega
    have e2 : min m (n + 1) = m := by omega
    rw [e1, e2]
    rw [e2] at ih
    simp only [hits]
    split
    · simp only [upTo, List.filter_append] at ih ⊢
      rw [ih]
      simp
      omega
    · exact ih
  · have e1 : min (m + 1) (n + 1) = min m (n + 1) := by omega
    rw [e1, ← ih]
    simp only [hits]
    split
    · simp only [upTo, List.filter_append]
      simp
      omega
    · rfl
theorem endsAll_take {l : List Cont} {s : Txt} {n : Nat} (hn : n ≤ s.length) : endsAll l (s.take n) = ((endsAll l s).1.map (upTo n), upTo n (endsAll l s).2) := by
 have hlen : (s.take n).length = n := by simp; omega
 have key : ∀ k (l : List Cont), l.length = k → endsAll l (s.take n) = ((endsAll l s).1.map (upTo n), upTo n (endsAll l s).2) := by
  intro k
  induction k with
  | zero =>
   intro l h
   have : l = [] := List.length_eq_zero_iff.1 h
   subst this
   rfl
  | succ k ih =>
   intro l h
   rcases List.eq_nil_or_concat l with e | ⟨q, c, e⟩
   · subst e; simp at h
   · have e' : l = q ++ [c] := by simpa using e
     subst e'
     simp at h
     have hst : ∀ s, endsAll (q ++ [c]) s = endsStep s (endsAll q s) c := fun s => by simp only [endsAll, List.foldl_append, List.foldl_cons, List.foldl_nil]
     rw [hst, hst, ih q h]
     unfold endsStep
     cases c.not with
     | true => rfl
     | false =>
      have h1 : hits c (s.take n) (upTo n (endsAll q s).2) ((s.take n).length + 1) = upTo n (hits c s (endsAll q s).2 (s.length + 1)) := by
       rw [hlen, hits_take hn (n + 1) (Nat.le_refl _), hits_upTo]
       congr 1
       omega
      simp only [Bool.false_eq_true, if_false, h1, List.map_append, List.map_cons, List.map_nil]
 exact key _ l rfl
theorem hits_head {c : Cont} {s : Txt} {ah : List Int} : ∀ {n : Nat}, ∀ p ∈ hits c s ah n, (hits c s ah n).headD 0 ≤ p
 | 0, p, hp => by simp [hits] at hp
 | n + 1, p, hp => by
  simp only [hits] at hp ⊢
  split at hp
  · rename_i hh
    rw [if_pos hh]
    cases hx : hits c s ah n with
    | nil =>
     rw [hx] at hp
     simp at hp
     subst hp
     simp
    | cons a r =>
     have ih := hits_head (c := c) (s := s) (ah := ah) (n := n)
     have hr := hits_range (c := c) (s := s) (ahead := ah) (n := n)
     rw [hx] at hp ih hr
     simp only [List.cons_append, List.headD_cons] at ih ⊢
     rcases List.mem_append.1 hp with hp | hp
     · exact ih p hp
     · simp at hp
       subst hp
       have := hr a (List.mem_cons_self ..)
       omega
  · rename_i hh
    rw [if_neg hh]
    exact hits_head p hp
def posTo (l : List Cont) : Nat → List (Nat × Cont)
 | 0 => []
 | k + 1 => match l[k]? with
  | some c => if c.not then posTo l k else posTo l k ++ [(k, c)]
  | none => posTo l k
def relW (c : Cont) : Bool := c.rel && decide (0 < c.within)
def nextP (P : List (Nat × Cont)) (j : Nat) : Option Cont := (P[j + 1]?).map fun x => x.2
def leastOf : Option Cont → Bool
 | none => true
 | some c => !relW c
def byOf : Option Cont → Int
 | none => 0
 | some c => if relW c then c.distance + c.within else 0
def partS (x : Nat × Cont) (nx : Option Cont) (first : Bool) (kept : List Int) (so : Bool) : PS := ⟨x.2, x.1, first, byOf nx, leastOf nx, kept, so⟩
theorem posTo_mem {l : List Cont} {x : Nat × Cont} : ∀ {k : Nat}, x ∈ posTo l k → l[x.1]? = some x.2 ∧ x.2.not = false ∧ x.1 < k
 | 0, h => by simp [posTo] at h
 | k + 1, h => by
  simp only [posTo] at h
  split at h
  · rename_i c hc
    split at h
    · have := posTo_mem h
      exact ⟨this.1, this.2.1, by omega⟩
    · rename_i hn
      rcases List.mem_append.1 h with h | h
      · have := posTo_mem h
        exact ⟨this.1, this.2.1, by omega⟩
      · simp at h
        subst h
        exact ⟨hc, by simpa using hn, by simp⟩
  · have := posTo_mem h
    exact ⟨this.1, this.2.1, by omega⟩
theorem newTo_parts {l : List Cont} {most : Nat} : ∀ {k : Nat}, (newTo l most k).parts.length = (posTo l k).length ∧ ∀ (j : Nat) (x : Nat × Cont), (posTo l k)[j]? = some x → (newTo l most k).parts[j]? = some (partS x (nextP (posTo l k) j) (decide (j = 0)) [] false)
 | 0 => ⟨rfl, fun j x h => by simp [posTo] at h⟩
 | k + 1 => by
  obtain ⟨ih1, ih2⟩ := newTo_parts (l := l) (most := most) (k := k)
  simp only [newTo, posTo]
  cases hc : l[k]? with
  | none => exact ⟨ih1, ih2⟩
  | some c =>
   simp only []
   by_cases hn : c.not = true
   · rw [if_pos hn]
     simp only [addT, hn, if_true]
     exact ⟨ih1, ih2⟩
   · rw [if_neg hn]
     obtain ⟨T, hT⟩ : ∃ T, newTo l most k = T := ⟨_, rfl⟩
     obtain ⟨P, hP⟩ : ∃ P, posTo l k = P := ⟨_, rfl⟩
     rw [hT, hP] at ih1 ih2
     rw [hT, hP]
     have hadd : (addT T k c).parts = relL c T.parts ++ [newPS c k (decide (T.parts.length = 0))] := by simp only [addT, hn]; simp
     rw [hadd]
     refine ⟨by simp [relL_len, ih1], fun j x hx => ?_⟩
     by_cases hj : j < P.length
     · rw [List.getElem?_append_left hj] at hx
       have h1 := ih2 j x hx
       rw [List.getElem?_append_left (by rw [relL_len, ih1]; exact hj)]
       by_cases hl : j + 1 < P.length
       · have hnx : nextP (P ++ [(k, c)]) j = nextP P j := by simp only [nextP]; rw [List.getElem?_append_left hl]
         rw [hnx, ← h1]
         unfold relL
         split
         · split
           · rw [List.getElem?_set_ne (by omega)]
           · rfl
         · rfl
       · have hjl : j + 1 = P.length := by omega
         have hnx : nextP (P ++ [(k, c)]) j = some c := by simp only [nextP]; rw [hjl]; simp
         have hnx0 : nextP P j = none := by simp only [nextP]; rw [List.getElem?_eq_none (by omega)]; rfl
         rw [hnx0] at h1
         rw [hnx]
         have hlast : T.parts.length - 1 = j := by omega
         have hr : relB c T.parts.length = relW c := by
          have : decide (0 < T.parts.length) = true := by simp; omega
          simp only [relB, relW, this, Bool.true_and]
         unfold relL
         rw [hr, hlast]
         cases hw : relW c with
         | true =>
          simp only [if_true, h1]
          rw [List.getElem?_set_self (by omega)]
          simp [relPS, partS, byOf, leastOf, hw]
         | false =>
          simp only [Bool.false_eq_true, if_false, h1]
          simp [partS, byOf, leastOf, hw]
     · have hjl : j = P.length := by
        have := (List.getElem?_eq_some_iff.1 hx).1
        simp at this
        omega
       subst hjl
       simp at hx
       subst hx
       rw [List.getElem?_append_right (by rw [relL_len, ih1]; exact Nat.le_refl _), relL_len, ih1]
       have hnx : nextP (P ++ [(k, c)]) P.length = none := by simp [nextP]
       rw [hnx]
       simp [newPS, partS, byOf, leastOf]
theorem newTo_nots {l : List Cont} {most : Nat} {q : PS} : ∀ {k : Nat}, q ∈ (newTo l most k).nots ↔ ∃ i c, i < k ∧ l[i]? = some c ∧ c.not = true ∧ q = notPS c i
 | 0 => by simp [newTo]
 | k + 1 => by
  have ih := newTo_nots (l := l) (most := most) (q := q) (k := k)
  have hmono : (∃ i c, i < k + 1 ∧ l[i]? = some c ∧ c.not = true ∧ q = notPS c i) ↔ (∃ i c, i < k ∧ l[i]? = some c ∧ c.not = true ∧ q = notPS c i) ∨ ∃ c, l[k]? = some c ∧ c.not = true ∧ q = notPS c k := by
   constructor
   · rintro ⟨i, c, h1, h2, h3, h4⟩
     by_cases hik : i = k
     · subst hik; exact .inr ⟨c, h2, h3, h4⟩
     · exact .inl ⟨i, c, by omega, h2, h3, h4⟩
   · rintro (⟨i, c, h1, h2, h3, h4⟩ | ⟨c, h2, h3, h4⟩)
     · exact ⟨i, c, by omega, h2, h3, h4⟩
     · exact ⟨k, c, by omega, h2, h3, h4⟩
  rw [hmono]
  simp only [newTo]
  split
  · rename_i c hc
    by_cases hn : c.not = true
    · simp only [addT, hn, if_true, List.mem_append, List.mem_singleton, ih]
      constructor
      · rintro (h | h)
        · exact .inl h
        · exact .inr ⟨c, hc, hn, h⟩
      · rintro (h | ⟨c', h1, _, h3⟩)
        · exact .inl h
        · rw [hc] at h1; cases h1; exact .inr h3
    · simp only [addT, hn, Bool.false_eq_true, if_false, ih]
      constructor
      · exact .inl
      · rintro (h | ⟨c', h1, h2, _⟩)
        · exact h
        · rw [hc] at h1; cases h1; exact absurd h2 hn
  · rename_i hc
    rw [ih]
    constructor
    · exact .inl
    · rintro (h | ⟨c', h1, _, _⟩)
      · exact h
      · rw [hc] at h1; cases h1
def eAt (P : List (Nat × Cont)) (s : Txt) : Nat → List Int
 | 0 => match P[0]? with
  | some x => hits x.2 s [] (s.length + 1)
  | none => []
 | j + 1 => match P[j + 1]? with
  | some x => hits x.2 s (eAt P s j) (s.length + 1)
  | none => []
def prevE (P : List (Nat × Cont)) (s : Txt) : Nat → List Int
 | 0 => []
 | j + 1 => eAt P s j
theorem eAt_some {P : List (Nat × Cont)} {s : Txt} {j : Nat} {x : Nat × Cont} (h : P[j]? = some x) : eAt P s j = hits x.2 s (prevE P s j) (s.length + 1) := by
 cases j with
 | zero => simp only [eAt, prevE, h]
 | succ j => simp only [eAt, prevE, h]
theorem eAt_app {P Q : List (Nat × Cont)} {s : Txt} : ∀ {j : Nat}, j < P.length → eAt (P ++ Q) s j = eAt P s j
 | 0, h => by simp only [eAt]; rw [List.getElem?_append_left h]
 | j + 1, h => by
  simp only [eAt]
  rw [List.getElem?_append_left h, eAt_app (by omega)]
theorem endsAll_pos {l : List Cont} {s : Txt} : ∀ {k : Nat}, k ≤ l.length → endsAll (l.take k) s = ((List.range (posTo l k).length).map (eAt (posTo l k) s), prevE (posTo l k) s (posTo l k).length)
 | 0, _ => by simp [endsAll, posTo, prevE]
 | k + 1, h => by
  have ih := endsAll_pos (l := l) (s := s) (k := k) (by omega)
  have hk : l[k]? = some l[k] := List.getElem?_eq_getElem (by omega)
  rw [endsAll_step (by omega), ih]
  simp only [posTo, hk, endsStep]
  obtain ⟨P, hP⟩ : ∃ P, posTo l k = P := ⟨_, rfl⟩
  rw [hP]
  split
  · rfl
  · have hlast : eAt (P ++ [(k, l[k])]) s P.length = hits l[k] s (prevE P s P.length) (s.length + 1) := by
     rw [eAt_some (x := (k, l[k])) (by simp)]
     congr 1
     cases hp : P.length with
     | zero => rfl
     | succ n => simp only [prevE]; rw [eAt_app (by omega)]
    have hmap : (List.range (P ++ [(k, l[k])]).length).map (eAt (P ++ [(k, l[k])]) s) = (List.range P.length).map (eAt P s) ++ [hits l[k] s (prevE P s P.length) (s.length + 1)] := by
     rw [List.length_append, List.length_singleton, List.range_succ, List.map_append, List.map_singleton, hlast]
     congr 1
     apply List.map_congr_left
     intro j hj
     exact eAt_app (List.mem_range.1 hj)
    rw [hmap]
    congr 1
    rw [List.length_append, List.length_singleton]
    exact hlast.symm
def keptE (nx : Option Cont) (U : List Int) (n : Int) : List Int := if leastOf nx then U.take 1 else U.filter fun a => decide (n < a + byOf nx)
def stepsOf (l : List Cont) (s : Txt) (n : Nat) : List Bool := l.map fun c => patAt c.bytes c.nocase s n
theorem stepsOf_nth {l : List Cont} {s : Txt} {n i : Nat} {c : Cont} (h : l[i]? = some c) : nth (stepsOf l s n) i = patAt c.bytes c.nocase s n := by simp [nth, stepsOf, h]
abbrev posA (l : List Cont) : List (Nat × Cont) := posTo l l.length
structure InvT (T : TS) (l : List Cont) (s : Txt) (most n : Nat) : Prop where
 at_ : T.at_ = n
 mst : T.most = most
 over : T.over = false
 len : T.parts.length = (posA l).length
 parts : ∀ (j : Nat) (x : Nat × Cont), (posA l)[j]? = some x → T.parts[j]? = some (partS x (nextP (posA l) j) (decide (j = 0)) (keptE (nextP (posA l) j) (upTo n (eAt (posA l) s j)) n) (decide (upTo n (eAt (posA l) s j) ≠ [])))
 nots : T.nots = (newTo l most l.length).nots
 bad : T.bad = (List.range (n + 1)).any (neverAt s l)
theorem patAt_zero {p s : Txt} {nc : Bool} (h : p ≠ []) : patAt p nc s 0 = false := by
 have : ¬ (p.length ≤ 0) := fun e => h (List.length_eq_zero_iff.1 (by omega))
 simp only [patAt, decide_eq_false this, Bool.false_and]
theorem upTo_zero {P : List (Nat × Cont)} {s : Txt} {j : Nat} {x : Nat × Cont} (h : P[j]? = some x) (hb : x.2.bytes ≠ []) : upTo 0 (eAt P s j) = [] := by
 rw [eAt_some h, hits_upTo, show min (s.length + 1) (0 + 1) = 0 + 1 by omega]
 simp only [hits, hitB, endsAt, patAt_zero hb, Bool.false_and, Bool.false_eq_true, if_false]
theorem upTo_step {P : List (Nat × Cont)} {s : Txt} {j n : Nat} {x : Nat × Cont} (h : P[j]? = some x) (hn : n + 1 ≤ s.length) : upTo (n + 1) (eAt P s j) = upTo n (eAt P s j) ++ if hitB x.2 s (prevE P s j) (n + 1) then [((n + 1 : Nat) : Int)] else [] := by
 rw [eAt_some h, hits_upTo, hits_upTo, show min (s.length + 1) (n + 1 + 1) = (n + 1) + 1 by omega, show min (s.length + 1) (n + 1) = n + 1 by omega]
 simp only [hits]
 split <;> simp
theorem upTo_head {P : List (Nat × Cont)} {s : Txt} {j n : Nat} {x : Nat × Cont} (h : P[j]? = some x) : ∀ p ∈ upTo n (eAt P s j), (upTo n (eAt P s j)).headD 0 ≤ p := by
 rw [eAt_some h, hits_upTo]
 exact fun p hp => hits_head p hp
theorem upTo_le {n : Nat} {U : List Int} : ∀ p ∈ upTo n U, p ≤ n := fun p hp => by
 simp only [upTo, List.mem_filter, decide_eq_true_eq] at hp
 exact hp.2
theorem init_inv {l : List Cont} {s : Txt} {most : Nat} (hb : ∀ c ∈ l, c.bytes ≠ []) : InvT (newTo l most l.length) l s most 0 := by
 obtain ⟨h1, h2, h3, h4⟩ := newTo_most (l := l) (most := most) (k := l.length)
 obtain ⟨h5, h6⟩ := newTo_parts (l := l) (most := most) (k := l.length)
 refine ⟨h2, h1, h4, h5, fun j x hx => ?_, rfl, ?_⟩
 · have hm := posTo_mem (List.mem_of_getElem? hx)
   have hz := upTo_zero (s := s) hx (hb _ (List.mem_of_getElem? hm.1))
   rw [h6 j x hx, hz]
   simp [keptE]
 · rw [h3]
   have : neverAt s l 0 = false := by
    simp only [neverAt, List.any_eq_false]
    intro c hc
    simp only [endsAt, patAt_zero (hb c hc), Bool.false_and, Bool.and_false]
    simp
   simp [this]
theorem here_inv {T : TS} {l : List Cont} {s : Txt} {most n : Nat} (I : InvT T l s most n) (hn : n + 1 ≤ s.length) : ∀ (j : Nat) (x : Nat × Cont), (posA l)[j]? = some x → hereN (stepsOf l s (n + 1)) (n + 1) T.parts j = hitB x.2 s (prevE (posA l) s j) (n + 1) := by
 have says : ∀ (j : Nat) (x : Nat × Cont) (nx : Option Cont) (b : Bool) (k : List Int) (so : Bool), (posA l)[j]? = some x → saysB (stepsOf l s (n + 1)) (n + 1) (partS x nx b k so) = endsAt x.2 s (n + 1) := by
  intro j x nx b k so hx
  have hm := posTo_mem (List.mem_of_getElem? hx)
  show (nth (stepsOf l s (n + 1)) x.1 && placed x.2 (n + 1)) = _
  rw [stepsOf_nth hm.1]
  rfl
 intro j
 induction j with
 | zero =>
  intro x hx
  have hp := I.parts 0 x hx
  simp only [hereN, hp, says 0 x _ _ _ _ hx]
  show (endsAt x.2 s (n + 1) && !x.2.rel) = hitB x.2 s [] (n + 1)
  simp [hitB, behindB]
 | succ j ih =>
  intro x hx
  have hlt := (List.getElem?_eq_some_iff.1 hx).1
  obtain ⟨y, hy⟩ : ∃ y, (posA l)[j]? = some y := ⟨_, List.getElem?_eq_getElem (by omega)⟩
  have hp := I.parts (j + 1) x hx
  have hq := I.parts j y hy
  simp only [hereN, hp, hq, says (j + 1) x _ _ _ _ hx, ih y hy]
  have hnx : nextP (posA l) j = some x.2 := by simp only [nextP, hx]; rfl
  rw [hnx]
  obtain ⟨U, hU⟩ : ∃ U, upTo n (eAt (posA l) s j) = U := ⟨_, rfl⟩
  have hhead := upTo_head (s := s) (n := n) hy
  have hul := upTo_le (n := n) (U := eAt (posA l) s j)
  have hst := upTo_step hy hn
  rw [hU] at hhead hst hul
  rw [hU]
  obtain ⟨hr, hhr⟩ : ∃ b, hitB y.2 s (prevE (posA l) s j) (n + 1) = b := ⟨_, rfl⟩
  rw [hhr] at hst ⊢
  show (endsAt x.2 s (n + 1) && (!x.2.rel || afterB x.2 (partS y (some x.2) (decide (j = 0)) (keptE (some x.2) U n) (decide (U ≠ []))) hr ((n + 1 : Nat) : Int))) = hitB x.2 s (eAt (posA l) s j) (n + 1)
  cases hrel : x.2.rel with
  | false => simp [hitB, hrel]
  | true =>
   simp only [hitB, hrel, Bool.not_true, Bool.false_or]
   congr 1
   rw [← behind_upTo (c := x.2) (e := n + 1) (n := n + 1) (Nat.le_refl _), hst]
   have hf : ∀ a : Int, a ≤ ((n + 1 : Nat) : Int) → followsB x.2 a ((n + 1 : Nat) : Int) = followsT x.2 ((n + 1 : Nat) : Int) a := fun a ha => by
    simp only [followsB, followsT, decide_eq_true ha, Bool.true_and]
   have hany : (U.any fun a => followsB x.2 a ((n + 1 : Nat) : Int)) = U.any fun a => followsT x.2 ((n + 1 : Nat) : Int) a := by
    rw [Bool.eq_iff_iff, List.any_eq_true, List.any_eq_true]
    constructor
    · rintro ⟨a, h1, h2⟩; exact ⟨a, h1, by rw [← hf a (by have := hul a h1; omega)]; exact h2⟩
    · rintro ⟨a, h1, h2⟩; exact ⟨a, h1, by rw [hf a (by have := hul a h1; omega)]; exact h2⟩
   have hk : ((keptE (some x.2) U n).any fun a => followsT x.2 ((n + 1 : Nat) : Int) a) = U.any fun a => followsT x.2 ((n + 1 : Nat) : Int) a := by
    unfold keptE
    cases hw : relW x.2 with
    | false =>
     have hl : leastOf (some x.2) = true := by simp [leastOf, hw]
     rw [if_pos hl]
     have hwi : x.2.within ≤ 0 := by
      simp only [relW, hrel, Bool.true_and, decide_eq_false_iff_not] at hw
      omega
     cases U with
     | nil => rfl
     | cons a r =>
      rw [Bool.eq_iff_iff, List.any_eq_true, List.any_eq_true]
      constructor
      · rintro ⟨b, h1, h2⟩
        simp at h1
        exact ⟨b, by simp [h1], h2⟩
      · rintro ⟨b, h1, h2⟩
        have h3 := hhead b h1
        simp only [List.headD_cons] at h3
        refine ⟨a, by simp, ?_⟩
        simp only [followsT, decide_eq_true hwi, Bool.true_or, Bool.and_true, decide_eq_true_eq] at h2 ⊢
        omega
    | true =>
     have hl : ¬ (leastOf (some x.2) = true) := by simp [leastOf, hw]
     rw [if_neg hl]
     have hwi : ¬ (x.2.within ≤ 0) := by
      simp only [relW, hrel, Bool.true_and, decide_eq_true_eq] at hw
      omega
     rw [Bool.eq_iff_iff, List.any_eq_true, List.any_eq_true]
     constructor
     · rintro ⟨b, h1, h2⟩
       exact ⟨b, (List.mem_filter.1 h1).1, h2⟩
     · rintro ⟨b, h1, h2⟩
       refine ⟨b, List.mem_filter.2 ⟨h1, ?_⟩, h2⟩
       simp only [followsT, decide_eq_false hwi, Bool.false_or, Bool.and_eq_true, decide_eq_true_eq] at h2
       simp only [byOf, hw, if_true, decide_eq_true_eq]
       omega
   simp only [afterB, behindB, List.any_append, hany]
   show ((keptE (some x.2) U n).any (fun a => followsT x.2 ((n + 1 : Nat) : Int) a) || (hr && followsT x.2 ((n + 1 : Nat) : Int) ((n + 1 : Nat) : Int))) = _
   rw [hk]
   congr 1
   cases hr with
   | false => rfl
   | true => simp only [if_true, List.any_cons, List.any_nil, Bool.or_false, Bool.true_and]; rw [hf _ (Int.le_refl _)]
theorem keptE_step {nx : Option Cont} {U : List Int} {n : Nat} {hr : Bool} (hul : ∀ p ∈ U, p ≤ (n : Int)) {x : Nat × Cont} {b so : Bool} :
  (partS x nx b (keptE nx U n) so).keep ((n + 1 : Nat) : Int) hr = partS x nx b (keptE nx (U ++ if hr then [((n + 1 : Nat) : Int)] else []) ((n + 1 : Nat) : Int)) (so || hr) := by
 unfold keptE
 cases hl : leastOf nx with
 | true =>
  simp only [if_true, PS.keep, partS, hl]
  cases U with
  | nil => cases hr <;> simp
  | cons a r => cases hr <;> simp
 | false =>
  simp only [Bool.false_eq_true, if_false, PS.keep, partS, hl, keepL, List.filter_append, List.filter_filter]
  congr 1
  congr 1
  · apply List.filter_congr
    intro a ha
    rw [Bool.eq_iff_iff]
    simp only [Bool.and_eq_true, decide_eq_true_eq]
    constructor
    · exact fun h => h.1
    · exact fun h => ⟨h, by omega⟩
  · cases hr with
    | false => simp
    | true =>
     simp only [Bool.true_and, if_true]
     by_cases h : ((n + 1 : Nat) : Int) < ((n + 1 : Nat) : Int) + byOf nx
     · rw [decide_eq_true h, if_pos rfl, List.filter_cons, if_pos (by simpa using h)]
       rfl
     · rw [decide_eq_false h]
       simp only [Bool.false_eq_true, if_false]
       rw [List.filter_cons, if_neg (by simpa using h)]
       rfl
theorem keptTo_get {n : Nat} {hn : Nat → Bool} {ps : List PS} {j : Nat} {p : PS} (hp : ps[j]? = some p) : ∀ {k : Nat}, j < k → (keptTo n hn ps k)[j]? = some (p.keep n (hn j))
 | 0, h => by omega
 | k + 1, h => by
  have hjl := (List.getElem?_eq_some_iff.1 hp).1
  simp only [keptTo]
  by_cases hjk : j = k
  · subst hjk
    simp only [hp]
    rw [List.getElem?_set_self (by rw [keptTo_len]; exact hjl)]
  · have ih := keptTo_get (n := n) (hn := hn) hp (k := k) (by omega)
    split
    · rw [List.getElem?_set_ne (by omega), ih]
    · exact ih
theorem overTo_any {n most : Nat} {hn : Nat → Bool} {ps : List PS} {o : Bool} : ∀ {k : Nat}, k ≤ ps.length → (overTo n most hn ps o k = true ↔ o = true ∨ ∃ j p, j < k ∧ ps[j]? = some p ∧ most < (p.keep n (hn j)).kept.length)
 | 0, _ => by simp [overTo]
 | k + 1, h => by
  have ih := overTo_any (n := n) (most := most) (hn := hn) (ps := ps) (o := o) (k := k) (by omega)
  have hk : ps[k]? = some ps[k] := List.getElem?_eq_getElem (by omega)
  simp only [overTo, hk, Bool.or_eq_true, ih, decide_eq_true_eq]
  constructor
  · rintro ((h | ⟨j, p, h1, h2, h3⟩) | h)
    · exact .inl h
    · exact .inr ⟨j, p, by omega, h2, h3⟩
    · exact .inr ⟨k, ps[k], by omega, hk, h⟩
  · rintro (h | ⟨j, p, h1, h2, h3⟩)
    · exact .inl (.inl h)
    · by_cases hj : j = k
      · subst hj; rw [hk] at h2; cases h2; exact .inr h3
      · exact .inl (.inr ⟨j, p, by omega, h2, h3⟩)
theorem badTo_any {ends : List Bool} {n : Nat} {ns : List PS} {b : Bool} : ∀ {k : Nat}, k ≤ ns.length → badTo ends n ns b k = (b || (ns.take k).any (saysB ends n))
 | 0, _ => by simp [badTo]
 | k + 1, h => by
  have ih := badTo_any (ends := ends) (n := n) (ns := ns) (b := b) (k := k) (by omega)
  have hk : ns[k]? = some ns[k] := List.getElem?_eq_getElem (by omega)
  simp only [badTo, hk, ih]
  rw [List.take_succ_eq_append_getElem (by omega), List.any_append, Bool.or_assoc]
  simp
def keptD (l : List Cont) (s : Txt) (n : Nat) : List Int := (List.range (posA l).length).map fun j => ((keptE (nextP (posA l) j) (upTo n (eAt (posA l) s j)) n).length : Int)
def overD (l : List Cont) (most : Nat) (s : Txt) (n : Nat) : Bool := (keptD l s n).any fun k => decide ((most : Int) < k)
theorem nots_says {l : List Cont} {s : Txt} {most n : Nat} : (newTo l most l.length).nots.any (saysB (stepsOf l s (n + 1)) (n + 1)) = neverAt s l (n + 1) := by
 rw [Bool.eq_iff_iff, List.any_eq_true, neverAt, List.any_eq_true]
 constructor
 · rintro ⟨q, h1, h2⟩
   obtain ⟨i, c, _, h4, h5, rfl⟩ := newTo_nots.1 h1
   refine ⟨c, List.mem_of_getElem? h4, ?_⟩
   have h6 : (nth (stepsOf l s (n + 1)) i && placed c (n + 1)) = true := h2
   rw [stepsOf_nth h4] at h6
   rw [h5, Bool.true_and]
   exact h6
 · rintro ⟨c, h1, h2⟩
   obtain ⟨i, hi, rfl⟩ := List.getElem_of_mem h1
   have h4 : l[i]? = some l[i] := List.getElem?_eq_getElem hi
   simp only [Bool.and_eq_true] at h2
   refine ⟨notPS l[i] i, newTo_nots.2 ⟨i, l[i], hi, h4, h2.1, rfl⟩, ?_⟩
   show (nth (stepsOf l s (n + 1)) i && placed l[i] (n + 1)) = true
   rw [stepsOf_nth h4]
   exact h2.2
theorem step_inv {T : TS} {l : List Cont} {s : Txt} {most n : Nat} (I : InvT T l s most n) (hn : n + 1 ≤ s.length) :
  (stepT T (stepsOf l s (n + 1))).over = overD l most s (n + 1) ∧ (overD l most s (n + 1) = false → InvT (stepT T (stepsOf l s (n + 1))) l s most (n + 1)) := by
 have hh := here_inv I hn
 have hkeep : ∀ (j : Nat) (x : Nat × Cont), (posA l)[j]? = some x → ∃ p, T.parts[j]? = some p ∧ p.keep ((n + 1 : Nat) : Int) (hereN (stepsOf l s (n + 1)) (n + 1) T.parts j) = partS x (nextP (posA l) j) (decide (j = 0)) (keptE (nextP (posA l) j) (upTo (n + 1) (eAt (posA l) s j)) ((n + 1 : Nat) : Int)) (decide (upTo (n + 1) (eAt (posA l) s j) ≠ [])) := by
  intro j x hx
  refine ⟨_, I.parts j x hx, ?_⟩
  rw [hh j x hx, keptE_step upTo_le, upTo_step hx hn]
  congr 1
  rw [Bool.eq_iff_iff]
  simp only [Bool.or_eq_true, decide_eq_true_eq]
  cases hitB x.2 s (prevE (posA l) s j) (n + 1) <;> simp
 have hst : stepT T (stepsOf l s (n + 1)) = { T with at_ := n + 1, parts := keptTo (n + 1) (hereN (stepsOf l s (n + 1)) (n + 1) T.parts) T.parts T.parts.length, over := overTo (n + 1) T.most (hereN (stepsOf l s (n + 1)) (n + 1) T.parts) T.parts T.over T.parts.length, bad := badTo (stepsOf l s (n + 1)) (n + 1) T.nots T.bad T.nots.length } := by
  simp only [stepT, I.over, I.at_, Bool.false_eq_true, if_false]
 have hover : (stepT T (stepsOf l s (n + 1))).over = overD l most s (n + 1) := by
  rw [hst, Bool.eq_iff_iff]
  show overTo (n + 1) T.most _ T.parts T.over T.parts.length = true ↔ _
  rw [overTo_any (Nat.le_refl _), I.over, I.mst, I.len]
  simp only [overD, keptD, List.any_eq_true, List.mem_map, List.mem_range, decide_eq_true_eq]
  constructor
  · rintro (h | ⟨j, p, h1, h2, h3⟩)
    · exact absurd h (by simp)
    · obtain ⟨x, hx⟩ : ∃ x, (posA l)[j]? = some x := ⟨_, List.getElem?_eq_getElem h1⟩
      obtain ⟨p', hp', hk⟩ := hkeep j x hx
      rw [h2] at hp'
      cases hp'
      rw [hk] at h3
      exact ⟨_, ⟨j, h1, rfl⟩, by have : most < (keptE (nextP (posA l) j) (upTo (n + 1) (eAt (posA l) s j)) ((n + 1 : Nat) : Int)).length := h3; omega⟩
  · rintro ⟨_, ⟨j, h1, rfl⟩, h3⟩
    obtain ⟨x, hx⟩ : ∃ x, (posA l)[j]? = some x := ⟨_, List.getElem?_eq_getElem h1⟩
    obtain ⟨p, hp, hk⟩ := hkeep j x hx
    refine .inr ⟨j, p, h1, hp, ?_⟩
    rw [hk]
    show most < (keptE (nextP (posA l) j) (upTo (n + 1) (eAt (posA l) s j)) ((n + 1 : Nat) : Int)).length
    omega
 refine ⟨hover, fun hov => ⟨?_, ?_, hover.trans hov, ?_, fun j x hx => ?_, ?_, ?_⟩⟩
 · rw [hst]
 · rw [hst]; exact I.mst
 · rw [hst]; exact keptTo_len.trans I.len
 · obtain ⟨p, hp, hk⟩ := hkeep j x hx
   rw [hst]
   show (keptTo (n + 1) _ T.parts T.parts.length)[j]? = _
   rw [keptTo_get hp (List.getElem?_eq_some_iff.1 hp).1, hk]
 · rw [hst]; exact I.nots
 · rw [hst]
   show badTo (stepsOf l s (n + 1)) (n + 1) T.nots T.bad T.nots.length = _
   rw [badTo_any (Nat.le_refl _), List.take_length, I.bad, I.nots, nots_says, List.range_succ (n := n + 1), List.any_append]
   simp
theorem holds_inv {T : TS} {l : List Cont} {s : Txt} {most n : Nat} (I : InvT T l s most n) (hn : n ≤ s.length) : T.holds = holdsC l (s.take n) ∧ T.nums = keptD l s n := by
 have hlen : (s.take n).length = n := by simp; omega
 constructor
 · have h1 : T.parts.all (fun p => p.some_) = noEmpty (endsAll l (s.take n)).1 := by
    rw [endsAll_take hn]
    have he := endsAll_pos (l := l) (s := s) (k := l.length) (Nat.le_refl _)
    rw [List.take_length] at he
    rw [he, Bool.eq_iff_iff]
    simp only [noEmpty, List.all_eq_true, List.mem_map, List.mem_range, decide_eq_true_eq]
    constructor
    · rintro h _ ⟨_, ⟨j, hj, rfl⟩, rfl⟩
      obtain ⟨x, hx⟩ : ∃ x, (posA l)[j]? = some x := ⟨_, List.getElem?_eq_getElem hj⟩
      have := h _ (List.mem_of_getElem? (I.parts j x hx))
      simpa [partS] using this
    · intro h p hp
      obtain ⟨j, hj, rfl⟩ := List.getElem_of_mem hp
      rw [I.len] at hj
      obtain ⟨x, hx⟩ : ∃ x, (posA l)[j]? = some x := ⟨_, List.getElem?_eq_getElem hj⟩
      have h2 := I.parts j x hx
      rw [List.getElem?_eq_getElem (by rw [I.len]; exact hj)] at h2
      rw [Option.some.inj h2]
      simpa [partS] using h _ ⟨_, ⟨j, hj, rfl⟩, rfl⟩
   have h2 : T.bad = !(neverC l (s.take n)).isNone := by
    rw [I.bad, ← quiet_none, Bool.eq_iff_iff]
    simp only [List.any_eq_true, List.mem_range, neverAt, quiet, quietC, Bool.not_eq_true', hlen, List.all_eq_false, Bool.not_eq_true, Bool.not_eq_false', Bool.and_eq_true]
    constructor
    · rintro ⟨e, h1, c, h2, h3, h4⟩
      exact ⟨c, h2, e, h1, fun h5 => by rw [endsAt_take hn (by omega), h3, h4] at h5; simp at h5⟩
    · rintro ⟨c, h2, e, h1, h3⟩
      rw [endsAt_take hn (by omega)] at h3
      cases h5 : c.not with
      | false => rw [h5] at h3; exact (h3 rfl).elim
      | true =>
       cases h6 : endsAt c s e with
       | false => rw [h6, Bool.and_false] at h3; exact (h3 rfl).elim
       | true => exact ⟨e, h1, c, h2, h5, h6⟩
   simp only [TS.holds, holdsC, h1, h2, Bool.not_not]
 · simp only [TS.nums, keptD]
   apply List.ext_getElem?
   intro j
   by_cases hj : j < (posA l).length
   · obtain ⟨x, hx⟩ : ∃ x, (posA l)[j]? = some x := ⟨_, List.getElem?_eq_getElem hj⟩
     rw [List.getElem?_map, I.parts j x hx]
     simp [partS, hj]
   · rw [List.getElem?_eq_none (by simp [I.len]; omega), List.getElem?_eq_none (by simp; omega)]
def hitCells (l : List (Int × Int)) : List AV := l.flatMap fun p => [.int .i64 p.1, .int .i64 p.2]
theorem hitCells_len {l : List (Int × Int)} : (hitCells l).length = l.length * 2 := by
 induction l with
 | nil => rfl
 | cons x r ih => simp only [hitCells, List.flatMap_cons, List.length_append, List.length_cons, List.length_nil] at ih ⊢; omega
theorem hitCells_app {a b : List (Int × Int)} : hitCells (a ++ b) = hitCells a ++ hitCells b := by simp [hitCells]
def hitSl (b : Nat) (l : List (Int × Int)) : AV := bufSl b l.length (hitCells l)
def hitsTo (nc : List Bool) (t : Txt) (l : List Txt) : Nat → List (Int × Int)
 | 0 => []
 | n + 1 => hitsTo nc t l n ++ (scHits nc (t.take (n + 1)) l 0).map fun z => (z, ((n + 1 : Nat) : Int))
theorem hitsTo_len {nc : List Bool} {t : Txt} {l : List Txt} : ∀ {n : Nat}, (hitsTo nc t l n).length ≤ n * l.length
 | 0 => by simp [hitsTo]
 | n + 1 => by
  have h1 := hitsTo_len (nc := nc) (t := t) (l := l) (n := n)
  have h2 := scHits_len (nc := nc) (w := t.take (n + 1)) (l := l) (i := 0)
  simp only [hitsTo, List.length_append, List.length_map, Nat.add_mul]
  omega
structure HitH (h₀ : Heap) (l : List (Int × Int)) (b : Nat) (h : Heap) : Prop where
 at_ : l.length ≠ 0 → h[b]? = some (.cells (hitCells l) 75 true) ∧ h₀.length ≤ b
theorem HitH.step {h₀ h : Heap} {l : List (Int × Int)} {b : Nat} (H : HitH h₀ l b h) (hh : h₀.length ≤ h.length) (hn : l.length ≤ 1000000) {p : Int × Int} :
  ∃ δ h' b', b' = (if l.length = 0 then h.length + 1 else b) ∧ append2 Try.prog (look (h ++ [AObj.cells [.int .i64 p.1, .int .i64 p.2] 75 true])) (h.length + 1) 71 71 [hitSl b l, .sl (some ⟨h.length, 0, 2⟩) 1 1] = some (hitSl b' (l ++ [p]), δ) ∧ Heap.apply (h ++ [AObj.cells [.int .i64 p.1, .int .i64 p.2] 75 true]) δ = h' ∧
   HitH h₀ (l ++ [p]) b' h' ∧ Only (fun c => c = b ∧ l.length ≠ 0) h h' := by
 obtain ⟨δ, h', e1, e2, e3, e4⟩ := append_buf (t := 71) (e := 75) (k := 2) (by simp) (by simp) (by decide) (by simp) (by simp) (h := h) (b := b) (n := l.length) (xs := hitCells l) (ys := [.int .i64 p.1, .int .i64 p.2]) (by simp) (by rw [hitCells_len]) (fun hne => (H.at_ hne).1) hn
 have e : hitCells l ++ [AV.int .i64 p.1, AV.int .i64 p.2] = hitCells (l ++ [p]) := by rw [hitCells_app]; rfl
 rw [e] at e1 e3
 refine ⟨δ, h', if l.length = 0 then h.length + 1 else b, rfl, ?_, e2, ⟨fun _ => ⟨e3, ?_⟩⟩, e4⟩
 · simp only [hitSl, List.length_append, List.length_cons, List.length_nil]
   exact e1
 · split
   · omega
   · rename_i hne; exact (H.at_ hne).2
theorem HitH.keep {h₀ h h' : Heap} {l : List (Int × Int)} {b : Nat} {fp : Nat → Prop} (H : HitH h₀ l b h) (ho : Only fp h h') (hf : l.length ≠ 0 → ¬ fp b) : HitH h₀ l b h' :=
 ⟨fun hne => ⟨ho.at (H.at_ hne).1 (hf hne), (H.at_ hne).2⟩⟩
theorem take_map {l : List Txt} {i : Nat} (hi : i < l.length) : (l.map fold).take (i + 1) = (l.map fold).take i ++ [fold (txt l i)] := by
 rw [List.take_succ_eq_append_getElem (by simpa using hi)]
 simp [txt_eq hi]
def Fo64 (h₀ : Heap) (v u : AV) (l : List Txt) (t : Txt) (m : Nat) (σ : St) : Prop :=
 ∃ i b h, m = l.length - i ∧ i ≤ l.length ∧ σ = ⟨[(0, v), (1, u), (2, .str t), (7, txtSl b ((l.map fold).take i)), (18, v), (19, .int .i64 l.length), (20, .int .i64 i)], h⟩ ∧ PatH h₀ ((l.map fold).take i) b h
theorem folds_loop {h₀ : Heap} {v u : AV} {l : List Txt} {t : Txt} (hv : Sl1 h₀ v (strCells l)) (hl : l.length ≤ 200) (hp : ∀ p ∈ l, p.length ≤ 9223372036854775800) {Q : AExit → St → Prop}
  (hq : ∀ b h, PatH h₀ (l.map fold) b h → Q (.exit 0) ⟨[(0, v), (1, u), (2, .str t), (7, txtSl b (l.map fold)), (18, v), (19, .int .i64 l.length), (20, .int .i64 l.length), (21, .bool false)], h⟩) :
  Wt Try.prog (D cfg) (.loop c64_l3 (some [0, 1, 2, 7, 18, 19, 20])) ⟨[(0, v), (1, u), (2, .str t), (7, .sl none 0 0), (18, v), (19, .int .i64 l.length), (20, .int .i64 0)], h₀⟩ Q := by
 refine Wt.loop (Fo64 h₀ v u l t) (m := l.length) ⟨0, 0, h₀, rfl, Nat.zero_le _, rfl, fun h => absurd rfl h, .refl⟩ ?_
 rintro m σ ⟨i, b, h, rfl, hi, rfl, H⟩
 have hcut : cut (some [0, 1, 2, 7, 18, 19, 20]) [(0, v), (1, u), (2, .str t), (7, txtSl b ((l.map fold).take i)), (18, v), (19, .int .i64 l.length), (20, .int .i64 (i : Int))] = [(0, v), (1, u), (2, .str t), (7, txtSl b ((l.map fold).take i)), (18, v), (19, .int .i64 l.length), (20, .int .i64 i)] := by simp
 simp only [hcut]
 by_cases hil : i < l.length
 · have hil' : (i : Int) < l.length := by omega
   have hwr : IntKind.wrap .i64 ((i : Int) + 1) = i + 1 := wrap_i64 (by omega) (by omega)
   have a1 := hv.at (t := 38) (e := 9) (by simp) (by simp) (i := i) (by rw [strCells_len]; exact hil)
   have b1 := (hv.same H.only).load (e := 9) (by simp) (i := i) (by rw [strCells_len]; exact hil)
   rw [strCells_get, txt_eq] at b1
   obtain ⟨h1, e1, o1⟩ := fold_auto (h := h) (s := txt l i) (hp _ (by rw [← txt_eq hil]; exact List.getElem_mem hil))
   have H1 : PatH h₀ ((l.map fold).take i) b h1 := ⟨fun hne => ⟨o1.at (H.at_ hne).1 id, (H.at_ hne).2⟩, H.only.trans o1⟩
   obtain ⟨δ, h2, b2, e2, e3, H2⟩ := H1.step (by simp; omega) (p := fold (txt l i))
   rw [← take_map hil] at e2 H2
   have hnext : Fo64 h₀ v u l t (l.length - (i + 1)) ⟨[(0, v), (1, u), (2, .str t), (7, txtSl b2 ((l.map fold).take (i + 1))), (18, v), (19, .int .i64 l.length), (20, .int .i64 (i + 1 : Nat))], h2⟩ := ⟨i + 1, b2, h2, rfl, hil, rfl, H2⟩
   simp [-List.map_take, c64_l3, c64_r3, c64_r4, c64_r5, c64_r6, hil, hil', a1, b1, e1, abuildSlice, afill, zeros, e2, e3, hwr]
   exact ⟨l.length - (i + 1), by omega, by simpa [-List.map_take] using hnext⟩
 · have : i = l.length := by omega
   subst this
   rw [show (l.map fold).take l.length = l.map fold by rw [← List.length_map (f := fold), List.take_length]] at H ⊢
   have := hq b h H
   simp [c64_l3, c64_r3]
   simpa using this
section
variable {h₀ : Heap} {sb : Nat} {lv nv : AV} {B : AB} {l : List Txt} {nc : List Bool} {t : Txt} {tab : Nat → Nat → Nat} {fl ob : Nat → Nat} {ou : Nat → List Int}
structure AllI (h₁ : Heap) (sb : Nat) (lv nv : AV) (B : AB) (l : List Txt) (nc : List Bool) (w : Txt) (tab : Nat → Nat → Nat) (fl ob : Nat → Nat) (ou : Nat → List Int) (hs : List (Int × Int)) (b : Nat) (h : Heap) : Prop where
 sc : ScanX h sb lv nv B l nc w tab fl ob ou
 hit : HitH h₁ hs b h
 only : Only (fun c => c = sb) h₁ h
theorem AllI.more {h₁ h : Heap} {w : Txt} {hs : List (Int × Int)} {b : Nat} (H : AllI h₁ sb lv nv B l nc w tab fl ob ou hs b h) (hlt : ∀ c, scFoot sb lv nv B (begs (l.map fold)).length ob ou c → c < h₁.length) (hn : hs.length ≤ 1000000) {p : Int × Int} :
  ∃ δ h' b', b' = (if hs.length = 0 then h.length + 1 else b) ∧ append2 Try.prog (look (h ++ [AObj.cells [.int .i64 p.1, .int .i64 p.2] 75 true])) (h.length + 1) 71 71 [hitSl b hs, .sl (some ⟨h.length, 0, 2⟩) 1 1] = some (hitSl b' (hs ++ [p]), δ) ∧ Heap.apply (h ++ [AObj.cells [.int .i64 p.1, .int .i64 p.2] 75 true]) δ = h' ∧
   AllI h₁ sb lv nv B l nc w tab fl ob ou (hs ++ [p]) b' h' ∧ Only (fun c => c = b ∧ hs.length ≠ 0) h h' := by
 obtain ⟨δ, h2, b2, e0, e2, e3, H2, o2⟩ := H.hit.step H.only.1 hn (p := p)
 refine ⟨δ, h2, b2, e0, e2, e3, ⟨H.sc.keep o2 fun c hc hb => ?_, H2, ⟨Nat.le_trans H.only.1 o2.1, fun c hc hne => ?_⟩⟩, o2⟩
 · have h1 := hlt c hc
   have h2 := (H.hit.at_ hb.2).2
   have := hb.1
   omega
 · rw [o2.2 c (Nat.lt_of_lt_of_le hc H.only.1) (fun hb => by have h2 := (H.hit.at_ hb.2).2; have := hb.1; omega), H.only.2 c hc hne]
abbrev inEnv64 (hv : AV) (sb tb n i : Nat) (ov : AV) (m k : Nat) : Env := [(12, hv), (13, scPtr sb), (42, byteSl tb n), (43, .int .i64 n), (44, .int .i64 i), (50, ov), (51, .int .i64 m), (52, .int .i64 k)]
def mk64 (n : Nat) (O : List Int) : List (Int × Int) := O.map fun z => (z, (n : Int))
theorem mk64_len {n : Nat} {O : List Int} : (mk64 n O).length = O.length := by simp [mk64]
theorem mk64_snoc {n : Nat} {O : List Int} {z : Int} : mk64 n (O ++ [z]) = mk64 n O ++ [(z, (n : Int))] := by simp [mk64]
def In64 (h₁ : Heap) (sb : Nat) (lv nv : AV) (B : AB) (l : List Txt) (nc : List Bool) (w : Txt) (tab : Nat → Nat → Nat) (fl ob : Nat → Nat) (ou : Nat → List Int) (hs : List (Int × Int)) (tb n i : Nat) (ov : AV) (O : List Int) (m : Nat) (σ : St) : Prop :=
 ∃ k b h, m = O.length - k ∧ k ≤ O.length ∧ σ = ⟨inEnv64 (hitSl b (hs ++ mk64 w.length (O.take k))) sb tb n i ov O.length k, h⟩ ∧ AllI h₁ sb lv nv B l nc w tab fl ob ou (hs ++ mk64 w.length (O.take k)) b h ∧ Sl1 h ov (intCells O) ∧
  ((hs ++ mk64 w.length (O.take k)).length ≠ 0 → slB ov ≠ some b) ∧ (∀ c, slB ov = some c → c < h.length)
theorem in64_loop {h₁ h : Heap} {w : Txt} {hs : List (Int × Int)} {b tb n i : Nat} {ov : AV} {O : List Int} (hlt : ∀ c, scFoot sb lv nv B (begs (l.map fold)).length ob ou c → c < h₁.length) (H : AllI h₁ sb lv nv B l nc w tab fl ob ou hs b h) (hov : Sl1 h ov (intCells O)) (hb : hs.length ≠ 0 → slB ov ≠ some b) (hn : hs.length + O.length ≤ 1000000) (hovl : ∀ c, slB ov = some c → c < h.length) {Q : AExit → St → Prop}
  (hq : ∀ b' h', AllI h₁ sb lv nv B l nc w tab fl ob ou (hs ++ mk64 w.length O) b' h' → Q (.exit 4) ⟨inEnv64 (hitSl b' (hs ++ mk64 w.length O)) sb tb n i ov O.length O.length ++ [(53, .bool false)], h'⟩) :
  Wt Try.prog (D cfg) (.loop c64_l16 (some [12, 13, 42, 43, 44, 50, 51, 52])) ⟨inEnv64 (hitSl b hs) sb tb n i ov O.length 0, h⟩ Q := by
 have h00 : hs ++ mk64 w.length (O.take 0) = hs := by simp [mk64]
 refine Wt.loop (In64 h₁ sb lv nv B l nc w tab fl ob ou hs tb n i ov O) (m := O.length) ⟨0, b, h, rfl, Nat.zero_le _, by rw [h00], by rw [h00]; exact H, hov, by rw [h00]; exact hb, hovl⟩ ?_
 rintro m σ ⟨k, b1, h1, rfl, hk, rfl, H1, hov1, hb1, hl1⟩
 have hcut : cut (some [12, 13, 42, 43, 44, 50, 51, 52]) (inEnv64 (hitSl b1 (hs ++ mk64 w.length (O.take k))) sb tb n i ov O.length k) = inEnv64 (hitSl b1 (hs ++ mk64 w.length (O.take k))) sb tb n i ov O.length k := by simp
 simp only [hcut]
 by_cases hkO : k < O.length
 · have hkO' : (k : Int) < O.length := by omega
   have hwr : IntKind.wrap .i64 ((k : Int) + 1) = k + 1 := wrap_i64 (by omega) (by omega)
   have a1 := hov1.at (t := 30) (e := 3) (by simp) (by simp) (i := k) (by rw [intCells_len]; exact hkO)
   have c1 := hov1.load (e := 3) (by simp) (i := k) (by rw [intCells_len]; exact hkO)
   rw [intCells_get] at c1
   have e1 := scan_at H1.sc.sc
   have htk : mk64 w.length (O.take (k + 1)) = mk64 w.length (O.take k) ++ [(O[k], (w.length : Int))] := by
    rw [List.take_succ_eq_append_getElem hkO, mk64_snoc]
   obtain ⟨hs1, hhs1⟩ : ∃ x, hs ++ mk64 w.length (O.take k) = x := ⟨_, rfl⟩
   have hs2 : hs ++ mk64 w.length (O.take (k + 1)) = hs1 ++ [(O[k], (w.length : Int))] := by rw [htk, ← hhs1, List.append_assoc]
   have hsl : hs1.length ≤ 1000000 := by rw [← hhs1]; simp [mk64_len]; omega
   rw [hhs1] at H1 hb1 ⊢
   obtain ⟨δ, h2, b2, e0, e2, e3, H2, o2⟩ := H1.more hlt hsl (p := (O[k], (w.length : Int)))
   have hov2 := hov1.keep o2 fun c hc hb => hb1 hb.2 (by rw [hc, hb.1])
   have hnext : In64 h₁ sb lv nv B l nc w tab fl ob ou hs tb n i ov O (O.length - (k + 1)) ⟨inEnv64 (hitSl b2 (hs1 ++ [(O[k], (w.length : Int))])) sb tb n i ov O.length (k + 1), h2⟩ := by
    refine ⟨k + 1, b2, h2, rfl, hkO, by rw [hs2], by rw [hs2]; exact H2, hov2, fun _ hc => ?_, fun c hc => Nat.lt_of_lt_of_le (hl1 c hc) o2.1⟩
    have h5 := hl1 _ hc
    rw [e0] at hc h5
    split at hc
    · rename_i h6
      rw [if_pos h6] at h5
      omega
    · rename_i h6; exact hb1 h6 hc
   simp only [inEnv64] at hnext
   simp [c64_l16, c64_r16, c64_r17, c64_r18, c64_r19, hkO, hkO', a1, c1, e1, abuild, abuildSlice, afill, zeros, splice, e2, e3, hwr]
   exact ⟨O.length - (k + 1), by omega, by simpa using hnext⟩
 · have : k = O.length := by omega
   subst this
   rw [List.take_length] at H1 ⊢
   have := hq b1 h1 H1
   simp only [inEnv64] at this
   simp [c64_l16, c64_r16]
   simpa using this
abbrev outEnv64 (hv : AV) (sb tb n i : Nat) : Env := [(12, hv), (13, scPtr sb), (42, byteSl tb n), (43, .int .i64 n), (44, .int .i64 i)]
def Ot64 (h₁ : Heap) (sb : Nat) (lv nv : AV) (B : AB) (l : List Txt) (nc : List Bool) (t : Txt) (tab : Nat → Nat → Nat) (fl ob : Nat → Nat) (ou : Nat → List Int) (tb : Nat) (m : Nat) (σ : St) : Prop :=
 ∃ i b h, m = t.length - i ∧ i ≤ t.length ∧ σ = ⟨outEnv64 (hitSl b (hitsTo nc t l i)) sb tb t.length i, h⟩ ∧ AllI h₁ sb lv nv B l nc (t.take i) tab fl ob ou (hitsTo nc t l i) b h
theorem hitsTo_succ {i : Nat} : hitsTo nc t l (i + 1) = hitsTo nc t l i ++ mk64 (i + 1) (scHits nc (t.take (i + 1)) l 0) := rfl
theorem out64_loop {h₁ : Heap} {tb : Nat} (hlt : ∀ c, scFoot sb lv nv B (begs (l.map fold)).length ob ou c → c < h₁.length) (H : ScanX h₁ sb lv nv B l nc [] tab fl ob ou) (htb : h₁[tb]? = some (.cells (byteCells t) 5 true)) (hts : tb ≠ sb) (hn : t.length * l.length ≤ 1000000) (hn2 : t.length ≤ 1000000) {Q : AExit → St → Prop}
  (hq : ∀ b' h', AllI h₁ sb lv nv B l nc t tab fl ob ou (hitsTo nc t l t.length) b' h' → Q (.exit 2) ⟨outEnv64 (hitSl b' (hitsTo nc t l t.length)) sb tb t.length t.length ++ [(45, .bool false)], h'⟩) :
  Wt Try.prog (D cfg) (.loop c64_l13 (some [12, 13, 42, 43, 44])) ⟨outEnv64 (.sl none 0 0) sb tb t.length 0, h₁⟩ Q := by
 refine Wt.loop (Ot64 h₁ sb lv nv B l nc t tab fl ob ou tb) (m := t.length) ⟨0, 0, h₁, rfl, Nat.zero_le _, rfl, ⟨H, ⟨fun h => absurd rfl h⟩, .refl⟩⟩ ?_
 rintro m σ ⟨i, b, h, rfl, hi, rfl, HI⟩
 have hcut : cut (some [12, 13, 42, 43, 44]) (outEnv64 (hitSl b (hitsTo nc t l i)) sb tb t.length i) = outEnv64 (hitSl b (hitsTo nc t l i)) sb tb t.length i := by simp
 simp only [hcut]
 by_cases hit : i < t.length
 · have hit' : (i : Int) < t.length := by omega
   have hwr : IntKind.wrap .i64 ((i : Int) + 1) = i + 1 := wrap_i64 (by omega) (by omega)
   have g1 : h[tb]? = some (.cells (byteCells t) 5 true) := HI.only.at htb hts
   have hcl : (byteCells t).length = t.length := byteCells_len
   have hb : (byteCells t)[i]? = some (.int .u8 t[i].toNat) := by simp [byteCells, hit]
   have q1 := cell_load g1 hcl (t := 5) (by simp) hb
   have hwl : (t.take i).length = i := by simp; omega
   obtain ⟨bo, h2, e1, H2, o2, d2⟩ := scan_step HI.sc (by omega) (b := t[i])
   have htk : t.take i ++ [t[i]] = t.take (i + 1) := (List.take_succ_eq_append_getElem hit).symm
   rw [htk] at e1 H2 d2
   obtain ⟨O, hO⟩ : ∃ O, scHits nc (t.take (i + 1)) l 0 = O := ⟨_, rfl⟩
   have hOl : O.length ≤ l.length := by rw [← hO]; exact scHits_len
   rw [hO] at e1 d2
   have hsb : h₁.length ≤ h.length := HI.only.1
   have hsb1 : sb < h₁.length := hlt sb (.inl rfl)
   have A2 : AllI h₁ sb lv nv B l nc (t.take (i + 1)) tab fl ob ou (hitsTo nc t l i) b h2 := ⟨H2, HI.hit.keep o2 fun hne => by have := (HI.hit.at_ hne).2; omega, HI.only.trans o2⟩
   have hov : Sl1 h2 (intSl bo O) (intCells O) := Sl1.ints fun hne => (d2 hne).2
   have hov2 : ∀ c, slB (intSl bo O) = some c → h.length ≤ c ∧ c < h2.length := fun c hc => by
    by_cases h0 : O = []
    · rw [h0, intSl_nil] at hc; simp [slB] at hc
    · rw [intSl_ne h0] at hc
      simp [slB] at hc
      subst hc
      exact ⟨(d2 h0).1, lt_of_at (d2 h0).2⟩
   have hlen := hitsTo_len (nc := nc) (t := t) (l := l) (n := i)
   have hmul : (i + 1) * l.length ≤ t.length * l.length := Nat.mul_le_mul_right _ hit
   rw [Nat.add_mul] at hmul
   have hin := fun Q hq => in64_loop (tb := tb) (n := t.length) (i := i) (Q := Q) hlt A2 hov (fun hne hc => by
    have h5 := lt_of_at (HI.hit.at_ hne).1
    have := (hov2 _ hc).1
    omega) (by omega) (fun c hc => (hov2 c hc).2) hq
   have hwl1 : (t.take (i + 1)).length = i + 1 := by simp; omega
   rw [hwl1] at hin
   have hlO := fun L => intSl_lenA (L := L) (b := bo) (l := O)
   simp only [inEnv64, byteSl] at hin
   simp [c64_l13, c64_r13, c64_r14, c64_r15, hit, hit', aindexAddr, q1, e1, len1, hlO]
   refine hin _ fun b' h' A3 => ?_
   rw [← hO, ← hitsTo_succ] at A3
   have hnext : Ot64 h₁ sb lv nv B l nc t tab fl ob ou tb (t.length - (i + 1)) ⟨outEnv64 (hitSl b' (hitsTo nc t l (i + 1))) sb tb t.length (i + 1), h'⟩ := ⟨i + 1, b', h', rfl, hit, rfl, A3⟩
   rw [← hO, ← hitsTo_succ]
   simp only [outEnv64, byteSl] at hnext
   simp [c64_r20, hwr]
   exact ⟨t.length - (i + 1), by omega, by simpa using hnext⟩
 · have : i = t.length := by omega
   subst this
   rw [List.take_length] at HI
   have := hq b h HI
   simp only [outEnv64] at this
   simp [c64_l13, c64_r13]
   simpa using this
end
section
variable {h : Heap} {v u : AV} {l : List Txt} {nc : List Bool} {t : Txt}
theorem begs_fold_le (hg : bgood l = true) (hl : l.length ≤ 200) : (begs (l.map fold)).length ≤ 4096 := by
 have := bgood_begs (l := l.map fold) (by rw [bgood_fold]; exact hg)
 simp at this
 omega
theorem PatH.slB {h₀ h : Heap} {l : List Txt} {b : Nat} (H : PatH h₀ l b h) : ∀ c, slB (txtSl b l) = some c → c < h.length := fun c hc => by
 simp only [txtSl] at hc
 obtain ⟨rfl, hne⟩ := slB_buf hc
 exact lt_of_at (H.at_ hne).1
theorem scan_all_bad (hv : Sl1 h v (strCells l)) (hp : ∀ p ∈ l, p.length ≤ 9223372036854775800) (hl : l.length ≤ 200) (hg : bgood l = false) :
  ∃ h', D cfg 64 [v, u, .str t] h = some (.sl none 0 0, h') ∧ Only (fun _ => False) h h' := by
 have key : ∃ r h', D cfg 64 [v, u, .str t] h = some (r, h') ∧ (r = .sl none 0 0 ∧ Only (fun _ => False) h h') := by
  refine call64 (R := fun r h' => r = .sl none 0 0 ∧ Only (fun _ => False) h h') (args := [v, u, .str t]) (h := h) (by simp) ?_
  have hlen := fun L => hv.len (t := 38) (e := 9) (by simp) (L := L)
  simp only [strCells_len] at hlen
  have hf := fun Q hq => folds_loop (u := u) (t := t) (Q := Q) hv hl hp hq
  simp [c64, c64_r0, c64_r1, c64_r2, len1, hlen]
  refine hf _ fun b h1 H1 => ?_
  obtain ⟨h2, e2, o2⟩ := build_bad (bud := 4096) (Sl1.txt (s := true) fun hne => (H1.at_ hne).1) H1.slB (by simp; omega) (by rw [bgood_fold]; exact hg)
  simp [c64_r7, c64_r8, c64_r9, e2, extractV]
  exact H1.only.trans o2
 obtain ⟨r, h', h1, rfl, h2⟩ := key
 exact ⟨h', h1, h2⟩
theorem scan_all (hv : Sl1 h v (strCells l)) (hu : Sl1 h u (boolCells nc)) (hl : l.length ≤ 200) (hg : bgood l = true) (hn : nc.length ≤ 1000000000) (ht : t.length * l.length ≤ 1000000) (ht2 : t.length ≤ 1000000) :
  ∃ b h', D cfg 64 [v, u, .str t] h = some (hitSl b (hitsTo nc t l t.length), h') ∧ Only (fun _ => False) h h' ∧ ((hitsTo nc t l t.length).length ≠ 0 → h'[b]? = some (.cells (hitCells (hitsTo nc t l t.length)) 75 true)) := by
 have key : ∃ r h', D cfg 64 [v, u, .str t] h = some (r, h') ∧ (∃ b, r = hitSl b (hitsTo nc t l t.length) ∧ Only (fun _ => False) h h' ∧ ((hitsTo nc t l t.length).length ≠ 0 → h'[b]? = some (.cells (hitCells (hitsTo nc t l t.length)) 75 true))) := by
  refine call64 (R := fun r h' => ∃ b, r = hitSl b (hitsTo nc t l t.length) ∧ Only (fun _ => False) h h' ∧ ((hitsTo nc t l t.length).length ≠ 0 → h'[b]? = some (.cells (hitCells (hitsTo nc t l t.length)) 75 true))) (args := [v, u, .str t]) (h := h) (by simp) ?_
  have hlen := fun L => hv.len (t := 38) (e := 9) (by simp) (L := L)
  simp only [strCells_len] at hlen
  have hf := fun Q hq => folds_loop (u := u) (t := t) (Q := Q) hv hl (fun p hp => by have := (bgood_at hg hp).2; omega) hq
  simp [c64, c64_r0, c64_r1, c64_r2, len1, hlen]
  refine hf _ fun b h1 H1 => ?_
  have hb := begs_fold_le hg hl
  obtain ⟨B, tab, fl, ob, ou, h2, e2, o2, A, fA⟩ := build_ok (bud := 4096) (Sl1.txt (s := true) fun hne => (H1.at_ hne).1) H1.slB (by simp; omega) (by rw [bgood_fold]; exact hg) (by omega) hb
  have o02 := H1.only.trans o2
  obtain ⟨sb, lv, nv, h3, e3, X3, o3, f3, n3⟩ := scan_new A (hv.same o02) (hu.same o02) hg hl hn
  have o4 : Only (fun _ => False) h3 (h3 ++ [.cells (byteCells t) 5 true]) := .app
  have hlt : ∀ c, scFoot sb lv nv B (begs (l.map fold)).length ob ou c → c < (h3 ++ [AObj.cells (byteCells t) 5 true]).length := by
   intro c hc
   have : c < h3.length := by
    rcases hc with rfl | hc | hc | hc
    · obtain ⟨ring, _, g⟩ := X3.sc.hdr; exact lt_of_at g
    · rcases X3.l_ with ⟨rfl, _⟩ | ⟨b', o', g', c', cs', rfl, hr, _⟩
      · simp [AM.slB] at hc
      · simp [AM.slB] at hc; subst hc
        rcases Nat.lt_or_ge b' h3.length with h5 | h5
        · exact h5
        · simp [row, look_at, List.getElem?_eq_none h5] at hr
    · rcases X3.n_ with ⟨rfl, _⟩ | ⟨b', o', g', c', cs', rfl, hr, _⟩
      · simp [AM.slB] at hc
      · simp [AM.slB] at hc; subst hc
        rcases Nat.lt_or_ge b' h3.length with h5 | h5
        · exact h5
        · simp [row, look_at, List.getElem?_eq_none h5] at hr
    · exact X3.auto.at_.foot_lt hc
   simp; omega
  have hsb : h.length ≤ sb := by have := o02.1; omega
  have hsl : sb < h3.length := by obtain ⟨ring, _, g⟩ := X3.sc.hdr; exact lt_of_at g
  have hout := fun Q hq => out64_loop (tb := h3.length) (Q := Q) hlt (X3.same o4) (by simp) (by omega) ht ht2 hq
  simp only [outEnv64] at hout
  simp [c64_r7, c64_r8, c64_r10, c64_r11, c64_r12, e2, extractV, e3, aconv, len1, alen]
  refine hout _ fun b' h5 H5 => ?_
  have o05 : Only (fun _ => False) h h5 := ((o02.trans o3).trans o4).fresh H5.only fun c hc => by rw [hc]; exact hsb
  have hnt : (hitSl b' (hitsTo nc t l t.length)).notTup = true := bufSl_notTup
  simp [c64_r21, -AV.notTup, hnt]
  exact ⟨b', rfl, o05, fun hne => (H5.hit.at_ (fun e => hne (List.length_eq_zero_iff.1 e))).1⟩
 obtain ⟨r, h', h1, b, rfl, h2, h3⟩ := key
 exact ⟨b, h', h1, h2, h3⟩
end
theorem fold_takeS {s : Txt} {n : Nat} : fold (s.take n) = (fold s).take n := by simp [fold, List.map_take]
theorem patAt_hit {p s : Txt} {nc : Bool} {e : Nat} (he : e ≤ s.length) : patAt p nc s e = scHitB nc p (s.take e) := by
 cases nc with
 | false => rw [patAt_suf he]; simp [scHitB]
 | true =>
  rw [Bool.eq_iff_iff]
  simp only [scHitB, if_true, decide_eq_true_eq]
  rw [fold_takeS, suffix_take (by rw [fold_len]; exact he), fold_len]
  have e1 : List.take p.length (List.drop (e - p.length) (fold s)) = fold (List.take p.length (List.drop (e - p.length) s)) := by simp [fold, List.map_take, List.map_drop]
  rw [e1]
  simp only [patAt, he, decide_true, Bool.and_true, Bool.true_and, Bool.and_eq_true, decide_eq_true_eq, Bool.or_eq_true]
  constructor
  · rintro ⟨h1, h2 | h2⟩
    · exact ⟨h1, by rw [h2]⟩
    · exact ⟨h1, h2⟩
  · rintro ⟨h1, h2⟩
    exact ⟨h1, .inr h2⟩
theorem hitCells_at : ∀ {l : List (Int × Int)} {i : Nat} {p : Int × Int}, l[i]? = some p → (hitCells l)[i * 2]? = some (.int .i64 p.1) ∧ (hitCells l)[i * 2 + 1]? = some (.int .i64 p.2)
 | [], i, p, h => by simp at h
 | x :: r, 0, p, h => by simp at h; subst h; simp [hitCells]
 | x :: r, i + 1, p, h => by
  have ih := hitCells_at (l := r) (i := i) (p := p) (by simpa using h)
  have e : hitCells (x :: r) = .int .i64 x.1 :: .int .i64 x.2 :: hitCells r := rfl
  rw [e, show (i + 1) * 2 = i * 2 + 2 by omega, show i * 2 + 2 + 1 = i * 2 + 1 + 2 by omega]
  simpa using ih
section
variable {h : Heap} {b : Nat} {l : List (Int × Int)}
theorem hit_load (hb : l.length ≠ 0 → h[b]? = some (.cells (hitCells l) 75 true)) {i : Nat} {p : Int × Int} (hp : l[i]? = some p) :
  aload Try.prog (look h) 3 (.ptr (some ⟨b, i * 2, l.length * 2⟩)) = some (.int .i64 p.1) ∧ aload Try.prog (look h) 3 (.ptr (some ⟨b, i * 2 + 1, l.length * 2⟩)) = some (.int .i64 p.2) := by
 have hi := (List.getElem?_eq_some_iff.1 hp).1
 have h1 := hb (by omega)
 obtain ⟨h2, h3⟩ := hitCells_at hp
 exact ⟨cell_load h1 hitCells_len (by simp) h2, cell_load h1 hitCells_len (by simp) h3⟩
end
end Go.AM
