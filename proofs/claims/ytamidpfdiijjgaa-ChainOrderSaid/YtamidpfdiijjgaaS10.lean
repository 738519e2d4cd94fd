/-
  The document's 'Ends' of contents.
-/
import Derived.Test.YtamidpfdiijjgaaS8
namespace Go.AM
open Go Go.Proofs
set_option linter.unusedVariables false
set_option linter.unusedSimpArgs false
set_option maxRecDepth 100000

theorem endsAll_last {l : List Cont} {s : Txt} : ((endsAll l s).1 = [] → (endsAll l s).2 = []) ∧ (0 < (endsAll l s).1.length → (endsAll l s).1[(endsAll l s).1.length - 1]? = some (endsAll l s).2) := by
  have key : ∀ n (l : List Cont), l.length = n → ((endsAll l s).1 = [] → (endsAll l s).2 = []) ∧ (0 < (endsAll l s).1.length → (endsAll l s).1[(endsAll l s).1.length - 1]? = some (endsAll l s).2) := by
    intro n
    induction n with
    | zero =>
      intro l h
      have : l = [] := List.length_eq_zero_iff.1 h
      subst this
      exact ⟨fun _ => rfl, fun h => by simp [endsAll] at h⟩
    | succ n ih =>
      intro l h
      rcases List.eq_nil_or_concat l with e | ⟨k, c, e⟩
      · subst e; simp at h
      · have e' : l = k ++ [c] := by simpa using e
        subst e'
        simp at h
        have hst : endsAll (k ++ [c]) s = endsStep s (endsAll k s) c := by simp only [endsAll, List.foldl_append, List.foldl_cons, List.foldl_nil]
        rw [hst]
        unfold endsStep
        split
        · exact ih k h
        · refine ⟨fun h => by simp at h, fun h => ?_⟩
          simp
  exact key _ l rfl

/-- Two fields of an element. -/
theorem SlC.fields {h : Heap} {v : AV} {l : List Cont} (H : SlC h v l) {i : Nat} (hi : i < l.length) :
    ∃ p2 p5, fieldA Try.prog 52 2 (elC v i) = some (p2, .no) ∧ fieldA Try.prog 52 5 (elC v i) = some (p5, .no) ∧
      ∀ h', Only (fun _ => False) h h' → aload Try.prog (look h') 4 p2 = some (.bool l[i].not) ∧ aload Try.prog (look h') 4 p5 = some (.bool l[i].rel) := by
  rcases H with ⟨rfl, rfl⟩ | ⟨b, g, c, cs, rfl, h1, h2⟩
  · simp at hi
  · have h3 := h2 i l[i] (List.getElem?_eq_getElem hi)
    have at' : ∀ k, k < 8 → cs[i * 8 + k]? = (contCell l[i])[k]? := by
      intro k hk
      rw [← h3, List.getElem?_take, if_pos hk, List.getElem?_drop]
    refine ⟨.ptr (some ⟨b, i * 8 + 2, g⟩), .ptr (some ⟨b, i * 8 + 5, g⟩), by simp [fieldA, elC], by simp [fieldA, elC], fun h' ho => ?_⟩
    have h4 : ∀ k, AM.row (look h') { b := b, off := i * 8 + k, gen := g } = some cs := fun k => row_only ho h1 id
    constructor
    · simp only [aload, h4]
      simp [at' 2 (by omega)]
    · simp only [aload, h4]
      simp [at' 5 (by omega)]

section
variable {h : Heap} {s : Txt} {l : List Cont} {v : AV} {B : Nat} {bs : List Nat} {ls : List (List Int)} {ah : List Int} {i e : Nat} {pl : AV}

abbrev envK (v : AV) (s : Txt) (all : AV) (i : Nat) (pl : AV) (e : Nat) (ok : Bool) (k : Nat) : Env := [(0, v), (1, .str s), (5, all), (6, .int .i64 i), (7, pl), (8, .int .i64 e), (9, .bool ok), (10, .int .i64 k)]

def InK (hs : Heap) (v : AV) (s : Txt) (all : AV) (i : Nat) (pl : AV) (e : Nat) (c : Cont) (ah : List Int) (m : Nat) (st : St) : Prop :=
  ∃ k h, m = ah.length - k ∧ k ≤ ah.length ∧ st = ⟨envK v s all i pl e (behindB c e (ah.take k)) k, h⟩ ∧ Only (fun _ => False) hs h

theorem behind_step {c : Cont} {e : Int} {ah : List Int} {k : Nat} (hk : k < ah.length) : behindB c e (ah.take (k + 1)) = (behindB c e (ah.take k) || followsB c ah[k] e) := by
  simp only [behindB]
  rw [List.take_succ_eq_append_getElem hk, List.any_append]
  simp

theorem ok_loop {h₀ hs : Heap} {c : Cont} (hv : SlC hs v l) (hi : i < l.length) (hc : c = l[i]) (hcs : c.small) (H : LL h₀ hs B bs ls) (hls : 0 < ls.length) (hlast : ls[ls.length - 1]'(by omega) = ah) (hap : ∀ p ∈ ah, 0 ≤ p ∧ p ≤ 2000000) (han : ah.length ≤ 9000000) (he : e ≤ 2000000) (hln : ls.length ≤ 1000)
    {Q : AExit → St → Prop} (hq : ∀ h, Only (fun _ => False) hs h → Q (.exit 4) ⟨envK v s (llSl B bs ls) i pl e (behindB c e ah) ah.length ++ [(60, .bool false)], h⟩) :
    Wt Try.prog (D cfg) (.loop c44_l14 (some [0, 1, 5, 6, 7, 8, 9, 10])) ⟨envK v s (llSl B bs ls) i pl e false 0, hs⟩ Q := by
  obtain ⟨all, hall⟩ : ∃ all, all = llSl B bs ls := ⟨_, rfl⟩
  have hlen := fun L => H.sl.len (t := 44) (e := 30) (by simp) (L := L)
  have hz : (List.zipWith intSl bs ls).length = ls.length := by simp [H.len]
  rw [hz] at hlen
  obtain ⟨b, a1, b1, g1⟩ := H.get (i := ls.length - 1) (by omega)
  have b1' := fun (h : Heap) (ho : Only (fun _ => False) hs h) => (H.same ho).get (i := ls.length - 1) (by omega)
  rw [hlast] at b1 g1
  have hbz : bs[ls.length - 1]'(by rw [H.len]; omega) = bs[ls.length - 1]'(by rw [H.len]; omega) := rfl
  have b2 : ∀ h, Only (fun _ => False) hs h → aload Try.prog (look h) 30 (elp (llSl B bs ls) (ls.length - 1)) = some (intSl b ah) := by
    intro h ho
    have x1 := H.sl.load (e := 30) (by simp) (i := ls.length - 1) (by omega)
    have x2 := (H.same ho).sl.load (e := 30) (by simp) (i := ls.length - 1) (by omega)
    rw [x2, ← x1, b1]
  rw [← hall] at a1 hlen hq ⊢
  simp only [← hall] at b2
  have hw1 : IntKind.wrap .i64 ((ls.length : Int) - 1) = ((ls.length - 1 : Nat) : Int) := by rw [wrap_i64 (by omega) (by omega)]; omega
  refine Wt.loop (InK hs v s all i pl e c ah) (m := ah.length) ⟨0, hs, rfl, Nat.zero_le _, rfl, .refl⟩ ?_
  rintro m st ⟨k, h, rfl, hk, rfl, ho⟩
  have hcut : cut (some [0, 1, 5, 6, 7, 8, 9, 10]) (envK v s all i pl e (behindB c e (ah.take k)) k) = envK v s all i pl e (behindB c e (ah.take k)) k := by simp
  simp only [hcut]
  have b3 := b2 h ho
  by_cases hkl : k < ah.length
  · have hkl' : (k : Int) < ah.length := by omega
    have hwr : IntKind.wrap .i64 ((k : Int) + 1) = k + 1 := wrap_i64 (by omega) (by omega)
    have hst := behind_step (c := c) (e := e) hkl
    cases hb : behindB c e (ah.take k) with
    | true =>
      have hnext : InK hs v s all i pl e c ah (ah.length - (k + 1)) ⟨envK v s all i pl e true (k + 1), h⟩ := ⟨k + 1, h, rfl, hkl, by rw [hst, hb]; rfl, ho⟩
      simp only [envK] at hnext
      simp [c44_l14, c44_r14, c44_r15, c44_r16, len1, hlen, hw1, a1, b3, alen_intSl, hkl, hkl', hwr]
      exact ⟨ah.length - (k + 1), by omega, by simpa using hnext⟩
    | false =>
      have sl := Sl1.ints (h := h) (b := b) (l := ah) (fun hne => ho.at (g1 hne) id)
      have a4 := sl.at (t := 30) (e := 3) (by simp) (by simp) (i := k) (by rw [intCells_len]; exact hkl)
      have b4 := sl.load (e := 3) (by simp) (i := k) (by rw [intCells_len]; exact hkl)
      rw [intCells_get] at b4
      have a5 := hv.at hi
      have b5 := (hv.same ho).load hi
      rw [← hc] at b5
      have hp := hap ah[k] (List.getElem_mem hkl)
      obtain ⟨p, hp'⟩ : ∃ p : Nat, ah[k] = p := ⟨ah[k].toNat, by omega⟩
      obtain ⟨h2, e2, o2⟩ := follows_ref (h := h) hcs (p := p) (e := e) (by omega) he
      rw [← hp'] at e2
      have hnext : InK hs v s all i pl e c ah (ah.length - (k + 1)) ⟨envK v s all i pl e (followsB c ah[k] e) (k + 1), h2⟩ := ⟨k + 1, h2, rfl, hkl, by rw [hst, hb]; rfl, ho.trans o2⟩
      simp only [envK] at hnext
      simp [c44_l14, c44_r14, c44_r15, c44_r16, len1, hlen, hw1, a1, b3, alen_intSl, hkl, hkl', hwr, a4, b4, a5, b5, e2]
      exact ⟨ah.length - (k + 1), by omega, by simpa using hnext⟩
  · have : k = ah.length := by omega
    subst this
    rw [List.take_length]
    have hn := hq h ho
    simp only [envK] at hn
    simp [c44_l14, c44_r14, len1, hlen, hw1, a1, b3, alen_intSl]
    simpa using hn

end

/-! ### one content, by the document -/

theorem patAt_long {p s : Txt} {nc : Bool} {e : Nat} (h : s.length < e) : patAt p nc s e = false := by
  have : ¬ (e ≤ s.length) := by omega
  simp [patAt, this]

abbrev envM (v : AV) (s : Txt) (all : AV) (i : Nat) (pl : AV) (e : Nat) : Env := [(0, v), (1, .str s), (5, all), (6, .int .i64 i), (7, pl), (8, .int .i64 e)]

def In44 (hs : Heap) (v : AV) (s : Txt) (all : AV) (i : Nat) (c : Cont) (ah : List Int) (m : Nat) (st : St) : Prop :=
  ∃ e b h, m = s.length + 1 - e ∧ e ≤ s.length + 1 ∧ st = ⟨envM v s all i (intSl b (hits c s ah e)) e, h⟩ ∧ Only (fun _ => False) hs h ∧ (hits c s ah e ≠ [] → h[b]? = some (.cells (intCells (hits c s ah e)) 3 true) ∧ hs.length ≤ b)

theorem ref_inner {h₀ hs : Heap} {s : Txt} {l : List Cont} {v : AV} {B : Nat} {bs : List Nat} {ls : List (List Int)} {ah : List Int} {i : Nat} {c : Cont} (hv : SlC hs v l) (hi : i < l.length) (hc : c = l[i]) (hcs : c.small) (H : LL h₀ hs B bs ls)
    (hlast0 : ls = [] → ah = []) (hlast : 0 < ls.length → ls[ls.length - 1]? = some ah) (hap : ∀ p ∈ ah, 0 ≤ p ∧ p ≤ 2000000) (han : ah.length ≤ 9000000) (hln : ls.length ≤ 1000) (hsl : s.length ≤ 100000) (hll : l.length ≤ 1000) {Q : AExit → St → Prop}
    (hq : ∀ b h, Only (fun _ => False) hs h → (hits c s ah (s.length + 1) ≠ [] → h[b]? = some (.cells (intCells (hits c s ah (s.length + 1))) 3 true) ∧ hs.length ≤ b) → Q (.exit 2) ⟨envM v s (llSl B bs ls) i (intSl b (hits c s ah (s.length + 1))) (s.length + 1) ++ [(25, .bool false)], h⟩) :
    Wt Try.prog (D cfg) (.loop c44_l8 (some [0, 1, 5, 6, 7, 8])) ⟨envM v s (llSl B bs ls) i (.sl none 0 0) 0, hs⟩ Q := by
  refine Wt.loop (In44 hs v s (llSl B bs ls) i c ah) (m := s.length + 1) ⟨0, 0, hs, rfl, Nat.zero_le _, by simp [hits, intSl], .refl, fun h => absurd rfl h⟩ ?_
  rintro m st ⟨e, b, h, rfl, he, rfl, ho, hb⟩
  have hcut : cut (some [0, 1, 5, 6, 7, 8]) (envM v s (llSl B bs ls) i (intSl b (hits c s ah e)) e) = envM v s (llSl B bs ls) i (intSl b (hits c s ah e)) e := by simp
  simp only [hcut]
  by_cases hes : e < s.length + 1
  · have hwr : IntKind.wrap .i64 ((e : Int) + 1) = e + 1 := wrap_i64 (by omega) (by omega)
    have hle : (e : Int) ≤ s.length := by omega
    have hle' : e ≤ s.length := by omega
    have a5 := hv.at hi
    have b5 := (hv.same ho).load hi
    rw [← hc] at b5
    obtain ⟨h1, e1, o1⟩ := ends_ref (h := h) hcs (s := s) (e := e) (by omega) (by omega)
    have ho1 := ho.trans o1
    have yes : ∀ h3, Only (fun _ => False) h h3 → hitB c s ah e = true → ∃ δ h4, append2 Try.prog (look (h3 ++ [AObj.cells [.int .i64 e] 3 true])) (h3.length + 1) 30 30 [intSl b (hits c s ah e), .sl (some ⟨h3.length, 0, 1⟩) 1 1] = some (intSl (if hits c s ah e = [] then h3.length + 1 else b) (hits c s ah (e + 1)), δ) ∧
        Heap.apply (h3 ++ [AObj.cells [.int .i64 e] 3 true]) δ = h4 ∧ In44 hs v s (llSl B bs ls) i c ah (s.length + 1 - (e + 1)) ⟨envM v s (llSl B bs ls) i (intSl (if hits c s ah e = [] then h3.length + 1 else b) (hits c s ah (e + 1))) (e + 1), h4⟩ := by
      intro h3 o3 hh
      have hlen := hits_len (c := c) (s := s) (ahead := ah) (n := e)
      obtain ⟨δ, h4, g1, g2, g3, g4⟩ := append_int (h := h3) (b := b) (l := hits c s ah e) (x := e) (fun hne => o3.at (hb hne).1 id) (by omega)
      have hst : hits c s ah (e + 1) = hits c s ah e ++ [(e : Int)] := by simp only [hits]; rw [if_pos hh]
      rw [← hst] at g1 g3
      refine ⟨δ, h4, g1, g2, e + 1, _, h4, rfl, hes, rfl, (ho.trans o3).fresh g4 fun x hx => by rw [hx.1]; exact (hb hx.2).2, fun _ => ⟨g3, ?_⟩⟩
      have := (ho.trans o3).1
      split
      · omega
      · rename_i hne; exact (hb hne).2
    have no : ∀ h3, Only (fun _ => False) h h3 → hitB c s ah e = false → In44 hs v s (llSl B bs ls) i c ah (s.length + 1 - (e + 1)) ⟨envM v s (llSl B bs ls) i (intSl b (hits c s ah e)) (e + 1), h3⟩ := by
      intro h3 o3 hh
      have hst : hits c s ah (e + 1) = hits c s ah e := by simp only [hits]; rw [hh]; simp
      refine ⟨e + 1, b, h3, rfl, hes, by rw [hst], ho.trans o3, ?_⟩
      rw [hst]
      exact fun hne => ⟨o3.at (hb hne).1 id, (hb hne).2⟩
    have b6 := (hv.same ho1).load hi
    rw [← hc] at b6
    have hlen := fun L => H.sl.len (t := 44) (e := 30) (by simp) (L := L)
    have hz : (List.zipWith intSl bs ls).length = ls.length := by simp [H.len]
    rw [hz] at hlen
    obtain ⟨p2, p5, _, f5, ff⟩ := hv.fields hi
    have f6 := (ff h1 ho1).2
    rw [← hc] at f6
    cases hat : endsAt c s e with
    | false =>
      rw [hat] at e1
      have hn := no h1 o1 (by simp [hitB, hat])
      simp only [envM] at hn
      simp [c44_l8, c44_r8, c44_r9, c44_r10, len1, alenS, hle, hle', a5, b5, e1, hwr]
      exact ⟨s.length + 1 - (e + 1), by omega, by simpa using hn⟩
    | true =>
      rw [hat] at e1
      cases hr : c.rel with
      | false =>
        rw [hr] at f6
        obtain ⟨δ, h4, g1, g2, g3⟩ := yes h1 o1 (by simp [hitB, hat, hr])
        simp only [envM] at g3
        simp [c44_l8, c44_r8, c44_r9, c44_r10, c44_r11, c44_r12, c44_r13, c44_r17, c44_r18, len1, alenS, hle, hle', a5, b5, e1, hwr, f5, f6, abuildSlice, afill, zeros, g1, g2]
        exact ⟨s.length + 1 - (e + 1), by omega, by simpa using g3⟩
      | true =>
        rw [hr] at f6
        by_cases hl0 : ls.length = 0
        · have hls : ls = [] := List.length_eq_zero_iff.1 hl0
          have hah : ah = [] := hlast0 hls
          have hn := no h1 o1 (by simp [hitB, hat, hr, hah, behindB])
          simp only [envM] at hn
          simp only [hl0] at hlen
          simp [c44_l8, c44_r8, c44_r9, c44_r10, c44_r11, c44_r12, c44_r13, c44_r17, c44_r18, len1, alenS, hle, hle', a5, b5, e1, hwr, f5, f6, hlen]
          exact ⟨s.length + 1 - (e + 1), by omega, by simpa using hn⟩
        · have hl1 : 0 < ls.length := by omega
          have hlast' : ls[ls.length - 1]'(by omega) = ah := by
            have := hlast hl1
            rw [List.getElem?_eq_getElem (by omega)] at this
            simpa using this
          have hk := fun Q hq => ok_loop (Q := Q) (s := s) (e := e) (pl := intSl b (hits c s ah e)) (hv.same ho1) hi hc hcs (H.same ho1) hl1 hlast' hap han (by omega) hln hq
          simp only [envK] at hk
          simp [c44_l8, c44_r8, c44_r9, c44_r10, c44_r11, c44_r12, c44_r13, len1, alenS, hle, hle', a5, b5, e1, f5, f6, hlen, hl1]
          refine hk _ fun h2 o2 => ?_
          cases hbe : behindB c e ah with
          | false =>
            have hn := no h2 (o1.trans o2) (by simp [hitB, hat, hr, hbe])
            simp only [envM] at hn
            simp [c44_r17, c44_r18, c44_r9, hwr]
            exact ⟨s.length + 1 - (e + 1), by omega, by simpa using hn⟩
          | true =>
            obtain ⟨δ, h4, g1, g2, g3⟩ := yes h2 (o1.trans o2) (by simp [hitB, hat, hr, hbe])
            simp only [envM] at g3
            simp [c44_r17, c44_r18, c44_r9, hwr, abuildSlice, afill, zeros, g1, g2]
            exact ⟨s.length + 1 - (e + 1), by omega, by simpa using g3⟩
  · have : e = s.length + 1 := by omega
    subst this
    have hle : ¬ (((s.length + 1 : Nat) : Int) ≤ s.length) := by omega
    have hn := hq b h ho hb
    simp only [envM] at hn
    have hle' : ¬ ((s.length : Int) + 1 ≤ s.length) := by omega
    simp [c44_l8, c44_r8, len1, alenS, hle']
    simpa using hn

end Go.AM
