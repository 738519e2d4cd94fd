/-
  Where each content ends: the chain's 'Ends'.
-/
import Derived.Test.YtamidpfdiijjgaaS4
namespace Go.AM
open Go Go.Proofs
set_option linter.unusedVariables false
set_option linter.unusedSimpArgs false
set_option maxRecDepth 100000

/-- A slice of contents that is read. -/
def SlC (h : Heap) (v : AV) (l : List Cont) : Prop :=
  (v = .sl none 0 0 ∧ l = []) ∨ ∃ b g c cs, v = .sl (some ⟨b, 0, g⟩) l.length c ∧ AM.row (look h) ⟨b, 0, g⟩ = some cs ∧ ∀ i c, l[i]? = some c → (cs.drop (i * 8)).take 8 = contCell c

def elC (v : AV) (i : Nat) : AV := match v with
  | .sl (some a) _ _ => .ptr (some { a with off := i * 8 })
  | _ => .nili

theorem SlC.len {h : Heap} {v : AV} {l : List Cont} (H : SlC h v l) {L : Look} : alen Try.prog L 42 v = some (.int .i64 l.length) := by
  rcases H with ⟨rfl, rfl⟩ | ⟨b, g, c, cs, rfl, _, _⟩ <;> simp [alen]

theorem SlC.at {h : Heap} {v : AV} {l : List Cont} (H : SlC h v l) {i : Nat} (hi : i < l.length) : aindexAddr Try.prog 42 v (.int .i64 i) = some (elC v i) := by
  rcases H with ⟨rfl, rfl⟩ | ⟨b, g, c, cs, rfl, _, _⟩
  · simp at hi
  · have : (i : Int) < l.length := by omega
    simp [aindexAddr, this, elC, hi]

theorem SlC.load {h : Heap} {v : AV} {l : List Cont} (H : SlC h v l) {i : Nat} (hi : i < l.length) : aload Try.prog (look h) 52 (elC v i) = some l[i].av := by
  rcases H with ⟨rfl, rfl⟩ | ⟨b, g, c, cs, rfl, h1, h2⟩
  · simp at hi
  · have h3 := h2 i l[i] (List.getElem?_eq_getElem hi)
    have h4 : i * 8 + 8 ≤ cs.length := by
      have := congrArg List.length h3
      rw [List.length_take, List.length_drop] at this
      simp [contCell] at this
      omega
    have h5 : AM.row (look h) { b := b, off := i * 8, gen := g } = some cs := h1
    simp only [elC, aload, h5]
    simp [h4, h3]

theorem SlC.keep {h h' : Heap} {v : AV} {l : List Cont} {fp : Nat → Prop} (H : SlC h v l) (ho : Only fp h h') (hf : ∀ b, slB v = some b → ¬ fp b) : SlC h' v l := by
  rcases H with ⟨rfl, rfl⟩ | ⟨b, g, c, cs, rfl, h1, h2⟩
  · exact .inl ⟨rfl, rfl⟩
  · exact .inr ⟨b, g, c, cs, rfl, row_only ho h1 (hf b rfl), h2⟩
theorem SlC.same {h h' : Heap} {v : AV} {l : List Cont} (H : SlC h v l) (ho : Only (fun _ => False) h h') : SlC h' v l := H.keep ho fun _ _ => id

/-- Does a content end there, behind places? -/
def hitB (c : Cont) (s : Txt) (ahead : List Int) (e : Nat) : Bool := endsAt c s e && (!c.rel || behindB c e ahead)
/-- The places below n. -/
def hits (c : Cont) (s : Txt) (ahead : List Int) : Nat → List Int
  | 0 => []
  | e + 1 => if hitB c s ahead e then hits c s ahead e ++ [(e : Int)] else hits c s ahead e

theorem hits_range {c : Cont} {s : Txt} {ahead : List Int} : ∀ {n : Nat}, ∀ p ∈ hits c s ahead n, 0 ≤ p ∧ p < n
  | 0, p, hp => by simp [hits] at hp
  | n + 1, p, hp => by
    simp only [hits] at hp
    split at hp
    · simp at hp
      rcases hp with hp | rfl
      · have := hits_range p hp; omega
      · omega
    · have := hits_range p hp; omega
theorem hits_len {c : Cont} {s : Txt} {ahead : List Int} : ∀ {n : Nat}, (hits c s ahead n).length ≤ n
  | 0 => by simp [hits]
  | n + 1 => by have := hits_len (c := c) (s := s) (ahead := ahead) (n := n); simp only [hits]; split <;> simp <;> omega

/-! ### one content -/

abbrev envE (s : Txt) (bt : Nat) (out ahv : AV) (bc : Nat) (pl v : AV) (n i e : Nat) : Env :=
  [(1, .str s), (5, .ptr (some ⟨bt, 0, 2⟩)), (6, out), (7, ahv), (9, .ptr (some ⟨bc, 0, 8⟩)), (10, pl), (16, v), (17, .int .i64 n), (18, .int .i64 i), (26, .int .i64 (s.length + 1 : Nat)), (27, .int .i64 e)]

def In43 (hs : Heap) (s : Txt) (c : Cont) (ahead : List Int) (bt : Nat) (out ahv : AV) (bc : Nat) (v : AV) (n i : Nat) (m : Nat) (st : St) : Prop :=
  ∃ e b h, m = s.length + 1 - e ∧ e ≤ s.length + 1 ∧ st = ⟨envE s bt out ahv bc (intSl b (hits c s ahead e)) v n i e, h⟩ ∧ Only (fun _ => False) hs h ∧ (hits c s ahead e ≠ [] → h[b]? = some (.cells (intCells (hits c s ahead e)) 3 true) ∧ hs.length ≤ b)

theorem ends_inner {hs : Heap} {s : Txt} {c : Cont} (hc : c.small) {ahead : List Int} {bt : Nat} {out ahv : AV} {bc : Nat} {v : AV} {n i : Nat} (hsl : s.length ≤ 100000) (hbt : hs[bt]? = some (.cells [.str s, .str (fold s)] 122 false)) (hbc : hs[bc]? = some (.cells (contCell c) 52 false))
    (hah : Sl1 hs ahv (intCells ahead)) (hap : ∀ p ∈ ahead, 0 ≤ p ∧ p ≤ 2000000) (han : ahead.length ≤ 9000000) {Q : AExit → St → Prop}
    (hq : ∀ b h, Only (fun _ => False) hs h → (hits c s ahead (s.length + 1) ≠ [] → h[b]? = some (.cells (intCells (hits c s ahead (s.length + 1))) 3 true) ∧ hs.length ≤ b) → Q (.exit 2) ⟨envE s bt out ahv bc (intSl b (hits c s ahead (s.length + 1))) v n i (s.length + 1) ++ [(28, .bool false)], h⟩) :
    Wt Try.prog (D cfg) (.loop c43_l10 (some [1, 5, 6, 7, 9, 10, 16, 17, 18, 26, 27])) ⟨envE s bt out ahv bc (.sl none 0 0) v n i 0, hs⟩ Q := by
  refine Wt.loop (In43 hs s c ahead bt out ahv bc v n i) (m := s.length + 1) ⟨0, 0, hs, rfl, Nat.zero_le _, by simp [hits, intSl], .refl, fun h => absurd rfl h⟩ ?_
  rintro m st ⟨e, b, h, rfl, he, rfl, ho, hb⟩
  have hcut : cut (some [1, 5, 6, 7, 9, 10, 16, 17, 18, 26, 27]) (envE s bt out ahv bc (intSl b (hits c s ahead e)) v n i e) = envE s bt out ahv bc (intSl b (hits c s ahead e)) v n i e := by simp
  simp only [hcut]
  by_cases hes : e < s.length + 1
  · have hwr : IntKind.wrap .i64 ((e : Int) + 1) = e + 1 := wrap_i64 (by omega) (by omega)
    have hlt : (e : Int) < s.length + 1 := by omega
    have t1 : aload Try.prog (look h) 122 (.ptr (some ⟨bt, 0, 2⟩)) = some (.agg [.str s, .str (fold s)]) := by simp [aload, AM.row, ho.at hbt id]
    have cl := contLoads (ho.at hbc id)
    obtain ⟨h1, e1, o1⟩ := at_chain (h := h) hc (s := s) (e := e) (by omega) (by omega)
    have ho1 := ho.trans o1
    have cl1 := contLoads (ho1.at hbc id)
    obtain ⟨h2, e2, o2⟩ := behind_chain (h := h1) hc (e := e) (hah.same ho1) hap (by omega) han
    have ho2 := ho1.trans o2
    have yes : ∀ h3, Only (fun _ => False) h h3 → hitB c s ahead e = true → ∃ δ h4, append2 Try.prog (look (h3 ++ [AObj.cells [.int .i64 e] 3 true])) (h3.length + 1) 30 30 [intSl b (hits c s ahead e), .sl (some ⟨h3.length, 0, 1⟩) 1 1] = some (intSl (if hits c s ahead e = [] then h3.length + 1 else b) (hits c s ahead (e + 1)), δ) ∧
        Heap.apply (h3 ++ [AObj.cells [.int .i64 e] 3 true]) δ = h4 ∧ In43 hs s c ahead bt out ahv bc v n i (s.length + 1 - (e + 1)) ⟨envE s bt out ahv bc (intSl (if hits c s ahead e = [] then h3.length + 1 else b) (hits c s ahead (e + 1))) v n i (e + 1), h4⟩ := by
      intro h3 o3 hh
      have hlen := hits_len (c := c) (s := s) (ahead := ahead) (n := e)
      obtain ⟨δ, h4, g1, g2, g3, g4⟩ := append_int (h := h3) (b := b) (l := hits c s ahead e) (x := e) (fun hne => o3.at (hb hne).1 id) (by omega)
      have hst : hits c s ahead (e + 1) = hits c s ahead e ++ [(e : Int)] := by simp only [hits]; rw [if_pos hh]
      rw [← hst] at g1 g3
      refine ⟨δ, h4, g1, g2, e + 1, _, h4, rfl, hes, rfl, (ho.trans o3).fresh g4 fun x hx => by rw [hx.1]; exact (hb hx.2).2, fun _ => ⟨g3, ?_⟩⟩
      have := (ho.trans o3).1
      split
      · omega
      · rename_i hne; exact (hb hne).2
    have no : ∀ h3, Only (fun _ => False) h h3 → hitB c s ahead e = false → In43 hs s c ahead bt out ahv bc v n i (s.length + 1 - (e + 1)) ⟨envE s bt out ahv bc (intSl b (hits c s ahead e)) v n i (e + 1), h3⟩ := by
      intro h3 o3 hh
      have hst : hits c s ahead (e + 1) = hits c s ahead e := by simp only [hits]; rw [hh]; simp
      refine ⟨e + 1, b, h3, rfl, hes, by rw [hst], ho.trans o3, ?_⟩
      rw [hst]
      exact fun hne => ⟨o3.at (hb hne).1 id, (hb hne).2⟩
    cases hat : endsAt c s e with
    | false =>
      rw [hat] at e1
      have hn := no h1 o1 (by simp [hitB, hat])
      simp only [envE] at hn
      simp [c43_l10, c43_r10, c43_r11, c43_r12, c43_r14, hlt, t1, cl, e1, hwr]
      exact ⟨s.length + 1 - (e + 1), by omega, by simpa using hn⟩
    | true =>
      rw [hat] at e1
      cases hr : c.rel with
      | false =>
        obtain ⟨δ, h4, g1, g2, g3⟩ := yes h1 o1 (by simp [hitB, hat, hr])
        simp only [envE] at g3
        simp [c43_l10, c43_r10, c43_r11, c43_r12, c43_r13, c43_r14, hlt, t1, cl, cl1, e1, hwr, hr, fieldA, abuildSlice, afill, zeros, g1, g2]
        exact ⟨s.length + 1 - (e + 1), by omega, by simpa using g3⟩
      | true =>
        cases hbe : behindB c e ahead with
        | false =>
          rw [hbe] at e2
          have hn := no h2 (o1.trans o2) (by simp [hitB, hat, hr, hbe])
          simp only [envE] at hn
          simp [c43_l10, c43_r10, c43_r11, c43_r12, c43_r13, c43_r14, hlt, t1, cl, cl1, e1, hwr, hr, fieldA, e2]
          exact ⟨s.length + 1 - (e + 1), by omega, by simpa using hn⟩
        | true =>
          rw [hbe] at e2
          obtain ⟨δ, h4, g1, g2, g3⟩ := yes h2 (o1.trans o2) (by simp [hitB, hat, hr, hbe])
          simp only [envE] at g3
          simp [c43_l10, c43_r10, c43_r11, c43_r12, c43_r13, c43_r14, hlt, t1, cl, cl1, e1, hwr, hr, fieldA, e2, abuildSlice, afill, zeros, g1, g2]
          exact ⟨s.length + 1 - (e + 1), by omega, by simpa using g3⟩
  · have : e = s.length + 1 := by omega
    subst this
    have := hq b h ho hb
    simp only [envE] at this
    simp [c43_l10, c43_r10]
    simpa using this

/-! ### all contents -/

/-- What is there after some contents: the places of each, and those of the last. -/
def endsStep (s : Txt) (x : List (List Int) × List Int) (c : Cont) : List (List Int) × List Int :=
  if c.not then x else (x.1 ++ [hits c s x.2 (s.length + 1)], hits c s x.2 (s.length + 1))
def endsAll (l : List Cont) (s : Txt) : List (List Int) × List Int := l.foldl (endsStep s) ([], [])

theorem endsAll_step {l : List Cont} {s : Txt} {i : Nat} (h : i < l.length) : endsAll (l.take (i + 1)) s = endsStep s (endsAll (l.take i) s) l[i] := by
  rw [List.take_succ_eq_append_getElem h]
  simp only [endsAll, List.foldl_append, List.foldl_cons, List.foldl_nil]

theorem endsAll_ok {l : List Cont} {s : Txt} : (∀ p ∈ (endsAll l s).2, 0 ≤ p ∧ p < s.length + 1) ∧ (endsAll l s).2.length ≤ s.length + 1 ∧ (endsAll l s).1.length ≤ l.length ∧ (∀ q ∈ (endsAll l s).1, (∀ p ∈ q, 0 ≤ p ∧ p < s.length + 1) ∧ q.length ≤ s.length + 1) := by
  have key : ∀ n (l : List Cont), l.length = n → (∀ p ∈ (endsAll l s).2, 0 ≤ p ∧ p < s.length + 1) ∧ (endsAll l s).2.length ≤ s.length + 1 ∧ (endsAll l s).1.length ≤ l.length ∧ (∀ q ∈ (endsAll l s).1, (∀ p ∈ q, 0 ≤ p ∧ p < s.length + 1) ∧ q.length ≤ s.length + 1) := by
    intro n
    induction n with
    | zero =>
      intro l h
      have : l = [] := List.length_eq_zero_iff.1 h
      subst this
      simp [endsAll]
    | succ n ih =>
      intro l h
      rcases List.eq_nil_or_concat l with e | ⟨k, c, e⟩
      · subst e; simp at h
      · have e' : l = k ++ [c] := by simpa using e
        subst e'
        simp at h
        obtain ⟨h1, h2, h3, h4⟩ := ih k h
        have hst : endsAll (k ++ [c]) s = endsStep s (endsAll k s) c := by simp only [endsAll, List.foldl_append, List.foldl_cons, List.foldl_nil]
        rw [hst]
        unfold endsStep
        split
        · exact ⟨h1, h2, by simp; omega, h4⟩
        · have hr := hits_range (c := c) (s := s) (ahead := (endsAll k s).2) (n := s.length + 1)
          have hl := hits_len (c := c) (s := s) (ahead := (endsAll k s).2) (n := s.length + 1)
          have hr' : ∀ p ∈ hits c s (endsAll k s).2 (s.length + 1), 0 ≤ p ∧ p < s.length + 1 := fun p hp => by have := hr p hp; omega
          refine ⟨hr', hl, by simp; omega, fun q hq => ?_⟩
          simp at hq
          rcases hq with hq | rfl
          · exact h4 q hq
          · exact ⟨hr', hl⟩
  exact key _ l rfl

/-- Slices of slices of numbers: what they hold, and that they are new. -/
structure LL (h₀ h : Heap) (B : Nat) (bs : List Nat) (ls : List (List Int)) : Prop where
  len : bs.length = ls.length
  top : ls.length ≠ 0 → h[B]? = some (.cells (List.zipWith intSl bs ls) 30 true) ∧ h₀.length ≤ B
  each : ∀ (i : Nat) (l : List Int) (b : Nat), ls[i]? = some l → bs[i]? = some b → l ≠ [] → h[b]? = some (.cells (intCells l) 3 true) ∧ h₀.length ≤ b ∧ (ls.length ≠ 0 → b ≠ B)

abbrev llSl (B : Nat) (bs : List Nat) (ls : List (List Int)) : AV := bufSl B ls.length (List.zipWith intSl bs ls)

theorem LL.same {h₀ h h' : Heap} {B : Nat} {bs : List Nat} {ls : List (List Int)} (H : LL h₀ h B bs ls) (ho : Only (fun _ => False) h h') : LL h₀ h' B bs ls :=
  ⟨H.len, fun hn => ⟨ho.at (H.top hn).1 id, (H.top hn).2⟩, fun i l b hl hb hne => ⟨ho.at (H.each i l b hl hb hne).1 id, (H.each i l b hl hb hne).2⟩⟩

theorem LL.lt {h₀ h : Heap} {B : Nat} {bs : List Nat} {ls : List (List Int)} (H : LL h₀ h B bs ls) : True := trivial

/-- A slice more. -/
theorem append_sl {h₀ h : Heap} {B : Nat} {bs : List Nat} {ls : List (List Int)} (H : LL h₀ h B bs ls) {b : Nat} {l : List Int} (hb : l ≠ [] → h[b]? = some (.cells (intCells l) 3 true) ∧ h₀.length ≤ b ∧ (ls.length ≠ 0 → b ≠ B)) (h0 : h₀.length ≤ h.length) (hn : ls.length ≤ 1000000) :
    ∃ δ h' B', append2 Try.prog (look (h ++ [AObj.cells [intSl b l] 30 true])) (h.length + 1) 44 44 [llSl B bs ls, .sl (some ⟨h.length, 0, 1⟩) 1 1] = some (llSl B' (bs ++ [b]) (ls ++ [l]), δ) ∧ Heap.apply (h ++ [AObj.cells [intSl b l] 30 true]) δ = h' ∧
      LL h₀ h' B' (bs ++ [b]) (ls ++ [l]) ∧ Only (fun c => c = B ∧ ls.length ≠ 0) h h' ∧ (B' = B ∧ ls.length ≠ 0 ∨ B' = h.length + 1) := by
  have hz : (List.zipWith intSl bs ls).length = ls.length := by simp [H.len]
  obtain ⟨δ, h', h1, h2, h3, h4⟩ := append_buf (t := 44) (e := 30) (k := 1) (by simp) (by simp) (by decide) (by simp) (by simp) (h := h) (b := B) (n := ls.length) (xs := List.zipWith intSl bs ls) (ys := [intSl b l]) (by simp) (by omega) (fun e => (H.top e).1) hn
  have e : List.zipWith intSl bs ls ++ [intSl b l] = List.zipWith intSl (bs ++ [b]) (ls ++ [l]) := by rw [List.zipWith_append H.len]; rfl
  rw [e] at h1 h3
  refine ⟨δ, h', if ls.length = 0 then h.length + 1 else B, ?_, h2, ⟨by simp [H.len], fun _ => ⟨h3, ?_⟩, fun i q c hq hc hne => ?_⟩, h4, ?_⟩
  · rw [h1]; simp [llSl]
  · split
    · omega
    · rename_i hl; exact (H.top hl).2
  · have old : ∀ {c : Nat} {q : List Int}, h[c]? = some (.cells (intCells q) 3 true) → h₀.length ≤ c → (ls.length ≠ 0 → c ≠ B) → h'[c]? = some (.cells (intCells q) 3 true) ∧ h₀.length ≤ c ∧ ((ls ++ [l]).length ≠ 0 → c ≠ if ls.length = 0 then h.length + 1 else B) := by
      intro c q hc1 hc2 hc3
      refine ⟨h4.at hc1 fun e => hc3 e.2 e.1, hc2, fun _ => ?_⟩
      have := lt_of_at hc1
      split
      · omega
      · rename_i hl; exact hc3 hl
    by_cases hi : i < ls.length
    · rw [List.getElem?_append_left hi] at hq
      rw [List.getElem?_append_left (by rw [H.len]; exact hi)] at hc
      obtain ⟨g1, g2, g3⟩ := H.each i q c hq hc hne
      exact old g1 g2 g3
    · have hi' : i = ls.length := by
        have := (List.getElem?_eq_some_iff.1 hq).1
        simp at this
        omega
      subst hi'
      rw [List.getElem?_append_right (by omega)] at hq
      rw [List.getElem?_append_right (by rw [H.len]; omega)] at hc
      simp [H.len] at hq hc
      subst hq
      subst hc
      obtain ⟨g1, g2, g3⟩ := hb hne
      exact old g1 g2 g3
  · split
    · exact .inr rfl
    · rename_i hl; exact .inl ⟨rfl, hl⟩

end Go.AM
