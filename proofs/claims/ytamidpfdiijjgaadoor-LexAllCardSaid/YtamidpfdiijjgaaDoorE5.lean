/-
  A sign (26); pairs of digits (36).
-/
import Derived.Test.YtamidpfdiijjgaaDoorE4
namespace Go.AM
open Go Go.Proofs
set_option linter.unusedVariables false
set_option linter.unusedSimpArgs false
set_option maxRecDepth 100000

/-! ### a sign -/

def signs : Txt := [40, 41, 59, 58, 44, 47, 91, 93, 33, 45, 46, 61]
def signM (t : LS) : Option LS :=
  if begins t.s [45, 62] then some ⟨t.s.drop 2, t.line, t.l ++ [⟨4, [45, 62], 0, t.line⟩]⟩
  else if begins t.s [60, 62] then some ⟨t.s.drop 2, t.line, t.l ++ [⟨4, [60, 62], 0, t.line⟩]⟩
  else if hasR signs (fst t.s) then some ⟨t.s.drop 1, t.line, t.l ++ [⟨4, t.s.take 1, 0, t.line⟩]⟩
  else none

section
variable {n0 b B : Nat} {h : Heap} {s : Txt} {line : Int} {l : List Tok}

def In26 (h₁ : Heap) (b k : Nat) (s : Txt) (m : Nat) (st : St) : Prop := ∃ i : Nat, m = 2 - i ∧ i ≤ 2 ∧
  st = ⟨[(0, tp b), (5, .sl (some ⟨k, 0, 2⟩) 2 2), (6, .int .i64 2), (7, .int .i64 i)], h₁⟩ ∧ (0 < i → begins s [45, 62] = false) ∧ (1 < i → begins s [60, 62] = false)

theorem begins_take {s p : Txt} (h : begins s p = true) : s.take p.length = p ∧ p.length ≤ s.length := by
  simp [begins] at h
  exact ⟨h.2, h.1⟩

theorem sign26 (H : TextAt n0 h b B s line l) (hl : l.length ≤ 100000) (hn0 : n0 ≤ h.length) :
    ∃ r h', D cfg 26 [tp b] h = some (r, h') ∧ Res n0 h b line (signM ⟨s, line, l⟩) r h' := by
  refine call26 (R := fun r h' => Res n0 h b line (signM ⟨s, line, l⟩) r h') (args := [tp b]) (h := h) (by simp) ?_
  simp [c26, c26_r0, c26_r1, abuildSlice, afill, zeros, splice, len1, alen]
  obtain ⟨h1, hh1⟩ : ∃ h1, h1 = h ++ [AObj.cells [.str [45, 62], .str [60, 62]] 9 true] := ⟨_, rfl⟩
  have ho1 : Only (fun _ => False) h h1 := by rw [hh1]; exact .app
  have H1 := H.same ho1
  have hb1 : h1[h.length]? = some (.cells [.str [45, 62], .str [60, 62]] 9 true) := by rw [hh1]; simp
  have hn1 : n0 ≤ h1.length := Nat.le_trans hn0 ho1.1
  rw [← hh1]
  refine Wt.loop (In26 h1 b h.length s) (m := 2) ⟨0, rfl, by omega, rfl, by omega, by omega⟩ ?_
  rintro m st ⟨i, rfl, hi, rfl, p0, p1⟩
  have hcut : cut (some [0, 5, 6, 7]) [(0, tp b), (5, AV.sl (some ⟨h.length, 0, 2⟩) 2 2), (6, .int .i64 2), (7, .int .i64 (i : Int))] = [(0, tp b), (5, AV.sl (some ⟨h.length, 0, 2⟩) 2 2), (6, .int .i64 2), (7, .int .i64 (i : Int))] := by simp
  simp only [hcut]
  have found : ∀ p : Txt, p.length = 2 → begins s p = true → ∃ h2 B2, D cfg 18 [tp b, .int .i64 2] h1 = some (.str p, h2) ∧ ∃ h3, D cfg 34 [tp b, .int .i64 4, .str p, .int .i64 0] h2 = some (.tup [], h3) ∧ TextAt n0 h3 b B2 (s.drop 2) line (l ++ [⟨4, p, 0, line⟩]) ∧ Nw n0 h h3 := by
    intro p hp hb
    obtain ⟨q1, q2⟩ := begins_take hb
    rw [hp] at q1 q2
    obtain ⟨h2, e2, H2, o2⟩ := take18 H1 (n := 2) q2
    rw [q1] at e2
    obtain ⟨h3, B3, e3, H3, o3⟩ := put34 H2 (k := 4) (n := 0) (w := p) hl (Nat.le_trans hn1 o2.1)
    exact ⟨h2, B3, e2, h3, e3, H3, (ho1.nw.trans o2).trans o3⟩
  match i, hi with
  | 0, _ =>
    by_cases hp : begins s [45, 62] = true
    · obtain ⟨h2, B2, e2, h3, e3, H3, o3⟩ := found [45, 62] rfl hp
      simp [c26_l2, c26_r2, c26_r3, c26_r4, c26_r5, c26_r6, aindexAddr, aload, row, look_at, hb1, fieldA, H1.obj, prefix38, hp, len1, alen, e2, e3, signM, Res]
      exact ⟨⟨B2, H3⟩, o3⟩
    · have hp' : begins s [45, 62] = false := by simpa using hp
      have hnext : In26 h1 b h.length s (2 - 1) ⟨[(0, tp b), (5, .sl (some ⟨h.length, 0, 2⟩) 2 2), (6, .int .i64 2), (7, .int .i64 ((1 : Nat) : Int))], h1⟩ := ⟨1, rfl, by omega, rfl, fun _ => hp', by omega⟩
      have w1 : IntKind.wrap .i64 1 = 1 := wrap_i64 (by omega) (by omega)
      simp [c26_l2, c26_r2, c26_r3, c26_r4, c26_r7, aindexAddr, aload, row, look_at, hb1, fieldA, H1.obj, prefix38, hp', w1]
      exact ⟨1, by omega, by simpa using hnext⟩
  | 1, _ =>
    have hp0 := p0 (by omega)
    by_cases hp : begins s [60, 62] = true
    · obtain ⟨h2, B2, e2, h3, e3, H3, o3⟩ := found [60, 62] rfl hp
      simp [c26_l2, c26_r2, c26_r3, c26_r4, c26_r5, c26_r6, aindexAddr, aload, row, look_at, hb1, fieldA, H1.obj, prefix38, hp0, hp, len1, alen, e2, e3, signM, Res]
      exact ⟨⟨B2, H3⟩, o3⟩
    · have hp' : begins s [60, 62] = false := by simpa using hp
      have hnext : In26 h1 b h.length s (2 - 2) ⟨[(0, tp b), (5, .sl (some ⟨h.length, 0, 2⟩) 2 2), (6, .int .i64 2), (7, .int .i64 ((2 : Nat) : Int))], h1⟩ := ⟨2, rfl, by omega, rfl, fun _ => hp0, fun _ => hp'⟩
      have w1 : IntKind.wrap .i64 2 = 2 := wrap_i64 (by omega) (by omega)
      simp [c26_l2, c26_r2, c26_r3, c26_r4, c26_r7, aindexAddr, aload, row, look_at, hb1, fieldA, H1.obj, prefix38, hp', w1]
      simpa using hnext
  | 2, _ =>
    have hp0 := p0 (by omega)
    have hp1 := p1 (by omega)
    obtain ⟨h2, e2, o2⟩ := first16 (s := s) (h := h1)
    obtain ⟨h3, e3, o3⟩ := con37 (s := signs) (by decide) (by decide) (fst_ge (s := s)) fst_le (h := h2)
    have H3 := (H1.same o2).same o3
    have o13 : Nw n0 h h3 := (ho1.nw.trans o2.nw).trans o3.nw
    have e3' : D cfg 37 [.str [40, 41, 59, 58, 44, 47, 91, 93, 33, 45, 46, 61], .int .i32 (fst s)] h2 = some (.bool (hasR signs (fst s)), h3) := e3
    by_cases hq : hasR signs (fst s) = true
    · have hs1 : 1 ≤ s.length := by
        cases s with
        | nil => simp [fst, hasR, signs] at hq
        | cons c s => simp
      obtain ⟨h4, e4, H4, o4⟩ := take18 H3 (n := 1) hs1
      obtain ⟨h5, B5, e5, H5, o5⟩ := put34 H4 (k := 4) (n := 0) (w := s.take 1) hl (Nat.le_trans hn0 (o13.trans o4).1)
      have e4' : D cfg 18 [tp b, .int .i64 1] h3 = some (.str (s.take 1), h4) := e4
      simp [c26_l2, c26_r2, c26_r8, c26_r10, c26_r11, fieldA, H1.ldS, e2, e3', hq, e4', e5, signM, hp0, hp1, Res]
      exact ⟨⟨B5, by simpa using H5⟩, (o13.trans o4).trans o5⟩
    · have hq' : hasR signs (fst s) = false := by simpa using hq
      simp [c26_l2, c26_r2, c26_r8, c26_r9, fieldA, H1.ldS, e2, e3', hq', signM, hp0, hp1, Res]
      exact ⟨H3.ldN, o13⟩
end

/-! ### bytes under way -/

def byteSl (B : Nat) (bs : Txt) : AV := bufSl B bs.length (byteCells bs)
theorem byteCells_len {l : Txt} : (byteCells l).length = l.length := by simp [byteCells]
theorem cellBytes_all {l : Txt} : cellBytes (byteCells l) = some l := by
  induction l with
  | nil => rfl
  | cons c l ih =>
    simp only [byteCells, List.map_cons, cellBytes] at ih ⊢
    rw [ih]
    simp
theorem byteSl_one {B : Nat} {l : Txt} : AV.one (byteSl B l) = true := by unfold byteSl bufSl; split <;> rfl
theorem byteSl_tup {B : Nat} {l : Txt} : AV.notTup (byteSl B l) = true := by unfold byteSl bufSl; split <;> rfl

structure BufAt (n0 : Nat) (h : Heap) (B : Nat) (bs : Txt) : Prop where
  at_ : bs.length ≠ 0 → n0 ≤ B ∧ h[B]? = some (.cells (byteCells bs) 5 true)

theorem BufAt.same {n0 B : Nat} {h h' : Heap} {bs : Txt} (H : BufAt n0 h B bs) (ho : Only (fun _ => False) h h') : BufAt n0 h' B bs := ⟨fun hl => ⟨(H.at_ hl).1, ho.at (H.at_ hl).2 id⟩⟩
theorem BufAt.nil {n0 B : Nat} {h : Heap} : BufAt n0 h B [] := ⟨fun h => (h rfl).elim⟩

theorem conv_bytes {n0 B : Nat} {h : Heap} {bs : Txt} (H : BufAt n0 h B bs) {n : Nat} : aconv Tryd.prog (look h) n 37 9 (byteSl B bs) = some (.str bs, .no) := by
  unfold byteSl bufSl
  by_cases hb : bs.length = 0
  · have : bs = [] := List.length_eq_zero_iff.1 hb
    subst this
    simp [aconv]
  · rw [if_neg hb]
    have h1 := (H.at_ hb).2
    have ht : List.take bs.length (byteCells bs) = byteCells bs := List.take_of_length_le (by rw [byteCells_len]; omega)
    simp [aconv, slCells, row, look_at, h1, byteCells_len, ht, cellBytes_all]

/-- A turn of bytes under way keeps the text. -/
theorem TextAt.byte {n0 b B Bt : Nat} {h h' : Heap} {s : Txt} {line : Int} {l : List Tok} {bs : Txt} (H : TextAt n0 h b Bt s line l) (hb : BufAt n0 h B bs) (ho : Only (fun c => c = B ∧ bs.length ≠ 0) h h') : TextAt n0 h' b Bt s line l := by
  refine ⟨H.lo, ho.at H.obj ?_, fun hl => ⟨(H.sl hl).1, ho.at (H.sl hl).2 ?_⟩⟩
  · rintro ⟨rfl, hne⟩
    have h1 := H.obj
    rw [(hb.at_ hne).2] at h1
    simp at h1
  · rintro ⟨rfl, hne⟩
    have h1 := (H.sl hl).2
    rw [(hb.at_ hne).2] at h1
    simp at h1
theorem BufAt.nw {n0 B : Nat} {h h' : Heap} {bs : Txt} (hb : BufAt n0 h B bs) (ho : Only (fun c => c = B ∧ bs.length ≠ 0) h h') : Nw n0 h h' :=
  ho.mono fun c _ e => by rw [e.1]; exact (hb.at_ e.2).1
/-- A turn of the text keeps the bytes. -/
theorem BufAt.keep {n0 b B Bt : Nat} {h : Heap} {s : Txt} {line : Int} {l : List Tok} {bs : Txt} {o : AObj} (hb : BufAt n0 h B bs) (H : TextAt n0 h b Bt s line l) : BufAt n0 (h.set b o) B bs := by
  refine ⟨fun hne => ⟨(hb.at_ hne).1, ?_⟩⟩
  have h1 := (hb.at_ hne).2
  rw [at_other, h1]
  rintro rfl
  rw [H.obj] at h1
  simp at h1

theorem append_byte {n0 B : Nat} {h : Heap} {bs : Txt} {x : UInt8} (H : BufAt n0 h B bs) (hn : bs.length ≤ 100000) (hn0 : n0 ≤ h.length) :
    ∃ δ h' B', append2 Tryd.prog (look (h ++ [AObj.cells [.int .u8 (x.toNat : Int)] 5 true])) (h.length + 1) 37 37 [byteSl B bs, .sl (some ⟨h.length, 0, 1⟩) 1 1] = some (byteSl B' (bs ++ [x]), δ) ∧ Heap.apply (h ++ [AObj.cells [.int .u8 (x.toNat : Int)] 5 true]) δ = h' ∧
      BufAt n0 h' B' (bs ++ [x]) ∧ Only (fun c => c = B ∧ bs.length ≠ 0) h h' := by
  obtain ⟨δ, h', e1, e2, e3, e4⟩ := append_buf (t := 37) (e := 5) (k := 1) (by simp) (by simp) (by decide) (by simp) (by simp) (h := h) (b := B) (n := bs.length) (xs := byteCells bs) (ys := [.int .u8 (x.toNat : Int)]) (by simp) (by simp [byteCells]) (fun hl => (H.at_ hl).2) (by omega)
  have e : byteCells bs ++ [AV.int .u8 (x.toNat : Int)] = byteCells (bs ++ [x]) := by simp [byteCells]
  rw [e] at e1 e3
  refine ⟨δ, h', _, ?_, e2, ⟨fun _ => ⟨?_, e3⟩⟩, e4⟩
  · rw [byteSl, e1, byteSl]; simp
  · split
    · omega
    · rename_i hne; exact (H.at_ hne).1

/-- Something that is no good is put behind. -/
theorem append_any {n0 B : Nat} {h : Heap} {bs : Txt} {x : Int} (H : BufAt n0 h B bs) (hn : bs.length ≤ 100000) :
    ∃ δ h' v, append2 Tryd.prog (look (h ++ [AObj.cells [.int .u8 x] 5 true])) (h.length + 1) 37 37 [byteSl B bs, .sl (some ⟨h.length, 0, 1⟩) 1 1] = some (v, δ) ∧ Heap.apply (h ++ [AObj.cells [.int .u8 x] 5 true]) δ = h' ∧ Only (fun c => c = B ∧ bs.length ≠ 0) h h' := by
  obtain ⟨δ, h', e1, e2, e3, e4⟩ := append_buf (t := 37) (e := 5) (k := 1) (by simp) (by simp) (by decide) (by simp) (by simp) (h := h) (b := B) (n := bs.length) (xs := byteCells bs) (ys := [.int .u8 x]) (by simp) (by simp [byteCells]) (fun hl => (H.at_ hl).2) (by omega)
  exact ⟨δ, h', _, e1, e2, e4⟩

/-- A text of one byte behind bytes. -/
theorem append_one {n0 B : Nat} {h : Heap} {bs : Txt} {x : UInt8} (H : BufAt n0 h B bs) (hn : bs.length ≤ 100000) (hn0 : n0 ≤ h.length) :
    ∃ δ h' B', append2 Tryd.prog (look h) h.length 37 9 [byteSl B bs, .str [x]] = some (byteSl B' (bs ++ [x]), δ) ∧ Heap.apply h δ = h' ∧ BufAt n0 h' B' (bs ++ [x]) ∧ Only (fun c => c = B ∧ bs.length ≠ 0) h h' := by
  have e : byteCells bs ++ [AV.int .u8 (x.toNat : Int)] = byteCells (bs ++ [x]) := by simp [byteCells]
  have hsrc : srcCells Tryd.prog (look h) 5 (.str [x]) = some (1, [.int .u8 (x.toNat : Int)]) := by simp [srcCells, byteCells]
  by_cases hb0 : bs.length = 0
  · have : bs = [] := List.length_eq_zero_iff.1 hb0
    subst this
    refine ⟨.new (.cells [.int .u8 (x.toNat : Int)] 5 true), _, h.length, ?_, rfl, ⟨fun _ => ⟨hn0, ?_⟩⟩, .app⟩
    · simp [append2, aappend, hsrc, byteSl, bufSl, aappendE, roomMax, byteCells]
    · simp [byteCells]
  · obtain ⟨q1, q2⟩ := H.at_ hb0
    have hlt := lt_of_at q2
    refine ⟨.set B (.cells (byteCells (bs ++ [x])) 5 true), _, B, ?_, rfl, ⟨fun _ => ⟨q1, at_same hlt⟩⟩, .set ⟨rfl, hb0⟩⟩
    have h2 : ¬ (bs.length + 1 ≤ bs.length) := by omega
    have h3 : bs.length + 1 ≤ roomMax := by simp only [roomMax]; omega
    have h4 : bs.length + 1 ≤ 9223372036854775807 := by omega
    have h5 : List.take bs.length (byteCells bs) = byteCells bs := List.take_of_length_le (by rw [byteCells_len]; omega)
    simp [append2, aappend, hsrc, byteSl, bufSl, hb0, aappendE, look_at, q2, byteCells_len, h2, h3, h4, h5, e]

end Go.AM
