/-
  Contents: does one end at a place; does it follow an earlier one's place?
-/
import Derived.Test.YtamidpfdiijjgaaS1
namespace Go.AM
open Go Go.Proofs
set_option linter.unusedVariables false
set_option linter.unusedSimpArgs false
set_option maxRecDepth 100000

structure Cont where
  bytes : Txt
  nocase : Bool
  not : Bool
  offset : Int
  depth : Int
  rel : Bool
  distance : Int
  within : Int

abbrev contCell (c : Cont) : List AV := [.str c.bytes, .bool c.nocase, .bool c.not, .int .i64 c.offset, .int .i64 c.depth, .bool c.rel, .int .i64 c.distance, .int .i64 c.within]
abbrev Cont.av (c : Cont) : AV := .agg (contCell c)

/-- Numbers that no sum turns. -/
structure Cont.small (c : Cont) : Prop where
  b : c.bytes.length ≤ 1000000
  o : -1000000 ≤ c.offset ∧ c.offset ≤ 1000000
  d : -1000000 ≤ c.depth ∧ c.depth ≤ 1000000
  di : -1000000 ≤ c.distance ∧ c.distance ≤ 1000000
  w : -1000000 ≤ c.within ∧ c.within ≤ 1000000

/-- Does a pattern end at a place of a text? -/
def patAt (p : Txt) (nc : Bool) (s : Txt) (e : Nat) : Bool :=
  decide (p.length ≤ e) && decide (e ≤ s.length) && (decide ((s.drop (e - p.length)).take p.length = p) || (nc && decide (fold ((s.drop (e - p.length)).take p.length) = fold p)))

def placed (c : Cont) (e : Nat) : Bool := c.rel || (decide (c.offset ≤ (e : Int) - c.bytes.length) && (decide (c.depth ≤ 0) || decide ((e : Int) ≤ c.offset + c.depth)))

def endsAt (c : Cont) (s : Txt) (e : Nat) : Bool := patAt c.bytes c.nocase s e && placed c e

def followsB (c : Cont) (p e : Int) : Bool := decide (p ≤ e) && decide (p + c.distance ≤ e - c.bytes.length) && (decide (c.within ≤ 0) || decide (e ≤ p + c.distance + c.within))

theorem append_byte {h : Heap} {b : Nat} {l : Txt} {x : UInt8} (hb : l.length ≠ 0 → h[b]? = some (.cells (byteCells l) 5 true)) (hn : l.length ≤ 1000000) :
    ∃ δ h', append2 Try.prog (look (h ++ [AObj.cells [.int .u8 x.toNat] 5 true])) (h.length + 1) 25 25 [bufSl b l.length (byteCells l), .sl (some ⟨h.length, 0, 1⟩) 1 1] = some (bufSl (if l.length = 0 then h.length + 1 else b) (l ++ [x]).length (byteCells (l ++ [x])), δ) ∧ Heap.apply (h ++ [AObj.cells [.int .u8 x.toNat] 5 true]) δ = h' ∧
      h'[if l.length = 0 then h.length + 1 else b]? = some (.cells (byteCells (l ++ [x])) 5 true) ∧ Only (fun c => c = b ∧ l.length ≠ 0) h h' := by
  obtain ⟨δ, h', h1, h2, h3, h4⟩ := append_buf (t := 25) (e := 5) (k := 1) (by simp) (by simp) (by decide) (by simp) (by simp) (h := h) (b := b) (n := l.length) (xs := byteCells l) (ys := [.int .u8 x.toNat]) (by simp) (by simp [byteCells]) hb hn
  have e : byteCells l ++ [AV.int .u8 x.toNat] = byteCells (l ++ [x]) := by simp [byteCells]
  rw [e] at h1 h3
  refine ⟨δ, h', ?_, h2, h3, h4⟩
  rw [h1]
  simp

def In60 (h₀ : Heap) (s : Txt) (m : Nat) (st : St) : Prop := ∃ i b h, m = s.length - i ∧ i ≤ s.length ∧ st = ⟨[(0, .str s), (3, bufSl b (fold (s.take i)).length (byteCells (fold (s.take i)))), (4, .int .i64 (i : Nat))], h⟩ ∧
  ((fold (s.take i)).length ≠ 0 → h[b]? = some (.cells (byteCells (fold (s.take i))) 5 true) ∧ h₀.length ≤ b) ∧ Only (fun _ => False) h₀ h

theorem fold_step {s : Txt} {i : Nat} (h : i < s.length) : fold (s.take (i + 1)) = fold (s.take i) ++ [lowB s[i]] := by
  rw [List.take_succ_eq_append_getElem h]; unfold fold; rw [List.map_append]; rfl

theorem fold_ref {h : Heap} {s : Txt} (hs : s.length ≤ 1000000) : ∃ h', D cfg 60 [.str s] h = some (.str (fold s), h') ∧ Only (fun _ => False) h h' := by
  have key : ∃ r h', D cfg 60 [.str s] h = some (r, h') ∧ (r = .str (fold s) ∧ Only (fun _ => False) h h') := by
    refine call60 (R := fun r h' => r = .str (fold s) ∧ Only (fun _ => False) h h') (args := [.str s]) (h := h) (by simp) ?_
    simp [c60, c60_r0, c60_r1, c60_r2]
    refine Wt.loop (In60 h s) (m := s.length) ⟨0, 0, h, rfl, Nat.zero_le _, by simp [fold, bufSl], by simp [fold], .refl⟩ ?_
    rintro m st ⟨i, b, h1, rfl, hi, rfl, hb, ho⟩
    have hcut : cut (some [0, 3, 4]) [(0, .str s), (3, bufSl b (fold (s.take i)).length (byteCells (fold (s.take i)))), (4, .int .i64 (i : Nat))] = [(0, .str s), (3, bufSl b (fold (s.take i)).length (byteCells (fold (s.take i)))), (4, .int .i64 (i : Nat))] := by simp
    simp only [hcut]
    by_cases his : i < s.length
    · have his' : (i : Int) < s.length := by omega
      have hwr : IntKind.wrap .i64 ((i : Int) + 1) = i + 1 := wrap_i64 (by omega) (by omega)
      have hcell : s[i]? = some s[i] := List.getElem?_eq_getElem his
      have hu := s[i].toNat_lt
      obtain ⟨δ, h2, e2, e3, e4, o4⟩ := append_byte (h := h1) (b := b) (l := fold (s.take i)) (x := lowB s[i]) (fun hne => (hb hne).1) (by rw [fold_len]; simp; omega)
      rw [← fold_step his] at e2 e4
      have hnext : In60 h s (s.length - (i + 1)) ⟨[(0, .str s), (3, bufSl (if (fold (s.take i)).length = 0 then h1.length + 1 else b) (fold (s.take (i + 1))).length (byteCells (fold (s.take (i + 1))))), (4, .int .i64 (i + 1 : Nat))], h2⟩ := by
        refine ⟨i + 1, _, h2, rfl, his, rfl, fun _ => ⟨e4, ?_⟩, ho.fresh o4 fun c e => by rw [e.1]; exact (hb e.2).2⟩
        have := ho.1
        split
        · omega
        · rename_i hne; exact (hb hne).2
      by_cases h65 : 65 ≤ s[i].toNat
      · have hu1 : (65 : Int) ≤ s[i].toNat := by omega
        by_cases h90 : s[i].toNat ≤ 90
        · have hlow : ((lowB s[i]).toNat : Int) = s[i].toNat + 32 := by simp only [lowB, if_pos (And.intro h65 h90)]; simp; omega
          have hw : IntKind.wrap .u8 ((s[i].toNat : Int) + 32) = s[i].toNat + 32 := wrap_u8 (by omega) (by omega)
          have hu2 : (s[i].toNat : Int) ≤ 90 := by omega
          rw [hlow] at e2 e3
          simp [c60_l3, c60_r3, c60_r4, c60_r5, c60_r6, c60_r7, c60_r8, len1, alen, his, his', aindex, hcell, hu1, hu2, h65, h90, hw, abuildSlice, afill, zeros, e2, e3, hwr]
          exact ⟨s.length - (i + 1), by omega, by simpa using hnext⟩
        · have hlow : lowB s[i] = s[i] := by simp only [lowB]; rw [if_neg (fun h => h90 h.2)]
          have hu2 : ¬ ((s[i].toNat : Int) ≤ 90) := by omega
          rw [hlow] at e2 e3
          simp [c60_l3, c60_r3, c60_r4, c60_r5, c60_r6, c60_r7, c60_r8, len1, alen, his, his', aindex, hcell, hu1, hu2, h65, h90, abuildSlice, afill, zeros, e2, e3, hwr]
          exact ⟨s.length - (i + 1), by omega, by simpa using hnext⟩
      · have hlow : lowB s[i] = s[i] := by simp only [lowB]; rw [if_neg (fun h => h65 h.1)]
        have hu1 : ¬ ((65 : Int) ≤ s[i].toNat) := by omega
        rw [hlow] at e2 e3
        simp [c60_l3, c60_r3, c60_r4, c60_r5, c60_r6, c60_r7, c60_r8, len1, alen, his, his', aindex, hcell, hu1, h65, abuildSlice, afill, zeros, e2, e3, hwr]
        exact ⟨s.length - (i + 1), by omega, by simpa using hnext⟩
    · have : i = s.length := by omega
      subst this
      rw [List.take_length] at hb ⊢
      by_cases h0 : (fold s).length = 0
      · have : fold s = [] := List.length_eq_zero_iff.1 h0
        simp [c60_l3, c60_r3, c60_r9, len1, alen, aconv, this, bufSl]
        exact ho
      · obtain ⟨hb1, hb2⟩ := hb h0
        have ht : List.take (fold s).length (byteCells (fold s)) = byteCells (fold s) := List.take_of_length_le (by rw [byteCells_len]; omega)
        have h0' : 0 < (fold s).length := by omega
        simp [c60_l3, c60_r3, c60_r9, len1, alen, aconv, bufSl, h0, h0', slCells, AM.row, hb1, byteCells_len, ht, cellBytes_all]
        exact ho
  obtain ⟨r, h', h1, rfl, h2⟩ := key
  exact ⟨h', h1, h2⟩


theorem alenS {L : Look} {s : Txt} : alen Try.prog L 9 (.str s) = some (.int .i64 s.length) := by simp [alen]

theorem fold_drop {s : Txt} {n : Nat} : (fold s).drop n = fold (s.drop n) := by simp [fold, List.map_drop]
theorem fold_take {s : Txt} {n : Nat} : (fold s).take n = fold (s.take n) := by simp [fold, List.map_take]

/-- 'At' of the document. -/
theorem at_ref {h : Heap} {p s : Txt} {nc : Bool} {e : Nat} (hp : p.length ≤ 1000000) (hs : s.length ≤ 1000000) : ∃ h', D cfg 57 [.str p, .bool nc, .str s, .int .i64 e] h = some (.bool (patAt p nc s e), h') ∧ Only (fun _ => False) h h' := by
  have key : ∃ r h', D cfg 57 [.str p, .bool nc, .str s, .int .i64 e] h = some (r, h') ∧ (r = .bool (patAt p nc s e) ∧ Only (fun _ => False) h h') := by
    refine call57 (R := fun r h' => r = .bool (patAt p nc s e) ∧ Only (fun _ => False) h h') (args := [.str p, .bool nc, .str s, .int .i64 e]) (h := h) (by simp) ?_
    by_cases h1 : e < p.length
    · have h1' : ¬ (p.length ≤ e) := by omega
      simp [c57, c57_r0, c57_r1, c57_r2, len1, alenS, h1, patAt, h1', Only.refl]
    · by_cases h2 : s.length < e
      · have h2' : ¬ (e ≤ s.length) := by omega
        simp [c57, c57_r0, c57_r1, c57_r2, len1, alenS, h1, h2, patAt, h2', Only.refl]
      · have h1' : p.length ≤ e := by omega
        have h2' : e ≤ s.length := by omega
        have hw : IntKind.wrap .i64 ((e : Int) - p.length) = ((e - p.length : Nat) : Int) := by rw [wrap_i64 (by omega) (by omega)]; omega
        have hee : e - (e - p.length) = p.length := by omega
        obtain ⟨t, ht⟩ : ∃ t, t = (s.drop (e - p.length)).take p.length := ⟨_, rfl⟩
        have hsl : List.take p.length (List.drop (e - p.length) s) = t := ht.symm
        have htl : t.length ≤ 1000000 := by rw [ht]; simp; omega
        obtain ⟨h3, e3, o3⟩ := fold_ref (h := h) htl
        obtain ⟨h4, e4, o4⟩ := fold_ref (h := h3) hp
        have hm : e - p.length ≤ e := by omega
        simp only [patAt]
        rw [← ht]
        by_cases htp : t = p
        · simp [c57, c57_r0, c57_r1, c57_r2, c57_r3, c57_r4, len1, alenS, h1, h2, h1', h2', hw, aslice, bound, hee, hm, hsl, htp, Only.refl]
        · cases nc with
          | false => simp [c57, c57_r0, c57_r1, c57_r2, c57_r3, c57_r4, len1, alenS, h1, h2, h1', h2', hw, aslice, bound, hee, hm, hsl, htp, Only.refl]
          | true =>
            simp [c57, c57_r0, c57_r1, c57_r2, c57_r3, c57_r4, len1, alenS, h1, h2, h1', h2', hw, aslice, bound, hee, hm, hsl, htp, e3, e4]
            exact o3.trans o4
  obtain ⟨r, h', h1, rfl, h2⟩ := key
  exact ⟨h', h1, h2⟩

end Go.AM
