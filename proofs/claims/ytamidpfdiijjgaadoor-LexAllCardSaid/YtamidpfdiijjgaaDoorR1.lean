/-
  The document's lexer: letter (27), digit (29), hex (49), word (28), number (30).
-/
import Derived.Test.YtamidpfdiijjgaaDoorF2
namespace Go.AM
open Go Go.Proofs
set_option linter.unusedVariables false
set_option linter.unusedSimpArgs false
set_option maxRecDepth 100000

theorem dropC {s : Txt} {i : Nat} (h : i < s.length) : ∃ c, s[i]? = some c ∧ s.drop i = c :: s.drop (i + 1) := ⟨s[i], List.getElem?_eq_getElem h, List.drop_eq_getElem_cons h⟩
theorem dropN {s : Txt} {i : Nat} (h : ¬ i < s.length) : s.drop i = [] := List.drop_eq_nil_of_le (by omega)

def fstD (s : Txt) : Bool := match s with
  | [] => false
  | b :: _ => bD b
def fstX (s : Txt) : Int := match s with
  | [] => -1
  | b :: _ => hexR b.toNat

section
variable {s : Txt} {i : Nat} {h : Heap}

theorem let27 : D cfg 27 [.str s, .int .i64 i] h = some (.bool (fstL (s.drop i)), h) := by
  refine D_eq (call27 (R := fun r h' => r = _ ∧ h' = _) (by simp) ?_)
  by_cases hil : i < s.length
  · have hil' : (i : Int) < s.length := by omega
    obtain ⟨c, hc, hd⟩ := dropC hil
    rw [hd]
    simp only [fstL, bL, isL]
    obtain ⟨r, hr⟩ : ∃ r, r = (c.toNat : Int) := ⟨_, rfl⟩
    rw [← hr]
    have hidx : aindex Tryd.prog 9 (.str s) (.int .i64 i) = some (.int .u8 r) := by simp [aindex, hc, hr]
    by_cases h1 : 97 ≤ r <;> by_cases h2 : r ≤ 122 <;> by_cases h3 : 65 ≤ r <;> by_cases h4 : r ≤ 90 <;> simp [c27, c27_r0, c27_r1, len1, alen, hidx, pickV, hil, h1, h2, h3, h4]
  · have hil' : ¬ (i : Int) < s.length := by omega
    rw [dropN hil]
    simp [c27, c27_r0, c27_r1, len1, alen, pickV, hil, fstL]

theorem dig29 : D cfg 29 [.str s, .int .i64 i] h = some (.bool (fstD (s.drop i)), h) := by
  refine D_eq (call29 (R := fun r h' => r = _ ∧ h' = _) (by simp) ?_)
  by_cases hil : i < s.length
  · have hil' : (i : Int) < s.length := by omega
    obtain ⟨c, hc, hd⟩ := dropC hil
    rw [hd]
    simp only [fstD, bD, isD]
    obtain ⟨r, hr⟩ : ∃ r, r = (c.toNat : Int) := ⟨_, rfl⟩
    rw [← hr]
    have hidx : aindex Tryd.prog 9 (.str s) (.int .i64 i) = some (.int .u8 r) := by simp [aindex, hc, hr]
    by_cases h1 : 48 ≤ r <;> by_cases h2 : r ≤ 57 <;> simp [c29, c29_r0, c29_r1, len1, alen, hidx, pickV, hil, h1, h2]
  · have hil' : ¬ (i : Int) < s.length := by omega
    rw [dropN hil]
    simp [c29, c29_r0, c29_r1, len1, alen, pickV, hil, fstD]

theorem hex49 : D cfg 49 [.str s, .int .i64 i] h = some (.int .i64 (fstX (s.drop i)), h) := by
  refine D_eq (call49 (R := fun r h' => r = _ ∧ h' = _) (by simp) ?_)
  by_cases hil : i < s.length
  · have hil' : (i : Int) < s.length := by omega
    have ed := dig29 (s := s) (i := i) (h := h)
    obtain ⟨c, hc, hd⟩ := dropC hil
    rw [hd] at ed
    rw [hd]
    simp only [fstX, hexR]
    have hc0 : (0 : Int) ≤ c.toNat := by omega
    have hc1 : (c.toNat : Int) ≤ 255 := by have := c.toNat_lt; omega
    obtain ⟨r, hr⟩ : ∃ r, r = (c.toNat : Int) := ⟨_, rfl⟩
    have ed : D cfg 29 [.str s, .int .i64 i] h = some (.bool (isD r), h) := by rw [ed, hr]; rfl
    rw [← hr] at hc0 hc1 ⊢
    have hidx : aindex Tryd.prog 9 (.str s) (.int .i64 i) = some (.int .u8 r) := by simp [aindex, hc, hr]
    by_cases hd : isD r = true
    · have : 48 ≤ r ∧ r ≤ 57 := by simpa [isD] using hd
      have w1 : IntKind.wrap .u8 (r - 48) = r - 48 := wrap_u8 (by omega) (by omega)
      have w2 : IntKind.wrap .i64 (r - 48) = r - 48 := wrap_i64 (by omega) (by omega)
      simp [c49, c49_r0, c49_r1, c49_r2, ed, hd, hidx, aconv, w1, w2]
    · by_cases h97 : 97 ≤ r <;> by_cases h102 : r ≤ 102
      · have w1 : IntKind.wrap .u8 (r - 97) = r - 97 := wrap_u8 (by omega) (by omega)
        have w2 : IntKind.wrap .i64 (r - 97) = r - 97 := wrap_i64 (by omega) (by omega)
        have w3 : IntKind.wrap .i64 (r - 97 + 10) = r - 97 + 10 := wrap_i64 (by omega) (by omega)
        simp [c49, c49_r0, c49_r1, c49_r3, c49_r4, ed, hd, hidx, len1, alen, pickV, hil, h97, h102, aconv, w1, w2, w3]
      all_goals by_cases h65 : 65 ≤ r <;> by_cases h70 : r ≤ 70
      all_goals try (exfalso; omega)
      all_goals first
        | (have w1 : IntKind.wrap .u8 (r - 65) = r - 65 := wrap_u8 (by omega) (by omega)
           have w2 : IntKind.wrap .i64 (r - 65) = r - 65 := wrap_i64 (by omega) (by omega)
           have w3 : IntKind.wrap .i64 (r - 65 + 10) = r - 65 + 10 := wrap_i64 (by omega) (by omega)
           simp [c49, c49_r0, c49_r1, c49_r3, c49_r5, c49_r6, ed, hd, hidx, len1, alen, pickV, hil, h97, h102, h65, h70, aconv, w1, w2, w3]; done)
        | (simp [c49, c49_r0, c49_r1, c49_r3, c49_r5, c49_r7, ed, hd, hidx, len1, alen, pickV, hil, h97, h102, h65, h70, aconv]; done)
  · have ed := dig29 (s := s) (i := i) (h := h)
    rw [dropN hil] at ed
    rw [dropN hil]
    simp [c49, c49_r0, c49_r1, c49_r3, c49_r5, c49_r7, ed, fstD, fstX, len1, alen, pickV, hil]

/-! ### a word -/

def wordW (s : Txt) : Txt := if fstL s then s.takeWhile bE else []
def wordT (w : Txt) : Txt := if w.length ≤ 20 then lowA w else []

def In28 (h₀ : Heap) (s : Txt) (i : Nat) (m : Nat) (st : St) : Prop := ∃ j h B bs, m = s.length - j ∧ i ≤ j ∧ j ≤ s.length ∧
  st = ⟨[(0, .str s), (1, .int .i64 j), (6, byteSl B bs)], h⟩ ∧ BufAt h₀.length h B bs ∧ Only (fun _ => False) h₀ h ∧ bs.length = j - i ∧
  bs ++ lowA (if bs = [] then wordW (s.drop j) else (s.drop j).takeWhile bE) = lowA (wordW (s.drop i))

theorem lowA_cons {c : UInt8} {s : Txt} : lowA (c :: s) = lowA [c] ++ lowA s := rfl
theorem lowA_len {s : Txt} : (lowA s).length = s.length := by simp [lowA, Lib.toLowerA]

theorem lowA_one {c : UInt8} : lowA [c] = [if 65 ≤ c.toNat ∧ c.toNat ≤ 90 then UInt8.ofNat (c.toNat + 32) else c] := by
  have : ∀ n : Nat, n < 256 → lowA [UInt8.ofNat n] = [if 65 ≤ n ∧ n ≤ 90 then UInt8.ofNat (n + 32) else UInt8.ofNat n] := by decide
  have h := this c.toNat c.toNat_lt
  simpa using h

theorem word28 (hi : i ≤ s.length) (hs : s.length ≤ 10000) :
    ∃ h', D cfg 28 [.str s, .int .i64 i] h = some (.tup [.str (wordT (wordW (s.drop i))), .int .i64 ((i + (wordW (s.drop i)).length : Nat) : Int)], h') ∧ Only (fun _ => False) h h' := by
  obtain ⟨W, hW⟩ : ∃ W, W = wordW (s.drop i) := ⟨_, rfl⟩
  rw [← hW]
  have key : ∃ r h', D cfg 28 [.str s, .int .i64 i] h = some (r, h') ∧ (r = .tup [.str (wordT W), .int .i64 ((i + W.length : Nat) : Int)] ∧ Only (fun _ => False) h h') := by
    refine call28 (R := fun r h' => r = .tup [.str (wordT W), .int .i64 ((i + W.length : Nat) : Int)] ∧ Only (fun _ => False) h h') (args := [.str s, .int .i64 i]) (h := h) (by simp) ?_
    simp [c28, c28_r0, c28_r1]
    have hinit : byteSl 0 [] = .sl none 0 0 := rfl
    refine Wt.loop (In28 h s i) (m := s.length - i) ⟨i, h, 0, [], rfl, Nat.le_refl _, hi, by rw [hinit], .nil, .refl, by simp, by simp⟩ ?_
    rintro m st ⟨j, h1, B, bs, rfl, hij, hj, rfl, Hb, ho, hlen, he⟩
    have hcut : cut (some [0, 1, 6]) [(0, AV.str s), (1, .int .i64 (j : Int)), (6, byteSl B bs)] = [(0, AV.str s), (1, .int .i64 (j : Int)), (6, byteSl B bs)] := by simp
    simp only [hcut]
    have eL := fun h => let27 (s := s) (i := j) (h := h)
    have eD := fun h => dig29 (s := s) (i := j) (h := h)
    have hblen : ∀ L, alen Tryd.prog L 37 (byteSl B bs) = some (.int .i64 bs.length) := fun L => by
      unfold byteSl bufSl
      by_cases hb0 : bs.length = 0
      · rw [if_pos hb0]; simp [alen, hb0]
      · rw [if_neg hb0]; simp [alen]
    rw [← hW] at he
    -- does it go on?
    obtain ⟨g, hg⟩ : ∃ g, g = (fstL (s.drop j) || (decide (0 < bs.length) && fstD (s.drop j))) := ⟨_, rfl⟩
    have hcond : ∀ x : Bool, x = g → True := fun _ _ => trivial
    by_cases hgo : g = true
    · have hjl : j < s.length := by
        by_cases hjl : j < s.length
        · exact hjl
        · rw [hg, dropN hjl] at hgo; simp [fstL, fstD] at hgo
      obtain ⟨c, hc, hd⟩ := dropC hjl
      have hidx : aindex Tryd.prog 9 (.str s) (.int .i64 j) = some (.int .u8 c.toNat) := by simp [aindex, hc]
      obtain ⟨x, hx⟩ : ∃ x : UInt8, x = if 65 ≤ c.toNat ∧ c.toNat ≤ 90 then UInt8.ofNat (c.toNat + 32) else c := ⟨_, rfl⟩
      obtain ⟨δ, h2, B2, a1, a2, a3, a4⟩ := append_byte Hb (x := x) (by omega) ho.1
      have hcb := c.toNat_lt
      have hE : bE c = true := by
        rw [hg, hd] at hgo
        simp only [fstL, fstD] at hgo
        simp [bE, isE, bL, bD] at hgo ⊢
        rcases hgo with h | h
        · exact .inl h
        · exact .inr h.2
      have hnext : In28 h s i (s.length - (j + 1)) ⟨[(0, .str s), (1, .int .i64 ((j + 1 : Nat) : Int)), (6, byteSl B2 (bs ++ [x]))], h2⟩ := by
        refine ⟨j + 1, h2, B2, bs ++ [x], rfl, by omega, hjl, rfl, a3, ho.fresh a4 fun c e => by rw [e.1]; exact (Hb.at_ e.2).1, by simp; omega, ?_⟩
        rw [← hW, ← he, if_neg (by simp), hd]
        have : (if bs = [] then wordW (c :: s.drop (j + 1)) else (c :: s.drop (j + 1)).takeWhile bE) = c :: (s.drop (j + 1)).takeWhile bE := by
          by_cases hb0 : bs = []
          · subst hb0
            rw [if_pos rfl]
            rw [hg, hd] at hgo
            simp at hgo
            rw [wordW, if_pos hgo, List.takeWhile_cons, if_pos hE]
          · rw [if_neg hb0, List.takeWhile_cons, if_pos hE]
        rw [this, lowA_cons (c := c), lowA_one, ← hx]
        simp
      have w1 : IntKind.wrap .i64 ((j : Int) + 1) = j + 1 := wrap_i64 (by omega) (by omega)
      have hup : (65 ≤ c.toNat ∧ c.toNat ≤ 90) → (x.toNat : Int) = c.toNat + 32 := fun hu => by rw [hx, if_pos hu]; simp; omega
      have hlo : ¬ (65 ≤ c.toNat ∧ c.toNat ≤ 90) → x.toNat = c.toNat := fun hu => by rw [hx, if_neg hu]
      have hnext' : In28 h s i (s.length - (j + 1)) ⟨[(0, .str s), (1, .int .i64 ((j : Int) + 1)), (6, byteSl B2 (bs ++ [x]))], h2⟩ := by simpa using hnext
      by_cases i90 : (c.toNat : Int) ≤ 90 <;> by_cases i65 : (65 : Int) ≤ c.toNat
      · have h90 : c.toNat ≤ 90 := by omega
        have h65 : 65 ≤ c.toNat := by omega
        have w2 : IntKind.wrap .u8 ((c.toNat : Int) + 32) = x.toNat := by rw [hup ⟨h65, h90⟩]; exact wrap_u8 (by omega) (by omega)
        by_cases hl : fstL (s.drop j) = true
        · simp [-AV.cells, -AV.one, -AV.notTup, c28_l2, c28_r2, c28_r3, c28_r4, c28_r5, c28_r6, c28_r7, eL, eD, hl, len1, hblen, pickV, hidx, i90, i65, w1, w2, abuildSlice, afill, zeros, splice, cells_int, one_int, a1, a2]
          exact ⟨_, by omega, hnext'⟩
        · have hl' : fstL (s.drop j) = false := by simpa using hl
          rw [hg, hl'] at hgo
          simp at hgo
          simp [-AV.cells, -AV.one, -AV.notTup, c28_l2, c28_r2, c28_r3, c28_r4, c28_r5, c28_r6, c28_r7, eL, eD, hl', hgo.1, hgo.2, len1, hblen, pickV, hidx, i90, i65, w1, w2, abuildSlice, afill, zeros, splice, cells_int, one_int, a1, a2]
          exact ⟨_, by omega, hnext'⟩
      all_goals have hx' : x.toNat = c.toNat := hlo (by omega)
      all_goals rw [hx'] at a1 a2
      all_goals by_cases hl : fstL (s.drop j) = true
      all_goals first
        | (have hl' : fstL (s.drop j) = false := by simpa using hl
           rw [hg, hl'] at hgo
           simp at hgo
           simp [-AV.cells, -AV.one, -AV.notTup, c28_l2, c28_r2, c28_r3, c28_r4, c28_r6, c28_r7, eL, eD, hl', hgo.1, hgo.2, len1, hblen, pickV, hidx, i90, i65, w1, abuildSlice, afill, zeros, splice, cells_int, one_int, a1, a2]
           exact ⟨_, by omega, hnext'⟩)
        | (simp [-AV.cells, -AV.one, -AV.notTup, c28_l2, c28_r2, c28_r3, c28_r4, c28_r6, c28_r7, eL, eD, hl, len1, hblen, pickV, hidx, i90, i65, w1, abuildSlice, afill, zeros, splice, cells_int, one_int, a1, a2]
           exact ⟨_, by omega, hnext'⟩)
    · have hgo' : g = false := by simpa using hgo
      rw [hg] at hgo'
      simp at hgo'
      obtain ⟨hl, hdg⟩ := hgo'
      have hW2 : bs = lowA W := by
        rw [← he]
        by_cases hjl : j < s.length
        · obtain ⟨c, hc, hd⟩ := dropC hjl
          rw [hd] at hl hdg ⊢
          by_cases hb0 : bs = []
          · rw [if_pos hb0, wordW, hl]; simp [lowA, Lib.toLowerA]
          · have hE : bE c = false := by
              have h1 := hdg (List.length_pos_iff.2 hb0)
              simp only [fstL, fstD, bL, bD] at hl h1
              simp [bE, isE, hl, h1]
            rw [if_neg hb0, List.takeWhile_cons, hE]
            simp [lowA, Lib.toLowerA]
        · rw [dropN hjl]
          simp [wordW, fstL, lowA, Lib.toLowerA]
      have hlen2 : bs.length = W.length := by rw [hW2, lowA_len]
      have hjW : j = i + W.length := by omega
      have hjI : (j : Int) = (i : Int) + (W.length : Int) := by omega
      have hconv : ∀ n, aconv Tryd.prog (look h1) n 37 9 (byteSl B bs) = some (.str bs, .no) := fun n => conv_bytes Hb
      by_cases h20 : W.length ≤ 20
      · have h20' : ¬ (20 : Int) < bs.length := by omega
        by_cases hb0 : 0 < bs.length
        · simp [-AV.cells, -AV.one, -AV.notTup, c28_l2, c28_r2, c28_r8, c28_r10, eL, eD, hl, hdg hb0, len1, hblen, pickV, hb0, h20', hconv, tup_str, tup_int]
          exact ⟨⟨by rw [wordT, if_pos h20, hW2], hjI⟩, ho⟩
        · simp [-AV.cells, -AV.one, -AV.notTup, c28_l2, c28_r2, c28_r8, c28_r10, eL, eD, hl, len1, hblen, pickV, hb0, h20', hconv, tup_str, tup_int]
          exact ⟨⟨by rw [wordT, if_pos h20, hW2], hjI⟩, ho⟩
      · have h20' : (20 : Int) < bs.length := by omega
        have hb0 : 0 < bs.length := by omega
        simp [-AV.cells, -AV.one, -AV.notTup, c28_l2, c28_r2, c28_r8, c28_r9, eL, eD, hl, hdg hb0, len1, hblen, pickV, hb0, h20', tup_str, tup_int]
        exact ⟨⟨by rw [wordT, if_neg h20], hjI⟩, ho⟩
  obtain ⟨r, h', h1, rfl, h2⟩ := key
  exact ⟨h', h1, h2⟩

/-! ### a number -/

def numR (w : Txt) (n : Int) : Int := w.foldl (fun n c => min (10 * n + ((c.toNat : Int) - 48)) 1125899906842624) n

theorem numR_min {w : Txt} : ∀ {n : Int}, (∀ c ∈ w, bD c = true) → 0 ≤ n → 0 ≤ numR w n ∧ numV w (min n 1000000000000) = min (numR w n) 1000000000000 := by
  induction w with
  | nil => intro n _ h0; exact ⟨h0, rfl⟩
  | cons c w ih =>
    intro n hw h0
    have hc := hw c (List.mem_cons_self ..)
    have hd : 48 ≤ c.toNat ∧ c.toNat ≤ 57 := by simp [bD, isD] at hc; omega
    have := ih (n := min (10 * n + ((c.toNat : Int) - 48)) 1125899906842624) (fun b hb => hw b (List.mem_cons_of_mem _ hb)) (by omega)
    refine ⟨this.1, ?_⟩
    simp only [numR, numV, List.foldl_cons] at this ⊢
    rw [← this.2]
    congr 1
    omega

def In30 (h₀ : Heap) (s : Txt) (i : Nat) (m : Nat) (st : St) : Prop := ∃ j v, m = s.length - j ∧ i ≤ j ∧ j ≤ s.length ∧
  st = ⟨[(0, .str s), (1, .int .i64 j), (7, .int .i64 v)], h₀⟩ ∧ 0 ≤ v ∧ v ≤ 1125899906842624 ∧ numR ((s.drop j).takeWhile bD) v = numR ((s.drop i).takeWhile bD) 0 ∧ j + ((s.drop j).takeWhile bD).length = i + ((s.drop i).takeWhile bD).length

theorem num30 (hi : i ≤ s.length) (hs : s.length ≤ 10000) :
    D cfg 30 [.str s, .int .i64 i] h = some (.tup [.int .i64 (numR ((s.drop i).takeWhile bD) 0), .int .i64 ((i + ((s.drop i).takeWhile bD).length : Nat) : Int),
      .bool (decide (numR ((s.drop i).takeWhile bD) 0 ≤ 999999999999) && !fstL (s.drop (i + ((s.drop i).takeWhile bD).length)))], h) := by
  obtain ⟨V, hV⟩ : ∃ V, V = numR ((s.drop i).takeWhile bD) 0 := ⟨_, rfl⟩
  obtain ⟨J, hJ⟩ : ∃ J, J = i + ((s.drop i).takeWhile bD).length := ⟨_, rfl⟩
  rw [← hV, ← hJ]
  refine D_eq (call30 (R := fun r h' => r = _ ∧ h' = _) (by simp) ?_)
  simp [c30, c30_r0, c30_r1]
  refine Wt.loop (In30 h s i) (m := s.length - i) ⟨i, 0, rfl, Nat.le_refl _, hi, rfl, by omega, by omega, rfl, rfl⟩ ?_
  rintro m st ⟨j, v, rfl, hij, hj, rfl, hv0, hv1, he, hn⟩
  have hcut : cut (some [0, 1, 7]) [(0, AV.str s), (1, .int .i64 (j : Int)), (7, .int .i64 v)] = [(0, AV.str s), (1, .int .i64 (j : Int)), (7, .int .i64 v)] := by simp
  simp only [hcut]
  rw [← hV] at he
  rw [← hJ] at hn
  have eD := dig29 (s := s) (i := j) (h := h)
  by_cases hg : fstD (s.drop j) = true
  · have hjl : j < s.length := by
      by_cases hjl : j < s.length
      · exact hjl
      · rw [dropN hjl] at hg; simp [fstD] at hg
    obtain ⟨c, hc, hd⟩ := dropC hjl
    have hidx : aindex Tryd.prog 9 (.str s) (.int .i64 j) = some (.int .u8 c.toNat) := by simp [aindex, hc]
    have hbD : bD c = true := by rw [hd] at hg; exact hg
    have hdig : 48 ≤ c.toNat ∧ c.toNat ≤ 57 := by simp [bD, isD] at hbD; omega
    rw [hd, List.takeWhile_cons, if_pos hbD] at he hn
    have w1 : IntKind.wrap .i64 (10 * v) = 10 * v := wrap_i64 (by omega) (by omega)
    have w2 : IntKind.wrap .u8 ((c.toNat : Int) - 48) = c.toNat - 48 := wrap_u8 (by omega) (by omega)
    have w3 : IntKind.wrap .i64 ((c.toNat : Int) - 48) = c.toNat - 48 := wrap_i64 (by omega) (by omega)
    have w4 : IntKind.wrap .i64 (10 * v + ((c.toNat : Int) - 48)) = 10 * v + (c.toNat - 48) := wrap_i64 (by omega) (by omega)
    have w5 : IntKind.wrap .i64 ((j : Int) + 1) = j + 1 := wrap_i64 (by omega) (by omega)
    obtain ⟨v', hv'⟩ : ∃ v', v' = min (10 * v + ((c.toNat : Int) - 48)) 1125899906842624 := ⟨_, rfl⟩
    have hmin : (if (1125899906842624 : Int) < 10 * v + ((c.toNat : Int) - 48) then 1125899906842624 else 10 * v + ((c.toNat : Int) - 48)) = v' := by
      rw [hv']; split <;> omega
    have hnext : In30 h s i (s.length - (j + 1)) ⟨[(0, .str s), (1, .int .i64 ((j + 1 : Nat) : Int)), (7, .int .i64 v')], h⟩ := by
      refine ⟨j + 1, v', rfl, by omega, hjl, rfl, by omega, by omega, ?_, ?_⟩
      · rw [← hV, ← he, hv']; rfl
      · rw [← hJ, ← hn]; simp; omega
    have hnext' : In30 h s i (s.length - (j + 1)) ⟨[(0, .str s), (1, .int .i64 ((j : Int) + 1)), (7, .int .i64 v')], h⟩ := by simpa using hnext
    simp [c30_l2, c30_r2, c30_r3, c30_r4, eD, hg, hidx, aconv, amin, amin1, w1, w2, w3, w4, w5, hmin]
    exact ⟨_, by omega, hnext'⟩
  · have hg' : fstD (s.drop j) = false := by simpa using hg
    have htw : (s.drop j).takeWhile bD = [] := by
      by_cases hjl : j < s.length
      · obtain ⟨c, hc, hd⟩ := dropC hjl
        rw [hd] at hg' ⊢
        rw [List.takeWhile_cons, if_neg (by rw [show bD c = false from hg']; simp)]
      · rw [dropN hjl]; rfl
    rw [htw] at he hn
    have hv : v = V := he
    have hjJ : j = J := by simpa using hn
    subst hv hjJ
    have eL := let27 (s := s) (i := j) (h := h)
    by_cases hm : v ≤ 999999999999
    · simp [c30_l2, c30_r2, c30_r5, eD, hg', hm, eL, pickV]
    · simp [c30_l2, c30_r2, c30_r5, eD, hg', hm, pickV]
end

end Go.AM
