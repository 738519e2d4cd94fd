/-
  What stands between two quotes (25).
-/
import Derived.Test.YtamidpfdiijjgaaDoorE6
namespace Go.AM
open Go Go.Proofs
set_option linter.unusedVariables false
set_option linter.unusedSimpArgs false
set_option maxRecDepth 100000

def bytesM : Nat → Txt → Txt → Option (Txt × Txt)
  | 0, _, _ => none
  | n + 1, [], b => none
  | n + 1, c :: r, b =>
    if c = 34 then some (r, b)
    else if c = 124 then match pairsM r b (-1) false with
      | some (r', b') => bytesM n r' b'
      | none => none
    else if c = 92 then match r with
      | [] => none
      | d :: r' => if d = 34 ∨ d = 124 ∨ d = 92 then bytesM n r' (b ++ [d]) else none
    else if 32 ≤ c.toNat ∧ c.toNat ≤ 126 then bytesM n r (b ++ [c]) else none

theorem bytesM_fuel : ∀ (n m : Nat) (s b : Txt), s.length < n → s.length < m → bytesM n s b = bytesM m s b
  | 0, m, s, b, h, _ => by omega
  | n + 1, 0, s, b, _, h => by omega
  | n + 1, m + 1, [], b, _, _ => rfl
  | n + 1, m + 1, c :: r, b, h1, h2 => by
    simp only [List.length_cons] at h1 h2
    unfold bytesM
    split
    · rfl
    · split
      · cases hp : pairsM r b (-1) false with
        | none => rfl
        | some x =>
          obtain ⟨r', b'⟩ := x
          have := pairsM_len hp
          exact bytesM_fuel n m r' b' (by omega) (by omega)
      · split
        · cases r with
          | nil => rfl
          | cons d r' =>
            simp only [List.length_cons] at h1 h2
            simp only
            split
            · exact bytesM_fuel n m r' _ (by omega) (by omega)
            · rfl
        · split
          · exact bytesM_fuel n m r _ (by omega) (by omega)
          · rfl

section
variable {n0 b B Bt : Nat} {h : Heap} {s bs : Txt} {line : Int} {l : List Tok}

def strOf (line : Int) (l : List Tok) : Option (Txt × Txt) → Option LS
  | some (r, b) => some ⟨r, line, l ++ [⟨3, b, 0, line⟩]⟩
  | none => none
def strM (t : LS) : Option LS := strOf t.line t.l (bytesM (t.s.length + 1) t.s [])

def In25 (n0 : Nat) (h₀ : Heap) (b Bt : Nat) (s : Txt) (line : Int) (l : List Tok) (m : Nat) (st : St) : Prop := ∃ h B bs s', m = s'.length ∧
  st = ⟨[(0, tp b), (3, byteSl B bs)], h⟩ ∧ TextAt n0 h b Bt s' line l ∧ BufAt n0 h B bs ∧ Nw n0 h₀ h ∧ bs.length + s'.length ≤ s.length ∧ bytesM (s'.length + 1) s' bs = bytesM (s.length + 1) s []

theorem quoteR {r : Int} (h0 : 0 ≤ r) : hasR [34, 124, 92] r = decide (r = 34 ∨ r = 124 ∨ r = 92) := by
  have q : ∀ n : Int, (decide (n = r) = true) ↔ r = n := fun n => by simp [eq_comm]
  by_cases h1 : r = 34
  · subst h1; decide
  · by_cases h2 : r = 124
    · subst h2; decide
    · by_cases h3 : r = 92
      · subst h3; decide
      · have e1 : ¬ (34 : Int) = r := fun e => h1 e.symm
        have e2 : ¬ (124 : Int) = r := fun e => h2 e.symm
        have e3 : ¬ (92 : Int) = r := fun e => h3 e.symm
        simp [hasR, h1, h2, h3, e1, e2, e3]

theorem u34 {c : UInt8} : c = 34 ↔ c.toNat = 34 := by rw [← UInt8.toNat_inj]; rfl
theorem u124 {c : UInt8} : c = 124 ↔ c.toNat = 124 := by rw [← UInt8.toNat_inj]; rfl
theorem u92 {c : UInt8} : c = 92 ↔ c.toNat = 92 := by rw [← UInt8.toNat_inj]; rfl

theorem bytes25 (H : TextAt n0 h b Bt s line l) (hl : l.length ≤ 100000) (hs : s.length ≤ 10000) (hn0 : n0 ≤ h.length) :
    ∃ r h', D cfg 25 [tp b] h = some (r, h') ∧ Res n0 h b line (strM ⟨s, line, l⟩) r h' := by
  refine call25 (R := fun r h' => Res n0 h b line (strM ⟨s, line, l⟩) r h') (args := [tp b]) (h := h) (by simp) ?_
  obtain ⟨res, hres⟩ : ∃ res, res = bytesM (s.length + 1) s [] := ⟨_, rfl⟩
  have hstr : strM ⟨s, line, l⟩ = strOf line l res := by rw [hres]; rfl
  rw [hstr]
  simp [c25, c25_r0, c25_r1]
  have hinit : byteSl 0 [] = .sl none 0 0 := rfl
  refine Wt.loop (In25 n0 h b Bt s line l) (m := s.length) ⟨h, 0, [], s, rfl, by rw [hinit], H, .nil, .refl, by simp, rfl⟩ ?_
  rintro m st ⟨h1, B1, b1, s1, rfl, rfl, H1, Hb1, o1, hb1, he⟩
  have hcut : cut (some [0, 3]) [(0, tp b), (3, byteSl B1 b1)] = [(0, tp b), (3, byteSl B1 b1)] := by simp
  simp only [hcut]
  rw [← hres] at he
  have hn1 : n0 ≤ h1.length := Nat.le_trans hn0 o1.1
  cases s1 with
  | nil =>
    simp only [bytesM] at he
    simp [-AV.cells, -AV.one, -AV.notTup, c25_l2, c25_r2, c25_r20, fieldA, H1.ldS, tup_bool]
    rw [← he]
    exact ⟨rfl, H1.ldN, o1⟩
  | cons c r =>
    simp only [List.length_cons] at hb1
    obtain ⟨h2, e2, o2⟩ := first16 (s := c :: r) (h := h1)
    have H2 := H1.same o2
    have Hb2 := Hb1.same o2
    obtain ⟨h3, e3, H3, o3, ob, ho3⟩ := take18o H2 (n := 1) (by simp)
    have Hb3 : BufAt n0 h3 B1 b1 := by rw [ho3]; exact Hb2.keep H2
    have o13 : Nw n0 h h3 := (o1.trans o2.nw).trans o3
    have hn3 : n0 ≤ h3.length := Nat.le_trans hn0 o13.1
    have e3' : D cfg 18 [tp b, .int .i64 1] h2 = some (.str [c], h3) := by simpa using e3
    have H3' : TextAt n0 h3 b Bt r line l := by simpa using H3
    have hne : ¬ (c :: r = ([] : Txt)) := by simp
    unfold bytesM at he
    have go : ∀ (h' : Heap) (B' : Nat) (b' s' : Txt), TextAt n0 h' b Bt s' line l → BufAt n0 h' B' b' → Nw n0 h h' → s'.length ≤ r.length → b'.length + s'.length ≤ s.length → bytesM (r.length + 1) s' b' = res →
        ∃ m', m' < (c :: r).length ∧ In25 n0 h b Bt s line l m' ⟨[(0, tp b), (3, byteSl B' b')], h'⟩ :=
      fun h' B' b' s' q1 q2 q3 q4 q5 q6 => ⟨s'.length, by simp; omega, h', B', b', s', rfl, rfl, q1, q2, q3, q5, by rw [← hres, ← q6]; exact bytesM_fuel _ _ _ _ (by omega) (by omega)⟩
    by_cases hsm : c.toNat < 128
    · have hf : fst (c :: r) = c.toNat := fst_small hsm
      rw [hf] at e2
      by_cases h34 : c.toNat = 34
      · rw [if_pos (u34.2 h34)] at he
        have e2' : D cfg 16 [.str (c :: r)] h1 = some (.int .i32 34, h2) := by simpa [h34] using e2
        obtain ⟨h4, B4, e4, H4, o4⟩ := put34 H3' (k := 3) (n := 0) (w := b1) hl hn3
        simp [-AV.cells, -AV.one, -AV.notTup, c25_l2, c25_r2, c25_r3, c25_r4, c25_r5, c25_r6, c25_r8, c25_r9, c25_r10, fieldA, H1.ldS, hne, e2', e3', pickV, conv_bytes Hb3, e4, tup_bool]
        rw [← he]
        exact ⟨rfl, ⟨B4, H4⟩, o13.trans o4⟩
      · rw [if_neg (fun e => h34 (u34.1 e))] at he
        have q34 : ¬ ((c.toNat : Int) = 34) := by omega
        by_cases h124 : c.toNat = 124
        · rw [if_pos (u124.2 h124)] at he
          have e2' : D cfg 16 [.str (c :: r)] h1 = some (.int .i32 124, h2) := by simpa [h124] using e2
          obtain ⟨v, h4, e4, p4⟩ := pairs36 H3' Hb3 (by omega) (by omega) hn3
          cases hp : pairsM r b1 (-1) false with
          | none =>
            rw [hp] at he p4
            obtain ⟨⟨x, rfl, hx⟩, q1, q2⟩ := p4
            simp [-AV.cells, -AV.one, -AV.notTup, c25_l2, c25_r2, c25_r3, c25_r4, c25_r5, c25_r6, c25_r8, c25_r11, c25_r12, c25_r18, c25_r19, fieldA, H1.ldS, hne, e2', e3', pickV, e4, extractV, tup_bool]
            rw [← he]
            exact ⟨rfl, q1, o13.trans q2⟩
          | some x =>
            obtain ⟨r', b'⟩ := x
            have hlen := pairsM_len hp
            rw [hp] at he p4
            obtain ⟨⟨B4, rfl, Hb4⟩, H4, o4⟩ := p4
            simp [-AV.cells, -AV.one, -AV.notTup, c25_l2, c25_r2, c25_r3, c25_r4, c25_r5, c25_r6, c25_r8, c25_r11, c25_r12, c25_r18, fieldA, H1.ldS, hne, e2', e3', pickV, e4, extractV, tup_bool]
            simpa using go h4 B4 b' r' H4 Hb4 (o13.trans o4) (by omega) (by omega) he
        · rw [if_neg (fun e => h124 (u124.1 e))] at he
          have q124 : ¬ ((c.toNat : Int) = 124) := by omega
          by_cases h92 : c.toNat = 92
          · rw [if_pos (u92.2 h92)] at he
            have e2' : D cfg 16 [.str (c :: r)] h1 = some (.int .i32 92, h2) := by simpa [h92] using e2
            obtain ⟨h4, e4, o4⟩ := first16 (s := r) (h := h3)
            obtain ⟨h5, e5, o5⟩ := con37 (s := [34, 124, 92]) (by decide) (by decide) (fst_ge (s := r)) fst_le (h := h4)
            have H5 := (H3'.same o4).same o5
            have Hb5 := (Hb3.same o4).same o5
            have o15 : Nw n0 h h5 := (o13.trans o4.nw).trans o5.nw
            have hn5 : n0 ≤ h5.length := Nat.le_trans hn0 o15.1
            by_cases hq : hasR [34, 124, 92] (fst r) = true
            · cases r with
              | nil => simp [fst, hasR] at hq
              | cons d r' =>
                have hdq : d = 34 ∨ d = 124 ∨ d = 92 := by
                  rw [quoteR fst_ge] at hq
                  by_cases hd : d.toNat < 128
                  · rw [fst_small hd] at hq
                    have : d.toNat = 34 ∨ d.toNat = 124 ∨ d.toNat = 92 := by simp at hq; omega
                    rcases this with e | e | e
                    · exact .inl (u34.2 e)
                    · exact .inr (.inl (u124.2 e))
                    · exact .inr (.inr (u92.2 e))
                  · have := fst_high (s := r') (Nat.le_of_not_lt hd)
                    simp at hq; omega
                simp only [hdq, if_true] at he
                obtain ⟨h6, e6, H6, o6, ob6, ho6⟩ := take18o H5 (n := 1) (by simp)
                have Hb6 : BufAt n0 h6 B1 b1 := by rw [ho6]; exact Hb5.keep H5
                have e6' : D cfg 18 [tp b, .int .i64 1] h5 = some (.str [d], h6) := by simpa using e6
                have H6' : TextAt n0 h6 b Bt r' line l := by simpa using H6
                have o16 : Nw n0 h h6 := o15.trans o6
                obtain ⟨δ, h7, B7, a1, a2, a3, a4⟩ := append_one Hb6 (x := d) (by omega) (Nat.le_trans hn0 o16.1)
                simp only [List.length_cons] at hb1
                simp [-AV.cells, -AV.one, -AV.notTup, c25_l2, c25_r2, c25_r3, c25_r4, c25_r5, c25_r6, c25_r8, c25_r11, c25_r13, c25_r14, c25_r15, c25_r16, c25_r17, c25_r18, fieldA, H1.ldS, hne, e2', e3', pickV, H3'.ldS, e4, e5, hq, e6', a1, a2, tup_bool]
                simpa using go h7 B7 (b1 ++ [d]) r' (H6'.byte Hb6 a4) a3 (o16.trans (Hb6.nw a4)) (by simp) (by simp; omega) (by rw [← he]; exact bytesM_fuel _ _ _ _ (by simp only [List.length_cons]; omega) (by simp only [List.length_cons]; omega))
            · have hq' : hasR [34, 124, 92] (fst r) = false := by simpa using hq
              have hno : none = res := by
                cases r with
                | nil => exact he
                | cons d r' =>
                  have hdq : ¬ (d = 34 ∨ d = 124 ∨ d = 92) := by
                    intro hd
                    rw [quoteR fst_ge] at hq
                    have hd2 : d.toNat = 34 ∨ d.toNat = 124 ∨ d.toNat = 92 := by rcases hd with rfl | rfl | rfl <;> simp
                    rw [fst_small (by omega)] at hq
                    simp at hq; omega
                  simp only [hdq, if_false] at he
                  exact he
              simp [-AV.cells, -AV.one, -AV.notTup, c25_l2, c25_r2, c25_r3, c25_r4, c25_r5, c25_r6, c25_r8, c25_r11, c25_r13, c25_r14, c25_r15, c25_r16, c25_r18, c25_r19, fieldA, H1.ldS, hne, e2', e3', pickV, H3'.ldS, e4, e5, hq', tup_bool]
              rw [← hno]
              exact ⟨rfl, H5.ldN, o15⟩
          · rw [if_neg (fun e => h92 (u92.1 e))] at he
            have q92 : ¬ ((c.toNat : Int) = 92) := by omega
            have w8 : IntKind.wrap .u8 (c.toNat : Int) = c.toNat := wrap_u8 (by omega) (by omega)
            obtain ⟨δ, h4, B4, a1, a2, a3, a4⟩ := append_byte Hb3 (x := c) (by omega) hn3
            have o14 : Nw n0 h h4 := o13.trans (Hb3.nw a4)
            have H4 := H3'.byte Hb3 a4
            by_cases h32 : 32 ≤ c.toNat
            · have i32 : (32 : Int) ≤ c.toNat := by omega
              by_cases h126 : c.toNat ≤ 126
              · have i126 : (c.toNat : Int) ≤ 126 := by omega
                rw [if_pos ⟨h32, h126⟩] at he
                simp [-AV.cells, -AV.one, -AV.notTup, c25_l2, c25_r2, c25_r3, c25_r4, c25_r5, c25_r6, c25_r7, c25_r8, c25_r11, c25_r13, c25_r18, fieldA, H1.ldS, hne, e2, e3', pickV, q34, q124, q92, i32, i126, aconv, w8, abuildSlice, afill, zeros, splice, cells_int, one_int, a1, a2, tup_bool]
                simpa using go h4 B4 (b1 ++ [c]) r H4 a3 o14 (by simp) (by simp; omega) (by rw [← he]; exact bytesM_fuel _ _ _ _ (by omega) (by simp))
              · have i126 : ¬ (c.toNat : Int) ≤ 126 := by omega
                rw [if_neg (fun e => h126 e.2)] at he
                simp [-AV.cells, -AV.one, -AV.notTup, c25_l2, c25_r2, c25_r3, c25_r4, c25_r5, c25_r6, c25_r7, c25_r8, c25_r11, c25_r13, c25_r18, c25_r19, fieldA, H1.ldS, hne, e2, e3', pickV, q34, q124, q92, i32, i126, aconv, w8, abuildSlice, afill, zeros, splice, cells_int, one_int, a1, a2, tup_bool]
                rw [← he]
                exact ⟨rfl, H4.ldN, o14⟩
            · have i32 : ¬ (32 : Int) ≤ c.toNat := by omega
              rw [if_neg (fun e => h32 e.1)] at he
              simp [-AV.cells, -AV.one, -AV.notTup, c25_l2, c25_r2, c25_r3, c25_r4, c25_r5, c25_r6, c25_r7, c25_r8, c25_r11, c25_r13, c25_r18, c25_r19, fieldA, H1.ldS, hne, e2, e3', pickV, q34, q124, q92, i32, aconv, w8, abuildSlice, afill, zeros, splice, cells_int, one_int, a1, a2, tup_bool]
              rw [← he]
              exact ⟨rfl, H4.ldN, o14⟩
    · have h128 : 128 ≤ c.toNat := Nat.le_of_not_lt hsm
      rw [if_neg (fun e => by have := u34.1 e; omega), if_neg (fun e => by have := u124.1 e; omega), if_neg (fun e => by have := u92.1 e; omega), if_neg (by omega)] at he
      have hf := fst_high (s := r) h128
      obtain ⟨x, hx⟩ : ∃ x, x = fst (c :: r) := ⟨_, rfl⟩
      rw [← hx] at e2 hf
      obtain ⟨δ, h4, v, a1, a2, a4⟩ := append_any Hb3 (x := IntKind.wrap .u8 x) (by omega)
      have o14 : Nw n0 h h4 := o13.trans (Hb3.nw a4)
      have H4 := H3'.byte Hb3 a4
      have q34 : ¬ (x = 34) := by omega
      have q124 : ¬ (x = 124) := by omega
      have q92 : ¬ (x = 92) := by omega
      have h32 : 32 ≤ x := by omega
      have h126 : ¬ x ≤ 126 := by omega
      simp [-AV.cells, -AV.one, -AV.notTup, c25_l2, c25_r2, c25_r3, c25_r4, c25_r5, c25_r6, c25_r7, c25_r8, c25_r11, c25_r13, c25_r18, c25_r19, fieldA, H1.ldS, hne, e2, e3', pickV, q34, q124, q92, h32, h126, aconv, abuildSlice, afill, zeros, splice, cells_int, one_int, a1, a2, tup_bool]
      rw [← he]
      exact ⟨rfl, H4.ldN, o14⟩
end

end Go.AM
