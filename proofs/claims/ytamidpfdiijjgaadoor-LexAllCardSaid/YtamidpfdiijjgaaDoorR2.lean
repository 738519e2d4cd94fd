/-
  The document's lexer: pairs (39), bytes (31), sign (32).
-/
import Derived.Test.YtamidpfdiijjgaaDoorR1
namespace Go.AM
open Go Go.Proofs
set_option linter.unusedVariables false
set_option linter.unusedSimpArgs false
set_option maxRecDepth 100000

def pre (a : Txt) : Option (Txt × Txt) → Option (Txt × Txt)
  | some (r, b) => some (r, a ++ b)
  | none => none

theorem pairsM_acc : ∀ {s a b : Txt} {hi : Int} {sm : Bool}, pairsM s (a ++ b) hi sm = pre a (pairsM s b hi sm)
  | [], a, b, hi, sm => rfl
  | c :: r, a, b, hi, sm => by
    unfold pairsM
    split
    · split <;> rfl
    · split
      · exact pairsM_acc
      · split
        · rfl
        · split
          · exact pairsM_acc
          · rw [List.append_assoc]; exact pairsM_acc

theorem pairsM_acc0 {s a : Txt} {hi : Int} {sm : Bool} : pairsM s a hi sm = pre a (pairsM s [] hi sm) := by
  have := pairsM_acc (s := s) (a := a) (b := []) (hi := hi) (sm := sm)
  rwa [List.append_nil] at this

/-- What 39 and 31 say. -/
def ResR (s : Txt) : Option (Txt × Txt) → AV → Prop
  | some (r, b), v => ∃ j : Nat, j ≤ s.length ∧ r = s.drop j ∧ v = .tup [.str b, .int .i64 j, .bool true]
  | none, v => ∃ x y, v = .tup [.str x, .int .i64 y, .bool false]

section
variable {s : Txt} {i : Nat} {h : Heap}

theorem alenS {s : Txt} {L : Look} : alen Tryd.prog L 9 (.str s) = some (.int .i64 s.length) := by simp [alen]
theorem byteSl_len {B : Nat} {bs : Txt} {L : Look} : alen Tryd.prog L 37 (byteSl B bs) = some (.int .i64 bs.length) := by
  unfold byteSl bufSl
  by_cases hb0 : bs.length = 0
  · rw [if_pos hb0]; simp [alen, hb0]
  · rw [if_neg hb0]; simp [alen]

def In39 (h₀ : Heap) (s : Txt) (res : Option (Txt × Txt)) (m : Nat) (st : St) : Prop := ∃ j h B bs, m = s.length - j ∧ j ≤ s.length ∧
  st = ⟨[(0, .str s), (1, .int .i64 j), (7, byteSl B bs)], h⟩ ∧ BufAt h₀.length h B bs ∧ Only (fun _ => False) h₀ h ∧ bs.length ≤ j ∧
  pairsM (s.drop j) bs (-1) (decide (0 < bs.length)) = res

theorem pairs39 (hi : i ≤ s.length) (hs : s.length ≤ 10000) :
    ∃ v h', D cfg 39 [.str s, .int .i64 i] h = some (v, h') ∧ ResR s (pairsM (s.drop i) [] (-1) false) v ∧ Only (fun _ => False) h h' := by
  obtain ⟨res, hres⟩ : ∃ res, res = pairsM (s.drop i) [] (-1) false := ⟨_, rfl⟩
  rw [← hres]
  refine call39 (R := fun v h' => ResR s res v ∧ Only (fun _ => False) h h') (args := [.str s, .int .i64 i]) (h := h) (by simp) ?_
  simp [c39, c39_r0, c39_r1]
  have hinit : byteSl 0 [] = .sl none 0 0 := rfl
  refine Wt.loop (In39 h s res) (m := s.length - i) ⟨i, h, 0, [], rfl, hi, by rw [hinit], .nil, .refl, by simp, by rw [hres]; rfl⟩ ?_
  rintro m st ⟨j, h1, B, bs, rfl, hj, rfl, Hb, ho, hlen, he⟩
  have hcut : cut (some [0, 1, 7]) [(0, AV.str s), (1, .int .i64 (j : Int)), (7, byteSl B bs)] = [(0, AV.str s), (1, .int .i64 (j : Int)), (7, byteSl B bs)] := by simp
  simp only [hcut]
  have hconv : ∀ n, aconv Tryd.prog (look h1) n 37 9 (byteSl B bs) = some (.str bs, .no) := fun n => conv_bytes Hb
  have w1 : IntKind.wrap .i64 ((j : Int) + 1) = j + 1 := wrap_i64 (by omega) (by omega)
  by_cases hjl : j < s.length
  · obtain ⟨c, hc, hd⟩ := dropC hjl
    have hc0 : (0 : Int) ≤ c.toNat := by omega
    have hc1 : (c.toNat : Int) ≤ 255 := by have := c.toNat_lt; omega
    have eX := fun h => hex49 (s := s) (i := j) (h := h)
    rw [hd] at eX he
    unfold pairsM at he
    simp only [fstX] at eX
    obtain ⟨r, hr⟩ : ∃ r, r = (c.toNat : Int) := ⟨_, rfl⟩
    rw [← hr] at hc0 hc1 eX he
    have hidx : aindex Tryd.prog 9 (.str s) (.int .i64 j) = some (.int .u8 r) := by simp [aindex, hc, hr]
    by_cases h124 : r = 124
    · subst h124
      rw [if_pos rfl] at he
      by_cases hb0 : 0 < bs.length
      · rw [if_pos ⟨by simpa using hb0, by omega⟩] at he
        simp [-AV.cells, -AV.one, -AV.notTup, c39_l2, c39_r2, c39_r10, len1, alenS, byteSl_len, hjl, hidx, pickV, hconv, hb0, w1, tup_str, tup_int, tup_bool]
        rw [← he]
        exact ⟨⟨j + 1, hjl, rfl, by simp⟩, ho⟩
      · rw [if_neg (fun e => hb0 (by simpa using e.1))] at he
        simp [-AV.cells, -AV.one, -AV.notTup, c39_l2, c39_r2, c39_r10, len1, alenS, byteSl_len, hjl, hidx, pickV, hconv, hb0, w1, tup_str, tup_int, tup_bool]
        rw [← he]
        exact ⟨⟨_, _, rfl⟩, ho⟩
    · rw [if_neg h124] at he
      by_cases h32 : r = 32
      · subst h32
        rw [if_pos ⟨rfl, by omega⟩] at he
        have hnext : In39 h s res (s.length - (j + 1)) ⟨[(0, .str s), (1, .int .i64 ((j : Int) + 1)), (7, byteSl B bs)], h1⟩ := ⟨j + 1, h1, B, bs, rfl, hjl, by simp, Hb, ho, by omega, he⟩
        simp [-AV.cells, -AV.one, -AV.notTup, c39_l2, c39_r2, c39_r3, c39_r4, len1, alenS, hjl, hidx, pickV, w1]
        exact ⟨_, by omega, hnext⟩
      · rw [if_neg (fun e => h32 e.1)] at he
        obtain ⟨y, hy⟩ : ∃ y, y = fstX (s.drop (j + 1)) := ⟨_, rfl⟩
        have eY : ∀ h, D cfg 49 [.str s, .int .i64 ((j : Int) + 1)] h = some (.int .i64 y, h) := fun h => by rw [hy]; simpa using hex49 (s := s) (i := j + 1) (h := h)
        have hge := hexR_ge (r := r)
        have hle := hexR_le (r := r)
        by_cases hx : hexR r < 0
        · rw [if_pos hx] at he
          simp [-AV.cells, -AV.one, -AV.notTup, c39_l2, c39_r2, c39_r3, c39_r5, c39_r6, c39_r7, len1, alenS, hjl, hidx, h124, h32, pickV, eX, eY, hx, w1, tup_str, tup_int, tup_bool]
          rw [← he]
          exact ⟨⟨_, _, rfl⟩, ho⟩
        · rw [if_neg hx, if_pos (by omega)] at he
          by_cases hy0 : y < 0
          · have hno : none = res := by
              rw [← he]
              by_cases hjl2 : j + 1 < s.length
              · obtain ⟨d, hd2, hdd⟩ := dropC hjl2
                rw [hdd] at hy ⊢
                simp only [fstX] at hy
                unfold pairsM
                by_cases q : (d.toNat : Int) = 124
                · rw [if_pos q, if_neg (fun e => hx e.2)]
                · rw [if_neg q, if_neg (fun e => hx e.2), if_pos (by omega)]
              · rw [dropN hjl2]; rfl
            simp [-AV.cells, -AV.one, -AV.notTup, c39_l2, c39_r2, c39_r3, c39_r5, c39_r6, c39_r7, len1, alenS, hjl, hidx, h124, h32, pickV, eX, eY, hx, hy0, w1, tup_str, tup_int, tup_bool]
            rw [← hno]
            exact ⟨⟨_, _, rfl⟩, ho⟩
          · have hjl2 : j + 1 < s.length := by
              by_cases hjl2 : j + 1 < s.length
              · exact hjl2
              · rw [dropN hjl2] at hy; simp only [fstX] at hy; omega
            obtain ⟨d, hd2, hdd⟩ := dropC hjl2
            rw [hdd] at hy he
            simp only [fstX] at hy
            have hyle : y ≤ 15 := by rw [hy]; exact hexR_le
            unfold pairsM at he
            have q1 : ¬ (d.toNat : Int) = 124 := by intro e; rw [e] at hy; have : hexR 124 = -1 := by decide
                                                    omega
            rw [if_neg q1, if_neg (fun e => hx e.2), ← hy, if_neg hy0, if_neg hx] at he
            obtain ⟨x, hxx⟩ : ∃ x, x = UInt8.ofNat (hexR r * 16 + y).toNat := ⟨_, rfl⟩
            rw [← hxx] at he
            have hxn : (x.toNat : Int) = 16 * hexR r + y := by rw [hxx]; simp; omega
            obtain ⟨δ, h3, B3, a1, a2, a3, a4⟩ := append_byte Hb (x := x) (by omega) ho.1
            have w2 : IntKind.wrap .i64 (16 * hexR r) = 16 * hexR r := wrap_i64 (by omega) (by omega)
            have w3 : IntKind.wrap .i64 (16 * hexR r + y) = x.toNat := by rw [wrap_i64 (by omega) (by omega)]; omega
            have w4 : IntKind.wrap .u8 (x.toNat : Int) = x.toNat := wrap_u8 (by omega) (by have := x.toNat_lt; omega)
            have w5 : IntKind.wrap .i64 ((j : Int) + 2) = j + 2 := wrap_i64 (by omega) (by omega)
            have hnext : In39 h s res (s.length - (j + 2)) ⟨[(0, .str s), (1, .int .i64 ((j : Int) + 2)), (7, byteSl B3 (bs ++ [x]))], h3⟩ :=
              ⟨j + 2, h3, B3, bs ++ [x], rfl, hjl2, by simp, a3, ho.fresh a4 fun c e => by rw [e.1]; exact (Hb.at_ e.2).1, by simp; omega, by rw [← he]; simp⟩
            simp [-AV.cells, -AV.one, -AV.notTup, c39_l2, c39_r2, c39_r3, c39_r5, c39_r6, c39_r8, c39_r9, len1, alenS, hjl, hidx, h124, h32, pickV, eX, eY, hx, hy0, aconv, w1, w2, w3, w4, w5, abuildSlice, afill, zeros, splice, cells_int, one_int, a1, a2]
            exact ⟨_, by omega, hnext⟩
  · rw [dropN hjl] at he
    simp only [pairsM] at he
    by_cases hb0 : 0 < bs.length
    · simp [-AV.cells, -AV.one, -AV.notTup, c39_l2, c39_r2, c39_r10, len1, alenS, byteSl_len, hjl, pickV, hconv, hb0, w1, tup_str, tup_int, tup_bool]
      rw [← he]
      exact ⟨⟨_, _, rfl⟩, ho⟩
    · simp [-AV.cells, -AV.one, -AV.notTup, c39_l2, c39_r2, c39_r10, len1, alenS, byteSl_len, hjl, pickV, hconv, hb0, w1, tup_str, tup_int, tup_bool]
      rw [← he]
      exact ⟨⟨_, _, rfl⟩, ho⟩

/-! ### bytes -/

def In31 (h₀ : Heap) (s : Txt) (res : Option (Txt × Txt)) (m : Nat) (st : St) : Prop := ∃ (j : Nat) (h : Heap) (out : Txt), m = s.length - j ∧ j ≤ s.length ∧
  st = ⟨[(0, .str s), (1, .int .i64 j), (7, .str out)], h⟩ ∧ Only (fun _ => False) h₀ h ∧ out.length ≤ j ∧
  bytesM (s.length - j + 1) (s.drop j) out = res

theorem bytes31 (hi : i ≤ s.length) (hs : s.length ≤ 10000) :
    ∃ v h', D cfg 31 [.str s, .int .i64 i] h = some (v, h') ∧ ResR s (bytesM ((s.drop i).length + 1) (s.drop i) []) v ∧ Only (fun _ => False) h h' := by
  obtain ⟨res, hres⟩ : ∃ res, res = bytesM ((s.drop i).length + 1) (s.drop i) [] := ⟨_, rfl⟩
  rw [← hres]
  refine call31 (R := fun v h' => ResR s res v ∧ Only (fun _ => False) h h') (args := [.str s, .int .i64 i]) (h := h) (by simp) ?_
  simp [c31, c31_r0, c31_r1]
  refine Wt.loop (In31 h s res) (m := s.length - i) ⟨i, h, [], rfl, hi, rfl, .refl, by simp, by rw [hres, List.length_drop]⟩ ?_
  rintro m st ⟨j, h1, out, rfl, hj, rfl, ho, hlen, he⟩
  have hcut : cut (some [0, 1, 7]) [(0, AV.str s), (1, .int .i64 (j : Int)), (7, .str out)] = [(0, AV.str s), (1, .int .i64 (j : Int)), (7, .str out)] := by simp
  simp only [hcut]
  have w1 : IntKind.wrap .i64 ((j : Int) + 1) = j + 1 := wrap_i64 (by omega) (by omega)
  have w2 : IntKind.wrap .i64 ((j : Int) + 2) = j + 2 := wrap_i64 (by omega) (by omega)
  have go : ∀ (h' : Heap) (j' : Nat) (out' : Txt), j < j' → j' ≤ s.length → Only (fun _ => False) h h' → out'.length ≤ j' → bytesM (s.length - j) (s.drop j') out' = res →
      ∃ m', m' < s.length - j ∧ In31 h s res m' ⟨[(0, .str s), (1, .int .i64 (j' : Int)), (7, .str out')], h'⟩ := by
    intro h' j' out' q1 q2 q3 q4 q5
    refine ⟨s.length - j', by omega, j', h', out', rfl, q2, rfl, q3, q4, ?_⟩
    rw [← q5]
    exact bytesM_fuel _ _ _ _ (by simp) (by simp; omega)
  by_cases hjl : j < s.length
  · have hjI : (j : Int) < s.length := by omega
    obtain ⟨c, hc, hd⟩ := dropC hjl
    have hc0 : (0 : Int) ≤ c.toNat := by omega
    have hc1 : (c.toNat : Int) ≤ 255 := by have := c.toNat_lt; omega
    rw [hd] at he
    unfold bytesM at he
    obtain ⟨r, hr⟩ : ∃ r, r = (c.toNat : Int) := ⟨_, rfl⟩
    have hidx : aindex Tryd.prog 9 (.str s) (.int .i64 j) = some (.int .u8 r) := by simp [aindex, hc, hr]
    have one : aslice Tryd.prog 9 (.str s) (some (.int .i64 (j : Int))) (some (.int .i64 ((j : Int) + 1))) none = some (.str [c]) := by
      have q1 : (0 : Int) ≤ (j : Int) + 1 := by omega
      have q2 : (j : Int) + 1 ≤ s.length := by omega
      have q3 : ((j : Int) + 1).toNat = j + 1 := by omega
      have q4 : (j : Int) ≤ (j : Int) + 1 := by omega
      simp [aslice, bound, q1, q2, q3, q4, hd]
    by_cases h34 : c.toNat = 34
    · rw [if_pos (u34.2 h34)] at he
      have r34 : r = 34 := by omega
      subst r34
      simp [c31_l2, c31_r2, c31_r15, len1, alen, hjl, hidx, pickV, w1]
      rw [← he]
      exact ⟨⟨j + 1, hjl, rfl, by simp⟩, ho⟩
    · rw [if_neg (fun e => h34 (u34.1 e))] at he
      have q34 : ¬ r = 34 := by omega
      by_cases h124 : c.toNat = 124
      · rw [if_pos (u124.2 h124)] at he
        have r124 : r = 124 := by omega
        subst r124
        obtain ⟨v, h2, e2, R2, o2⟩ := pairs39 (s := s) (i := j + 1) (h := h1) hjl hs
        rw [pairsM_acc0] at he
        have e2' : D cfg 39 [.str s, .int .i64 ((j : Int) + 1)] h1 = some (v, h2) := by simpa using e2
        cases hp : pairsM (s.drop (j + 1)) [] (-1) false with
        | none =>
          rw [hp] at he R2
          obtain ⟨x, y, rfl⟩ := R2
          simp [c31_l2, c31_r2, c31_r4, c31_r5, c31_r6, c31_r7, len1, alen, hjl, hidx, pickV, w1, e2', extractV]
          rw [← he]
          exact ⟨⟨_, _, rfl⟩, ho.trans o2⟩
        | some x =>
          obtain ⟨r', b'⟩ := x
          have hlen2 := pairsM_len hp
          rw [hp] at he R2
          obtain ⟨j', hj', rfl, rfl⟩ := R2
          simp only [pre] at he
          simp only [List.length_drop, List.length_nil] at hlen2
          have hadd : ∀ t, abin t .add (.str out) (.str b') = some (.str (out ++ b')) := fun t => abin_addS (by omega)
          simp [c31_l2, c31_r2, c31_r4, c31_r5, c31_r6, c31_r8, len1, alen, hjl, hidx, pickV, w1, e2', extractV, hadd]
          exact go h2 j' (out ++ b') (by omega) hj' (ho.trans o2) (by simp; omega) he
      · rw [if_neg (fun e => h124 (u124.1 e))] at he
        have q124 : ¬ r = 124 := by omega
        by_cases h92 : c.toNat = 92
        · rw [if_pos (u92.2 h92)] at he
          have r92 : r = 92 := by omega
          subst r92
          by_cases hjl2 : j + 1 < s.length
          · have hjl2' : ¬ (s.length : Int) ≤ (j : Int) + 1 := by omega
            obtain ⟨d, hd2, hdd⟩ := dropC hjl2
            rw [hdd] at he
            simp only at he
            obtain ⟨x, hx⟩ : ∃ x, x = (d.toNat : Int) := ⟨_, rfl⟩
            have hidx2 : aindex Tryd.prog 9 (.str s) (.int .i64 ((j : Int) + 1)) = some (.int .u8 x) := by
              have q3 : ((j : Int) + 1).toNat = j + 1 := by omega
              have q4 : (0 : Int) ≤ (j : Int) + 1 := by omega
              simp [aindex, q3, q4, hd2, hx]
            have two : aslice Tryd.prog 9 (.str s) (some (.int .i64 ((j : Int) + 1))) (some (.int .i64 ((j : Int) + 2))) none = some (.str [d]) := by
              have q1 : (0 : Int) ≤ (j : Int) + 2 := by omega
              have q2 : (j : Int) + 2 ≤ s.length := by omega
              have q3 : ((j : Int) + 2).toNat = j + 2 := by omega
              have q4 : (j : Int) + 1 ≤ (j : Int) + 2 := by omega
              have q5 : ((j : Int) + 1).toNat = j + 1 := by omega
              have q6 : (0 : Int) ≤ (j : Int) + 1 := by omega
              have q7 : j + 2 - (j + 1) = 1 := by omega
              simp [aslice, bound, q1, q2, q3, q4, q5, q6, q7, hdd]
            have hadd : ∀ t, abin t .add (.str out) (.str [d]) = some (.str (out ++ [d])) := fun t => abin_addS (by simp; omega)
            have yes : (d = 34 ∨ d = 124 ∨ d = 92) → ∃ m', m' < s.length - j ∧ In31 h s res m' ⟨[(0, .str s), (1, .int .i64 ((j : Int) + 2)), (7, .str (out ++ [d]))], h1⟩ := by
              intro hq
              rw [if_pos hq] at he
              have := go h1 (j + 2) (out ++ [d]) (by omega) (by omega) ho (by simp; omega) he
              simpa using this
            by_cases d34 : d.toNat = 34
            · have y := yes (.inl (u34.2 d34))
              have x34 : x = 34 := by omega
              subst x34
              simp [c31_l2, c31_r2, c31_r4, c31_r9, c31_r10, c31_r12, len1, alen, hjl, hidx, pickV, w1, w2, hjl2', hidx2, two, hadd]
              exact y
            · have x34 : ¬ x = 34 := by omega
              by_cases d124 : d.toNat = 124
              · have y := yes (.inr (.inl (u124.2 d124)))
                have x124 : x = 124 := by omega
                subst x124
                simp [c31_l2, c31_r2, c31_r4, c31_r9, c31_r10, c31_r12, len1, alen, hjl, hidx, pickV, w1, w2, hjl2', hidx2, two, hadd]
                exact y
              · have x124 : ¬ x = 124 := by omega
                by_cases d92 : d.toNat = 92
                · have y := yes (.inr (.inr (u92.2 d92)))
                  have x92 : x = 92 := by omega
                  subst x92
                  simp [c31_l2, c31_r2, c31_r4, c31_r9, c31_r10, c31_r12, len1, alen, hjl, hidx, pickV, w1, w2, hjl2', hidx2, two, hadd]
                  exact y
                · have x92 : ¬ x = 92 := by omega
                  have hq : ¬ (d = 34 ∨ d = 124 ∨ d = 92) := by
                    rintro (e | e | e)
                    · exact d34 (u34.1 e)
                    · exact d124 (u124.1 e)
                    · exact d92 (u92.1 e)
                  rw [if_neg hq] at he
                  simp [c31_l2, c31_r2, c31_r4, c31_r9, c31_r10, c31_r11, len1, alen, hjl, hidx, pickV, w1, w2, hjl2', hidx2, x34, x124, x92]
                  rw [← he]
                  exact ⟨⟨_, _, rfl⟩, ho⟩
          · have hjl2' : (s.length : Int) ≤ (j : Int) + 1 := by omega
            rw [dropN hjl2] at he
            simp only at he
            simp [c31_l2, c31_r2, c31_r4, c31_r9, c31_r10, c31_r11, len1, alen, hjl, hidx, pickV, w1, w2, hjl2']
            rw [← he]
            exact ⟨⟨_, _, rfl⟩, ho⟩
        · rw [if_neg (fun e => h92 (u92.1 e))] at he
          have q92 : ¬ r = 92 := by omega
          have hadd : ∀ t, abin t .add (.str out) (.str [c]) = some (.str (out ++ [c])) := fun t => abin_addS (by simp; omega)
          by_cases h32 : 32 ≤ r
          · by_cases h126 : r ≤ 126
            · rw [if_pos ⟨by omega, by omega⟩] at he
              have y := go h1 (j + 1) (out ++ [c]) (by omega) hjl ho (by simp; omega) he
              simp [c31_l2, c31_r2, c31_r4, c31_r9, c31_r13, c31_r14, len1, alen, hjl, hidx, pickV, q34, q124, q92, h32, h126, w1, one, hadd]
              simpa using y
            · rw [if_neg (fun e => h126 (by omega))] at he
              simp [c31_l2, c31_r2, c31_r3, c31_r4, c31_r9, c31_r13, len1, alen, hjl, hidx, pickV, q34, q124, q92, h32, h126]
              rw [← he]
              exact ⟨⟨_, _, rfl⟩, ho⟩
          · rw [if_neg (fun e => h32 (by omega))] at he
            simp [c31_l2, c31_r2, c31_r3, c31_r4, c31_r9, c31_r13, len1, alen, hjl, hidx, pickV, q34, q124, q92, h32]
            rw [← he]
            exact ⟨⟨_, _, rfl⟩, ho⟩
  · rw [dropN hjl] at he
    simp only [bytesM] at he
    simp [c31_l2, c31_r2, c31_r15, len1, alen, hjl, pickV, w1]
    rw [← he]
    exact ⟨⟨_, _, rfl⟩, ho⟩

/-! ### a sign -/

def signW (t : Txt) : Txt := if begins t [45, 62] then [45, 62] else if begins t [60, 62] then [60, 62] else if hasR signs (fst t) then t.take 1 else []

theorem hasR_mem {c : UInt8} {r : Txt} : hasR signs (fst (c :: r)) = decide (c ∈ signs) := by
  have all : ∀ n : Nat, n < 256 → (UInt8.ofNat n ∈ signs → n < 128) := by decide
  have e : ∀ n : Nat, n < 128 → hasR signs (n : Int) = decide (UInt8.ofNat n ∈ signs) := by decide
  by_cases hc : c.toNat < 128
  · rw [fst_small hc, e _ hc]; simp
  · have h1 := fst_high (s := r) (Nat.le_of_not_lt hc)
    have h2 : c ∉ signs := fun hm => hc (all c.toNat c.toNat_lt (by simpa using hm))
    have h3 : ¬ fst (c :: r) < 128 := by omega
    simp [hasR, h2, h3]

def In32 (h₀ : Heap) (s : Txt) (i : Nat) (c : UInt8) (m : Nat) (st : St) : Prop := ∃ k : Nat, m = 12 - k ∧ k ≤ 12 ∧
  st = ⟨[(0, .str s), (1, .int .i64 i), (6, .int .i64 k)], h₀⟩ ∧ ∀ q, q < k → signs[q]? ≠ some c

theorem begins2 {t p : Txt} (hp : p.length = 2) : begins t p = decide (t.take 2 = p) := by
  unfold begins
  rw [hp]
  by_cases h : t.take 2 = p
  · have : 2 ≤ t.length := by
      have := congrArg List.length h
      simp [hp] at this
      omega
    simp [h, this]
  · simp [h]

theorem sign32 (hi : i < s.length) (hs : s.length ≤ 10000) : D cfg 32 [.str s, .int .i64 i] h = some (.str (signW (s.drop i)), h) := by
  refine D_eq (call32 (R := fun r h' => r = _ ∧ h' = _) (by simp) ?_)
  obtain ⟨c, hc, hd⟩ := dropC hi
  have w2 : IntKind.wrap .i64 ((i : Int) + 2) = i + 2 := wrap_i64 (by omega) (by omega)
  have w1 : IntKind.wrap .i64 ((i : Int) + 1) = i + 1 := wrap_i64 (by omega) (by omega)
  obtain ⟨M, hM⟩ : ∃ M : Nat, M = min (i + 2) s.length := ⟨_, rfl⟩
  have hmin : (if (s.length : Int) < (i : Int) + 2 then (s.length : Int) else (i : Int) + 2) = M := by split <;> omega
  have two : aslice Tryd.prog 9 (.str s) (some (.int .i64 (i : Int))) (some (.int .i64 (M : Int))) none = some (.str ((s.drop i).take 2)) := by
    have q2 : M ≤ s.length := by omega
    have q4 : i ≤ M := by omega
    have q5 : (s.drop i).take (M - i) = (s.drop i).take 2 := by
      by_cases hm : i + 2 ≤ s.length
      · rw [show M - i = 2 by omega]
      · rw [List.take_of_length_le (by simp; omega), List.take_of_length_le (by simp; omega)]
    simp [aslice, bound, q2, q4, q5]
  have one : aslice Tryd.prog 9 (.str s) (some (.int .i64 (i : Int))) (some (.int .i64 ((i : Int) + 1))) none = some (.str [c]) := by
    have q1 : (0 : Int) ≤ (i : Int) + 1 := by omega
    have q2 : (i : Int) + 1 ≤ s.length := by omega
    have q3 : ((i : Int) + 1).toNat = i + 1 := by omega
    have q4 : (i : Int) ≤ (i : Int) + 1 := by omega
    simp [aslice, bound, q1, q2, q3, q4, hd]
  have hidx : aindex Tryd.prog 9 (.str s) (.int .i64 i) = some (.int .u8 c.toNat) := by simp [aindex, hc]
  by_cases p1 : (s.drop i).take 2 = [45, 62]
  · have hw : signW (s.drop i) = [45, 62] := by rw [signW, begins2 rfl, p1]; rfl
    rw [hw]
    simp [c32, c32_r0, c32_r1, c32_r2, c32_r3, len1, alen, w2, amin, amin1, hmin, two, p1, pickV]
  · by_cases p2 : (s.drop i).take 2 = [60, 62]
    · have hw : signW (s.drop i) = [60, 62] := by rw [signW, begins2 rfl, begins2 rfl, p2]; rfl
      rw [hw]
      simp [c32, c32_r0, c32_r1, c32_r2, c32_r3, len1, alen, w2, amin, amin1, hmin, two, p2, pickV]
    · have hw : signW (s.drop i) = if c ∈ signs then [c] else [] := by
        rw [signW, begins2 rfl, begins2 rfl, hd, hasR_mem]
        rw [hd] at p1 p2
        rw [if_neg (by simpa using p1), if_neg (by simpa using p2)]
        simp
      rw [hw]
      simp [c32, c32_r0, c32_r1, c32_r2, c32_r4, len1, alen, w2, amin, amin1, hmin, two, p1, p2, pickV]
      refine Wt.loop (In32 h s i c) (m := 12) ⟨0, rfl, by omega, rfl, by omega⟩ ?_
      rintro m st ⟨k, rfl, hk, rfl, hq⟩
      have hcut : cut (some [0, 1, 6]) [(0, AV.str s), (1, .int .i64 (i : Int)), (6, .int .i64 (k : Int))] = [(0, AV.str s), (1, .int .i64 (i : Int)), (6, .int .i64 (k : Int))] := by simp
      simp only [hcut]
      have w3 : IntKind.wrap .i64 ((k : Int) + 1) = k + 1 := wrap_i64 (by omega) (by omega)
      by_cases hk12 : k < 12
      · have hkI : (k : Int) < 12 := by omega
        have hsk : signs[k]? = some (signs[k]'hk12) := List.getElem?_eq_getElem hk12
        obtain ⟨d, hdd⟩ : ∃ d, d = signs[k]'hk12 := ⟨_, rfl⟩
        rw [← hdd] at hsk
        have hidx2 : aindex Tryd.prog 9 (.str [40, 41, 59, 58, 44, 47, 91, 93, 33, 45, 46, 61]) (.int .i64 k) = some (.int .u8 d.toNat) := by
          show aindex Tryd.prog 9 (.str signs) (.int .i64 k) = _
          simp [aindex, hsk]
        by_cases hdc : d = c
        · subst hdc
          have hm : d ∈ signs := by rw [hdd]; exact List.getElem_mem ..
          simp [c32_l5, c32_r5, c32_r7, c32_r8, hkI, hidx, hidx2, w1, one, hm]
        · have hdn : ¬ (d.toNat : Int) = c.toNat := fun e => hdc (UInt8.toNat_inj.1 (by omega))
          have hnext : In32 h s i c (12 - (k + 1)) ⟨[(0, .str s), (1, .int .i64 i), (6, .int .i64 ((k : Int) + 1))], h⟩ := by
            refine ⟨k + 1, rfl, hk12, by simp, fun q hq2 => ?_⟩
            by_cases e : q = k
            · subst e; rw [hsk]; intro e; exact hdc (by simpa using e)
            · exact hq q (by omega)
          simp [c32_l5, c32_r5, c32_r6, c32_r7, hkI, hidx, hidx2, w3, hdn]
          exact ⟨_, by omega, hnext⟩
      · have : k = 12 := by omega
        subst this
        have hm : c ∉ signs := by
          intro hm
          obtain ⟨q, hq2, e⟩ := List.getElem_of_mem hm
          exact hq q hq2 (by rw [List.getElem?_eq_getElem hq2, e])
        simp [c32_l5, c32_r5, c32_r9, hm]
end

end Go.AM
