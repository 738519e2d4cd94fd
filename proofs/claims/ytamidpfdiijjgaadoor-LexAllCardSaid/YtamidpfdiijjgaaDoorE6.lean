/-
  Pairs of digits (36).
-/
import Derived.Test.YtamidpfdiijjgaaDoorE5
namespace Go.AM
open Go Go.Proofs
set_option linter.unusedVariables false
set_option linter.unusedSimpArgs false
set_option maxRecDepth 100000

/-- What stands between two bars: what is behind the second one, the bytes. -/
def pairsM : Txt → Txt → Int → Bool → Option (Txt × Txt)
  | [], b, hi, sm => none
  | c :: r, b, hi, sm =>
    if (c.toNat : Int) = 124 then (if sm = true ∧ hi < 0 then some (r, b) else none)
    else if (c.toNat : Int) = 32 ∧ hi < 0 then pairsM r b hi sm
    else if hexR c.toNat < 0 then none
    else if hi < 0 then pairsM r b (hexR c.toNat) sm
    else pairsM r (b ++ [UInt8.ofNat (hi * 16 + hexR c.toNat).toNat]) (-1) true

theorem pairsM_len : ∀ {s b : Txt} {hi : Int} {sm : Bool} {r b' : Txt}, pairsM s b hi sm = some (r, b') → r.length < s.length ∧ b'.length + r.length ≤ b.length + s.length
  | [], b, hi, sm, r, b', h => by simp [pairsM] at h
  | c :: s, b, hi, sm, r, b', h => by
    unfold pairsM at h
    split at h
    · split at h
      · simp at h; obtain ⟨rfl, rfl⟩ := h; simp
      · simp at h
    · split at h
      · have := pairsM_len h; simp; omega
      · split at h
        · simp at h
        · split at h
          · have := pairsM_len h; simp; omega
          · have := pairsM_len h; simp at this ⊢; omega

theorem hexR_le {r : Int} : hexR r ≤ 15 := by
  unfold hexR
  split
  · rename_i h; simp [isD] at h; omega
  · split
    · omega
    · split <;> omega
theorem hexR_high {r : Int} (h : 128 ≤ r) : hexR r = -1 := by
  unfold hexR
  rw [if_neg (by simp [isD]; omega), if_neg (by omega), if_neg (by omega)]
theorem hexR_ge {r : Int} : -1 ≤ hexR r := by
  unfold hexR
  split
  · rename_i h; simp [isD] at h; omega
  · split
    · omega
    · split <;> omega

theorem or_nat : ∀ a : Nat, a < 16 → ∀ b : Nat, b < 16 → (BitVec.ofInt 64 ((a : Int) * 16) ||| BitVec.ofInt 64 (b : Int)).toNat = a * 16 + b := by decide
theorem or_hex {a b : Int} (h1 : 0 ≤ a) (h2 : a ≤ 15) (h3 : 0 ≤ b) (h4 : b ≤ 15) : (BitVec.ofInt 64 (a * 16) ||| BitVec.ofInt 64 b).toNat = a.toNat * 16 + b.toNat := by
  have := or_nat a.toNat (by omega) b.toNat (by omega)
  rw [Int.toNat_of_nonneg h1, Int.toNat_of_nonneg h3] at this
  exact this

section
variable {n0 b B Bt : Nat} {h : Heap} {s bs : Txt} {line : Int} {l : List Tok}

/-- What 36 says. -/
def Res36 (n0 : Nat) (h : Heap) (b Bt : Nat) (line : Int) (l : List Tok) : Option (Txt × Txt) → AV → Heap → Prop
  | some (r, bs), v, h' => (∃ B, v = .tup [byteSl B bs, .bool true] ∧ BufAt n0 h' B bs) ∧ TextAt n0 h' b Bt r line l ∧ Nw n0 h h'
  | none, v, h' => (∃ x, v = .tup [x, .bool false] ∧ x.notTup = true) ∧ aload Tryd.prog (look h') 3 (.ptr (some ⟨b, 1, 3⟩)) = some (.int .i64 line) ∧ Nw n0 h h'

def In36 (n0 : Nat) (h₀ : Heap) (it b Bt : Nat) (s : Txt) (line : Int) (l : List Tok) (res : Option (Txt × Txt)) (m : Nat) (st : St) : Prop := ∃ i h B bs hi sm, m = s.length - i ∧ i ≤ s.length ∧
  st = ⟨[(0, tp b), (1, byteSl B bs), (6, .int .i64 hi), (7, .bool sm), (15, .ptr (some ⟨it, 0, 0⟩))], h⟩ ∧ h[it]? = some (.iter s i) ∧ TextAt n0 h b Bt s line l ∧ BufAt n0 h B bs ∧ Nw n0 h₀ h ∧
  -1 ≤ hi ∧ hi ≤ 15 ∧ bs.length ≤ 10000 + i ∧ pairsM (s.drop i) bs hi sm = res

theorem byteSl_cells {B : Nat} {l : Txt} : AV.cells (byteSl B l) = [byteSl B l] := by unfold byteSl bufSl; split <;> rfl

theorem TextAt.it {n0 b Bt it : Nat} {h : Heap} {s s' : Txt} {line : Int} {l : List Tok} {k k' : Nat} (H : TextAt n0 h b Bt s line l) (hb : h[it]? = some (.iter s' k)) : TextAt n0 (h.set it (.iter s' k')) b Bt s line l := by
  refine ⟨H.lo, ?_, fun hl => ⟨(H.sl hl).1, ?_⟩⟩
  · rw [at_other, H.obj]
    rintro rfl
    rw [H.obj] at hb; simp at hb
  · rw [at_other, (H.sl hl).2]
    rintro rfl
    rw [(H.sl hl).2] at hb; simp at hb
theorem BufAt.it {n0 B it : Nat} {h : Heap} {bs s' : Txt} {k k' : Nat} (H : BufAt n0 h B bs) (hb : h[it]? = some (.iter s' k)) : BufAt n0 (h.set it (.iter s' k')) B bs := by
  refine ⟨fun hl => ⟨(H.at_ hl).1, ?_⟩⟩
  rw [at_other, (H.at_ hl).2]
  rintro rfl
  rw [(H.at_ hl).2] at hb; simp at hb

theorem pairs36 (H : TextAt n0 h b Bt s line l) (Hb : BufAt n0 h B bs) (hs : s.length ≤ 10000) (hbs : bs.length ≤ 10000) (hn0 : n0 ≤ h.length) :
    ∃ r h', D cfg 36 [tp b, byteSl B bs] h = some (r, h') ∧ Res36 n0 h b Bt line l (pairsM s bs (-1) false) r h' := by
  refine call36 (R := fun r h' => Res36 n0 h b Bt line l (pairsM s bs (-1) false) r h') (args := [tp b, byteSl B bs]) (h := h) (by simp) ?_
  simp [-AV.cells, -AV.one, -AV.notTup, c36, c36_r0, c36_r1, c36_r2, fieldA, H.ldS, op_range, rangeV]
  obtain ⟨res, hres⟩ : ∃ res, res = pairsM s bs (-1) false := ⟨_, rfl⟩
  rw [← hres]
  have ho0 : Only (fun _ => False) h (h ++ [AObj.iter s 0]) := .app
  refine Wt.loop (In36 n0 h h.length b Bt s line l res) (m := s.length) ⟨0, _, B, bs, -1, false, rfl, Nat.zero_le _, rfl, by simp, H.same ho0, Hb.same ho0, ho0.nw, by omega, by omega, by omega, by rw [hres]; rfl⟩ ?_
  rintro m st ⟨i, h1, B1, b1, hi, sm, rfl, hil, rfl, hit, H1, Hb1, o1, hi1, hi2, hb1, he⟩
  have hcut : cut (some [0, 1, 6, 7, 15]) [(0, tp b), (1, byteSl B1 b1), (6, AV.int .i64 hi), (7, .bool sm), (15, .ptr (some ⟨h.length, 0, 0⟩))] = [(0, tp b), (1, byteSl B1 b1), (6, AV.int .i64 hi), (7, .bool sm), (15, .ptr (some ⟨h.length, 0, 0⟩))] := by simp
  simp only [hcut]
  have hlt := lt_of_at hit
  by_cases hl : i < s.length
  · have hw := wd_pos hl
    obtain ⟨h2, hh2⟩ : ∃ h2, h2 = h1.set h.length (.iter s (i + wd s i)) := ⟨_, rfl⟩
    have H2 : TextAt n0 h2 b Bt s line l := by rw [hh2]; exact H1.it hit
    have Hb2 : BufAt n0 h2 B1 b1 := by rw [hh2]; exact Hb1.it hit
    have o2 : Nw n0 h h2 := o1.trans (by rw [hh2]; exact .set hn0)
    have hit2 : h2[h.length]? = some (.iter s (i + wd s i)) := by rw [hh2]; exact at_same hlt
    have e1 : (Utf8.decode ⟨s.toArray⟩ i).1 = rn s i := rfl
    have e2 : (Utf8.decode ⟨s.toArray⟩ i).2 = wd s i := rfl
    have hr0 : (0 : Int) ≤ rn s i := by omega
    have hr1 : (rn s i : Int) ≤ 2147483647 := by have := rn_le (s := s) (i := i); omega
    have ehex := fun h => hex46 (r := rn s i) (h := h) hr0 hr1
    have hge := hexR_ge (r := rn s i)
    have hle := hexR_le (r := rn s i)
    have hn2 : n0 ≤ h2.length := Nat.le_trans hn0 o2.1
    rw [List.drop_eq_getElem_cons hl] at he
    unfold pairsM at he
    by_cases hb : s[i].toNat < 128
    · obtain ⟨hr, hwd⟩ := rn_small hl hb
      obtain ⟨r, hrr⟩ : ∃ r, r = rn s i := ⟨_, rfl⟩
      rw [← hr, ← hrr] at he
      rw [← hrr] at e1 ehex hge hle hr0 hr1
      rw [hwd] at e2 hh2 hit2
      have hil2 : i + 1 ≤ s.length := hl
      have go : ∀ (h' : Heap) (B' : Nat) (b' : Txt) (hi' : Int) (sm' : Bool), h'[h.length]? = some (.iter s (i + 1)) → TextAt n0 h' b Bt s line l → BufAt n0 h' B' b' → Nw n0 h h' → -1 ≤ hi' → hi' ≤ 15 → b'.length ≤ 10000 + (i + 1) → pairsM (s.drop (i + 1)) b' hi' sm' = res →
          In36 n0 h h.length b Bt s line l res (s.length - (i + 1)) ⟨[(0, tp b), (1, byteSl B' b'), (6, .int .i64 hi'), (7, .bool sm'), (15, .ptr (some ⟨h.length, 0, 0⟩))], h'⟩ :=
        fun h' B' b' hi' sm' q1 q2 q3 q4 q5 q6 q7 q8 => ⟨i + 1, h', B', b', hi', sm', rfl, hil2, rfl, q1, q2, q3, q4, q5, q6, q7, q8⟩
      by_cases h124 : r = 124
      · subst h124
        rw [if_pos (show ((124 : Nat) : Int) = 124 from rfl)] at he
        have w1 : IntKind.wrap .i64 ((i : Int) + 1) = i + 1 := wrap_i64 (by omega) (by omega)
        obtain ⟨h3, e3, H3, o3, o, ho⟩ := take18o H2 (n := i + 1) hl
        have e3' : D cfg 18 [tp b, .int .i64 ((i : Int) + 1)] h2 = some (.str (s.take (i + 1)), h3) := by simpa using e3
        have hb3 : BufAt n0 h3 B1 b1 := by rw [ho]; exact Hb2.keep H2
        have ehex' : ∀ h, D cfg 46 [.int .i32 124] h = some (.int .i64 (hexR 124), h) := ehex
        by_cases hsm : sm = true
        · subst hsm
          by_cases hneg : hi < 0
          · rw [if_pos ⟨rfl, hneg⟩] at he
            simp [-AV.cells, -AV.one, -AV.notTup, c36_l3, c36_r3, c36_r4, c36_r5, c36_r7, c36_r8, c36_r9, op_next, aiter, look_at, hit, hl, extractV, e1, e2, ehex', ← hh2, w1, e3', pickV, hneg, byteSl_tup, tup_bool]
            rw [← he]
            exact ⟨⟨B1, rfl, hb3⟩, H3, o2.trans o3⟩
          · rw [if_neg (fun e => hneg e.2)] at he
            simp [-AV.cells, -AV.one, -AV.notTup, c36_l3, c36_r3, c36_r4, c36_r5, c36_r7, c36_r8, c36_r9, op_next, aiter, look_at, hit, hl, extractV, e1, e2, ehex', ← hh2, w1, e3', pickV, hneg, byteSl_tup, tup_bool]
            rw [← he]
            exact ⟨⟨_, rfl, byteSl_tup⟩, H3.ldN, o2.trans o3⟩
        · have hsm' : sm = false := by simpa using hsm
          subst hsm'
          rw [if_neg (fun e => by cases e.1)] at he
          simp [-AV.cells, -AV.one, -AV.notTup, c36_l3, c36_r3, c36_r4, c36_r5, c36_r7, c36_r8, c36_r9, op_next, aiter, look_at, hit, hl, extractV, e1, e2, ehex', ← hh2, w1, e3', pickV, byteSl_tup, tup_bool]
          rw [← he]
          exact ⟨⟨_, rfl, byteSl_tup⟩, H3.ldN, o2.trans o3⟩
      · have h124i : ¬ ((r : Int) = 124) := by omega
        rw [if_neg h124i] at he
        by_cases h32 : r = 32 ∧ hi < 0
        · obtain ⟨h32, hneg⟩ := h32
          subst h32
          rw [if_pos ⟨(show ((32 : Nat) : Int) = 32 from rfl), hneg⟩] at he
          have ehex' : ∀ h, D cfg 46 [.int .i32 32] h = some (.int .i64 (hexR 32), h) := ehex
          have hnext := go h2 B1 b1 hi sm hit2 H2 Hb2 o2 hi1 hi2 (by omega) he
          simp [-AV.cells, -AV.one, -AV.notTup, c36_l3, c36_r3, c36_r4, c36_r5, c36_r7, c36_r10, op_next, aiter, look_at, hit, hl, extractV, e1, e2, ehex', ← hh2, pickV, hneg]
          exact ⟨_, by omega, hnext⟩
        · have h32i : ¬ ((r : Int) = 32 ∧ hi < 0) := fun e => h32 ⟨by omega, e.2⟩
          rw [if_neg h32i] at he
          by_cases hx : hexR r < 0
          · rw [if_pos hx] at he
            by_cases q : r = 32
            · have hneg : ¬ hi < 0 := fun e => h32 ⟨q, e⟩
              subst q
              have ehex' : ∀ h, D cfg 46 [.int .i32 32] h = some (.int .i64 (hexR 32), h) := ehex
              have hx' : hexR 32 < 0 := hx
              simp [-AV.cells, -AV.one, -AV.notTup, c36_l3, c36_r3, c36_r4, c36_r5, c36_r7, c36_r10, c36_r11, c36_r12, op_next, aiter, look_at, hit, hl, extractV, e1, e2, ehex', ← hh2, pickV, hneg, hx', tup_bool, tup_sl]
              rw [← he]
              exact ⟨⟨_, rfl, rfl⟩, H2.ldN, o2⟩
            · have qi : ¬ ((r : Int) = 32) := by omega
              simp [-AV.cells, -AV.one, -AV.notTup, c36_l3, c36_r3, c36_r4, c36_r5, c36_r7, c36_r10, c36_r11, c36_r12, op_next, aiter, look_at, hit, hl, extractV, e1, e2, ehex, ← hh2, pickV, h124i, qi, hx, tup_bool, tup_sl]
              rw [← he]
              exact ⟨⟨_, rfl, rfl⟩, H2.ldN, o2⟩
          · rw [if_neg hx] at he
            have q32 : ¬ ((r : Int) = 32) := by rintro e; rw [e] at hx; exact hx (by decide)
            by_cases hneg : hi < 0
            · rw [if_pos hneg] at he
              have hnext := go h2 B1 b1 (hexR r) sm hit2 H2 Hb2 o2 hge hle (by omega) he
              simp [-AV.cells, -AV.one, -AV.notTup, c36_l3, c36_r3, c36_r4, c36_r5, c36_r7, c36_r10, c36_r11, c36_r13, c36_r14, op_next, aiter, look_at, hit, hl, extractV, e1, e2, ehex, ← hh2, pickV, h124i, q32, hx, hneg]
              exact ⟨_, by omega, hnext⟩
            · rw [if_neg hneg] at he
              obtain ⟨x, hxx⟩ : ∃ x, x = UInt8.ofNat (hi * 16 + hexR r).toNat := ⟨_, rfl⟩
              rw [← hxx] at he
              have hxn : (x.toNat : Int) = hi * 16 + hexR r := by rw [hxx]; simp; omega
              obtain ⟨δ, h3, B3, a1, a2, a3, a4⟩ := append_byte Hb2 (x := x) (by omega) hn2
              have w1 : IntKind.wrap .i64 (hi * 16) = hi * 16 := wrap_i64 (by omega) (by omega)
              have w2 : IntKind.wrap .i64 (((BitVec.ofInt 64 (hi * 16) ||| BitVec.ofInt 64 (hexR r)).toNat : Nat) : Int) = x.toNat := by
                rw [or_hex (by omega) hi2 (by omega) hle, wrap_i64 (by omega) (by omega)]
                omega
              have hshl : abin (.int .i64) .shl (.int .i64 hi) (.int .u64 4) = some (.int .i64 (hi * 16)) := by
                rw [abin_shl (by omega)]
                show some (AV.int .i64 (IntKind.wrap .i64 (hi * 16))) = _
                rw [w1]
              have hor : abin (.int .i64) .or (.int .i64 (hi * 16)) (.int .i64 (hexR r)) = some (.int .i64 x.toNat) := by
                rw [abin_or]
                show some (AV.int .i64 (IntKind.wrap .i64 (((BitVec.ofInt 64 (hi * 16) ||| BitVec.ofInt 64 (hexR r)).toNat : Nat) : Int))) = _
                rw [w2]
              have w3 : IntKind.wrap .u8 (x.toNat : Int) = x.toNat := wrap_u8 (by omega) (by have := x.toNat_lt; omega)
              have hit3 : h3[h.length]? = some (.iter s (i + 1)) := a4.at hit2 (by
                rintro ⟨e, hne⟩
                have := (Hb2.at_ hne).2
                rw [← e, hit2] at this
                simp at this)
              have hnext := go h3 B3 (b1 ++ [x]) (-1) true hit3 (H2.byte Hb2 a4) a3 (o2.trans (Hb2.nw a4)) (by omega) (by omega) (by simp; omega) he
              simp [-AV.cells, -AV.one, -AV.notTup, c36_l3, c36_r3, c36_r4, c36_r5, c36_r7, c36_r10, c36_r11, c36_r13, c36_r6, op_next, aiter, look_at, hit, hl, extractV, e1, e2, ehex, ← hh2, pickV, h124i, q32, hx, hneg, aconv, hshl, hor, w3, -abin_or, abuildSlice, afill, zeros, splice, cells_int, one_int, a1, a2]
              exact ⟨_, by omega, hnext⟩
    · obtain ⟨hr, hwd⟩ := rn_high hl (Nat.le_of_not_lt hb)
      obtain ⟨r, hrr⟩ : ∃ r, r = rn s i := ⟨_, rfl⟩
      rw [← hrr] at e1 ehex hr
      have hx : hexR (r : Int) = -1 := hexR_high (by omega)
      have hx2 : hexR (s[i].toNat : Int) = -1 := hexR_high (by omega)
      rw [if_neg (by omega), if_neg (by omega), if_pos (by rw [hx2]; omega)] at he
      have q1 : ¬ ((r : Int) = 124) := by omega
      have q2 : ¬ ((r : Int) = 32) := by omega
      rw [hx] at ehex
      simp [-AV.cells, -AV.one, -AV.notTup, c36_l3, c36_r3, c36_r4, c36_r5, c36_r7, c36_r10, c36_r11, c36_r12, op_next, aiter, look_at, hit, hl, extractV, e1, e2, ehex, ← hh2, pickV, q1, q2, tup_bool, tup_sl]
      rw [← he]
      exact ⟨⟨_, rfl, rfl⟩, H2.ldN, o2⟩
  · have : i = s.length := by omega
    subst this
    rw [List.drop_length] at he
    simp [-AV.cells, -AV.one, -AV.notTup, c36_l3, c36_r3, c36_r15, op_next, aiter, look_at, hit, extractV, tup_bool, tup_sl]
    rw [← he]
    exact ⟨⟨_, rfl, rfl⟩, H1.ldN, o1⟩
end

end Go.AM
