/-
  Runes; the small questions on them; first (16), span (19).
-/
import Derived.Test.YtamidpfdiijjgaaDoorE0
import Derived.Laws.RangeAny
namespace Go.AM
open Go Go.Proofs
set_option linter.unusedVariables false
set_option linter.unusedSimpArgs false
set_option maxRecDepth 100000

def rn (s : Txt) (i : Nat) : Nat := (Utf8.decode ⟨s.toArray⟩ i).1
def wd (s : Txt) (i : Nat) : Nat := (Utf8.decode ⟨s.toArray⟩ i).2

theorem rn_small {s : Txt} {i : Nat} (h : i < s.length) (hb : s[i].toNat < 128) : rn s i = s[i].toNat ∧ wd s i = 1 := by
  have := decode_ascii ⟨s.toArray⟩ i (by simpa [ByteArray.size] using h) (by show (s.toArray[i]'(by simpa using h)).toNat < 128; simpa using hb)
  unfold rn wd
  rw [this]
  refine ⟨?_, rfl⟩
  show (s.toArray[i]'(by simpa using h)).toNat = _
  simp
theorem rn_high {s : Txt} {i : Nat} (h : i < s.length) (hb : 128 ≤ s[i].toNat) : 128 ≤ rn s i ∧ 1 ≤ wd s i :=
  decode_high ⟨s.toArray⟩ i (by simpa [ByteArray.size] using h) (by show 128 ≤ (s.toArray[i]'(by simpa using h)).toNat; simpa using hb)
theorem rn_le {s : Txt} {i : Nat} : rn s i ≤ 2147483647 := decode_le ⟨s.toArray⟩ i

theorem get_bang {s : Txt} {i : Nat} : (ByteArray.mk s.toArray).get! i = (s[i]?).getD 0 := by
  show s.toArray[i]! = _
  rw [getElem!_def, List.getElem?_toArray]
  cases s[i]? <;> rfl

/-- The bytes that a rune beyond the small ones takes are no small ones. -/
theorem wd_high {s : Txt} {i : Nat} (h : i < s.length) (hb : 128 ≤ s[i].toNat) : ∀ k, k < wd s i → ∃ hk : i + k < s.length, 128 ≤ s[i + k].toNat := by
  have h0 : ∀ k, k = 0 → ∃ hk : i + k < s.length, 128 ≤ s[i + k].toNat := fun k hk => by subst hk; exact ⟨h, hb⟩
  have cont : ∀ k, (decide (i + k < s.length) && ((s[i + k]?).getD 0).toNat / 64 == 2) = true → ∃ hk : i + k < s.length, 128 ≤ s[i + k].toNat := by
    intro k hk
    simp only [Bool.and_eq_true, decide_eq_true_eq, beq_iff_eq] at hk
    obtain ⟨h1, h2⟩ := hk
    rw [List.getElem?_eq_getElem h1] at h2
    simp only [Option.getD_some] at h2
    exact ⟨h1, by omega⟩
  have hsz : (ByteArray.mk s.toArray).size = s.length := by simp [ByteArray.size]
  intro k hk
  unfold wd Utf8.decode at hk
  simp only [get_bang, hsz, Nat.add_zero, List.getElem?_eq_getElem h, Option.getD_some] at hk
  rw [if_neg (by omega)] at hk
  split at hk
  · rename_i hc
    simp only [Bool.and_eq_true] at hc
    split at hk
    · simp only at hk
      match k, hk with
      | 0, _ => exact h0 0 rfl
      | 1, _ => exact cont 1 (by simpa using hc.2)
    · exact h0 k (by simp only at hk; omega)
  · split at hk
    · rename_i hc
      simp only [Bool.and_eq_true] at hc
      split at hk
      · simp only at hk
        match k, hk with
        | 0, _ => exact h0 0 rfl
        | 1, _ => exact cont 1 (by simpa using hc.1.2)
        | 2, _ => exact cont 2 (by simpa using hc.2)
      · exact h0 k (by simp only at hk; omega)
    · split at hk
      · rename_i hc
        simp only [Bool.and_eq_true] at hc
        split at hk
        · simp only at hk
          match k, hk with
          | 0, _ => exact h0 0 rfl
          | 1, _ => exact cont 1 (by simpa using hc.1.1.2)
          | 2, _ => exact cont 2 (by simpa using hc.1.2)
          | 3, _ => exact cont 3 (by simpa using hc.2)
        · exact h0 k (by simp only at hk; omega)
      · exact h0 k (by simp only at hk; omega)

def isL (r : Int) : Bool := (decide (97 ≤ r) && decide (r ≤ 122)) || (decide (65 ≤ r) && decide (r ≤ 90))
def isD (r : Int) : Bool := decide (48 ≤ r) && decide (r ≤ 57)
def isE (r : Int) : Bool := isL r || isD r
def isB (r : Int) : Bool := decide (r = 32) || decide (r = 9) || decide (r = 13)
def isN (r : Int) : Bool := !decide (r = 10)

section
variable {r : Int} {h : Heap}
theorem let21 : D cfg 21 [.int .i32 r] h = some (.bool (isL r), h) := by
  refine D_eq (call21 (R := fun r h' => r = _ ∧ h' = _) (by simp) ?_)
  unfold isL
  by_cases h1 : 97 ≤ r <;> by_cases h2 : r ≤ 122 <;> by_cases h3 : 65 ≤ r <;> by_cases h4 : r ≤ 90 <;> simp [c21, c21_r0, c21_r1, pickV, h1, h2, h3, h4]
theorem dig23 : D cfg 23 [.int .i32 r] h = some (.bool (isD r), h) := by
  refine D_eq (call23 (R := fun r h' => r = _ ∧ h' = _) (by simp) ?_)
  unfold isD
  by_cases h1 : 48 ≤ r <;> by_cases h2 : r ≤ 57 <;> simp [c23, c23_r0, c23_r1, pickV, h1, h2]
theorem eit33 : D cfg 33 [.int .i32 r] h = some (.bool (isE r), h) := by
  refine D_eq (call33 (R := fun r h' => r = _ ∧ h' = _) (by simp) ?_)
  unfold isE
  by_cases h1 : isL r = true <;> by_cases h2 : isD r = true <;> simp [c33, c33_r0, c33_r1, pickV, let21, dig23, h1, h2]
theorem bla17 : D cfg 17 [.int .i32 r] h = some (.bool (isB r), h) := by
  refine D_eq (call17 (R := fun r h' => r = _ ∧ h' = _) (by simp) ?_)
  unfold isB
  by_cases h1 : r = 32 <;> by_cases h2 : r = 9 <;> by_cases h3 : r = 13 <;> simp [c17, c17_r0, c17_r1, pickV, h1, h2, h3]
theorem nl20 : D cfg 20 [.int .i32 r] h = some (.bool (isN r), h) := by
  refine D_eq (call20 (R := fun r h' => r = _ ∧ h' = _) (by simp) ?_)
  unfold isN
  by_cases h1 : r = 10 <;> simp [c20, c20_r0, c20_r1, pickV, h1]

/-- A digit of sixteen; below 0: none. -/
def hexR (r : Int) : Int := if isD r then r - 48 else if 97 ≤ r ∧ r ≤ 102 then r - 97 + 10 else if 65 ≤ r ∧ r ≤ 70 then r - 65 + 10 else -1
theorem hex46 (h0 : 0 ≤ r) (h1 : r ≤ 2147483647) : D cfg 46 [.int .i32 r] h = some (.int .i64 (hexR r), h) := by
  refine D_eq (call46 (R := fun r h' => r = _ ∧ h' = _) (by simp) ?_)
  unfold hexR
  by_cases hd : isD r = true
  · have : 48 ≤ r ∧ r ≤ 57 := by simpa [isD] using hd
    have w1 : IntKind.wrap .i32 (r - 48) = r - 48 := by simp only [IntKind.wrap, IntKind.signed, IntKind.bits]; simp; omega
    have w2 : IntKind.wrap .i64 (r - 48) = r - 48 := wrap_i64 (by omega) (by omega)
    simp [c46, c46_r0, c46_r1, c46_r2, c46_r3, c46_r4, c46_r5, c46_r6, c46_r7, pickV, dig23, hd, aconv, w1, w2]
  · by_cases h97 : 97 ≤ r <;> by_cases h102 : r ≤ 102
    · have w1 : IntKind.wrap .i32 (r - 97) = r - 97 := by simp only [IntKind.wrap, IntKind.signed, IntKind.bits]; simp; omega
      have w2 : IntKind.wrap .i64 (r - 97) = r - 97 := wrap_i64 (by omega) (by omega)
      have w3 : IntKind.wrap .i64 (r - 97 + 10) = r - 97 + 10 := wrap_i64 (by omega) (by omega)
      simp [c46, c46_r0, c46_r1, c46_r2, c46_r3, c46_r4, c46_r5, c46_r6, c46_r7, pickV, dig23, hd, aconv, w1, w2, w3, h97, h102]
    all_goals by_cases h65 : 65 ≤ r <;> by_cases h70 : r ≤ 70
    all_goals try (exfalso; omega)
    all_goals first
      | (have w1 : IntKind.wrap .i32 (r - 65) = r - 65 := by simp only [IntKind.wrap, IntKind.signed, IntKind.bits]; simp; omega
         have w2 : IntKind.wrap .i64 (r - 65) = r - 65 := wrap_i64 (by omega) (by omega)
         have w3 : IntKind.wrap .i64 (r - 65 + 10) = r - 65 + 10 := wrap_i64 (by omega) (by omega)
         simp [c46, c46_r0, c46_r1, c46_r2, c46_r3, c46_r4, c46_r5, c46_r6, c46_r7, pickV, dig23, hd, aconv, w1, w2, w3, h97, h102, h65, h70]; done)
end

/-- The first rune; 0: there is none. -/
def fst (s : Txt) : Int := match s with
  | [] => 0
  | _ :: _ => rn s 0

theorem first16 {s : Txt} {h : Heap} : ∃ h', D cfg 16 [.str s] h = some (.int .i32 (fst s), h') ∧ Only (fun _ => False) h h' := by
  have key : ∃ r h', D cfg 16 [.str s] h = some (r, h') ∧ (r = .int .i32 (fst s) ∧ Only (fun _ => False) h h') := by
    refine call16 (R := fun r h' => r = .int .i32 (fst s) ∧ Only (fun _ => False) h h') (args := [.str s]) (h := h) (by simp) ?_
    simp [c16, c16_r0, c16_r1, op_range, rangeV]
    refine Wt.loop (fun m st => st = ⟨[(6, .ptr (some ⟨h.length, 0, 0⟩))], h ++ [.iter s 0]⟩) (m := 1) rfl ?_
    rintro m st rfl
    have hb : (h ++ [AObj.iter s 0])[h.length]? = some (.iter s 0) := by simp
    cases s with
    | nil =>
      simp [c16_l2, c16_r2, c16_r5, op_next, aiter, look_at, extractV, fst]
      exact .app
    | cons c r =>
      simp [c16_l2, c16_r2, c16_r3, c16_r4, op_next, aiter, look_at, extractV, fst]
      exact ⟨rfl, ⟨by simp, fun b hb _ => by rw [List.getElem?_append_left hb]⟩⟩
  obtain ⟨r, h', h1, rfl, h2⟩ := key
  exact ⟨h', h1, h2⟩

/-- Where a rune stands that is none of these. -/
def spanR (p : Int → Bool) (s : Txt) : Nat → Nat → Nat
  | 0, i => i
  | n + 1, i => if i < s.length then if p (rn s i) then spanR p s n (i + wd s i) else i else s.length

/-- The stands for a question on bytes: of runes beyond the small ones all are, or none is. -/
structure PQ (p : Int → Bool) (q : UInt8 → Bool) : Prop where
  small : ∀ b : UInt8, b.toNat < 128 → p b.toNat = q b
  high : ∃ c, (∀ r : Int, 128 ≤ r → p r = c) ∧ ∀ b : UInt8, 128 ≤ b.toNat → q b = c

theorem wd_pos {s : Txt} {i : Nat} (h : i < s.length) : 1 ≤ wd s i := by
  by_cases hb : s[i].toNat < 128
  · rw [(rn_small h hb).2]; omega
  · exact (rn_high h (by omega)).2

theorem tw_cons {q : UInt8 → Bool} {s : Txt} {i : Nat} (h : i < s.length) : ((s.drop i).takeWhile q).length = if q s[i] then ((s.drop (i + 1)).takeWhile q).length + 1 else 0 := by
  rw [List.drop_eq_getElem_cons h, List.takeWhile_cons]
  split <;> simp

theorem tw_skip {q : UInt8 → Bool} {s : Txt} : ∀ (k i : Nat), i + k ≤ s.length → (∀ j, j < k → ∀ hj : i + j < s.length, q s[i + j] = true) → ((s.drop i).takeWhile q).length = ((s.drop (i + k)).takeWhile q).length + k
  | 0, i, _, _ => rfl
  | k + 1, i, hle, hq => by
    rw [tw_cons (by omega), if_pos (by simpa using hq 0 (by omega) (by omega)), tw_skip k (i + 1) (by omega) fun j hj hjl => by
      have := hq (j + 1) (by omega) (by omega)
      have e : i + (j + 1) = i + 1 + j := by omega
      simp only [e] at this
      exact this]
    rw [show i + 1 + k = i + (k + 1) by omega]
    omega

theorem spanR_eq {p : Int → Bool} {q : UInt8 → Bool} (H : PQ p q) {s : Txt} : ∀ (n i : Nat), i ≤ s.length → s.length - i < n → spanR p s n i = i + ((s.drop i).takeWhile q).length
  | 0, i, _, h => by omega
  | n + 1, i, hi, hn => by
    unfold spanR
    by_cases hl : i < s.length
    · rw [if_pos hl]
      by_cases hb : s[i].toNat < 128
      · obtain ⟨h1, h2⟩ := rn_small hl hb
        rw [h1, h2, H.small _ hb, tw_cons hl]
        split
        · rw [spanR_eq H n (i + 1) (by omega) (by omega)]; omega
        · rfl
      · obtain ⟨h1, h2⟩ := rn_high hl (by omega)
        obtain ⟨c, h3, h4⟩ := H.high
        have hw := wd_high hl (by omega)
        obtain ⟨hk, _⟩ := hw (wd s i - 1) (by omega)
        rw [h3 _ (by omega)]
        cases c with
        | false => rw [tw_cons hl, h4 _ (by omega)]; simp
        | true =>
          simp only [if_true]
          rw [spanR_eq H n (i + wd s i) (by omega) (by omega), tw_skip (wd s i) i (by omega) fun j hj hjl => h4 _ (hw j hj).2]
          omega
    · rw [if_neg hl, List.drop_eq_nil_of_le (by omega)]
      simp; omega

def bL (b : UInt8) : Bool := isL b.toNat
def bD (b : UInt8) : Bool := isD b.toNat
def bE (b : UInt8) : Bool := isE b.toNat
def bN (b : UInt8) : Bool := decide (b ≠ 10)
theorem pqE : PQ isE bE := ⟨fun b _ => rfl, false, fun r hr => by simp [isE, isL, isD]; omega, fun b hb => by simp [bE, isE, isL, isD]; omega⟩
theorem pqD : PQ isD bD := ⟨fun b _ => rfl, false, fun r hr => by simp [isD]; omega, fun b hb => by simp [bD, isD]; omega⟩
theorem pqN : PQ isN bN := ⟨fun b _ => by simp [isN, bN, ← UInt8.toNat_inj]; omega, true, fun r hr => by simp [isN]; omega, fun b hb => by simp [bN, ← UInt8.toNat_inj]; omega⟩

def In19 (h₀ : Heap) (s : Txt) (f : FuncId) (p : Int → Bool) (m : Nat) (st : St) : Prop := ∃ i h, m = s.length - i ∧ i ≤ s.length ∧
  st = ⟨[(0, .str s), (1, .fn (.func f) []), (8, .ptr (some ⟨h₀.length, 0, 0⟩))], h⟩ ∧ h[h₀.length]? = some (.iter s i) ∧ Only (fun _ => False) h₀ h ∧ spanR p s (s.length + 1) 0 = spanR p s (s.length - i + 1) i

theorem spanR_fuel {p : Int → Bool} {s : Txt} : ∀ (n m i : Nat), s.length - i < n → s.length - i < m → spanR p s n i = spanR p s m i
  | 0, m, i, h, _ => by omega
  | n + 1, 0, i, _, h => by omega
  | n + 1, m + 1, i, hn, hm => by
    unfold spanR
    by_cases hl : i < s.length
    · have := wd_pos hl
      simp only [hl, if_true]
      split
      · exact spanR_fuel n m _ (by omega) (by omega)
      · rfl
    · simp [hl]

theorem span19 {s : Txt} {f : FuncId} {p : Int → Bool} {q : UInt8 → Bool} (H : PQ p q) (hf : ∀ r h, D cfg f [.int .i32 r] h = some (.bool (p r), h)) {h : Heap} :
    ∃ h', D cfg 19 [.str s, .fn (.func f) []] h = some (.int .i64 ((s.takeWhile q).length : Nat), h') ∧ Only (fun _ => False) h h' := by
  have key : ∃ r h', D cfg 19 [.str s, .fn (.func f) []] h = some (r, h') ∧ (r = .int .i64 (spanR p s (s.length + 1) 0 : Nat) ∧ Only (fun _ => False) h h') := by
    refine call19 (R := fun r h' => r = .int .i64 (spanR p s (s.length + 1) 0 : Nat) ∧ Only (fun _ => False) h h') (args := [.str s, .fn (.func f) []]) (h := h) (by simp) ?_
    simp [c19, c19_r0, c19_r1, op_range, rangeV]
    refine Wt.loop (In19 h s f p) (m := s.length) ⟨0, h ++ [.iter s 0], rfl, Nat.zero_le _, rfl, by simp, .app, rfl⟩ ?_
    rintro m st ⟨i, h1, rfl, hi, rfl, hb, ho, he⟩
    have hcut : cut (some [0, 1, 8]) [(0, AV.str s), (1, .fn (.func f) []), (8, .ptr (some ⟨h.length, 0, 0⟩))] = [(0, AV.str s), (1, .fn (.func f) []), (8, .ptr (some ⟨h.length, 0, 0⟩))] := by simp
    simp only [hcut]
    have hlt := lt_of_at hb
    by_cases hl : i < s.length
    · have hw := wd_pos hl
      have ho2 : Only (fun _ => False) h (h1.set h.length (.iter s (i + wd s i))) := ⟨by simp; exact ho.1, fun c hc _ => by rw [at_other (by omega)]; exact ho.2 c hc id⟩
      have hst : spanR p s (s.length - i + 1) i = if p (rn s i) then spanR p s (s.length - i) (i + wd s i) else i := by
        conv => lhs; unfold spanR
        rw [if_pos hl]
      rw [hst] at he
      by_cases hp : p (rn s i) = true
      · rw [if_pos hp] at he
        have hle : i + wd s i ≤ s.length := by
          by_cases hb : s[i].toNat < 128
          · rw [(rn_small hl hb).2]; omega
          · obtain ⟨hk, _⟩ := wd_high hl (by omega) (wd s i - 1) (by omega)
            omega
        have hnext : In19 h s f p (s.length - (i + wd s i)) ⟨[(0, .str s), (1, .fn (.func f) []), (8, .ptr (some ⟨h.length, 0, 0⟩))], h1.set h.length (.iter s (i + wd s i))⟩ :=
          ⟨i + wd s i, _, rfl, hle, rfl, at_same hlt, ho2, by rw [he]; exact spanR_fuel _ _ _ (by omega) (by omega)⟩
        have e1 : (Utf8.decode ⟨s.toArray⟩ i).1 = rn s i := rfl
        have e2 : (Utf8.decode ⟨s.toArray⟩ i).2 = wd s i := rfl
        simp [c19_l2, c19_r2, c19_r3, c19_r4, op_next, aiter, look_at, hb, hl, extractV, e1, e2, hf, hp, astep_callv, callV]
        exact ⟨_, by omega, hnext⟩
      · rw [if_neg hp] at he
        have e1 : (Utf8.decode ⟨s.toArray⟩ i).1 = rn s i := rfl
        have e2 : (Utf8.decode ⟨s.toArray⟩ i).2 = wd s i := rfl
        simp [c19_l2, c19_r2, c19_r3, c19_r4, c19_r5, op_next, aiter, look_at, hb, hl, extractV, e1, e2, hf, hp, he, astep_callv, callV]
        exact ho2
    · have : i = s.length := by omega
      subst this
      have hst : spanR p s (s.length - s.length + 1) s.length = s.length := by simp [spanR]
      rw [hst] at he
      simp [c19_l2, c19_r2, c19_r6, op_next, aiter, look_at, hb, extractV, len1, alen, he]
      exact ho
  obtain ⟨r, h', h1, rfl, h2⟩ := key
  rw [spanR_eq H _ _ (Nat.zero_le _) (by omega)] at h1
  exact ⟨h', by simpa using h1, h2⟩

end Go.AM
