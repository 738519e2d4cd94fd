/-
  A word (22), a number (24), a sign (26).
-/
import Derived.Test.YtamidpfdiijjgaaDoorE3
namespace Go.AM
open Go Go.Proofs
set_option linter.unusedVariables false
set_option linter.unusedSimpArgs false
set_option maxRecDepth 100000

/-- A text under way, in plain words. -/
structure LS where
  s : Txt
  line : Int
  l : List Tok

/-- What a step says: it stands with the rest, or it fails in this line. -/
def Res (n0 : Nat) (h : Heap) (b : Nat) (line : Int) : Option LS → AV → Heap → Prop
  | some t, r, h' => r = .bool true ∧ (∃ B, TextAt n0 h' b B t.s t.line t.l) ∧ Nw n0 h h'
  | none, r, h' => r = .bool false ∧ aload Tryd.prog (look h') 3 (.ptr (some ⟨b, 1, 3⟩)) = some (.int .i64 line) ∧ Nw n0 h h'

def fstL (s : Txt) : Bool := match s with
  | [] => false
  | b :: _ => bL b

theorem fst_small {b : UInt8} {s : Txt} (hb : b.toNat < 128) : fst (b :: s) = b.toNat := by
  simp only [fst, (rn_small (s := b :: s) (i := 0) (by simp) hb).1]; rfl
theorem fst_high {b : UInt8} {s : Txt} (hb : 128 ≤ b.toNat) : 128 ≤ fst (b :: s) := by
  have := (rn_high (s := b :: s) (i := 0) (by simp) hb).1
  simp only [fst]; omega
theorem fst_ge {s : Txt} : 0 ≤ fst s := by cases s <;> simp [fst]
theorem fst_le {s : Txt} : fst s ≤ 2147483647 := by
  cases s with
  | nil => simp [fst]
  | cons b s => have := rn_le (s := b :: s) (i := 0); simp only [fst]; omega
theorem isL_fst {s : Txt} : isL (fst s) = fstL s := by
  cases s with
  | nil => rfl
  | cons b s =>
    by_cases hb : b.toNat < 128
    · rw [fst_small hb]; rfl
    · have := fst_high (s := s) (Nat.le_of_not_lt hb)
      have e1 : isL (fst (b :: s)) = false := by simp [isL]; omega
      have e2 : bL b = false := by simp [bL, isL]; omega
      rw [e1, fstL, e2]

def lowA (s : Txt) : Txt := Lib.toLowerA s

/-- A word. -/
def wordM (k : Int) (t : LS) : Option LS :=
  if fstL t.s then
    if (t.s.takeWhile bE).length ≤ 20 then some ⟨t.s.drop (t.s.takeWhile bE).length, t.line, t.l ++ [⟨k, lowA (t.s.takeWhile bE), 0, t.line⟩]⟩ else none
  else none

theorem bE_small {b : UInt8} (h : bE b = true) : b.toNat < 128 := by
  simp [bE, isE, isL, isD] at h
  omega
theorem bD_small {b : UInt8} (h : bD b = true) : b.toNat < 128 := by
  simp [bD, isD] at h
  omega
theorem tw_all {q : UInt8 → Bool} : ∀ {s : Txt} {b : UInt8}, b ∈ s.takeWhile q → q b = true
  | [], b, h => by simp at h
  | c :: s, b, h => by
    rw [List.takeWhile_cons] at h
    split at h
    · rcases List.mem_cons.1 h with rfl | h
      · assumption
      · exact tw_all h
    · simp at h
theorem tw_le {q : UInt8 → Bool} {s : Txt} : (s.takeWhile q).length ≤ s.length := by
  induction s with
  | nil => simp
  | cons c s ih => rw [List.takeWhile_cons]; split <;> simp; exact ih
theorem take_tw {q : UInt8 → Bool} {s : Txt} : s.take (s.takeWhile q).length = s.takeWhile q := by
  induction s with
  | nil => simp
  | cons c s ih => rw [List.takeWhile_cons]; split <;> simp [ih]

variable {n0 b B : Nat} {h : Heap} {s : Txt} {line : Int} {l : List Tok}

theorem word22 (H : TextAt n0 h b B s line l) (hl : l.length ≤ 100000) (hs : s.length ≤ 100000) (hn0 : n0 ≤ h.length) {k : Int} :
    ∃ r h', D cfg 22 [tp b, .int .i64 k] h = some (r, h') ∧ Res n0 h b line (wordM k ⟨s, line, l⟩) r h' := by
  refine call22 (R := fun r h' => Res n0 h b line (wordM k ⟨s, line, l⟩) r h') (args := [tp b, .int .i64 k]) (h := h) (by simp) ?_
  obtain ⟨h1, e1, o1⟩ := first16 (s := s) (h := h)
  have H1 := H.same o1
  by_cases hf : fstL s = true
  · have hL : isL (fst s) = true := by rw [isL_fst]; exact hf
    obtain ⟨h2, e2, o2⟩ := span19 pqE (fun r h => eit33 (r := r) (h := h)) (s := s) (h := h1)
    have H2 := H1.same o2
    obtain ⟨h3, e3, H3, o3⟩ := take18 H2 (n := (s.takeWhile bE).length) tw_le
    rw [take_tw] at e3
    have hlow : ∀ b ∈ s.takeWhile bE, b.toNat < 128 := fun b hb => bE_small (tw_all hb)
    have hlen : (s.takeWhile bE).length ≤ 100000 := Nat.le_trans tw_le hs
    have o13 : Nw n0 h h3 := (o1.nw.trans o2.nw).trans o3
    have e4 := low35 hlow hlen (h := h3)
    obtain ⟨h5, B', e5, H5, o5⟩ := put34 H3 (k := k) (n := 0) (w := Lib.toLowerA (s.takeWhile bE)) hl (Nat.le_trans hn0 o13.1)
    have oo : Nw n0 h h5 := o13.trans o5
    by_cases h20 : (s.takeWhile bE).length ≤ 20
    · have h20' : ((s.takeWhile bE).length : Int) ≤ 20 := by omega
      simp [c22, c22_r0, c22_r1, c22_r2, c22_r3, c22_r4, c22_r5, fieldA, H.ldS, H1.ldS, e1, let21, hL, e2, e3, e4, e5, len1, alen, h20, wordM, hf, Res]
      exact ⟨by omega, ⟨B', H5⟩, oo⟩
    · have h20' : ¬ ((s.takeWhile bE).length : Int) ≤ 20 := by omega
      simp [c22, c22_r0, c22_r1, c22_r2, c22_r3, c22_r4, c22_r5, fieldA, H.ldS, H1.ldS, e1, let21, hL, e2, e3, e4, e5, len1, alen, h20, wordM, hf, Res]
      exact ⟨by omega, H5.ldN, oo⟩
  · have hL : isL (fst s) = false := by rw [isL_fst]; simpa using hf
    simp [c22, c22_r0, c22_r1, c22_r2, fieldA, H.ldS, e1, let21, hL, wordM, hf, Res]
    exact ⟨H1.ldN, o1.nw⟩

/-- A number's digits. -/
def numV (w : Txt) (n : Int) : Int := w.foldl (fun n c => min (n * 10 + ((c.toNat : Int) - 48)) 1000000000000) n
def numM (t : LS) : Option LS :=
  if numV (t.s.takeWhile bD) 0 ≤ 999999999999 ∧ fstL (t.s.drop (t.s.takeWhile bD).length) = false then
    some ⟨t.s.drop (t.s.takeWhile bD).length, t.line, t.l ++ [⟨2, [], numV (t.s.takeWhile bD) 0, t.line⟩]⟩ else none

def In24 (h₀ : Heap) (it : Nat) (w : Txt) (b : Nat) (m : Nat) (st : St) : Prop := ∃ i h v, m = w.length - i ∧ i ≤ w.length ∧
  st = ⟨[(0, tp b), (3, .int .i64 v), (13, .ptr (some ⟨it, 0, 0⟩))], h⟩ ∧ h[it]? = some (.iter w i) ∧ Only (fun _ => False) h₀ h ∧ 0 ≤ v ∧ v ≤ 1000000000000 ∧ numV (w.drop i) v = numV w 0

theorem num24 (H : TextAt n0 h b B s line l) (hl : l.length ≤ 100000) (hn0 : n0 ≤ h.length) :
    ∃ r h', D cfg 24 [tp b] h = some (r, h') ∧ Res n0 h b line (numM ⟨s, line, l⟩) r h' := by
  refine call24 (R := fun r h' => Res n0 h b line (numM ⟨s, line, l⟩) r h') (args := [tp b]) (h := h) (by simp) ?_
  obtain ⟨h2, e2, o2⟩ := span19 pqD (fun r h => dig23 (r := r) (h := h)) (s := s) (h := h)
  have H2 := H.same o2
  obtain ⟨h3, e3, H3, o3⟩ := take18 H2 (n := (s.takeWhile bD).length) tw_le
  rw [take_tw] at e3
  obtain ⟨w, hw⟩ : ∃ w, w = s.takeWhile bD := ⟨_, rfl⟩
  have hlow : ∀ b ∈ w, bD b = true := fun b hb => tw_all (by rw [← hw]; exact hb)
  have o23 : Nw n0 h h3 := o2.nw.trans o3
  rw [← hw] at e2 e3 H3
  simp [c24, c24_r0, c24_r1, c24_r2, fieldA, H.ldS, e2, e3, op_range, rangeV]
  refine Wt.loop (In24 h3 h3.length w b) (m := w.length) ⟨0, _, 0, rfl, Nat.zero_le _, rfl, by simp, .app, by omega, by omega, rfl⟩ ?_
  rintro m st ⟨i, h4, v, rfl, hi, rfl, hb, ho, hv0, hv1, hv⟩
  have hcut : cut (some [0, 3, 13]) [(0, tp b), (3, AV.int .i64 v), (13, .ptr (some ⟨h3.length, 0, 0⟩))] = [(0, tp b), (3, AV.int .i64 v), (13, .ptr (some ⟨h3.length, 0, 0⟩))] := by simp
  simp only [hcut]
  have hlt := lt_of_at hb
  have H4 := H3.same ho
  by_cases hil : i < w.length
  · have hd := hlow _ (List.getElem_mem hil)
    have hdig : 48 ≤ w[i].toNat ∧ w[i].toNat ≤ 57 := by simp [bD, isD] at hd; omega
    obtain ⟨e4, e5⟩ := rn_small hil (bD_small hd)
    have e4 : (Utf8.decode ⟨w.toArray⟩ i).1 = w[i].toNat := e4
    have e5 : (Utf8.decode ⟨w.toArray⟩ i).2 = 1 := e5
    have w1 : IntKind.wrap .i64 (v * 10) = v * 10 := wrap_i64 (by omega) (by omega)
    have w2 : IntKind.wrap .i32 ((w[i].toNat : Int) - 48) = w[i].toNat - 48 := by simp only [IntKind.wrap, IntKind.signed, IntKind.bits]; simp; omega
    have w3 : IntKind.wrap .i64 ((w[i].toNat : Int) - 48) = w[i].toNat - 48 := wrap_i64 (by omega) (by omega)
    have w4 : IntKind.wrap .i64 (v * 10 + ((w[i].toNat : Int) - 48)) = v * 10 + (w[i].toNat - 48) := wrap_i64 (by omega) (by omega)
    obtain ⟨v', hv'⟩ : ∃ v', v' = min (v * 10 + ((w[i].toNat : Int) - 48)) 1000000000000 := ⟨_, rfl⟩
    have hmin : (if (1000000000000 : Int) < v * 10 + ((w[i].toNat : Int) - 48) then 1000000000000 else v * 10 + ((w[i].toNat : Int) - 48)) = v' := by
      rw [hv']; split <;> omega
    have hnext : In24 h3 h3.length w b (w.length - (i + 1)) ⟨[(0, tp b), (3, .int .i64 v'), (13, .ptr (some ⟨h3.length, 0, 0⟩))], h4.set h3.length (.iter w (i + 1))⟩ := by
      refine ⟨i + 1, _, v', rfl, hil, rfl, at_same hlt, ⟨by simp; exact ho.1, fun c hc _ => by rw [at_other (by omega)]; exact ho.2 c hc id⟩, by omega, by omega, ?_⟩
      rw [← hv, List.drop_eq_getElem_cons hil, hv']
      rfl
    simp [c24_l3, c24_r3, c24_r4, c24_r5, op_next, aiter, look_at, hb, hil, extractV, e4, e5, w1, w2, w3, w4, aconv, amin, amin1, hmin]
    exact ⟨_, by omega, hnext⟩
  · have : i = w.length := by omega
    subst this
    have hvv : numV w 0 = v := by rw [← hv]; simp [numV]
    obtain ⟨h5, B', e5, H5, o5⟩ := put34 H4 (k := 2) (n := v) (w := []) hl (Nat.le_trans hn0 (o23.trans ho.nw).1)
    obtain ⟨h6, e6, o6⟩ := first16 (s := s.drop w.length) (h := h5)
    have H6 := H5.same o6
    have oo : Nw n0 h h5 := (o23.trans ho.nw).trans o5
    have hw' : s.takeWhile bD = w := hw.symm
    by_cases hm : v ≤ 999999999999
    · by_cases hf : fstL (s.drop w.length) = true
      · have hL : isL (fst (s.drop w.length)) = true := by rw [isL_fst]; exact hf
        simp [c24_l3, c24_r3, c24_r6, c24_r7, op_next, aiter, look_at, hb, extractV, e5, hm, fieldA, H5.ldS, e6, let21, hL, pickV, numM, hw', hvv, hf, Res]
        exact ⟨H6.ldN, oo.trans o6.nw⟩
      · have hL : isL (fst (s.drop w.length)) = false := by rw [isL_fst]; simpa using hf
        simp [c24_l3, c24_r3, c24_r6, c24_r7, op_next, aiter, look_at, hb, extractV, e5, hm, fieldA, H5.ldS, e6, let21, hL, pickV, numM, hw', hvv, hf, Res]
        exact ⟨⟨B', H6⟩, oo.trans o6.nw⟩
    · simp [c24_l3, c24_r3, c24_r6, c24_r7, op_next, aiter, look_at, hb, extractV, e5, hm, fieldA, H5.ldS, e6, let21, pickV, numM, hw', hvv, Res]
      exact ⟨H5.ldN, oo⟩

end Go.AM
