/-
  Texts by numbers.
-/
import Derived.Test.YtamidpfdiijjgaaS14
import Derived.Test.YtamidpfdiijjgaaS9
import Derived.Test.YtamidpfdiijjgaaL11
namespace Go.AM
open Go Go.Proofs
set_option linter.unusedVariables false
set_option linter.unusedSimpArgs false
set_option maxRecDepth 100000

def In50 (h₀ : Heap) (v : AV) (n : Nat) (m : Nat) (st : St) : Prop := ∃ (i : Nat) (s : Txt) (b : Nat) (h : Heap), m = n - i ∧ i ≤ n ∧ s.length = i ∧ st = ⟨[(0, v), (1, .int .i64 n), (5, bufSl b s.length (byteCells s)), (6, .int .i64 i)], h⟩ ∧
  (s.length ≠ 0 → h[b]? = some (.cells (byteCells s) 5 true) ∧ h₀.length ≤ b) ∧ Only (fun _ => False) h₀ h

theorem tmod_nat {a b : Nat} : ((a : Int)).tmod b = ((a % b : Nat) : Int) := by
  rw [Int.tmod_eq_emod_of_nonneg (by omega)]; omega

theorem end50 {h₀ h : Heap} {v : AV} {n i : Nat} {s : Txt} {b : Nat} (hb : s.length ≠ 0 → h[b]? = some (.cells (byteCells s) 5 true) ∧ h₀.length ≤ b) (ho : Only (fun _ => False) h₀ h) (hs : s.length ≤ n) {ρ : Env} (h5 : ρ.get 5 = some (bufSl b s.length (byteCells s))) :
    Wt Try.prog (D cfg) (.seq (.reg c50_r6 none (some [4])) .ret) ⟨ρ, h⟩ (Ends Try.prog [.tmp 4] fun r h' => ∃ s : Txt, r = .str s ∧ s.length ≤ n ∧ Only (fun _ => False) h₀ h') := by
  by_cases h0 : s.length = 0
  · have : s = [] := List.length_eq_zero_iff.1 h0
    subst this
    rw [List.length_nil, bufSl_zero] at h5
    have hfin : ∃ s : Txt, (.str [] : AV) = .str s ∧ s.length ≤ n ∧ Only (fun _ => False) h₀ h := ⟨[], rfl, by simp, ho⟩
    simp [c50_r6, h5, aconv]
    simpa using hfin
  · obtain ⟨hb1, _⟩ := hb h0
    have ht : List.take s.length (byteCells s) = byteCells s := List.take_of_length_le (by rw [byteCells_len]; omega)
    have h0' : 0 < s.length := by omega
    have hfin : ∃ s' : Txt, (.str s : AV) = .str s' ∧ s'.length ≤ n ∧ Only (fun _ => False) h₀ h := ⟨s, rfl, hs, ho⟩
    simp only [bufSl, if_neg h0, byteCells_len] at h5
    simp [c50_r6, h5, aconv, slCells, AM.row, hb1, byteCells_len, ht, cellBytes_all]
    simpa using hfin

theorem letters {h : Heap} {v : AV} {l : List Int} (hv : Sl1 h v (intCells l)) {n : Nat} (hn : n ≤ 1000) (hl : l.length ≤ 1000000) :
    ∃ (s : Txt) (h' : Heap), D cfg 50 [v, .int .i64 n] h = some (.str s, h') ∧ s.length ≤ n ∧ Only (fun _ => False) h h' := by
  have key : ∃ r h', D cfg 50 [v, .int .i64 n] h = some (r, h') ∧ (∃ s : Txt, r = .str s ∧ s.length ≤ n ∧ Only (fun _ => False) h h') := by
    refine call50 (R := fun r h' => ∃ s : Txt, r = .str s ∧ s.length ≤ n ∧ Only (fun _ => False) h h') (args := [v, .int .i64 n]) (h := h) (by simp) ?_
    have hlen := fun L => hv.len (t := 30) (e := 3) (by simp) (L := L)
    simp only [intCells_len] at hlen
    simp [c50, c50_r0, c50_r1, c50_r2]
    refine Wt.loop (In50 h v n) (m := n) ⟨0, [], 0, h, rfl, Nat.zero_le _, rfl, by simp [bufSl], by simp, .refl⟩ ?_
    rintro m st ⟨i, s, b, h1, rfl, hi, hsi, rfl, hb, ho⟩
    have hcut : cut (some [0, 1, 5, 6]) [(0, v), (1, .int .i64 (n : Int)), (5, bufSl b s.length (byteCells s)), (6, .int .i64 (i : Nat))] = [(0, v), (1, .int .i64 n), (5, bufSl b s.length (byteCells s)), (6, .int .i64 (i : Nat))] := by simp
    simp only [hcut]
    have hend := fun ρ h5 => end50 (v := v) (n := n) (i := i) hb ho (by omega) (ρ := ρ) h5
    by_cases hin : i < n
    · have hin' : (i : Int) < n := by omega
      by_cases hl0 : l.length = 0
      · simp only [hl0] at hlen
        simp [c50_l3, c50_r3, hin, hin', len1, hlen]
        have := hend [(0, v), (1, .int .i64 n), (5, bufSl b s.length (byteCells s)), (6, .int .i64 i), (14, .bool false)] (by simp)
        simpa using this
      · have hlp : 0 < l.length := by omega
        have hlp' : (0 : Int) < l.length := by omega
        have hne : (l.length : Int) ≠ 0 := by omega
        have hwr : IntKind.wrap .i64 ((i : Int) + 1) = i + 1 := wrap_i64 (by omega) (by omega)
        have hmod := tmod_nat (a := i) (b := l.length)
        have hml : i % l.length < l.length := Nat.mod_lt _ hlp
        obtain ⟨k, hk⟩ : ∃ k, k = i % l.length := ⟨_, rfl⟩
        rw [← hk] at hmod hml
        have a1 := hv.at (t := 30) (e := 3) (by simp) (by simp) (i := k) (by rw [intCells_len]; exact hml)
        have b1 := (hv.same ho).load (e := 3) (by simp) (i := k) (by rw [intCells_len]; exact hml)
        rw [intCells_get] at b1
        obtain ⟨x, hx⟩ : ∃ x, x = l[k] := ⟨_, rfl⟩
        rw [← hx] at b1
        have p1 := place_run (h := h1) (v := x) (n := 1073741824) (by decide) (by decide)
        obtain ⟨y, hy⟩ : ∃ y, y = x % 1073741824 := ⟨_, rfl⟩
        rw [← hy] at p1
        have hy0 : 0 ≤ y ∧ y < 1073741824 := by omega
        have hii : (i : Int) * i ≤ 1000 * 1000 := Int.mul_le_mul (by omega) (by omega) (by omega) (by omega)
        have hii0 : (0 : Int) ≤ (i : Int) * i := Int.mul_nonneg (by omega) (by omega)
        have hw1 : IntKind.wrap .i64 ((i : Int) * i) = (i : Int) * i := wrap_i64 (by omega) (by omega)
        obtain ⟨q, hq⟩ : ∃ q, q = ((i : Int) * i).tdiv 3 := ⟨_, rfl⟩
        have hq0 : 0 ≤ q ∧ q ≤ 1000000 := by
          rw [hq, Int.tdiv_eq_ediv_of_nonneg hii0]
          omega
        have hw2 : IntKind.wrap .i64 q = q := wrap_i64 (by omega) (by omega)
        have hw3 : IntKind.wrap .i64 (y + q) = y + q := wrap_i64 (by omega) (by omega)
        have p2 := place_run (h := h1) (v := y + q) (n := 4) (by decide) (by decide)
        obtain ⟨z, hz⟩ : ∃ z : Nat, (y + q) % 4 = z := ⟨((y + q) % 4).toNat, by omega⟩
        have hz4 : z < 4 := by omega
        rw [hz] at p2
        obtain ⟨c, hc⟩ : ∃ c : UInt8, ([97, 98, 99, 65] : List UInt8)[z]? = some c := ⟨_, List.getElem?_eq_getElem (by simpa using hz4)⟩
        obtain ⟨δ, h2, e2, e3, e4, o4⟩ := append_byte (h := h1) (b := b) (l := s) (x := c) (fun hne => (hb hne).1) (by omega)
        have hnext : In50 h v n (n - (i + 1)) ⟨[(0, v), (1, .int .i64 n), (5, bufSl (if s.length = 0 then h1.length + 1 else b) (s ++ [c]).length (byteCells (s ++ [c]))), (6, .int .i64 (i + 1 : Nat))], h2⟩ := by
          refine ⟨i + 1, s ++ [c], _, h2, rfl, hin, by simp [hsi], rfl, fun _ => ⟨e4, ?_⟩, ho.fresh o4 fun d e => by rw [e.1]; exact (hb e.2).2⟩
          have := ho.1
          split
          · omega
          · rename_i hne; exact (hb hne).2
        have h3n : (3 : Int) ≠ 0 := by decide
        simp only [List.length_append, List.length_singleton] at e2 hnext
        simp [c50_l3, c50_r3, c50_r4, c50_r5, hin, hin', len1, hlen, hlp, hlp', abin_rem, hne, hl0, hmod, a1, b1, p1, hw1, abin_quo, ← hq, hw2, hw3, p2, aindex, hc, abuildSlice, afill, zeros, e2, e3, hwr]
        exact ⟨n - (i + 1), by omega, by simpa using hnext⟩
    · have hin' : ¬ ((i : Int) < n) := by omega
      simp [c50_l3, c50_r3, hin, hin']
      have := hend [(0, v), (1, .int .i64 n), (5, bufSl b s.length (byteCells s)), (6, .int .i64 i), (14, .bool false)] (by simp)
      simpa using this
  obtain ⟨r, h', h1, s, rfl, h2⟩ := key
  exact ⟨s, h', h1, h2⟩

end Go.AM

/-
  Contents by numbers: small ones.
-/
namespace Go.AM
open Go Go.Proofs
set_option linter.unusedVariables false
set_option linter.unusedSimpArgs false
set_option maxRecDepth 100000

def c49_sw : SC := (.block 4 (.seq (.reg c49_r13 none (some [0, 3, 4, 5, 6, 7, 9, 59])) (.cond (.tmp 59) (.reg c49_r14 none (some [0, 3, 4, 6])) (.seq (.reg c49_r15 none (some [0, 3, 4, 5, 6, 9, 63])) (.cond (.tmp 63) (.seq (.reg c49_r16 none (some [0, 3, 4, 5, 6])) (.seq (.reg c49_r17 none (some [0, 3, 4, 5, 6])) (.seq (.reg c49_r18 none (some [0, 3, 4, 5, 6, 78])) (.cond (.tmp 78) (.reg c49_r19 none (some [0, 3, 4, 6])) .skip (some [0, 3, 4, 6]))))) (.seq (.reg c49_r20 none (some [0, 3, 4, 5, 6, 9, 87])) (.cond (.tmp 87) (.reg c49_r21 none (some [0, 3, 4, 6])) (.seq (.reg c49_r22 none (some [0, 3, 4, 5, 6, 94])) (.cond (.tmp 94) (.reg c49_r23 none (some [0, 3, 4, 6])) .skip (some [0, 3, 4, 6]))) (some [0, 3, 4, 6]))) (some [0, 3, 4, 6]))) (some [0, 3, 4, 6]))))
theorem c49_l3_eq : c49_l3 = (.seq (.seq (.reg c49_r3 none (some [0, 3, 4, 17])) (.cond (.tmp 17) .skip (.exit 0) (some [0, 3, 4]))) (.seq (.block 1 (.seq (.reg c49_r5 none (some [0, 3, 4, 5])) (.seq (.reg c49_r6 none (some [0, 3, 4, 5, 6])) (.seq (.reg c49_r7 none (some [0, 3, 4, 5, 6, 7])) (.seq (.seq (.reg c49_r8 none (some [0, 3, 4, 5, 6, 7, 8])) (.block 2 (.loop c49_l9 (some [0, 3, 4, 5, 6, 7, 8])))) (.seq (.seq (.reg c49_r12 none (some [0, 3, 4, 5, 6, 7, 9])) c49_sw) (.reg c49_r24 none (some [0, 3, 4])))))))) (.reg c49_r4 none (some [0, 3, 4])))) := rfl

theorem div_fact {a n : Int} (ha : 0 ≤ a) (hn : 0 < n) : 0 ≤ a.tdiv n ∧ a.tdiv n ≤ a := by
  rw [Int.tdiv_eq_ediv_of_nonneg ha]
  exact ⟨Int.ediv_nonneg ha (by omega), Int.ediv_le_self _ ha⟩
theorem mod_fact {a n : Int} (ha : 0 ≤ a) (hn : 0 < n) : 0 ≤ a.tmod n ∧ a.tmod n < n := by
  rw [Int.tmod_eq_emod_of_nonneg ha]
  exact ⟨Int.emod_nonneg _ (by omega), Int.emod_lt_of_pos _ hn⟩

abbrev baseC (s : Txt) (nc : Bool) : Cont := ⟨s, nc, false, 0, 0, false, 0, 0⟩

theorem switch49 {h : Heap} {v m : AV} {i bc : Nat} {x w : Int} {plain nc : Bool} {s : Txt} (hb : h[bc]? = some (.cells (contCell (baseC s nc)) 52 false)) (hx : 0 ≤ x ∧ x < 16777216) (hw : 0 ≤ w ∧ w < 8) (hs : s.length ≤ 3) {Q : AExit → St → Prop}
    (hq : ∀ c' : Cont, c'.small → ∀ h', h'[bc]? = some (.cells (contCell c') 52 false) → Only (fun b => b = bc) h h' → Q .normal ⟨[(0, v), (3, m), (4, .int .i64 i), (6, .ptr (some ⟨bc, 0, 8⟩))], h'⟩) :
    Wt Try.prog (D cfg) c49_sw ⟨[(0, v), (3, m), (4, .int .i64 i), (5, .int .i64 x), (6, .ptr (some ⟨bc, 0, 8⟩)), (7, .bool plain), (9, .int .i64 w)], h⟩ Q := by
  have hl := lt_of_at hb
  have g72 := div_fact hx.1 (n := 72) (by decide)
  have g576 := div_fact hx.1 (n := 576) (by decide)
  have g1152 := div_fact hx.1 (n := 1152) (by decide)
  obtain ⟨d72, e72⟩ : ∃ d, d = x.tdiv 72 := ⟨_, rfl⟩
  obtain ⟨d576, e576⟩ : ∃ d, d = x.tdiv 576 := ⟨_, rfl⟩
  obtain ⟨d1152, e1152⟩ : ∃ d, d = x.tdiv 1152 := ⟨_, rfl⟩
  rw [← e72] at g72
  rw [← e576] at g576
  rw [← e1152] at g1152
  have w72 : IntKind.wrap .i64 d72 = d72 := wrap_i64 (by omega) (by omega)
  have w576 : IntKind.wrap .i64 d576 = d576 := wrap_i64 (by omega) (by omega)
  have w1152 : IntKind.wrap .i64 d1152 = d1152 := wrap_i64 (by omega) (by omega)
  have m8 := mod_fact g72.1 (n := 8) (by decide)
  have m5 := mod_fact g72.1 (n := 5) (by decide)
  have m9 := mod_fact g72.1 (n := 9) (by decide)
  have m6 := mod_fact g1152.1 (n := 6) (by decide)
  have wm8 : IntKind.wrap .i64 (d72.tmod 8 - 3) = d72.tmod 8 - 3 := wrap_i64 (by omega) (by omega)
  have wm9 : IntKind.wrap .i64 ((s.length : Int) + d72.tmod 9) = s.length + d72.tmod 9 := wrap_i64 (by omega) (by omega)
  have wm6 : IntKind.wrap .i64 ((s.length : Int) + d1152.tmod 6) = s.length + d1152.tmod 6 := wrap_i64 (by omega) (by omega)
  have put : ∀ c' : Cont, c'.small → Q .normal ⟨[(0, v), (3, m), (4, .int .i64 i), (6, .ptr (some ⟨bc, 0, 8⟩))], h.set bc (.cells (contCell c') 52 false)⟩ := fun c' hc' =>
    hq c' hc' _ (List.getElem?_set_self hl) (.set rfl)
  have keep : Q .normal ⟨[(0, v), (3, m), (4, .int .i64 i), (6, .ptr (some ⟨bc, 0, 8⟩))], h⟩ := hq (baseC s nc) ⟨by simp; omega, by simp, by simp, by simp, by simp⟩ h hb .refl
  by_cases h0 : w = 0
  · have := put ⟨s, nc, true, 0, 0, false, 0, 0⟩ ⟨by simp; omega, by simp, by simp, by simp, by simp⟩
    simp [c49_sw, c49_r13, c49_r14, h0, fieldA, astore, hb]
    simpa using this
  · have tail : w < 4 → plain = true → Wt Try.prog (D cfg) c49_sw ⟨[(0, v), (3, m), (4, .int .i64 i), (5, .int .i64 x), (6, .ptr (some ⟨bc, 0, 8⟩)), (7, .bool plain), (9, .int .i64 w)], h⟩ Q := by
      intro h4 hp
      by_cases h2 : d576.tmod 2 = 0
      · have := put ⟨s, nc, false, 0, 0, true, d72.tmod 8 - 3, s.length + d1152.tmod 6⟩ ⟨by simp; omega, by simp, by simp, by simp; omega, by simp; omega⟩
        simp [c49_sw, c49_r13, c49_r14, c49_r15, c49_r16, c49_r17, c49_r18, c49_r19, h0, h4, hp, fieldA, astore, aload, AM.row, hb, at_put, abin_quo, abin_rem, ← e72, ← e576, ← e1152, w72, w576, w1152, wm8, wm6, h2, len1, alenS]
        simpa using this
      · have := put ⟨s, nc, false, 0, 0, true, d72.tmod 8 - 3, 0⟩ ⟨by simp; omega, by simp, by simp, by simp; omega, by simp⟩
        simp [c49_sw, c49_r13, c49_r14, c49_r15, c49_r16, c49_r17, c49_r18, c49_r19, h0, h4, hp, fieldA, astore, aload, AM.row, hb, at_put, abin_quo, abin_rem, ← e72, ← e576, ← e1152, w72, w576, w1152, wm8, wm6, h2, len1, alenS]
        simpa using this
    have rest : ¬ (w < 4 ∧ plain = true) → Wt Try.prog (D cfg) c49_sw ⟨[(0, v), (3, m), (4, .int .i64 i), (5, .int .i64 x), (6, .ptr (some ⟨bc, 0, 8⟩)), (7, .bool plain), (9, .int .i64 w)], h⟩ Q := by
      intro hno
      by_cases h4 : w < 4
      · cases plain with
        | true => exact absurd ⟨h4, rfl⟩ hno
        | false =>
          have n4 : ¬ (w = 4) := by omega
          have n5 : ¬ (w = 5) := by omega
          simp [c49_sw, c49_r13, c49_r14, c49_r15, c49_r20, c49_r21, c49_r22, c49_r23, h0, fieldA, astore, aload, AM.row, hb, at_put, abin_quo, abin_rem, ← e72, w72, wm9, len1, alenS, h4, n4, n5]
          simpa using keep
      · by_cases h44 : w = 4
        · have := put ⟨s, nc, false, d72.tmod 5, 0, false, 0, 0⟩ ⟨by simp; omega, by simp; omega, by simp, by simp, by simp⟩
          simp [c49_sw, c49_r13, c49_r14, c49_r15, c49_r20, c49_r21, c49_r22, c49_r23, h0, fieldA, astore, aload, AM.row, hb, at_put, abin_quo, abin_rem, ← e72, w72, wm9, len1, alenS, h44]
          simpa using this
        · by_cases h5 : w = 5
          · have := put ⟨s, nc, false, 0, s.length + d72.tmod 9, false, 0, 0⟩ ⟨by simp; omega, by simp, by simp; omega, by simp, by simp⟩
            simp [c49_sw, c49_r13, c49_r14, c49_r15, c49_r20, c49_r21, c49_r22, c49_r23, h0, fieldA, astore, aload, AM.row, hb, at_put, abin_quo, abin_rem, ← e72, w72, wm9, len1, alenS, h5]
            simpa using this
          · simp [c49_sw, c49_r13, c49_r14, c49_r15, c49_r20, c49_r21, c49_r22, c49_r23, h0, fieldA, astore, aload, AM.row, hb, at_put, abin_quo, abin_rem, ← e72, w72, wm9, len1, alenS, h4, h44, h5]
            simpa using keep
    by_cases hc : w < 4 ∧ plain = true
    · exact tail hc.1 hc.2
    · exact rest hc

end Go.AM

/-
  Contents by numbers, whole.
-/
namespace Go.AM
open Go Go.Proofs
set_option linter.unusedVariables false
set_option linter.unusedSimpArgs false
set_option maxRecDepth 100000

abbrev contSl (b : Nat) (zs : List Cont) : AV := bufSl b zs.length (zs.flatMap contCell)

theorem flat_len {l : List Cont} : (l.flatMap contCell).length = l.length * 8 := by
  induction l with
  | nil => rfl
  | cons c r ih => simp only [List.flatMap_cons, List.length_append, ih, List.length_cons]; simp [contCell]; omega

theorem SlC.buf {h : Heap} {b : Nat} {zs : List Cont} (hb : zs.length ≠ 0 → h[b]? = some (.cells (zs.flatMap contCell) 52 true)) : SlC h (contSl b zs) zs := by
  by_cases hz : zs.length = 0
  · have : zs = [] := List.length_eq_zero_iff.1 hz
    subst this
    exact .inl ⟨by simp [bufSl], rfl⟩
  · have hne : zs ≠ [] := fun e => hz (by rw [e]; rfl)
    have := SlC.cells hne (hb hz)
    simp only [bufSl, if_neg hz, flat_len]
    exact this

theorem build_cont {n : Nat} {c : Cont} : abuildSlice Try.prog n 42 1 [(0, c.av)] = some (.sl (some ⟨n, 0, 8⟩) 1 1, .new (.cells (contCell c) 52 true)) := by
  simp [abuildSlice, afill, zeros, splice]

/-- A content more. -/
theorem append_cont {h : Heap} {b : Nat} {zs : List Cont} {c : Cont} (hb : zs.length ≠ 0 → h[b]? = some (.cells (zs.flatMap contCell) 52 true)) (hn : zs.length ≤ 1000000) :
    ∃ δ h', append2 Try.prog (look (h ++ [AObj.cells (contCell c) 52 true])) (h.length + 1) 42 42 [contSl b zs, .sl (some ⟨h.length, 0, 8⟩) 1 1] = some (contSl (if zs.length = 0 then h.length + 1 else b) (zs ++ [c]), δ) ∧ Heap.apply (h ++ [AObj.cells (contCell c) 52 true]) δ = h' ∧
      h'[if zs.length = 0 then h.length + 1 else b]? = some (.cells ((zs ++ [c]).flatMap contCell) 52 true) ∧ Only (fun x => x = b ∧ zs.length ≠ 0) h h' := by
  obtain ⟨δ, h', h1, h2, h3, h4⟩ := append_buf (t := 42) (e := 52) (k := 8) (by simp) (by simp) (by decide) (by simp) (by simp) (h := h) (b := b) (n := zs.length) (xs := zs.flatMap contCell) (ys := contCell c) (by simp [contCell]) flat_len hb hn
  have e : zs.flatMap contCell ++ contCell c = (zs ++ [c]).flatMap contCell := by simp
  rw [e] at h1 h3
  refine ⟨δ, h', ?_, h2, h3, h4⟩
  rw [h1]
  simp [contSl]

abbrev env49 (v m : AV) (i : Nat) (x : Int) (bc : Nat) (p : Bool) (k : Nat) : Env := [(0, v), (3, m), (4, .int .i64 i), (5, .int .i64 x), (6, .ptr (some ⟨bc, 0, 8⟩)), (7, .bool p), (8, .int .i64 k)]

def In49 (v m : AV) (i : Nat) (x : Int) (bc : Nat) (zs : List Cont) (h : Heap) (mm : Nat) (st : St) : Prop := ∃ (k : Nat) (p : Bool), mm = zs.length - k ∧ k ≤ zs.length ∧ st = ⟨env49 v m i x bc p k, h⟩

theorem plain_loop {h : Heap} {v m : AV} {i bc : Nat} {x : Int} {zs : List Cont} (hm : SlC h m zs) (hz : zs.length ≤ 1000) {Q : AExit → St → Prop} (hq : ∀ (p : Bool) (k : Nat), Q (.exit 2) ⟨env49 v m i x bc p k ++ [(44, .bool false)], h⟩) :
    Wt Try.prog (D cfg) (.loop c49_l9 (some [0, 3, 4, 5, 6, 7, 8])) ⟨env49 v m i x bc false 0, h⟩ Q := by
  have hlen := fun L => hm.len (L := L)
  refine Wt.loop (In49 v m i x bc zs h) (m := zs.length) ⟨0, false, rfl, Nat.zero_le _, rfl⟩ ?_
  rintro mm st ⟨k, p, rfl, hk, rfl⟩
  have hcut : cut (some [0, 3, 4, 5, 6, 7, 8]) (env49 v m i x bc p k) = env49 v m i x bc p k := by simp
  simp only [hcut]
  by_cases hkz : k < zs.length
  · have hkz' : (k : Int) < zs.length := by omega
    have hwr : IntKind.wrap .i64 ((k : Int) + 1) = k + 1 := wrap_i64 (by omega) (by omega)
    cases p with
    | true =>
      have hnext : In49 v m i x bc zs h (zs.length - (k + 1)) ⟨env49 v m i x bc true (k + 1), h⟩ := ⟨k + 1, true, rfl, hkz, rfl⟩
      simp only [env49] at hnext
      simp [c49_l9, c49_r9, c49_r10, c49_r11, len1, hlen, hkz, hkz', hwr]
      exact ⟨zs.length - (k + 1), by omega, by simpa using hnext⟩
    | false =>
      have a1 := hm.at hkz
      obtain ⟨p2, p5, f2, _, ff⟩ := hm.fields hkz
      have f6 := (ff h .refl).1
      have hnext : In49 v m i x bc zs h (zs.length - (k + 1)) ⟨env49 v m i x bc (!zs[k].not) (k + 1), h⟩ := ⟨k + 1, _, rfl, hkz, rfl⟩
      simp only [env49] at hnext
      simp [c49_l9, c49_r9, c49_r10, c49_r11, len1, hlen, hkz, hkz', hwr, a1, f2, f6]
      exact ⟨zs.length - (k + 1), by omega, by simpa using hnext⟩
  · have hkz' : ¬ ((k : Int) < zs.length) := by omega
    have hn := hq p k
    simp only [env49] at hn
    simp [c49_l9, c49_r9, len1, hlen, hkz, hkz']
    simpa using hn

def Out49 (h₀ : Heap) (v : AV) (l : List Int) (mm : Nat) (st : St) : Prop := ∃ (zs : List Cont) (bm : Nat) (h : Heap), mm = l.length - zs.length ∧ zs.length ≤ l.length ∧ zs.length ≤ 3 ∧ (∀ c ∈ zs, c.small) ∧
  st = ⟨[(0, v), (3, contSl bm zs), (4, .int .i64 (zs.length : Nat))], h⟩ ∧ (zs.length ≠ 0 → h[bm]? = some (.cells (zs.flatMap contCell) 52 true) ∧ h₀.length ≤ bm) ∧ Only (fun _ => False) h₀ h

theorem round49 {h₀ h : Heap} {v : AV} {l : List Int} {zs : List Cont} {bm : Nat} (hv : Sl1 h₀ v (intCells l)) (hi : zs.length < l.length) (h3 : zs.length < 3) (hsm : ∀ c ∈ zs, c.small) (hb : zs.length ≠ 0 → h[bm]? = some (.cells (zs.flatMap contCell) 52 true) ∧ h₀.length ≤ bm) (ho : Only (fun _ => False) h₀ h)
    {Q : AExit → St → Prop} (hq : ∀ st, Out49 h₀ v l (l.length - (zs.length + 1)) st → Q .normal st) :
    Wt Try.prog (D cfg) c49_l3 ⟨[(0, v), (3, contSl bm zs), (4, .int .i64 (zs.length : Nat))], h⟩ Q := by
  obtain ⟨i, hii⟩ : ∃ i, i = zs.length := ⟨_, rfl⟩
  have hlen := fun L => hv.len (t := 30) (e := 3) (by simp) (L := L)
  simp only [intCells_len] at hlen
  have hil : (i : Int) < l.length := by omega
  have hi' : i < l.length := by omega
  have hi3 : (i : Int) < 3 := by omega
  have hi3' : i < 3 := by omega
  have hwr : IntKind.wrap .i64 ((i : Int) + 1) = i + 1 := wrap_i64 (by omega) (by omega)
  have a1 := hv.at (t := 30) (e := 3) (by simp) (by simp) (i := i) (by rw [intCells_len]; exact hi')
  have b1 := (hv.same ho).load (e := 3) (by simp) (i := i) (by rw [intCells_len]; exact hi')
  rw [intCells_get] at b1
  have p1 := place_run (h := h) (v := l[i]) (n := 16777216) (by decide) (by decide)
  obtain ⟨x, hx⟩ : ∃ x, x = l[i] % 16777216 := ⟨_, rfl⟩
  rw [← hx] at p1
  have hx0 : 0 ≤ x ∧ x < 16777216 := by omega
  have g7 := div_fact hx0.1 (n := 7) (by decide)
  have g31 := div_fact hx0.1 (n := 31) (by decide)
  have g101 := div_fact hx0.1 (n := 101) (by decide)
  have g3 := div_fact hx0.1 (n := 3) (by decide)
  have g9 := div_fact hx0.1 (n := 9) (by decide)
  have m3 := mod_fact hx0.1 (n := 3) (by decide)
  have m8 := mod_fact g9.1 (n := 8) (by decide)
  have w7 : IntKind.wrap .i64 (x.tdiv 7) = x.tdiv 7 := wrap_i64 (by omega) (by omega)
  have w31 : IntKind.wrap .i64 (x.tdiv 31) = x.tdiv 31 := wrap_i64 (by omega) (by omega)
  have w101 : IntKind.wrap .i64 (x.tdiv 101) = x.tdiv 101 := wrap_i64 (by omega) (by omega)
  have w3 : IntKind.wrap .i64 (x.tdiv 3) = x.tdiv 3 := wrap_i64 (by omega) (by omega)
  have w9 : IntKind.wrap .i64 (x.tdiv 9) = x.tdiv 9 := wrap_i64 (by omega) (by omega)
  have wm : IntKind.wrap .i64 (1 + x.tmod 3) = 1 + x.tmod 3 := wrap_i64 (by omega) (by omega)
  obtain ⟨nn, hnn⟩ : ∃ nn : Nat, 1 + x.tmod 3 = nn := ⟨(1 + x.tmod 3).toNat, by omega⟩
  have hnn3 : nn ≤ 3 := by omega
  rw [hnn] at wm
  obtain ⟨h2, hh2⟩ : ∃ h2, h2 = h ++ [.cells [.int .i64 (x.tdiv 7), .int .i64 (x.tdiv 31), .int .i64 (x.tdiv 101)] 3 true] := ⟨_, rfl⟩
  have o2 : Only (fun _ => False) h h2 := by rw [hh2]; exact .app
  have sl : Sl1 h2 (.sl (some ⟨h.length, 0, 3⟩) 3 3) (intCells [x.tdiv 7, x.tdiv 31, x.tdiv 101]) := Sl1.cells (xs := intCells [x.tdiv 7, x.tdiv 31, x.tdiv 101]) (e := 3) (s := true) (by rw [hh2]; simp [intCells])
  obtain ⟨s, h4, e4, hs, o4⟩ := letters sl (n := nn) (by omega) (by simp)
  obtain ⟨nc, hnc⟩ : ∃ nc, nc = decide ((x.tdiv 3).tmod 3 = 0) := ⟨_, rfl⟩
  obtain ⟨h5, hh5⟩ : ∃ h5, h5 = h4 ++ [.cells (contCell (baseC s nc)) 52 false] := ⟨_, rfl⟩
  have o5 : Only (fun _ => False) h4 h5 := by rw [hh5]; exact .app
  have hb5 : h5[h4.length]? = some (.cells (contCell (baseC s nc)) 52 false) := by rw [hh5]; simp
  have oh5 := (o2.trans o4).trans o5
  have hm5 : SlC h5 (contSl bm zs) zs := SlC.buf fun hne => oh5.at (hb hne).1 id
  have hpl := fun Q hq => plain_loop (Q := Q) (v := v) (i := i) (bc := h4.length) (x := x) hm5 (by omega) hq
  have hsw := fun (p : Bool) Q hq => switch49 (Q := Q) (v := v) (m := contSl bm zs) (i := i) (bc := h4.length) (x := x) (w := (x.tdiv 9).tmod 8) (plain := p) (nc := nc) (s := s) hb5 hx0 m8 (by omega) hq
  have hl4 : h.length + 1 ≤ h4.length := by have := (o4).1; rw [hh2] at this; simp at this; omega
  rw [c49_l3_eq]
  rw [← hii]
  simp only [env49, List.cons_append, List.nil_append] at hpl
  rw [show ((0 : Nat) : Int) = 0 from rfl] at hpl
  have hnc' : contCell (baseC s nc) = [.str s, .bool nc, .bool false, .int .i64 0, .int .i64 0, .bool false, .int .i64 0, .int .i64 0] := rfl
  rw [hnc', hnc] at hh5
  simp [c49_r3, c49_r5, c49_r6, c49_r7, c49_r8, len1, hlen, hil, hi', hi3, hi3', a1, b1, p1, abin_quo, abin_rem, w7, w31, w101, w3, hnn, wm, abuildSlice, afill, zeros, splice, ← hh2, e4, abuild, astore, ← hh5]
  refine hpl _ fun p k => ?_
  simp [c49_r12, abin_quo, abin_rem, w9]
  refine hsw p _ fun c' hc' h6 hb6 o6 => ?_
  have cl := contLoads hb6
  have hne6 : zs.length ≠ 0 → h6[bm]? = some (.cells (zs.flatMap contCell) 52 true) := fun hne => o6.at (oh5.at (hb hne).1 id) (by have := lt_of_at (hb hne).1; omega)
  obtain ⟨δ, h7, e7, e8, e9, o7⟩ := append_cont (h := h6) (b := bm) (zs := zs) (c := c') hne6 (by omega)
  have hln : (zs ++ [c']).length = zs.length + 1 := by simp
  have oh6 : Only (fun _ => False) h₀ h6 := (ho.trans oh5).fresh o6 fun b hbc => by have := ho.1; omega
  have hnext : Out49 h₀ v l (l.length - (zs.length + 1)) ⟨[(0, v), (3, contSl (if zs.length = 0 then h6.length + 1 else bm) (zs ++ [c'])), (4, .int .i64 ((zs ++ [c']).length : Nat))], h7⟩ := by
    refine ⟨zs ++ [c'], _, h7, by rw [hln], by rw [hln]; omega, by rw [hln]; omega, fun d hd => ?_, rfl, fun _ => ⟨e9, ?_⟩, oh6.fresh o7 fun b e => by rw [e.1]; exact (hb e.2).2⟩
    · simp at hd
      rcases hd with hd | rfl
      · exact hsm d hd
      · exact hc'
    · have := oh6.1
      split
      · omega
      · rename_i hne; exact (hb hne).2
  have hfin := hq _ hnext
  rw [hln, ← hii] at hfin
  rw [← hii] at e7
  simp [c49_r24, c49_r4, cl, build_cont, e7, e8, hwr]
  simpa using hfin

/-- 'Contents': some small ones. -/
theorem contents {h : Heap} {v : AV} {l : List Int} (hv : Sl1 h v (intCells l)) (hl : l.length ≤ 1000000) :
    ∃ (zs : List Cont) (v' : AV) (h' : Heap), D cfg 49 [v] h = some (v', h') ∧ SlC h' v' zs ∧ (∀ c ∈ zs, c.small) ∧ zs.length ≤ 3 ∧ Only (fun _ => False) h h' := by
  have key : ∃ r h', D cfg 49 [v] h = some (r, h') ∧ (∃ zs : List Cont, SlC h' r zs ∧ (∀ c ∈ zs, c.small) ∧ zs.length ≤ 3 ∧ Only (fun _ => False) h h') := by
    refine call49 (R := fun r h' => ∃ zs : List Cont, SlC h' r zs ∧ (∀ c ∈ zs, c.small) ∧ zs.length ≤ 3 ∧ Only (fun _ => False) h h') (args := [v]) (h := h) (by simp) ?_
    have hlen := fun L => hv.len (t := 30) (e := 3) (by simp) (L := L)
    simp only [intCells_len] at hlen
    simp [c49, c49_r0, c49_r1, c49_r2]
    refine Wt.loop (Out49 h v l) (m := l.length) ⟨[], 0, h, rfl, Nat.zero_le _, by simp, by simp, by simp [bufSl], by simp, .refl⟩ ?_
    rintro mm st ⟨zs, bm, h1, rfl, hzl, hz3, hsm, rfl, hb, ho⟩
    have hcut : cut (some [0, 3, 4]) [(0, v), (3, contSl bm zs), (4, .int .i64 (zs.length : Nat))] = [(0, v), (3, contSl bm zs), (4, .int .i64 (zs.length : Nat))] := by simp
    simp only [hcut]
    by_cases hgo : zs.length < l.length ∧ zs.length < 3
    · refine round49 hv hgo.1 hgo.2 hsm hb ho fun st hst => ⟨_, ?_, hst⟩
      omega
    · have hsl : SlC h1 (contSl bm zs) zs := SlC.buf fun hne => (hb hne).1
      have hfin : ∃ zs' : List Cont, SlC h1 (contSl bm zs) zs' ∧ (∀ c ∈ zs', c.small) ∧ zs'.length ≤ 3 ∧ Only (fun _ => False) h h1 := ⟨zs, hsl, hsm, hz3, ho⟩
      obtain ⟨out, hout⟩ : ∃ out, out = contSl bm zs := ⟨_, rfl⟩
      have hnt : AV.notTup out = true := by rw [hout]; exact bufSl_nt
      rw [← hout] at hfin ⊢
      by_cases hil : zs.length < l.length
      · have hil' : (zs.length : Int) < l.length := by omega
        have h3 : ¬ (zs.length < 3) := fun h => hgo ⟨hil, h⟩
        have h3' : ¬ ((zs.length : Int) < 3) := by omega
        simp [c49_l3, c49_r3, c49_r25, len1, hlen, hil, hil', h3, h3']
        exact ⟨hnt, hfin⟩
      · have hil' : ¬ ((zs.length : Int) < l.length) := by omega
        simp [c49_l3, c49_r3, c49_r25, len1, hlen, hil, hil']
        exact ⟨hnt, hfin⟩
  obtain ⟨r, h', h1, zs, h2, h3, h4, h5⟩ := key
  exact ⟨zs, r, h', h1, h2, h3, h4, h5⟩

end Go.AM

/-
  The law ChainOrder returns true.
-/
namespace Go.AM
open Go Go.Proofs
set_option linter.unusedVariables false
set_option linter.unusedSimpArgs false
set_option maxRecDepth 100000

theorem awake16i : saysTrue (acall cfg 60 42 [] []) = true := by kernel_rfl
noncomputable abbrev F16i : CallF := mixed [42] (D cfg)
theorem awake16j {h : Heap} : F16i 42 [] h = some (.bool true, h) := awake_of awake16i rfl
theorem F16i_D {f : FuncId} (hf : f ≠ 42) {args : List AV} {h : Heap} : F16i f args h = D cfg f args h := mixed_D (by simp [hf])

/-! ### the plain law: which contents there are says it all -/

theorem hits_free {c : Cont} {s : Txt} {ah : List Int} (hr : c.rel = false) : ∀ {n : Nat}, hits c s ah n = hits c s [] n
  | 0 => rfl
  | n + 1 => by
    have h : hitB c s ah n = hitB c s [] n := by simp [hitB, hr]
    simp only [hits, h, hits_free hr (n := n)]

theorem mem_ends {s : Txt} {l : List Cont} (hr : ∀ c ∈ l, c.rel = false) {q : List Int} : q ∈ (endsAll l s).1 ↔ ∃ c ∈ l, c.not = false ∧ q = hits c s [] (s.length + 1) := by
  have key : ∀ k (l : List Cont), l.length = k → (∀ c ∈ l, c.rel = false) → (q ∈ (endsAll l s).1 ↔ ∃ c ∈ l, c.not = false ∧ q = hits c s [] (s.length + 1)) := by
    intro k
    induction k with
    | zero =>
      intro l h _
      have : l = [] := List.length_eq_zero_iff.1 h
      subst this
      simp [endsAll]
    | succ k ih =>
      intro l h hr
      rcases List.eq_nil_or_concat l with e | ⟨t, c, e⟩
      · subst e; simp at h
      · have e' : l = t ++ [c] := by simpa using e
        subst e'
        simp at h
        have hst : endsAll (t ++ [c]) s = endsStep s (endsAll t s) c := by simp only [endsAll, List.foldl_append, List.foldl_cons, List.foldl_nil]
        have hrc : c.rel = false := hr c (by simp)
        have hrt : ∀ x ∈ t, x.rel = false := fun x hx => hr x (by simp [hx])
        rw [hst]
        unfold endsStep
        cases hn : c.not with
        | true =>
          simp only [if_true]
          rw [ih t h hrt]
          constructor
          · rintro ⟨x, h1, h2⟩; exact ⟨x, by simp [h1], h2⟩
          · rintro ⟨x, h1, h2, h3⟩
            rcases List.mem_append.1 h1 with h1 | h1
            · exact ⟨x, h1, h2, h3⟩
            · simp at h1; subst h1; rw [hn] at h2; simp at h2
        | false =>
          simp only [Bool.false_eq_true, if_false]
          rw [List.mem_append, ih t h hrt, hits_free hrc]
          constructor
          · rintro (⟨x, h1, h2⟩ | h1)
            · exact ⟨x, by simp [h1], h2⟩
            · simp at h1; exact ⟨c, by simp, hn, h1⟩
          · rintro ⟨x, h1, h2, h3⟩
            rcases List.mem_append.1 h1 with h1 | h1
            · exact .inl ⟨x, h1, h2, h3⟩
            · simp at h1; subst h1; exact .inr (by simp [h3])
  exact key _ l rfl hr

section
variable {c d : List Cont} {s : Txt} (hc : ∀ x ∈ c, x.rel = false) (hcd : ∀ x, x ∈ c ↔ x ∈ d)
include hc hcd

theorem same_mem (q : List Int) : q ∈ (endsAll c s).1 ↔ q ∈ (endsAll d s).1 := by
  rw [mem_ends hc, mem_ends (fun x hx => hc x ((hcd x).2 hx))]
  constructor
  · rintro ⟨x, h1, h2⟩; exact ⟨x, (hcd x).1 h1, h2⟩
  · rintro ⟨x, h1, h2⟩; exact ⟨x, (hcd x).2 h1, h2⟩

theorem same_noEmpty : noEmpty (endsAll c s).1 = noEmpty (endsAll d s).1 := by
  rw [Bool.eq_iff_iff]
  simp only [noEmpty, List.all_eq_true]
  constructor
  · intro h q hq; exact h q ((same_mem hc hcd q).2 hq)
  · intro h q hq; exact h q ((same_mem hc hcd q).1 hq)

theorem same_heads : heads (endsAll c s).1 = heads (endsAll d s).1 := by
  have h1 : ∀ n : Int, heads (endsAll c s).1 ≤ n ↔ heads (endsAll d s).1 ≤ n := by
    intro n
    rw [heads_le, heads_le]
    constructor
    · rintro ⟨h1, h2⟩; exact ⟨h1, fun q hq => h2 q ((same_mem hc hcd q).2 hq)⟩
    · rintro ⟨h1, h2⟩; exact ⟨h1, fun q hq => h2 q ((same_mem hc hcd q).1 hq)⟩
  have h2 := (h1 _).1 (Int.le_refl _)
  have h3 := (h1 _).2 (Int.le_refl _)
  omega

omit hc in
theorem same_never : neverC c s = neverC d s := by
  have h1 : ∀ e, neverAt s c e = neverAt s d e := by
    intro e
    rw [Bool.eq_iff_iff]
    simp only [neverAt, List.any_eq_true]
    constructor
    · rintro ⟨x, h1, h2⟩; exact ⟨x, (hcd x).1 h1, h2⟩
    · rintro ⟨x, h1, h2⟩; exact ⟨x, (hcd x).2 h1, h2⟩
  have key : ∀ n e, neverFrom s c e n = neverFrom s d e n := by
    intro n
    induction n with
    | zero => intro e; rfl
    | succ n ih => intro e; simp only [neverFrom, h1, ih]
  exact key _ _

theorem same_first : firstC d s = firstC c s := by
  simp only [firstC, same_noEmpty hc hcd, same_heads hc hcd, same_never hcd]
theorem same_holds : holdsC d s = holdsC c s := by
  simp only [holdsC, same_noEmpty hc hcd, same_never hcd]
end

/-- Contents, turned. -/
def turned (c : List Cont) (p n : Nat) : List Cont := (List.range n).filterMap fun j => c[(j + p) % c.length]?

theorem turned_step {c : List Cont} {p n : Nat} (hc : 0 < c.length) : turned c p (n + 1) = turned c p n ++ [c[(n + p) % c.length]'(Nat.mod_lt _ hc)] := by
  simp only [turned, List.range_succ, List.filterMap_append]
  simp [List.getElem?_eq_getElem (Nat.mod_lt (n + p) hc)]

theorem turned_len {c : List Cont} {p : Nat} (hc : 0 < c.length) : ∀ n, (turned c p n).length = n
  | 0 => rfl
  | n + 1 => by rw [turned_step hc, List.length_append, turned_len hc n]; rfl

theorem turned_mem {c : List Cont} {p : Nat} (hp : p < c.length) (x : Cont) : x ∈ c ↔ x ∈ turned c p c.length := by
  simp only [turned, List.mem_filterMap, List.mem_range]
  constructor
  · intro hx
    obtain ⟨j, hj, rfl⟩ := List.getElem_of_mem hx
    by_cases h : p ≤ j
    · refine ⟨j - p, by omega, ?_⟩
      rw [show (j - p + p) % c.length = j by rw [Nat.sub_add_cancel h, Nat.mod_eq_of_lt hj]]
      exact List.getElem?_eq_getElem hj
    · refine ⟨j + c.length - p, by omega, ?_⟩
      rw [show (j + c.length - p + p) % c.length = j by rw [Nat.sub_add_cancel (by omega), Nat.add_mod_right, Nat.mod_eq_of_lt hj]]
      exact List.getElem?_eq_getElem hj
  · rintro ⟨j, _, h⟩
    exact List.mem_of_getElem? h

/-! ### the walk -/

abbrev env11 (w : AV) (n turn : Int) (out v : AV) (k i : Nat) : Env := [(1, w), (2, .int .i64 n), (3, .int .i64 turn), (9, out), (10, .sl none 0 0), (29, v), (30, .int .i64 k), (31, .int .i64 i)]

def In11 (h₀ : Heap) (w : AV) (n turn : Int) (v : AV) (zs : List Cont) (m : Nat) (st : St) : Prop := ∃ (i bm : Nat) (cs : List Cont) (h : Heap), m = zs.length - i ∧ i ≤ zs.length ∧ cs.length ≤ i ∧ (∀ c ∈ cs, c.small ∧ c.rel = false) ∧ st = ⟨env11 w n turn (contSl bm cs) v zs.length i, h⟩ ∧
  (cs.length ≠ 0 → h[bm]? = some (.cells (cs.flatMap contCell) 52 true) ∧ h₀.length ≤ bm) ∧ Only (fun _ => False) h₀ h

theorem filter11 {h₀ : Heap} {w v : AV} {n turn : Int} {zs : List Cont} (hv : SlC h₀ v zs) (hsm : ∀ c ∈ zs, c.small) (hz : zs.length ≤ 3) {Q : AExit → St → Prop}
    (hq : ∀ bm cs h, cs.length ≤ 3 → (∀ c ∈ cs, c.small ∧ c.rel = false) → SlC h (contSl bm cs) cs → Only (fun _ => False) h₀ h → Q (.exit 0) ⟨env11 w n turn (contSl bm cs) v zs.length zs.length ++ [(32, .bool false)], h⟩) :
    Wt Try.prog F16i (.loop c11_l5 (some [1, 2, 3, 9, 10, 29, 30, 31])) ⟨env11 w n turn (.sl none 0 0) v zs.length 0, h₀⟩ Q := by
  refine Wt.loop (In11 h₀ w n turn v zs) (m := zs.length) ⟨0, 0, [], h₀, rfl, Nat.zero_le _, by simp, by simp, by simp [bufSl], by simp, .refl⟩ ?_
  rintro m st ⟨i, bm, cs, h, rfl, hi, hcl, hcs, rfl, hb, ho⟩
  have hcut : cut (some [1, 2, 3, 9, 10, 29, 30, 31]) (env11 w n turn (contSl bm cs) v zs.length i) = env11 w n turn (contSl bm cs) v zs.length i := by simp
  simp only [hcut]
  by_cases hil : i < zs.length
  · have hil' : (i : Int) < zs.length := by omega
    have hwr : IntKind.wrap .i64 ((i : Int) + 1) = i + 1 := wrap_i64 (by omega) (by omega)
    obtain ⟨c, hc⟩ : ∃ c, c = zs[i] := ⟨_, rfl⟩
    have hcsm : c.small := hsm c (by rw [hc]; exact List.getElem_mem hil)
    have a1 := hv.at hil
    have b1 := (hv.same ho).load hil
    rw [← hc] at b1
    obtain ⟨h1, hh1⟩ : ∃ h1, h1 = h ++ [.cells (contCell c) 52 false] := ⟨_, rfl⟩
    have hb1 : h1[h.length]? = some (.cells (contCell c) 52 false) := by rw [hh1]; simp
    have o1 : Only (fun _ => False) h h1 := by rw [hh1]; exact .app
    have ho1 := ho.trans o1
    have cl := contLoads hb1
    cases hrel : c.rel with
    | true =>
      have hnext : In11 h₀ w n turn v zs (zs.length - (i + 1)) ⟨env11 w n turn (contSl bm cs) v zs.length (i + 1), h1⟩ := ⟨i + 1, bm, cs, h1, rfl, hil, by omega, hcs, rfl, fun hne => ⟨o1.at (hb hne).1 id, (hb hne).2⟩, ho1⟩
      simp only [env11] at hnext
      simp [c11_l5, c11_r5, c11_r6, c11_r7, c11_r8, c11_r9, hil, hil', a1, b1, zeros, astore, splice, ← hh1, fieldA, cl, hrel, hwr]
      exact ⟨zs.length - (i + 1), by omega, by simpa using hnext⟩
    | false =>
      obtain ⟨δ, h2, e2, e3, e4, o4⟩ := append_cont (h := h1) (b := bm) (zs := cs) (c := c) (fun hne => o1.at (hb hne).1 id) (by omega)
      have hnext : In11 h₀ w n turn v zs (zs.length - (i + 1)) ⟨env11 w n turn (contSl (if cs.length = 0 then h1.length + 1 else bm) (cs ++ [c])) v zs.length (i + 1), h2⟩ := by
        refine ⟨i + 1, _, cs ++ [c], h2, rfl, hil, by simp; omega, fun d hd => ?_, rfl, fun _ => ⟨e4, ?_⟩, ho1.fresh o4 fun b e => by rw [e.1]; exact (hb e.2).2⟩
        · simp at hd
          rcases hd with hd | rfl
          · exact hcs d hd
          · exact ⟨hcsm, hrel⟩
        · have := ho1.1
          split
          · omega
          · rename_i hne; exact (hb hne).2
      simp only [env11] at hnext
      simp [c11_l5, c11_r5, c11_r6, c11_r7, c11_r8, c11_r9, hil, hil', a1, b1, zeros, astore, splice, ← hh1, fieldA, cl, hrel, hwr, build_cont, e2, e3]
      exact ⟨zs.length - (i + 1), by omega, by simpa using hnext⟩
  · have : i = zs.length := by omega
    subst this
    have hn := hq bm cs h (by omega) hcs (SlC.buf fun hne => (hb hne).1) ho
    simp only [env11] at hn
    simp [c11_l5, c11_r5]
    simpa using hn

abbrev env13 (w : AV) (n turn : Int) (c d : AV) (i : Nat) : Env := [(1, w), (2, .int .i64 n), (3, .int .i64 turn), (9, c), (10, d), (13, .int .i64 i)]

def In13 (h₀ : Heap) (w : AV) (n turn : Int) (v : AV) (c : List Cont) (p : Nat) (m : Nat) (st : St) : Prop := ∃ (i bm : Nat) (h : Heap), m = c.length - i ∧ i ≤ c.length ∧ st = ⟨env13 w n turn v (contSl bm (turned c p i)) i, h⟩ ∧
  ((turned c p i).length ≠ 0 → h[bm]? = some (.cells ((turned c p i).flatMap contCell) 52 true) ∧ h₀.length ≤ bm) ∧ Only (fun _ => False) h₀ h

theorem turn_loop {h₀ : Heap} {w v : AV} {n turn : Int} {c : List Cont} {p : Nat} (hv : SlC h₀ v c) (hc0 : 0 < c.length) (hc : c.length ≤ 3) (hp : turn % (c.length : Int) = p) {Q : AExit → St → Prop}
    (hq : ∀ bm h, SlC h (contSl bm (turned c p c.length)) (turned c p c.length) → Only (fun _ => False) h₀ h → Q (.exit 2) ⟨env13 w n turn v (contSl bm (turned c p c.length)) c.length ++ [(46, .bool false)], h⟩) :
    Wt Try.prog F16i (.loop c11_l11 (some [1, 2, 3, 9, 10, 13])) ⟨env13 w n turn v (.sl none 0 0) 0, h₀⟩ Q := by
  have hlen := fun L => hv.len (L := L)
  have hpl : p < c.length := by have := Int.emod_lt_of_pos turn (b := (c.length : Int)) (by omega); omega
  refine Wt.loop (In13 h₀ w n turn v c p) (m := c.length) ⟨0, 0, h₀, rfl, Nat.zero_le _, by simp [turned, bufSl], by simp [turned], .refl⟩ ?_
  rintro m st ⟨i, bm, h, rfl, hi, rfl, hb, ho⟩
  have hcut : cut (some [1, 2, 3, 9, 10, 13]) (env13 w n turn v (contSl bm (turned c p i)) i) = env13 w n turn v (contSl bm (turned c p i)) i := by simp
  simp only [hcut]
  by_cases hil : i < c.length
  · have hil' : (i : Int) < c.length := by omega
    have hwr : IntKind.wrap .i64 ((i : Int) + 1) = i + 1 := wrap_i64 (by omega) (by omega)
    have p1 := place_run (h := h) (v := turn) (n := (c.length : Int)) (by omega) (by omega)
    rw [hp] at p1
    have hws : IntKind.wrap .i64 ((i : Int) + p) = ((i + p : Nat) : Int) := by rw [wrap_i64 (by omega) (by omega)]; omega
    have hne : (c.length : Int) ≠ 0 := by omega
    have hcne : c ≠ [] := fun e => by rw [e] at hc0; simp at hc0
    have hmod := tmod_nat (a := i + p) (b := c.length)
    have hml : (i + p) % c.length < c.length := Nat.mod_lt _ hc0
    obtain ⟨k, hk⟩ : ∃ k, k = (i + p) % c.length := ⟨_, rfl⟩
    have hst := turned_step (c := c) (p := p) (n := i) hc0
    simp only [← hk] at hmod hml hst
    have a1 := hv.at hml
    have b1 := (hv.same ho).load hml
    obtain ⟨x, hx⟩ : ∃ x, x = c[k] := ⟨_, rfl⟩
    rw [← hx] at b1 hst
    obtain ⟨δ, h2, e2, e3, e4, o4⟩ := append_cont (h := h) (b := bm) (zs := turned c p i) (c := x) (fun hne => (hb hne).1) (by rw [turned_len hc0]; omega)
    have hnext : In13 h₀ w n turn v c p (c.length - (i + 1)) ⟨env13 w n turn v (contSl (if (turned c p i).length = 0 then h.length + 1 else bm) (turned c p (i + 1))) (i + 1), h2⟩ := by
      refine ⟨i + 1, _, h2, rfl, hil, rfl, fun _ => ⟨by rw [hst]; exact e4, ?_⟩, ho.fresh o4 fun b e => by rw [e.1]; exact (hb e.2).2⟩
      have := ho.1
      split
      · omega
      · rename_i hne; exact (hb hne).2
    rw [← hst] at e2
    simp only [env13] at hnext
    obtain ⟨q, hq'⟩ : ∃ q : Nat, q = i + p := ⟨_, rfl⟩
    rw [← hq'] at hws hmod
    simp [c11_l11, c11_r11, c11_r12, c11_r13, len1, hlen, hil, hil', F16i_D, p1, hws, abin_rem, hne, hcne, hmod, a1, b1, build_cont, e2, e3, hwr]
    exact ⟨c.length - (i + 1), by omega, by simpa using hnext⟩
  · have : i = c.length := by omega
    subst this
    have hn := hq bm h (SlC.buf fun hne => (hb hne).1) ho
    simp only [env13] at hn
    simp [c11_l11, c11_r11, len1, hlen]
    simpa using hn

theorem order11_walk {h₀ : Heap} {v w : AV} {l t : List Int} {n turn : Int} (hv : Sl1 h₀ v (intCells l)) (hw : Sl1 h₀ w (intCells t)) :
    Wt Try.prog F16i c11 ⟨argsEnv 0 [v, w, .int .i64 n, .int .i64 turn], h₀⟩ (Ends Try.prog [.tmp 8] fun r _ => r = .bool true) := by
  have lv := fun L => hv.len (t := 30) (e := 3) (by simp) (L := L)
  have lw := fun L => hw.len (t := 30) (e := 3) (by simp) (L := L)
  simp only [intCells_len] at lv lw
  by_cases h8 : 8 < l.length
  · have h8' : (8 : Int) < l.length := by omega
    simp [c11, c11_r0, c11_r1, c11_r2, F16i_D, len1, lv, lw, h8, h8', awake16j]
  · have h8' : ¬ ((8 : Int) < l.length) := by omega
    by_cases h60 : 60 < t.length
    · have h60' : (60 : Int) < t.length := by omega
      simp [c11, c11_r0, c11_r1, c11_r2, F16i_D, len1, lv, lw, h8, h8', h60, h60', awake16j]
    · have h60' : ¬ ((60 : Int) < t.length) := by omega
      obtain ⟨zs, v', h1, e1, hz, hsm, hzl, o1⟩ := contents hv (by omega)
      have lc := fun L => hz.len (L := L)
      have hf := fun Q hq => filter11 (Q := Q) (w := w) (n := n) (turn := turn) hz hsm hzl hq
      simp only [env11] at hf
      rw [show ((0 : Nat) : Int) = 0 from rfl] at hf
      simp [c11, c11_r0, c11_r1, c11_r2, c11_r3, c11_r4, F16i_D, len1, lv, lw, h8, h8', h60, h60', e1, lc]
      refine hf _ fun bm cs h2 hcl hcs hsl o2 => ?_
      have hrel : ∀ x ∈ cs, x.rel = false := fun x hx => (hcs x hx).2
      have hs' : ∀ x ∈ cs, x.small := fun x hx => (hcs x hx).1
      -- what is left, whatever the turned contents are
      have last : ∀ (ds : List Cont) (bd : Nat) (h3 : Heap), (∀ x, x ∈ cs ↔ x ∈ ds) → ds.length ≤ 3 → SlC h3 (contSl bd ds) ds → Only (fun _ => False) h2 h3 → ∀ ρ : Env, ρ.get 1 = some w → ρ.get 2 = some (.int .i64 n) → ρ.get 9 = some (contSl bm cs) → ρ.get 10 = some (contSl bd ds) →
          Wt Try.prog F16i (.seq (.reg c11_r14 none (some [9, 10, 14])) (.seq (.reg c11_r15 none (some [9, 10, 14, 15, 16])) (.seq (.reg c11_r16 none (some [9, 10, 14, 15, 16, 17, 18])) (.seq (.reg c11_r17 none (some [8])) .ret)))) ⟨ρ, h3⟩ (Ends Try.prog [.tmp 8] fun r _ => r = .bool true) := by
        intro ds bd h3 hmem hdl hsd o3 ρ r1 r2 r9 r10
        have hsd' : ∀ x ∈ ds, x.small := fun x hx => hs' x ((hmem x).2 hx)
        have p1 := place_run (h := h3) (v := n) (n := 40) (by decide) (by decide)
        obtain ⟨k, hk⟩ : ∃ k : Nat, n % 40 = k := ⟨(n % 40).toNat, by omega⟩
        rw [hk] at p1
        have o13 := (o1.trans o2).trans o3
        obtain ⟨s, h4, e4, hs, o4⟩ := letters (hw.same o13) (n := k) (by omega) (by omega)
        have x4 := o3.trans o4
        obtain ⟨h5, e5, o5⟩ := first_chain (hsl.same x4) (s := s) hs' (by omega) (by omega)
        have x5 := x4.trans o5
        obtain ⟨h6, e6, o6⟩ := first_chain (hsd.same (o4.trans o5)) (s := s) hsd' (by omega) (by omega)
        have x6 := x5.trans o6
        obtain ⟨h7, e7, o7⟩ := holds_chain (hsl.same x6) (s := s) hs' (by omega) (by omega)
        have x7 := x6.trans o7
        obtain ⟨h8, e8, o8⟩ := holds_chain (hsd.same ((o4.trans o5).trans (o6.trans o7))) (s := s) hsd' (by omega) (by omega)
        rw [same_first hrel hmem] at e6
        rw [same_holds hrel hmem] at e8
        simp [c11_r14, c11_r15, c11_r16, c11_r17, F16i_D, r1, r2, r9, r10, p1, e4, e5, e6, e7, e8, extractV, awake16j]
      by_cases hc0 : cs.length = 0
      · have hcs0 : cs = [] := List.length_eq_zero_iff.1 hc0
        have hlast := last [] 0 h2 (by rw [hcs0]; simp) (by simp) (.inl ⟨by simp [bufSl], rfl⟩) .refl
        have hl2 := fun L => hsl.len (L := L)
        simp only [hc0] at hl2
        simp [c11_r10]
        refine Wt.loop (fun _ st => st = ⟨env13 w n turn (contSl bm cs) (.sl none 0 0) 0, h2⟩) (m := 0) rfl ?_
        rintro _ st rfl
        simp [c11_l11, c11_r11, len1, hl2]
        have := hlast [(1, w), (2, .int .i64 n), (3, .int .i64 turn), (9, contSl bm cs), (10, .sl none 0 0), (13, .int .i64 0), (46, .bool false)] (by simp) (by simp) (by simp) (by simp [bufSl])
        simpa using this
      · obtain ⟨p, hp⟩ : ∃ p : Nat, turn % (cs.length : Int) = p := ⟨(turn % (cs.length : Int)).toNat, by have := Int.emod_nonneg turn (b := (cs.length : Int)) (by omega); omega⟩
        have hpl : p < cs.length := by have := Int.emod_lt_of_pos turn (b := (cs.length : Int)) (by omega); omega
        have ht := fun Q hq => turn_loop (Q := Q) (w := w) (n := n) hsl (by omega) hcl hp hq
        simp only [env13] at ht
        rw [show ((0 : Nat) : Int) = 0 from rfl] at ht
        simp [c11_r10]
        refine ht _ fun bd h3 hsd o3 => ?_
        rw [inBlock_same, andThen_normal]
        exact last _ bd h3 (turned_mem hpl) (by rw [turned_len (by omega)]; exact hcl) hsd o3 _ (by simp) (by simp) (by simp) (by simp)

end Go.AM
