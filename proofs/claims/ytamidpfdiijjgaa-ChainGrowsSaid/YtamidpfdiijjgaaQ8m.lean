/-
  Texts by numbers.
-/
import Derived.Test.YtamidpfdiijjgaaS14
import Derived.Test.YtamidpfdiijjgaaS9
import Derived.Test.YtamidpfdiijjgaaL8
namespace Go.AM
open Go Go.Proofs
set_option linter.unusedVariables false
set_option linter.unusedSimpArgs false
set_option maxRecDepth 100000

def In50 (h₀ : Heap) (v : AV) (n : Nat) (m : Nat) (st : St) : Prop := ∃ (i : Nat) (s : Txt) (b : Nat) (h : Heap), m = n - i ∧ i ≤ n ∧ s.length = i ∧ st = ⟨[(0, v), (1, .int .i64 n), (5, bufSl b s.length (byteCells s)), (6, .int .i64 i)], h⟩ ∧
  (s.length ≠ 0 → h[b]? = some (.cells (byteCells s) 5 true) ∧ h₀.length ≤ b) ∧ Only (fun _ => False) h₀ h

theorem tmod_nat {a b : Nat} : ((a : Int)).tmod b = ((a % b : Nat) : Int) := by
  rw [Int.tmod_eq_emod_of_nonneg (by omega)]; omega

theorem end50 {h₀ h : Heap} {v : AV} {n i : Nat} {s : Txt} {b : Nat} (hb : s.length ≠ 0 → h[b]? = some (.cells (byteCells s) 5 true) ∧ h₀.length ≤ b) (ho : Only (fun _ => False) h₀ h) (hs : s.length ≤ n) {ρ : Env} (h5 : ρ.get 5 = some (bufSl b s.length (byteCells s))) :
    Wt Try.prog (D cfg) (.seq (.reg c50_r6 none (some [4])) .ret) ⟨ρ, h⟩ (Ends Try.prog [.tmp 4] fun r h' => ∃ s : Txt, r = .str s ∧ s.length ≤ n ∧ Only (fun _ => False) h₀ h') := by
  by_cases h0 : s.length = 0
  · have : s = [] := List.length_eq_zero_iff.1 h0
    subst this
    rw [List.length_nil, bufSl_zero] at h5
    have hfin : ∃ s : Txt, (.str [] : AV) = .str s ∧ s.length ≤ n ∧ Only (fun _ => False) h₀ h := ⟨[], rfl, by simp, ho⟩
    simp [c50_r6, h5, aconv]
    simpa using hfin
  · obtain ⟨hb1, _⟩ := hb h0
    have ht : List.take s.length (byteCells s) = byteCells s := List.take_of_length_le (by rw [byteCells_len]; omega)
    have h0' : 0 < s.length := by omega
    have hfin : ∃ s' : Txt, (.str s : AV) = .str s' ∧ s'.length ≤ n ∧ Only (fun _ => False) h₀ h := ⟨s, rfl, hs, ho⟩
    simp only [bufSl, if_neg h0, byteCells_len] at h5
    simp [c50_r6, h5, aconv, slCells, AM.row, hb1, byteCells_len, ht, cellBytes_all]
    simpa using hfin

theorem letters {h : Heap} {v : AV} {l : List Int} (hv : Sl1 h v (intCells l)) {n : Nat} (hn : n ≤ 1000) (hl : l.length ≤ 1000000) :
    ∃ (s : Txt) (h' : Heap), D cfg 50 [v, .int .i64 n] h = some (.str s, h') ∧ s.length ≤ n ∧ Only (fun _ => False) h h' := by
  have key : ∃ r h', D cfg 50 [v, .int .i64 n] h = some (r, h') ∧ (∃ s : Txt, r = .str s ∧ s.length ≤ n ∧ Only (fun _ => False) h h') := by
    refine call50 (R := fun r h' => ∃ s : Txt, r = .str s ∧ s.length ≤ n ∧ Only (fun _ => False) h h') (args := [v, .int .i64 n]) (h := h) (by simp) ?_
    have hlen := fun L => hv.len (t := 30) (e := 3) (by simp) (L := L)
    simp only [intCells_len] at hlen
    simp [c50, c50_r0, c50_r1, c50_r2]
    refine Wt.loop (In50 h v n) (m := n) ⟨0, [], 0, h, rfl, Nat.zero_le _, rfl, by simp [bufSl], by simp, .refl⟩ ?_
    rintro m st ⟨i, s, b, h1, rfl, hi, hsi, rfl, hb, ho⟩
    have hcut : cut (some [0, 1, 5, 6]) [(0, v), (1, .int .i64 (n : Int)), (5, bufSl b s.length (byteCells s)), (6, .int .i64 (i : Nat))] = [(0, v), (1, .int .i64 n), (5, bufSl b s.length (byteCells s)), (6, .int .i64 (i : Nat))] := by simp
    simp only [hcut]
    have hend := fun ρ h5 => end50 (v := v) (n := n) (i := i) hb ho (by omega) (ρ := ρ) h5
    by_cases hin : i < n
    · have hin' : (i : Int) < n := by omega
      by_cases hl0 : l.length = 0
      · simp only [hl0] at hlen
        simp [c50_l3, c50_r3, hin, hin', len1, hlen]
        have := hend [(0, v), (1, .int .i64 n), (5, bufSl b s.length (byteCells s)), (6, .int .i64 i), (14, .bool false)] (by simp)
        simpa using this
      · have hlp : 0 < l.length := by omega
        have hlp' : (0 : Int) < l.length := by omega
        have hne : (l.length : Int) ≠ 0 := by omega
        have hwr : IntKind.wrap .i64 ((i : Int) + 1) = i + 1 := wrap_i64 (by omega) (by omega)
        have hmod := tmod_nat (a := i) (b := l.length)
        have hml : i % l.length < l.length := Nat.mod_lt _ hlp
        obtain ⟨k, hk⟩ : ∃ k, k = i % l.length := ⟨_, rfl⟩
        rw [← hk] at hmod hml
        have a1 := hv.at (t := 30) (e := 3) (by simp) (by simp) (i := k) (by rw [intCells_len]; exact hml)
        have b1 := (hv.same ho).load (e := 3) (by simp) (i := k) (by rw [intCells_len]; exact hml)
        rw [intCells_get] at b1
        obtain ⟨x, hx⟩ : ∃ x, x = l[k] := ⟨_, rfl⟩
        rw [← hx] at b1
        have p1 := place_run (h := h1) (v := x) (n := 1073741824) (by decide) (by decide)
        obtain ⟨y, hy⟩ : ∃ y, y = x % 1073741824 := ⟨_, rfl⟩
        rw [← hy] at p1
        have hy0 : 0 ≤ y ∧ y < 1073741824 := by omega
        have hii : (i : Int) * i ≤ 1000 * 1000 := Int.mul_le_mul (by omega) (by omega) (by omega) (by omega)
        have hii0 : (0 : Int) ≤ (i : Int) * i := Int.mul_nonneg (by omega) (by omega)
        have hw1 : IntKind.wrap .i64 ((i : Int) * i) = (i : Int) * i := wrap_i64 (by omega) (by omega)
        obtain ⟨q, hq⟩ : ∃ q, q = ((i : Int) * i).tdiv 3 := ⟨_, rfl⟩
        have hq0 : 0 ≤ q ∧ q ≤ 1000000 := by
          rw [hq, Int.tdiv_eq_ediv_of_nonneg hii0]
          omega
        have hw2 : IntKind.wrap .i64 q = q := wrap_i64 (by omega) (by omega)
        have hw3 : IntKind.wrap .i64 (y + q) = y + q := wrap_i64 (by omega) (by omega)
        have p2 := place_run (h := h1) (v := y + q) (n := 4) (by decide) (by decide)
        obtain ⟨z, hz⟩ : ∃ z : Nat, (y + q) % 4 = z := ⟨((y + q) % 4).toNat, by omega⟩
        have hz4 : z < 4 := by omega
        rw [hz] at p2
        obtain ⟨c, hc⟩ : ∃ c : UInt8, ([97, 98, 99, 65] : List UInt8)[z]? = some c := ⟨_, List.getElem?_eq_getElem (by simpa using hz4)⟩
        obtain ⟨δ, h2, e2, e3, e4, o4⟩ := append_byte (h := h1) (b := b) (l := s) (x := c) (fun hne => (hb hne).1) (by omega)
        have hnext : In50 h v n (n - (i + 1)) ⟨[(0, v), (1, .int .i64 n), (5, bufSl (if s.length = 0 then h1.length + 1 else b) (s ++ [c]).length (byteCells (s ++ [c]))), (6, .int .i64 (i + 1 : Nat))], h2⟩ := by
          refine ⟨i + 1, s ++ [c], _, h2, rfl, hin, by simp [hsi], rfl, fun _ => ⟨e4, ?_⟩, ho.fresh o4 fun d e => by rw [e.1]; exact (hb e.2).2⟩
          have := ho.1
          split
          · omega
          · rename_i hne; exact (hb hne).2
        have h3n : (3 : Int) ≠ 0 := by decide
        simp only [List.length_append, List.length_singleton] at e2 hnext
        simp [c50_l3, c50_r3, c50_r4, c50_r5, hin, hin', len1, hlen, hlp, hlp', abin_rem, hne, hl0, hmod, a1, b1, p1, hw1, abin_quo, ← hq, hw2, hw3, p2, aindex, hc, abuildSlice, afill, zeros, e2, e3, hwr]
        exact ⟨n - (i + 1), by omega, by simpa using hnext⟩
    · have hin' : ¬ ((i : Int) < n) := by omega
      simp [c50_l3, c50_r3, hin, hin']
      have := hend [(0, v), (1, .int .i64 n), (5, bufSl b s.length (byteCells s)), (6, .int .i64 i), (14, .bool false)] (by simp)
      simpa using this
  obtain ⟨r, h', h1, s, rfl, h2⟩ := key
  exact ⟨s, h', h1, h2⟩

end Go.AM

/-
  Contents by numbers: small ones.
-/
namespace Go.AM
open Go Go.Proofs
set_option linter.unusedVariables false
set_option linter.unusedSimpArgs false
set_option maxRecDepth 100000

def c49_sw : SC := (.block 4 (.seq (.reg c49_r13 none (some [0, 3, 4, 5, 6, 7, 9, 59])) (.cond (.tmp 59) (.reg c49_r14 none (some [0, 3, 4, 6])) (.seq (.reg c49_r15 none (some [0, 3, 4, 5, 6, 9, 63])) (.cond (.tmp 63) (.seq (.reg c49_r16 none (some [0, 3, 4, 5, 6])) (.seq (.reg c49_r17 none (some [0, 3, 4, 5, 6])) (.seq (.reg c49_r18 none (some [0, 3, 4, 5, 6, 78])) (.cond (.tmp 78) (.reg c49_r19 none (some [0, 3, 4, 6])) .skip (some [0, 3, 4, 6]))))) (.seq (.reg c49_r20 none (some [0, 3, 4, 5, 6, 9, 87])) (.cond (.tmp 87) (.reg c49_r21 none (some [0, 3, 4, 6])) (.seq (.reg c49_r22 none (some [0, 3, 4, 5, 6, 94])) (.cond (.tmp 94) (.reg c49_r23 none (some [0, 3, 4, 6])) .skip (some [0, 3, 4, 6]))) (some [0, 3, 4, 6]))) (some [0, 3, 4, 6]))) (some [0, 3, 4, 6]))))
theorem c49_l3_eq : c49_l3 = (.seq (.seq (.reg c49_r3 none (some [0, 3, 4, 17])) (.cond (.tmp 17) .skip (.exit 0) (some [0, 3, 4]))) (.seq (.block 1 (.seq (.reg c49_r5 none (some [0, 3, 4, 5])) (.seq (.reg c49_r6 none (some [0, 3, 4, 5, 6])) (.seq (.reg c49_r7 none (some [0, 3, 4, 5, 6, 7])) (.seq (.seq (.reg c49_r8 none (some [0, 3, 4, 5, 6, 7, 8])) (.block 2 (.loop c49_l9 (some [0, 3, 4, 5, 6, 7, 8])))) (.seq (.seq (.reg c49_r12 none (some [0, 3, 4, 5, 6, 7, 9])) c49_sw) (.reg c49_r24 none (some [0, 3, 4])))))))) (.reg c49_r4 none (some [0, 3, 4])))) := rfl

theorem div_fact {a n : Int} (ha : 0 ≤ a) (hn : 0 < n) : 0 ≤ a.tdiv n ∧ a.tdiv n ≤ a := by
  rw [Int.tdiv_eq_ediv_of_nonneg ha]
  exact ⟨Int.ediv_nonneg ha (by omega), Int.ediv_le_self _ ha⟩
theorem mod_fact {a n : Int} (ha : 0 ≤ a) (hn : 0 < n) : 0 ≤ a.tmod n ∧ a.tmod n < n := by
  rw [Int.tmod_eq_emod_of_nonneg ha]
  exact ⟨Int.emod_nonneg _ (by omega), Int.emod_lt_of_pos _ hn⟩

abbrev baseC (s : Txt) (nc : Bool) : Cont := ⟨s, nc, false, 0, 0, false, 0, 0⟩

theorem switch49 {h : Heap} {v m : AV} {i bc : Nat} {x w : Int} {plain nc : Bool} {s : Txt} (hb : h[bc]? = some (.cells (contCell (baseC s nc)) 52 false)) (hx : 0 ≤ x ∧ x < 16777216) (hw : 0 ≤ w ∧ w < 8) (hs : s.length ≤ 3) {Q : AExit → St → Prop}
    (hq : ∀ c' : Cont, c'.small → ∀ h', h'[bc]? = some (.cells (contCell c') 52 false) → Only (fun b => b = bc) h h' → Q .normal ⟨[(0, v), (3, m), (4, .int .i64 i), (6, .ptr (some ⟨bc, 0, 8⟩))], h'⟩) :
    Wt Try.prog (D cfg) c49_sw ⟨[(0, v), (3, m), (4, .int .i64 i), (5, .int .i64 x), (6, .ptr (some ⟨bc, 0, 8⟩)), (7, .bool plain), (9, .int .i64 w)], h⟩ Q := by
  have hl := lt_of_at hb
  have g72 := div_fact hx.1 (n := 72) (by decide)
  have g576 := div_fact hx.1 (n := 576) (by decide)
  have g1152 := div_fact hx.1 (n := 1152) (by decide)
  obtain ⟨d72, e72⟩ : ∃ d, d = x.tdiv 72 := ⟨_, rfl⟩
  obtain ⟨d576, e576⟩ : ∃ d, d = x.tdiv 576 := ⟨_, rfl⟩
  obtain ⟨d1152, e1152⟩ : ∃ d, d = x.tdiv 1152 := ⟨_, rfl⟩
  rw [← e72] at g72
  rw [← e576] at g576
  rw [← e1152] at g1152
  have w72 : IntKind.wrap .i64 d72 = d72 := wrap_i64 (by omega) (by omega)
  have w576 : IntKind.wrap .i64 d576 = d576 := wrap_i64 (by omega) (by omega)
  have w1152 : IntKind.wrap .i64 d1152 = d1152 := wrap_i64 (by omega) (by omega)
  have m8 := mod_fact g72.1 (n := 8) (by decide)
  have m5 := mod_fact g72.1 (n := 5) (by decide)
  have m9 := mod_fact g72.1 (n := 9) (by decide)
  have m6 := mod_fact g1152.1 (n := 6) (by decide)
  have wm8 : IntKind.wrap .i64 (d72.tmod 8 - 3) = d72.tmod 8 - 3 := wrap_i64 (by omega) (by omega)
  have wm9 : IntKind.wrap .i64 ((s.length : Int) + d72.tmod 9) = s.length + d72.tmod 9 := wrap_i64 (by omega) (by omega)
  have wm6 : IntKind.wrap .i64 ((s.length : Int) + d1152.tmod 6) = s.length + d1152.tmod 6 := wrap_i64 (by omega) (by omega)
  have put : ∀ c' : Cont, c'.small → Q .normal ⟨[(0, v), (3, m), (4, .int .i64 i), (6, .ptr (some ⟨bc, 0, 8⟩))], h.set bc (.cells (contCell c') 52 false)⟩ := fun c' hc' =>
    hq c' hc' _ (List.getElem?_set_self hl) (.set rfl)
  have keep : Q .normal ⟨[(0, v), (3, m), (4, .int .i64 i), (6, .ptr (some ⟨bc, 0, 8⟩))], h⟩ := hq (baseC s nc) ⟨by simp; omega, by simp, by simp, by simp, by simp⟩ h hb .refl
  by_cases h0 : w = 0
  · have := put ⟨s, nc, true, 0, 0, false, 0, 0⟩ ⟨by simp; omega, by simp, by simp, by simp, by simp⟩
    simp [c49_sw, c49_r13, c49_r14, h0, fieldA, astore, hb]
    simpa using this
  · have tail : w < 4 → plain = true → Wt Try.prog (D cfg) c49_sw ⟨[(0, v), (3, m), (4, .int .i64 i), (5, .int .i64 x), (6, .ptr (some ⟨bc, 0, 8⟩)), (7, .bool plain), (9, .int .i64 w)], h⟩ Q := by
      intro h4 hp
      by_cases h2 : d576.tmod 2 = 0
      · have := put ⟨s, nc, false, 0, 0, true, d72.tmod 8 - 3, s.length + d1152.tmod 6⟩ ⟨by simp; omega, by simp, by simp, by simp; omega, by simp; omega⟩
        simp [c49_sw, c49_r13, c49_r14, c49_r15, c49_r16, c49_r17, c49_r18, c49_r19, h0, h4, hp, fieldA, astore, aload, AM.row, hb, at_put, abin_quo, abin_rem, ← e72, ← e576, ← e1152, w72, w576, w1152, wm8, wm6, h2, len1, alenS]
        simpa using this
      · have := put ⟨s, nc, false, 0, 0, true, d72.tmod 8 - 3, 0⟩ ⟨by simp; omega, by simp, by simp, by simp; omega, by simp⟩
        simp [c49_sw, c49_r13, c49_r14, c49_r15, c49_r16, c49_r17, c49_r18, c49_r19, h0, h4, hp, fieldA, astore, aload, AM.row, hb, at_put, abin_quo, abin_rem, ← e72, ← e576, ← e1152, w72, w576, w1152, wm8, wm6, h2, len1, alenS]
        simpa using this
    have rest : ¬ (w < 4 ∧ plain = true) → Wt Try.prog (D cfg) c49_sw ⟨[(0, v), (3, m), (4, .int .i64 i), (5, .int .i64 x), (6, .ptr (some ⟨bc, 0, 8⟩)), (7, .bool plain), (9, .int .i64 w)], h⟩ Q := by
      intro hno
      by_cases h4 : w < 4
      · cases plain with
        | true => exact absurd ⟨h4, rfl⟩ hno
        | false =>
          have n4 : ¬ (w = 4) := by omega
          have n5 : ¬ (w = 5) := by omega
          simp [c49_sw, c49_r13, c49_r14, c49_r15, c49_r20, c49_r21, c49_r22, c49_r23, h0, fieldA, astore, aload, AM.row, hb, at_put, abin_quo, abin_rem, ← e72, w72, wm9, len1, alenS, h4, n4, n5]
          simpa using keep
      · by_cases h44 : w = 4
        · have := put ⟨s, nc, false, d72.tmod 5, 0, false, 0, 0⟩ ⟨by simp; omega, by simp; omega, by simp, by simp, by simp⟩
          simp [c49_sw, c49_r13, c49_r14, c49_r15, c49_r20, c49_r21, c49_r22, c49_r23, h0, fieldA, astore, aload, AM.row, hb, at_put, abin_quo, abin_rem, ← e72, w72, wm9, len1, alenS, h44]
          simpa using this
        · by_cases h5 : w = 5
          · have := put ⟨s, nc, false, 0, s.length + d72.tmod 9, false, 0, 0⟩ ⟨by simp; omega, by simp, by simp; omega, by simp, by simp⟩
            simp [c49_sw, c49_r13, c49_r14, c49_r15, c49_r20, c49_r21, c49_r22, c49_r23, h0, fieldA, astore, aload, AM.row, hb, at_put, abin_quo, abin_rem, ← e72, w72, wm9, len1, alenS, h5]
            simpa using this
          · simp [c49_sw, c49_r13, c49_r14, c49_r15, c49_r20, c49_r21, c49_r22, c49_r23, h0, fieldA, astore, aload, AM.row, hb, at_put, abin_quo, abin_rem, ← e72, w72, wm9, len1, alenS, h4, h44, h5]
            simpa using keep
    by_cases hc : w < 4 ∧ plain = true
    · exact tail hc.1 hc.2
    · exact rest hc

end Go.AM

/-
  Contents by numbers, whole.
-/
namespace Go.AM
open Go Go.Proofs
set_option linter.unusedVariables false
set_option linter.unusedSimpArgs false
set_option maxRecDepth 100000

abbrev contSl (b : Nat) (zs : List Cont) : AV := bufSl b zs.length (zs.flatMap contCell)

theorem flat_len {l : List Cont} : (l.flatMap contCell).length = l.length * 8 := by
  induction l with
  | nil => rfl
  | cons c r ih => simp only [List.flatMap_cons, List.length_append, ih, List.length_cons]; simp [contCell]; omega

theorem SlC.buf {h : Heap} {b : Nat} {zs : List Cont} (hb : zs.length ≠ 0 → h[b]? = some (.cells (zs.flatMap contCell) 52 true)) : SlC h (contSl b zs) zs := by
  by_cases hz : zs.length = 0
  · have : zs = [] := List.length_eq_zero_iff.1 hz
    subst this
    exact .inl ⟨by simp [bufSl], rfl⟩
  · have hne : zs ≠ [] := fun e => hz (by rw [e]; rfl)
    have := SlC.cells hne (hb hz)
    simp only [bufSl, if_neg hz, flat_len]
    exact this

theorem build_cont {n : Nat} {c : Cont} : abuildSlice Try.prog n 42 1 [(0, c.av)] = some (.sl (some ⟨n, 0, 8⟩) 1 1, .new (.cells (contCell c) 52 true)) := by
  simp [abuildSlice, afill, zeros, splice]

/-- A content more. -/
theorem append_cont {h : Heap} {b : Nat} {zs : List Cont} {c : Cont} (hb : zs.length ≠ 0 → h[b]? = some (.cells (zs.flatMap contCell) 52 true)) (hn : zs.length ≤ 1000000) :
    ∃ δ h', append2 Try.prog (look (h ++ [AObj.cells (contCell c) 52 true])) (h.length + 1) 42 42 [contSl b zs, .sl (some ⟨h.length, 0, 8⟩) 1 1] = some (contSl (if zs.length = 0 then h.length + 1 else b) (zs ++ [c]), δ) ∧ Heap.apply (h ++ [AObj.cells (contCell c) 52 true]) δ = h' ∧
      h'[if zs.length = 0 then h.length + 1 else b]? = some (.cells ((zs ++ [c]).flatMap contCell) 52 true) ∧ Only (fun x => x = b ∧ zs.length ≠ 0) h h' := by
  obtain ⟨δ, h', h1, h2, h3, h4⟩ := append_buf (t := 42) (e := 52) (k := 8) (by simp) (by simp) (by decide) (by simp) (by simp) (h := h) (b := b) (n := zs.length) (xs := zs.flatMap contCell) (ys := contCell c) (by simp [contCell]) flat_len hb hn
  have e : zs.flatMap contCell ++ contCell c = (zs ++ [c]).flatMap contCell := by simp
  rw [e] at h1 h3
  refine ⟨δ, h', ?_, h2, h3, h4⟩
  rw [h1]
  simp [contSl]

abbrev env49 (v m : AV) (i : Nat) (x : Int) (bc : Nat) (p : Bool) (k : Nat) : Env := [(0, v), (3, m), (4, .int .i64 i), (5, .int .i64 x), (6, .ptr (some ⟨bc, 0, 8⟩)), (7, .bool p), (8, .int .i64 k)]

def In49 (v m : AV) (i : Nat) (x : Int) (bc : Nat) (zs : List Cont) (h : Heap) (mm : Nat) (st : St) : Prop := ∃ (k : Nat) (p : Bool), mm = zs.length - k ∧ k ≤ zs.length ∧ st = ⟨env49 v m i x bc p k, h⟩

theorem plain_loop {h : Heap} {v m : AV} {i bc : Nat} {x : Int} {zs : List Cont} (hm : SlC h m zs) (hz : zs.length ≤ 1000) {Q : AExit → St → Prop} (hq : ∀ (p : Bool) (k : Nat), Q (.exit 2) ⟨env49 v m i x bc p k ++ [(44, .bool false)], h⟩) :
    Wt Try.prog (D cfg) (.loop c49_l9 (some [0, 3, 4, 5, 6, 7, 8])) ⟨env49 v m i x bc false 0, h⟩ Q := by
  have hlen := fun L => hm.len (L := L)
  refine Wt.loop (In49 v m i x bc zs h) (m := zs.length) ⟨0, false, rfl, Nat.zero_le _, rfl⟩ ?_
  rintro mm st ⟨k, p, rfl, hk, rfl⟩
  have hcut : cut (some [0, 3, 4, 5, 6, 7, 8]) (env49 v m i x bc p k) = env49 v m i x bc p k := by simp
  simp only [hcut]
  by_cases hkz : k < zs.length
  · have hkz' : (k : Int) < zs.length := by omega
    have hwr : IntKind.wrap .i64 ((k : Int) + 1) = k + 1 := wrap_i64 (by omega) (by omega)
    cases p with
    | true =>
      have hnext : In49 v m i x bc zs h (zs.length - (k + 1)) ⟨env49 v m i x bc true (k + 1), h⟩ := ⟨k + 1, true, rfl, hkz, rfl⟩
      simp only [env49] at hnext
      simp [c49_l9, c49_r9, c49_r10, c49_r11, len1, hlen, hkz, hkz', hwr]
      exact ⟨zs.length - (k + 1), by omega, by simpa using hnext⟩
    | false =>
      have a1 := hm.at hkz
      obtain ⟨p2, p5, f2, _, ff⟩ := hm.fields hkz
      have f6 := (ff h .refl).1
      have hnext : In49 v m i x bc zs h (zs.length - (k + 1)) ⟨env49 v m i x bc (!zs[k].not) (k + 1), h⟩ := ⟨k + 1, _, rfl, hkz, rfl⟩
      simp only [env49] at hnext
      simp [c49_l9, c49_r9, c49_r10, c49_r11, len1, hlen, hkz, hkz', hwr, a1, f2, f6]
      exact ⟨zs.length - (k + 1), by omega, by simpa using hnext⟩
  · have hkz' : ¬ ((k : Int) < zs.length) := by omega
    have hn := hq p k
    simp only [env49] at hn
    simp [c49_l9, c49_r9, len1, hlen, hkz, hkz']
    simpa using hn

def Out49 (h₀ : Heap) (v : AV) (l : List Int) (mm : Nat) (st : St) : Prop := ∃ (zs : List Cont) (bm : Nat) (h : Heap), mm = l.length - zs.length ∧ zs.length ≤ l.length ∧ zs.length ≤ 3 ∧ (∀ c ∈ zs, c.small) ∧
  st = ⟨[(0, v), (3, contSl bm zs), (4, .int .i64 (zs.length : Nat))], h⟩ ∧ (zs.length ≠ 0 → h[bm]? = some (.cells (zs.flatMap contCell) 52 true) ∧ h₀.length ≤ bm) ∧ Only (fun _ => False) h₀ h

theorem round49 {h₀ h : Heap} {v : AV} {l : List Int} {zs : List Cont} {bm : Nat} (hv : Sl1 h₀ v (intCells l)) (hi : zs.length < l.length) (h3 : zs.length < 3) (hsm : ∀ c ∈ zs, c.small) (hb : zs.length ≠ 0 → h[bm]? = some (.cells (zs.flatMap contCell) 52 true) ∧ h₀.length ≤ bm) (ho : Only (fun _ => False) h₀ h)
    {Q : AExit → St → Prop} (hq : ∀ st, Out49 h₀ v l (l.length - (zs.length + 1)) st → Q .normal st) :
    Wt Try.prog (D cfg) c49_l3 ⟨[(0, v), (3, contSl bm zs), (4, .int .i64 (zs.length : Nat))], h⟩ Q := by
  obtain ⟨i, hii⟩ : ∃ i, i = zs.length := ⟨_, rfl⟩
  have hlen := fun L => hv.len (t := 30) (e := 3) (by simp) (L := L)
  simp only [intCells_len] at hlen
  have hil : (i : Int) < l.length := by omega
  have hi' : i < l.length := by omega
  have hi3 : (i : Int) < 3 := by omega
  have hi3' : i < 3 := by omega
  have hwr : IntKind.wrap .i64 ((i : Int) + 1) = i + 1 := wrap_i64 (by omega) (by omega)
  have a1 := hv.at (t := 30) (e := 3) (by simp) (by simp) (i := i) (by rw [intCells_len]; exact hi')
  have b1 := (hv.same ho).load (e := 3) (by simp) (i := i) (by rw [intCells_len]; exact hi')
  rw [intCells_get] at b1
  have p1 := place_run (h := h) (v := l[i]) (n := 16777216) (by decide) (by decide)
  obtain ⟨x, hx⟩ : ∃ x, x = l[i] % 16777216 := ⟨_, rfl⟩
  rw [← hx] at p1
  have hx0 : 0 ≤ x ∧ x < 16777216 := by omega
  have g7 := div_fact hx0.1 (n := 7) (by decide)
  have g31 := div_fact hx0.1 (n := 31) (by decide)
  have g101 := div_fact hx0.1 (n := 101) (by decide)
  have g3 := div_fact hx0.1 (n := 3) (by decide)
  have g9 := div_fact hx0.1 (n := 9) (by decide)
  have m3 := mod_fact hx0.1 (n := 3) (by decide)
  have m8 := mod_fact g9.1 (n := 8) (by decide)
  have w7 : IntKind.wrap .i64 (x.tdiv 7) = x.tdiv 7 := wrap_i64 (by omega) (by omega)
  have w31 : IntKind.wrap .i64 (x.tdiv 31) = x.tdiv 31 := wrap_i64 (by omega) (by omega)
  have w101 : IntKind.wrap .i64 (x.tdiv 101) = x.tdiv 101 := wrap_i64 (by omega) (by omega)
  have w3 : IntKind.wrap .i64 (x.tdiv 3) = x.tdiv 3 := wrap_i64 (by omega) (by omega)
  have w9 : IntKind.wrap .i64 (x.tdiv 9) = x.tdiv 9 := wrap_i64 (by omega) (by omega)
  have wm : IntKind.wrap .i64 (1 + x.tmod 3) = 1 + x.tmod 3 := wrap_i64 (by omega) (by omega)
  obtain ⟨nn, hnn⟩ : ∃ nn : Nat, 1 + x.tmod 3 = nn := ⟨(1 + x.tmod 3).toNat, by omega⟩
  have hnn3 : nn ≤ 3 := by omega
  rw [hnn] at wm
  obtain ⟨h2, hh2⟩ : ∃ h2, h2 = h ++ [.cells [.int .i64 (x.tdiv 7), .int .i64 (x.tdiv 31), .int .i64 (x.tdiv 101)] 3 true] := ⟨_, rfl⟩
  have o2 : Only (fun _ => False) h h2 := by rw [hh2]; exact .app
  have sl : Sl1 h2 (.sl (some ⟨h.length, 0, 3⟩) 3 3) (intCells [x.tdiv 7, x.tdiv 31, x.tdiv 101]) := Sl1.cells (xs := intCells [x.tdiv 7, x.tdiv 31, x.tdiv 101]) (e := 3) (s := true) (by rw [hh2]; simp [intCells])
  obtain ⟨s, h4, e4, hs, o4⟩ := letters sl (n := nn) (by omega) (by simp)
  obtain ⟨nc, hnc⟩ : ∃ nc, nc = decide ((x.tdiv 3).tmod 3 = 0) := ⟨_, rfl⟩
  obtain ⟨h5, hh5⟩ : ∃ h5, h5 = h4 ++ [.cells (contCell (baseC s nc)) 52 false] := ⟨_, rfl⟩
  have o5 : Only (fun _ => False) h4 h5 := by rw [hh5]; exact .app
  have hb5 : h5[h4.length]? = some (.cells (contCell (baseC s nc)) 52 false) := by rw [hh5]; simp
  have oh5 := (o2.trans o4).trans o5
  have hm5 : SlC h5 (contSl bm zs) zs := SlC.buf fun hne => oh5.at (hb hne).1 id
  have hpl := fun Q hq => plain_loop (Q := Q) (v := v) (i := i) (bc := h4.length) (x := x) hm5 (by omega) hq
  have hsw := fun (p : Bool) Q hq => switch49 (Q := Q) (v := v) (m := contSl bm zs) (i := i) (bc := h4.length) (x := x) (w := (x.tdiv 9).tmod 8) (plain := p) (nc := nc) (s := s) hb5 hx0 m8 (by omega) hq
  have hl4 : h.length + 1 ≤ h4.length := by have := (o4).1; rw [hh2] at this; simp at this; omega
  rw [c49_l3_eq]
  rw [← hii]
  simp only [env49, List.cons_append, List.nil_append] at hpl
  rw [show ((0 : Nat) : Int) = 0 from rfl] at hpl
  have hnc' : contCell (baseC s nc) = [.str s, .bool nc, .bool false, .int .i64 0, .int .i64 0, .bool false, .int .i64 0, .int .i64 0] := rfl
  rw [hnc', hnc] at hh5
  simp [c49_r3, c49_r5, c49_r6, c49_r7, c49_r8, len1, hlen, hil, hi', hi3, hi3', a1, b1, p1, abin_quo, abin_rem, w7, w31, w101, w3, hnn, wm, abuildSlice, afill, zeros, splice, ← hh2, e4, abuild, astore, ← hh5]
  refine hpl _ fun p k => ?_
  simp [c49_r12, abin_quo, abin_rem, w9]
  refine hsw p _ fun c' hc' h6 hb6 o6 => ?_
  have cl := contLoads hb6
  have hne6 : zs.length ≠ 0 → h6[bm]? = some (.cells (zs.flatMap contCell) 52 true) := fun hne => o6.at (oh5.at (hb hne).1 id) (by have := lt_of_at (hb hne).1; omega)
  obtain ⟨δ, h7, e7, e8, e9, o7⟩ := append_cont (h := h6) (b := bm) (zs := zs) (c := c') hne6 (by omega)
  have hln : (zs ++ [c']).length = zs.length + 1 := by simp
  have oh6 : Only (fun _ => False) h₀ h6 := (ho.trans oh5).fresh o6 fun b hbc => by have := ho.1; omega
  have hnext : Out49 h₀ v l (l.length - (zs.length + 1)) ⟨[(0, v), (3, contSl (if zs.length = 0 then h6.length + 1 else bm) (zs ++ [c'])), (4, .int .i64 ((zs ++ [c']).length : Nat))], h7⟩ := by
    refine ⟨zs ++ [c'], _, h7, by rw [hln], by rw [hln]; omega, by rw [hln]; omega, fun d hd => ?_, rfl, fun _ => ⟨e9, ?_⟩, oh6.fresh o7 fun b e => by rw [e.1]; exact (hb e.2).2⟩
    · simp at hd
      rcases hd with hd | rfl
      · exact hsm d hd
      · exact hc'
    · have := oh6.1
      split
      · omega
      · rename_i hne; exact (hb hne).2
  have hfin := hq _ hnext
  rw [hln, ← hii] at hfin
  rw [← hii] at e7
  simp [c49_r24, c49_r4, cl, build_cont, e7, e8, hwr]
  simpa using hfin

/-- 'Contents': some small ones. -/
theorem contents {h : Heap} {v : AV} {l : List Int} (hv : Sl1 h v (intCells l)) (hl : l.length ≤ 1000000) :
    ∃ (zs : List Cont) (v' : AV) (h' : Heap), D cfg 49 [v] h = some (v', h') ∧ SlC h' v' zs ∧ (∀ c ∈ zs, c.small) ∧ zs.length ≤ 3 ∧ Only (fun _ => False) h h' := by
  have key : ∃ r h', D cfg 49 [v] h = some (r, h') ∧ (∃ zs : List Cont, SlC h' r zs ∧ (∀ c ∈ zs, c.small) ∧ zs.length ≤ 3 ∧ Only (fun _ => False) h h') := by
    refine call49 (R := fun r h' => ∃ zs : List Cont, SlC h' r zs ∧ (∀ c ∈ zs, c.small) ∧ zs.length ≤ 3 ∧ Only (fun _ => False) h h') (args := [v]) (h := h) (by simp) ?_
    have hlen := fun L => hv.len (t := 30) (e := 3) (by simp) (L := L)
    simp only [intCells_len] at hlen
    simp [c49, c49_r0, c49_r1, c49_r2]
    refine Wt.loop (Out49 h v l) (m := l.length) ⟨[], 0, h, rfl, Nat.zero_le _, by simp, by simp, by simp [bufSl], by simp, .refl⟩ ?_
    rintro mm st ⟨zs, bm, h1, rfl, hzl, hz3, hsm, rfl, hb, ho⟩
    have hcut : cut (some [0, 3, 4]) [(0, v), (3, contSl bm zs), (4, .int .i64 (zs.length : Nat))] = [(0, v), (3, contSl bm zs), (4, .int .i64 (zs.length : Nat))] := by simp
    simp only [hcut]
    by_cases hgo : zs.length < l.length ∧ zs.length < 3
    · refine round49 hv hgo.1 hgo.2 hsm hb ho fun st hst => ⟨_, ?_, hst⟩
      omega
    · have hsl : SlC h1 (contSl bm zs) zs := SlC.buf fun hne => (hb hne).1
      have hfin : ∃ zs' : List Cont, SlC h1 (contSl bm zs) zs' ∧ (∀ c ∈ zs', c.small) ∧ zs'.length ≤ 3 ∧ Only (fun _ => False) h h1 := ⟨zs, hsl, hsm, hz3, ho⟩
      obtain ⟨out, hout⟩ : ∃ out, out = contSl bm zs := ⟨_, rfl⟩
      have hnt : AV.notTup out = true := by rw [hout]; exact bufSl_nt
      rw [← hout] at hfin ⊢
      by_cases hil : zs.length < l.length
      · have hil' : (zs.length : Int) < l.length := by omega
        have h3 : ¬ (zs.length < 3) := fun h => hgo ⟨hil, h⟩
        have h3' : ¬ ((zs.length : Int) < 3) := by omega
        simp [c49_l3, c49_r3, c49_r25, len1, hlen, hil, hil', h3, h3']
        exact ⟨hnt, hfin⟩
      · have hil' : ¬ ((zs.length : Int) < l.length) := by omega
        simp [c49_l3, c49_r3, c49_r25, len1, hlen, hil, hil']
        exact ⟨hnt, hfin⟩
  obtain ⟨r, h', h1, zs, h2, h3, h4, h5⟩ := key
  exact ⟨zs, r, h', h1, h2, h3, h4, h5⟩

end Go.AM

/-
  The law ChainGrows returns true.
-/
namespace Go.AM
open Go Go.Proofs
set_option linter.unusedVariables false
set_option linter.unusedSimpArgs false
set_option maxRecDepth 100000

theorem awake16f : saysTrue (acall cfg 60 42 [] []) = true := by kernel_rfl
noncomputable abbrev F16d : CallF := mixed [42] (D cfg)
theorem awake16g {h : Heap} : F16d 42 [] h = some (.bool true, h) := awake_of awake16f rfl
theorem F16d_D {f : FuncId} (hf : f ≠ 42) {args : List AV} {h : Heap} : F16d f args h = D cfg f args h := mixed_D (by simp [hf])

/-! ### the plain law -/

theorem first_noNot {c : List Cont} {s : Txt} (hn : ∀ x ∈ c, x.not = false) : firstC c s = if noEmpty (endsAll c s).1 then (heads (endsAll c s).1, true) else (0, false) := by
  simp only [firstC, neverC_noNot hn]
theorem holds_noNot {c : List Cont} {s : Txt} (hn : ∀ x ∈ c, x.not = false) : holdsC c s = noEmpty (endsAll c s).1 := by
  simp only [holdsC, neverC_noNot hn]; simp

theorem take_pre {s r : Txt} {i : Nat} (hi : i ≤ s.length) : (s ++ r).take i = s.take i := List.take_append_of_le_length hi

theorem grow_ne {c : List Cont} {s r : Txt} : noEmpty (endsAll c s).1 = true ↔ noEmpty (endsAll c (s ++ r)).1 = true ∧ heads (endsAll c (s ++ r)).1 ≤ s.length := by
  have h := endsAll_take (l := c) (s := s ++ r) (n := s.length) (by simp)
  rw [take_pre (Nat.le_refl _), List.take_length] at h
  rw [h]
  exact noEmpty_take endsAll_head

theorem grow_ok {c : List Cont} {s r : Txt} (hn : ∀ x ∈ c, x.not = false) (hok : noEmpty (endsAll c s).1 = true) : firstC c (s ++ r) = (heads (endsAll c s).1, true) ∧ holdsC c (s ++ r) = true := by
  obtain ⟨hb0, hb1⟩ := heads_bound (l := c) (s := s)
  obtain ⟨H, hH⟩ : ∃ H : Nat, heads (endsAll c s).1 = H := ⟨(heads (endsAll c s).1).toNat, by omega⟩
  have hHs : H ≤ s.length := by omega
  have ht := (grow_ne (r := r)).1 hok
  constructor
  · rw [← first_eq, hH]
    refine firstFrom_hit ?_ (Nat.zero_le _) (by simp; omega) fun i _ hi => ?_
    · rw [take_pre hHs]
      exact (holds_take hHs).2 ⟨hok, by omega, fun x _ => neverAt_noNot hn x⟩
    · rw [take_pre (by omega)]
      cases hx : holdsC c (s.take i) with
      | false => rfl
      | true =>
        have := ((holds_take (by omega)).1 hx).2.1
        omega
  · rw [holds_noNot hn]; exact ht.1

theorem grow_no {c : List Cont} {s r : Txt} (hn : ∀ x ∈ c, x.not = false) (hok : noEmpty (endsAll c s).1 = false) (hs : (firstC c (s ++ r)).2 = true) : (s.length : Int) < (firstC c (s ++ r)).1 := by
  rw [first_noNot hn] at hs ⊢
  cases hx : noEmpty (endsAll c (s ++ r)).1 with
  | false => rw [hx] at hs; simp at hs
  | true =>
    simp only [if_true]
    by_cases h : heads (endsAll c (s ++ r)).1 ≤ s.length
    · have := (grow_ne (s := s) (r := r)).2 ⟨hx, h⟩
      rw [hok] at this
      simp at this
    · omega

/-! ### the walk -/

abbrev env8 (w u out v : AV) (n i : Nat) : Env := [(1, w), (2, u), (7, out), (32, v), (33, .int .i64 n), (34, .int .i64 i)]

def In8 (h₀ : Heap) (w u v : AV) (zs : List Cont) (m : Nat) (st : St) : Prop := ∃ (i bm : Nat) (cs : List Cont) (h : Heap), m = zs.length - i ∧ i ≤ zs.length ∧ cs.length ≤ i ∧ (∀ c ∈ cs, c.small ∧ c.not = false) ∧ st = ⟨env8 w u (contSl bm cs) v zs.length i, h⟩ ∧
  (cs.length ≠ 0 → h[bm]? = some (.cells (cs.flatMap contCell) 52 true) ∧ h₀.length ≤ bm) ∧ Only (fun _ => False) h₀ h

theorem filter8 {h₀ : Heap} {w u v : AV} {zs : List Cont} (hv : SlC h₀ v zs) (hsm : ∀ c ∈ zs, c.small) (hz : zs.length ≤ 3) {Q : AExit → St → Prop}
    (hq : ∀ bm cs h, cs.length ≤ 3 → (∀ c ∈ cs, c.small ∧ c.not = false) → SlC h (contSl bm cs) cs → Only (fun _ => False) h₀ h → Q (.exit 0) ⟨env8 w u (contSl bm cs) v zs.length zs.length ++ [(35, .bool false)], h⟩) :
    Wt Try.prog F16d (.loop c8_l5 (some [1, 2, 7, 32, 33, 34])) ⟨env8 w u (.sl none 0 0) v zs.length 0, h₀⟩ Q := by
  refine Wt.loop (In8 h₀ w u v zs) (m := zs.length) ⟨0, 0, [], h₀, rfl, Nat.zero_le _, by simp, by simp, by simp [bufSl], by simp, .refl⟩ ?_
  rintro m st ⟨i, bm, cs, h, rfl, hi, hcl, hcs, rfl, hb, ho⟩
  have hcut : cut (some [1, 2, 7, 32, 33, 34]) (env8 w u (contSl bm cs) v zs.length i) = env8 w u (contSl bm cs) v zs.length i := by simp
  simp only [hcut]
  by_cases hil : i < zs.length
  · have hil' : (i : Int) < zs.length := by omega
    have hwr : IntKind.wrap .i64 ((i : Int) + 1) = i + 1 := wrap_i64 (by omega) (by omega)
    obtain ⟨c, hc⟩ : ∃ c, c = zs[i] := ⟨_, rfl⟩
    have hcsm : c.small := hsm c (by rw [hc]; exact List.getElem_mem hil)
    have a1 := hv.at hil
    have b1 := (hv.same ho).load hil
    rw [← hc] at b1
    obtain ⟨h1, hh1⟩ : ∃ h1, h1 = h ++ [.cells (contCell c) 52 false] := ⟨_, rfl⟩
    have hb1 : h1[h.length]? = some (.cells (contCell c) 52 false) := by rw [hh1]; simp
    have o1 : Only (fun _ => False) h h1 := by rw [hh1]; exact .app
    have ho1 := ho.trans o1
    have cl := contLoads hb1
    cases hnot : c.not with
    | true =>
      have hnext : In8 h₀ w u v zs (zs.length - (i + 1)) ⟨env8 w u (contSl bm cs) v zs.length (i + 1), h1⟩ := ⟨i + 1, bm, cs, h1, rfl, hil, by omega, hcs, rfl, fun hne => ⟨o1.at (hb hne).1 id, (hb hne).2⟩, ho1⟩
      simp only [env8] at hnext
      simp [c8_l5, c8_r5, c8_r6, c8_r7, c8_r8, c8_r9, hil, hil', a1, b1, zeros, astore, splice, ← hh1, fieldA, cl, hnot, hwr]
      exact ⟨zs.length - (i + 1), by omega, by simpa using hnext⟩
    | false =>
      obtain ⟨δ, h2, e2, e3, e4, o4⟩ := append_cont (h := h1) (b := bm) (zs := cs) (c := c) (fun hne => o1.at (hb hne).1 id) (by omega)
      have hnext : In8 h₀ w u v zs (zs.length - (i + 1)) ⟨env8 w u (contSl (if cs.length = 0 then h1.length + 1 else bm) (cs ++ [c])) v zs.length (i + 1), h2⟩ := by
        refine ⟨i + 1, _, cs ++ [c], h2, rfl, hil, by simp; omega, fun d hd => ?_, rfl, fun _ => ⟨e4, ?_⟩, ho1.fresh o4 fun b e => by rw [e.1]; exact (hb e.2).2⟩
        · simp at hd
          rcases hd with hd | rfl
          · exact hcs d hd
          · exact ⟨hcsm, hnot⟩
        · have := ho1.1
          split
          · omega
          · rename_i hne; exact (hb hne).2
      simp only [env8] at hnext
      simp [c8_l5, c8_r5, c8_r6, c8_r7, c8_r8, c8_r9, hil, hil', a1, b1, zeros, astore, splice, ← hh1, fieldA, cl, hnot, hwr, build_cont, e2, e3]
      exact ⟨zs.length - (i + 1), by omega, by simpa using hnext⟩
  · have : i = zs.length := by omega
    subst this
    have hn := hq bm cs h (by omega) hcs (SlC.buf fun hne => (hb hne).1) ho
    simp only [env8] at hn
    simp [c8_l5, c8_r5]
    simpa using hn

def In19 (h₀ : Heap) (c : AV) (s : Txt) (H : Nat) (m : Nat) (st : St) : Prop := ∃ (i : Nat) (h : Heap), m = H - i ∧ i ≤ H ∧ st = ⟨[(7, c), (10, .str s), (12, .int .i64 H), (13, .bool true), (16, .int .i64 i)], h⟩ ∧ Only (fun _ => False) h₀ h

theorem loop19 {h₀ : Heap} {v : AV} {c : List Cont} {s : Txt} {H : Nat} (hv : SlC h₀ v c) (hsm : ∀ x ∈ c, x.small) (hc : c.length ≤ 1000) (hs : s.length ≤ 100000) (hH : H ≤ s.length) (hno : ∀ i, i < H → holdsC c (s.take i) = false) {Q : AExit → St → Prop}
    (hq : ∀ h, Only (fun _ => False) h₀ h → Q (.exit 2) ⟨[(7, v), (10, .str s), (12, .int .i64 H), (13, .bool true), (16, .int .i64 H), (118, .bool false)], h⟩) :
    Wt Try.prog F16d (.loop c8_l19 (some [7, 10, 12, 13, 16])) ⟨[(7, v), (10, .str s), (12, .int .i64 H), (13, .bool true), (16, .int .i64 0)], h₀⟩ Q := by
  refine Wt.loop (In19 h₀ v s H) (m := H) ⟨0, h₀, rfl, Nat.zero_le _, rfl, .refl⟩ ?_
  rintro m st ⟨i, h, rfl, hi, rfl, ho⟩
  have hcut : cut (some [7, 10, 12, 13, 16]) [(7, v), (10, .str s), (12, .int .i64 (H : Nat)), (13, .bool true), (16, .int .i64 (i : Nat))] = [(7, v), (10, .str s), (12, .int .i64 (H : Nat)), (13, .bool true), (16, .int .i64 (i : Nat))] := by simp
  simp only [hcut]
  by_cases hiH : i < H
  · have hiH' : (i : Int) < H := by omega
    have hwr : IntKind.wrap .i64 ((i : Int) + 1) = i + 1 := wrap_i64 (by omega) (by omega)
    have hle : (i : Int) ≤ s.length := by omega
    have hle' : i ≤ s.length := by omega
    obtain ⟨h2, e2, o2⟩ := holds_chain (hv.same ho) (s := s.take i) hsm (by simp; omega) hc
    rw [hno i hiH] at e2
    have hnext : In19 h₀ v s H (H - (i + 1)) ⟨[(7, v), (10, .str s), (12, .int .i64 H), (13, .bool true), (16, .int .i64 (i + 1 : Nat))], h2⟩ := ⟨i + 1, h2, rfl, hiH, rfl, ho.trans o2⟩
    simp [c8_l19, c8_r19, c8_r20, c8_r21, c8_r22, hiH, hiH', aslice, bound, hle, hle', F16d_D, e2, hwr]
    exact ⟨H - (i + 1), by omega, by simpa using hnext⟩
  · have : i = H := by omega
    subst this
    have hn := hq h ho
    simp [c8_l19, c8_r19]
    simpa using hn

theorem grows_walk {h₀ : Heap} {v w u : AV} {l t r : List Int} (hv : Sl1 h₀ v (intCells l)) (hw : Sl1 h₀ w (intCells t)) (hu : Sl1 h₀ u (intCells r)) :
    Wt Try.prog F16d c8 ⟨argsEnv 0 [v, w, u], h₀⟩ (Ends Try.prog [.tmp 6] fun r _ => r = .bool true) := by
  have lv := fun L => hv.len (t := 30) (e := 3) (by simp) (L := L)
  have lw := fun L => hw.len (t := 30) (e := 3) (by simp) (L := L)
  have lu := fun L => hu.len (t := 30) (e := 3) (by simp) (L := L)
  simp only [intCells_len] at lv lw lu
  by_cases h10 : 10 < l.length
  · have h10' : (10 : Int) < l.length := by omega
    simp [c8, c8_r0, c8_r1, c8_r2, F16d_D, len1, lv, lw, lu, h10, h10', awake16g]
  · have h10' : ¬ ((10 : Int) < l.length) := by omega
    by_cases h60 : 60 < t.length
    · have h60' : (60 : Int) < t.length := by omega
      simp [c8, c8_r0, c8_r1, c8_r2, F16d_D, len1, lv, lw, lu, h10, h10', h60, h60', awake16g]
    · have h60' : ¬ ((60 : Int) < t.length) := by omega
      by_cases h61 : 60 < r.length
      · have h61' : (60 : Int) < r.length := by omega
        simp [c8, c8_r0, c8_r1, c8_r2, F16d_D, len1, lv, lw, lu, h10, h10', h60, h60', h61, h61', awake16g]
      · have h61' : ¬ ((60 : Int) < r.length) := by omega
        obtain ⟨zs, v', h1, e1, hc, hsm, hz, o1⟩ := contents hv (by omega)
        have lc := fun L => hc.len (L := L)
        have hf := fun Q hq => filter8 (Q := Q) (w := w) (u := u) hc hsm hz hq
        simp only [env8] at hf
        rw [show ((0 : Nat) : Int) = 0 from rfl] at hf
        simp [c8, c8_r0, c8_r1, c8_r2, c8_r3, c8_r4, F16d_D, len1, lv, lw, lu, h10, h10', h60, h60', h61, h61', e1, lc]
        refine hf _ fun bm cs h2 hcl hcs hsl o2 => ?_
        obtain ⟨h3, e3, o3⟩ := good_doc hsl (by omega)
        cases hg : goodB cs with
        | false =>
          rw [hg] at e3
          simp [c8_r10, c8_r11, F16d_D, e3, awake16g]
        | true =>
          rw [hg] at e3
          have hn : ∀ c ∈ cs, c.not = false := fun c hc => (hcs c hc).2
          have hs' : ∀ c ∈ cs, c.small := fun c hc => (hcs c hc).1
          have o13 := (o1.trans o2).trans o3
          obtain ⟨s, h4, e4, hs, o4⟩ := letters (hw.same o13) (n := t.length) (by omega) (by omega)
          have o14 := o13.trans o4
          obtain ⟨q, h5, e5, hq5, o5⟩ := letters (hu.same o14) (n := r.length) (by omega) (by omega)
          have hadd : abin TK.str .add (.str s) (.str q) = some (.str (s ++ q)) := by simp [abin]; omega
          have x5 := (o3.trans o4).trans o5
          obtain ⟨h6, e6, o6⟩ := first_chain (hsl.same x5) (s := s) hs' (by omega) (by omega)
          have x6 := x5.trans o6
          obtain ⟨h7, e7, o7⟩ := first_chain (hsl.same x6) (s := s ++ q) hs' (by simp; omega) (by omega)
          have x7 := x6.trans o7
          obtain ⟨h8, e8, o8⟩ := holds_chain (hsl.same x7) (s := s) hs' (by omega) (by omega)
          have x8 := x7.trans o8
          obtain ⟨h9, e9, o9⟩ := holds_chain (hsl.same x8) (s := s) hs' (by omega) (by omega)
          have x9 := x8.trans o9
          obtain ⟨h10, e10, o10⟩ := holds_chain (hsl.same x9) (s := s ++ q) hs' (by simp; omega) (by omega)
          have x10 := x9.trans o10
          rw [holds_noNot hn] at e8 e9
          rw [first_noNot hn] at e6
          cases hok : noEmpty (endsAll cs s).1 with
          | true =>
            obtain ⟨g1, g2⟩ := grow_ok (r := q) hn hok
            rw [hok] at e8 e9 e6
            rw [g1] at e7
            rw [g2] at e10
            obtain ⟨hb0, hb1⟩ := heads_bound (l := cs) (s := s)
            obtain ⟨H, hH⟩ : ∃ H : Nat, heads (endsAll cs s).1 = H := ⟨(heads (endsAll cs s).1).toNat, by omega⟩
            have hHs : H ≤ s.length := by omega
            rw [hH] at e6 e7
            simp only [if_true] at e6
            have hHs' : (H : Int) ≤ s.length := by omega
            have hno : ∀ i, i < H → holdsC cs (s.take i) = false := fun i hi => by
              cases hx : holdsC cs (s.take i) with
              | false => rfl
              | true =>
                have := ((holds_take (by omega)).1 hx).2.1
                omega
            have hyes : holdsC cs (s.take H) = true := (holds_take hHs).2 ⟨hok, by omega, fun x _ => neverAt_noNot hn x⟩
            have hl := fun Q hq => loop19 (Q := Q) (hsl.same x10) hs' (by omega) (by omega) hHs hno hq
            simp [c8_r10, c8_r11, c8_r12, c8_r13, c8_r14, c8_r15, c8_r16, c8_r17, c8_r18, F16d_D, e3, len1, lw, lu, e4, e5, hadd, e6, e7, extractV, e8, e9, e10]
            refine hl _ fun h11 o11 => ?_
            obtain ⟨h12, e12, o12⟩ := holds_chain (hsl.same (x10.trans o11)) (s := s.take H) hs' (by simp; omega) (by omega)
            rw [hyes] at e12
            simp [c8_r23, F16d_D, aslice, bound, hHs, hHs', e12, awake16g]
          | false =>
            rw [hok] at e8 e9 e6
            have hgn := grow_no (r := q) hn hok
            simp at e6
            obtain ⟨m, is, hmis⟩ : ∃ m is, firstC cs (s ++ q) = (m, is) := ⟨_, _, rfl⟩
            rw [hmis] at e7 hgn
            simp only at e7 hgn
            have hend : ∀ hh, Wt Try.prog F16d (.loop c8_l19 (some [7, 10, 12, 13, 16])) ⟨[(7, contSl bm cs), (10, .str s), (12, .int .i64 0), (13, .bool false), (16, .int .i64 0)], hh⟩
                (inBlock 2 (andThen (fun s' => Wt Try.prog F16d (.seq (.reg c8_r23 none (some [6])) .ret) s' (Ends Try.prog [.tmp 6] fun r _ => r = .bool true)) (Ends Try.prog [.tmp 6] fun r _ => r = .bool true))) := by
              intro hh
              refine Wt.loop (fun _ st => st = ⟨[(7, contSl bm cs), (10, .str s), (12, .int .i64 0), (13, .bool false), (16, .int .i64 0)], hh⟩) (m := 0) rfl ?_
              rintro _ st rfl
              simp [c8_l19, c8_r19, c8_r23, F16d_D, awake16g]
            cases is with
            | true =>
              have hlt := hgn rfl
              have hle : ¬ (m ≤ s.length) := by omega
              simp [c8_r10, c8_r11, c8_r12, c8_r13, c8_r14, c8_r15, c8_r16, c8_r17, c8_r18, F16d_D, e3, len1, lw, lu, e4, e5, hadd, e6, e7, extractV, e8, e9, e10, alenS, hle]
              exact hend _
            | false =>
              simp [c8_r10, c8_r11, c8_r12, c8_r13, c8_r14, c8_r15, c8_r16, c8_r17, c8_r18, F16d_D, e3, len1, lw, lu, e4, e5, hadd, e6, e7, extractV, e8, e9, e10]
              exact hend _

end Go.AM
