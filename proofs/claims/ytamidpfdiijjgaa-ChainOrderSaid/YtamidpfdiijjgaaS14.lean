/-
  The document's 'Good': which contents may be.
-/
import Derived.Test.YtamidpfdiijjgaaS13
namespace Go.AM
open Go Go.Proofs
set_option linter.unusedVariables false
set_option linter.unusedSimpArgs false
set_option maxRecDepth 100000

def badC (c : Cont) (a : Bool) : Bool := decide (c.bytes.length < 1) || (decide (16 < c.bytes.length) || (decide (c.offset < 0) || (decide (65535 < c.offset) || (decide (c.depth < 0) || (decide (65535 < c.depth) || (decide (c.within < 0) || (decide (65535 < c.within) || (decide (c.distance < -65535) || (decide (65535 < c.distance) || (c.rel && (c.not || !a)))))))))))
def goodL : List Cont → Bool → Bool
  | [], _ => true
  | c :: r, a => !badC c a && goodL r (a || !c.not)
def goodB (l : List Cont) : Bool := goodL l false && decide (l.length ≤ 4)

theorem goodL_small : ∀ {l : List Cont} {a : Bool}, goodL l a = true → ∀ c ∈ l, c.small ∧ c.bytes.length ≤ 16
  | [], _, _, c, hc => by simp at hc
  | d :: r, a, h, c, hc => by
    simp only [goodL, Bool.and_eq_true] at h
    obtain ⟨h1, h2⟩ := h
    rcases List.mem_cons.1 hc with rfl | hc
    · simp [badC] at h1
      obtain ⟨g1, g2, g3, g4, g5, g6, g7, g8, g9, g10, _⟩ := h1
      exact ⟨⟨by omega, by omega, by omega, by omega, by omega⟩, by omega⟩
    · exact goodL_small h2 c hc

theorem good_round {hs : Heap} {l : List Cont} {v : AV} {i : Nat} {a : Bool} {c : Cont} {h : Heap} (hv : SlC hs v l) (ho : Only (fun _ => False) hs h) (hi : i < l.length) (hc : c = l[i]) (hll : l.length ≤ 9223372036854775807) {Q : AExit → St → Prop}
    (hbad : badC c a = true → ∀ h', Only (fun _ => False) hs h' → Q .ret ⟨[(2, .bool false)], h'⟩)
    (hgood : badC c a = false → ∀ h', Only (fun _ => False) hs h' → Q .normal ⟨[(0, v), (3, .bool (a || !c.not)), (4, .int .i64 (i + 1 : Nat))], h'⟩) :
    Wt Try.prog (D cfg) c41_l3 ⟨[(0, v), (3, .bool a), (4, .int .i64 i)], h⟩ Q := by
  have hlen := fun L => hv.len (L := L)
  have a1 := hv.at hi
  have b0 := (hv.same ho).load hi
  rw [← hc] at b0
  have hil : (i : Int) < l.length := by omega
  have hwr : IntKind.wrap .i64 ((i : Int) + 1) = i + 1 := wrap_i64 (by omega) (by omega)
  obtain ⟨h1, hh1⟩ : ∃ h1, h1 = h ++ [.cells (contCell c) 52 false] := ⟨_, rfl⟩
  have hb1 : h1[h.length]? = some (.cells (contCell c) 52 false) := by rw [hh1]; simp
  have o1 : Only (fun _ => False) hs h1 := by rw [hh1]; exact ho.trans .app
  have cl := contLoads hb1
  by_cases b1 : c.bytes.length < 1
  · have hx := hbad (by simp [badC, b1]) h1 o1
    have b1i : ((c.bytes.length : Nat) : Int) < 1 := by omega
    simp [c41_l3, c41_r3, c41_r5, c41_r6, c41_r7, c41_r8, c41_r4, len1, hlen, hi, hil, a1, b0, zeros, astore, splice, ← hh1, fieldA, cl, alenS, hwr, b1, b1i]
    simpa using hx
  have b1i : ¬ (((c.bytes.length : Nat) : Int) < 1) := by omega
  have b1e : c.bytes ≠ [] := fun e => b1 (by rw [e]; decide)
  by_cases b2 : 16 < c.bytes.length
  · have hx := hbad (by simp [badC, b1, b1i, b1e, b2]) h1 o1
    have b2i : (16 : Int) < ((c.bytes.length : Nat) : Int) := by omega
    simp [c41_l3, c41_r3, c41_r5, c41_r6, c41_r7, c41_r8, c41_r4, len1, hlen, hi, hil, a1, b0, zeros, astore, splice, ← hh1, fieldA, cl, alenS, hwr, b1, b1i, b1e, b2, b2i]
    simpa using hx
  have b2i : ¬ ((16 : Int) < ((c.bytes.length : Nat) : Int)) := by omega
  by_cases b3 : c.offset < 0
  · have hx := hbad (by simp [badC, b1, b1i, b1e, b2, b2i, b3]) h1 o1
    simp [c41_l3, c41_r3, c41_r5, c41_r6, c41_r7, c41_r8, c41_r4, len1, hlen, hi, hil, a1, b0, zeros, astore, splice, ← hh1, fieldA, cl, alenS, hwr, b1, b1i, b1e, b2, b2i, b3]
    simpa using hx
  by_cases b4 : 65535 < c.offset
  · have hx := hbad (by simp [badC, b1, b1i, b1e, b2, b2i, b3, b4]) h1 o1
    simp [c41_l3, c41_r3, c41_r5, c41_r6, c41_r7, c41_r8, c41_r4, len1, hlen, hi, hil, a1, b0, zeros, astore, splice, ← hh1, fieldA, cl, alenS, hwr, b1, b1i, b1e, b2, b2i, b3, b4]
    simpa using hx
  by_cases b5 : c.depth < 0
  · have hx := hbad (by simp [badC, b1, b1i, b1e, b2, b2i, b3, b4, b5]) h1 o1
    simp [c41_l3, c41_r3, c41_r5, c41_r6, c41_r7, c41_r8, c41_r4, len1, hlen, hi, hil, a1, b0, zeros, astore, splice, ← hh1, fieldA, cl, alenS, hwr, b1, b1i, b1e, b2, b2i, b3, b4, b5]
    simpa using hx
  by_cases b6 : 65535 < c.depth
  · have hx := hbad (by simp [badC, b1, b1i, b1e, b2, b2i, b3, b4, b5, b6]) h1 o1
    simp [c41_l3, c41_r3, c41_r5, c41_r6, c41_r7, c41_r8, c41_r4, len1, hlen, hi, hil, a1, b0, zeros, astore, splice, ← hh1, fieldA, cl, alenS, hwr, b1, b1i, b1e, b2, b2i, b3, b4, b5, b6]
    simpa using hx
  by_cases b7 : c.within < 0
  · have hx := hbad (by simp [badC, b1, b1i, b1e, b2, b2i, b3, b4, b5, b6, b7]) h1 o1
    simp [c41_l3, c41_r3, c41_r5, c41_r6, c41_r7, c41_r8, c41_r4, len1, hlen, hi, hil, a1, b0, zeros, astore, splice, ← hh1, fieldA, cl, alenS, hwr, b1, b1i, b1e, b2, b2i, b3, b4, b5, b6, b7]
    simpa using hx
  by_cases b8 : 65535 < c.within
  · have hx := hbad (by simp [badC, b1, b1i, b1e, b2, b2i, b3, b4, b5, b6, b7, b8]) h1 o1
    simp [c41_l3, c41_r3, c41_r5, c41_r6, c41_r7, c41_r8, c41_r4, len1, hlen, hi, hil, a1, b0, zeros, astore, splice, ← hh1, fieldA, cl, alenS, hwr, b1, b1i, b1e, b2, b2i, b3, b4, b5, b6, b7, b8]
    simpa using hx
  by_cases b9 : c.distance < -65535
  · have hx := hbad (by simp [badC, b1, b1i, b1e, b2, b2i, b3, b4, b5, b6, b7, b8, b9]) h1 o1
    simp [c41_l3, c41_r3, c41_r5, c41_r6, c41_r7, c41_r8, c41_r4, len1, hlen, hi, hil, a1, b0, zeros, astore, splice, ← hh1, fieldA, cl, alenS, hwr, b1, b1i, b1e, b2, b2i, b3, b4, b5, b6, b7, b8, b9]
    simpa using hx
  by_cases b10 : 65535 < c.distance
  · have hx := hbad (by simp [badC, b1, b1i, b1e, b2, b2i, b3, b4, b5, b6, b7, b8, b9, b10]) h1 o1
    simp [c41_l3, c41_r3, c41_r5, c41_r6, c41_r7, c41_r8, c41_r4, len1, hlen, hi, hil, a1, b0, zeros, astore, splice, ← hh1, fieldA, cl, alenS, hwr, b1, b1i, b1e, b2, b2i, b3, b4, b5, b6, b7, b8, b9, b10]
    simpa using hx
  cases hr : c.rel with
  | false =>
    have hx := hgood (by simp [badC, hr, b1, b1i, b1e, b2, b2i, b3, b4, b5, b6, b7, b8, b9, b10]) h1 o1
    cases a with
    | true =>
      simp [c41_l3, c41_r3, c41_r5, c41_r6, c41_r7, c41_r8, c41_r4, len1, hlen, hi, hil, a1, b0, zeros, astore, splice, ← hh1, fieldA, cl, alenS, hwr, b1, b1i, b1e, b2, b2i, b3, b4, b5, b6, b7, b8, b9, b10, hr]
      simpa using hx
    | false =>
      cases hn : c.not with
      | true =>
        rw [hn] at hx
        simp [c41_l3, c41_r3, c41_r5, c41_r6, c41_r7, c41_r8, c41_r4, len1, hlen, hi, hil, a1, b0, zeros, astore, splice, ← hh1, fieldA, cl, alenS, hwr, b1, b1i, b1e, b2, b2i, b3, b4, b5, b6, b7, b8, b9, b10, hr, hn]
        simpa using hx
      | false =>
        rw [hn] at hx
        simp [c41_l3, c41_r3, c41_r5, c41_r6, c41_r7, c41_r8, c41_r4, len1, hlen, hi, hil, a1, b0, zeros, astore, splice, ← hh1, fieldA, cl, alenS, hwr, b1, b1i, b1e, b2, b2i, b3, b4, b5, b6, b7, b8, b9, b10, hr, hn]
        simpa using hx
  | true =>
    cases hn : c.not with
    | true =>
      have hx := hbad (by simp [badC, hr, hn]) h1 o1
      simp [c41_l3, c41_r3, c41_r5, c41_r6, c41_r7, c41_r8, c41_r4, len1, hlen, hi, hil, a1, b0, zeros, astore, splice, ← hh1, fieldA, cl, alenS, hwr, b1, b1i, b1e, b2, b2i, b3, b4, b5, b6, b7, b8, b9, b10, hr, hn]
      simpa using hx
    | false =>
      cases a with
      | false =>
        have hx := hbad (by simp [badC, hr, hn]) h1 o1
        simp [c41_l3, c41_r3, c41_r5, c41_r6, c41_r7, c41_r8, c41_r4, len1, hlen, hi, hil, a1, b0, zeros, astore, splice, ← hh1, fieldA, cl, alenS, hwr, b1, b1i, b1e, b2, b2i, b3, b4, b5, b6, b7, b8, b9, b10, hr, hn]
        simpa using hx
      | true =>
        have hx := hgood (by simp [badC, hr, hn, b1, b1i, b1e, b2, b2i, b3, b4, b5, b6, b7, b8, b9, b10]) h1 o1
        simp [c41_l3, c41_r3, c41_r5, c41_r6, c41_r7, c41_r8, c41_r4, len1, hlen, hi, hil, a1, b0, zeros, astore, splice, ← hh1, fieldA, cl, alenS, hwr, b1, b1i, b1e, b2, b2i, b3, b4, b5, b6, b7, b8, b9, b10, hr, hn]
        simpa using hx

def In41 (hs : Heap) (v : AV) (l : List Cont) (m : Nat) (st : St) : Prop := ∃ i a h, m = l.length - i ∧ i ≤ l.length ∧ goodL l false = goodL (l.drop i) a ∧ st = ⟨[(0, v), (3, .bool a), (4, .int .i64 (i : Nat))], h⟩ ∧ Only (fun _ => False) hs h

theorem good_doc {h : Heap} {l : List Cont} {v : AV} (hv : SlC h v l) (hll : l.length ≤ 9223372036854775807) : ∃ h', D cfg 41 [v] h = some (.bool (goodB l), h') ∧ Only (fun _ => False) h h' := by
  have key : ∃ r h', D cfg 41 [v] h = some (r, h') ∧ (r = .bool (goodB l) ∧ Only (fun _ => False) h h') := by
    refine call41 (R := fun r h' => r = .bool (goodB l) ∧ Only (fun _ => False) h h') (args := [v]) (h := h) (by simp) ?_
    have hlen := fun L => hv.len (L := L)
    simp [c41, c41_r0, c41_r1, c41_r2]
    refine Wt.loop (In41 h v l) (m := l.length) ⟨0, false, h, rfl, Nat.zero_le _, rfl, rfl, .refl⟩ ?_
    rintro m st ⟨i, a, h1, rfl, hi, hg, rfl, ho⟩
    have hcut : cut (some [0, 3, 4]) [(0, v), (3, .bool a), (4, .int .i64 (i : Nat))] = [(0, v), (3, .bool a), (4, .int .i64 (i : Nat))] := by simp
    simp only [hcut]
    by_cases hil : i < l.length
    · rw [List.drop_eq_getElem_cons hil] at hg
      simp only [goodL] at hg
      refine good_round hv ho hil rfl hll (fun hb h2 o2 => ?_) (fun hb h2 o2 => ?_)
      · have hgb : goodB l = false := by simp only [goodB, hg, hb]; rfl
        simp [hgb]
        exact o2
      · refine ⟨l.length - (i + 1), by omega, i + 1, a || !l[i].not, h2, rfl, hil, ?_, rfl, o2⟩
        rw [hg, hb]
        rfl
    · have : i = l.length := by omega
      subst this
      rw [List.drop_length] at hg
      by_cases h4 : l.length ≤ 4
      · have h4' : (l.length : Int) ≤ 4 := by omega
        simp [c41_l3, c41_r3, c41_r9, len1, hlen, goodB, hg, goodL, h4, h4']
        exact ho
      · have h4' : ¬ ((l.length : Int) ≤ 4) := by omega
        simp [c41_l3, c41_r3, c41_r9, len1, hlen, goodB, hg, goodL, h4, h4']
        exact ho
  obtain ⟨r, h', h1, rfl, h2⟩ := key
  exact ⟨h', h1, h2⟩

end Go.AM
