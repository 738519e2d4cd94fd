/-
  The document's 'never', 'Holds', 'First' of contents.
-/
import Derived.Test.YtamidpfdiijjgaaS11
namespace Go.AM
open Go Go.Proofs
set_option linter.unusedVariables false
set_option linter.unusedSimpArgs false
set_option maxRecDepth 100000

/-- Does none of the first contents with Not end below n? -/
def quietC (c : Cont) (s : Txt) (n : Nat) : Bool := (List.range n).all fun e => !(c.not && endsAt c s e)
def quiet (l : List Cont) (s : Txt) : Bool := l.all fun c => quietC c s (s.length + 1)

theorem quietC_step {c : Cont} {s : Txt} {n : Nat} (h : quietC c s n = true) : quietC c s (n + 1) = !(c.not && endsAt c s n) := by
  simp only [quietC] at h ⊢
  rw [List.range_succ, List.all_append, h]
  simp

theorem quiet_none {l : List Cont} {s : Txt} : quiet l s = (neverC l s).isNone := by
  rw [Bool.eq_iff_iff]
  have h1 : (neverC l s).isNone = true ↔ neverC l s = none := Option.isNone_iff_eq_none
  rw [h1, neverC_none]
  simp only [quiet, quietC, List.all_eq_true, List.mem_range, neverAt, List.any_eq_false]
  constructor
  · intro h x hx c hc hx2
    have := h c hc x (by omega)
    rw [hx2] at this
    simp at this
  · intro h c hc x hx
    have := h x (by omega) c hc
    cases hy : (c.not && endsAt c s x) with
    | false => rfl
    | true => exact absurd hy this

abbrev env99 (v : AV) (s : Txt) (i : Nat) : Env := [(0, v), (1, .str s), (5, .int .i64 i)]
abbrev env99i (v : AV) (s : Txt) (i e : Nat) : Env := [(0, v), (1, .str s), (5, .int .i64 i), (6, .int .i64 e)]

def In99 (hs : Heap) (v : AV) (s : Txt) (i : Nat) (c : Cont) (m : Nat) (st : St) : Prop :=
  ∃ e h, m = s.length + 1 - e ∧ e ≤ s.length + 1 ∧ quietC c s e = true ∧ st = ⟨env99i v s i e, h⟩ ∧ Only (fun _ => False) hs h

theorem never99_inner {hs : Heap} {s : Txt} {l : List Cont} {v : AV} {i : Nat} {c : Cont} (hv : SlC hs v l) (hi : i < l.length) (hc : c = l[i]) (hcs : c.small) (hsl : s.length ≤ 100000) (hll : l.length ≤ 1000) {Q : AExit → St → Prop}
    (hret : quietC c s (s.length + 1) = false → ∀ h, Only (fun _ => False) hs h → Q .ret ⟨[(4, .bool false)], h⟩)
    (hq : quietC c s (s.length + 1) = true → ∀ h e, Only (fun _ => False) hs h → Q (.exit 2) ⟨env99i v s i e ++ [(23, .bool false)], h⟩) :
    Wt Try.prog (D cfg) (.loop c99_l5 (some [0, 1, 5, 6])) ⟨env99i v s i 0, hs⟩ Q := by
  refine Wt.loop (In99 hs v s i c) (m := s.length + 1) ⟨0, hs, rfl, Nat.zero_le _, rfl, rfl, .refl⟩ ?_
  rintro m st ⟨e, h, rfl, he, hqe, rfl, ho⟩
  have hcut : cut (some [0, 1, 5, 6]) (env99i v s i e) = env99i v s i e := by simp
  simp only [hcut]
  have a1 := hv.at hi
  obtain ⟨p2, p5, f2, _, ff⟩ := hv.fields hi
  have f6 := (ff h ho).1
  rw [← hc] at f6
  have b1 := (hv.same ho).load hi
  rw [← hc] at b1
  by_cases hes : e < s.length + 1
  · have hle : (e : Int) ≤ s.length := by omega
    have hle' : e ≤ s.length := by omega
    have hwr : IntKind.wrap .i64 ((e : Int) + 1) = e + 1 := wrap_i64 (by omega) (by omega)
    cases hnot : c.not with
    | false =>
      rw [hnot] at f6
      have hquiet : quietC c s (s.length + 1) = true := by simp [quietC, hnot]
      have hn := hq hquiet h e ho
      simp only [env99i] at hn
      simp [c99_l5, c99_r5, len1, alenS, hle, hle', a1, f2, f6]
      simpa using hn
    | true =>
      rw [hnot] at f6
      obtain ⟨h1, e1, o1⟩ := ends_ref (h := h) hcs (s := s) (e := e) (by omega) (by omega)
      have hst := quietC_step hqe
      cases hat : endsAt c s e with
      | false =>
        rw [hat] at e1
        have hnext : In99 hs v s i c (s.length + 1 - (e + 1)) ⟨env99i v s i (e + 1), h1⟩ := ⟨e + 1, h1, rfl, hes, by rw [hst, hat]; simp, rfl, ho.trans o1⟩
        simp only [env99i] at hnext
        simp [c99_l5, c99_r5, c99_r6, c99_r7, c99_r8, len1, alenS, hle, hle', a1, f2, f6, b1, e1, hwr]
        exact ⟨s.length + 1 - (e + 1), by omega, by simpa using hnext⟩
      | true =>
        rw [hat] at e1
        have hloud : quietC c s (s.length + 1) = false := by
          cases hx : quietC c s (s.length + 1) with
          | false => rfl
          | true =>
            simp only [quietC, List.all_eq_true, List.mem_range] at hx
            have := hx e hes
            simp [hnot, hat] at this
        have hn := hret hloud h1 (ho.trans o1)
        simp [c99_l5, c99_r5, c99_r6, c99_r7, c99_r8, len1, alenS, hle, hle', a1, f2, f6, b1, e1]
        simpa using hn
  · have : e = s.length + 1 := by omega
    subst this
    have hle' : ¬ ((s.length : Int) + 1 ≤ s.length) := by omega
    have hn := hq hqe h (s.length + 1) ho
    simp only [env99i] at hn
    simp [c99_l5, c99_r5, len1, alenS, hle']
    simpa using hn

def Out99 (h₀ : Heap) (s : Txt) (l : List Cont) (v : AV) (m : Nat) (st : St) : Prop :=
  ∃ i h, m = l.length - i ∧ i ≤ l.length ∧ quiet (l.take i) s = true ∧ st = ⟨env99 v s i, h⟩ ∧ Only (fun _ => False) h₀ h

theorem never_doc {h : Heap} {s : Txt} {l : List Cont} {v : AV} (hv : SlC h v l) (hsm : ∀ c ∈ l, c.small) (hsl : s.length ≤ 100000) (hll : l.length ≤ 1000) :
    ∃ h', D cfg 99 [v, .str s] h = some (.bool (quiet l s), h') ∧ Only (fun _ => False) h h' := by
  have key : ∃ r h', D cfg 99 [v, .str s] h = some (r, h') ∧ (r = .bool (quiet l s) ∧ Only (fun _ => False) h h') := by
    refine call99 (R := fun r h' => r = .bool (quiet l s) ∧ Only (fun _ => False) h h') (args := [v, .str s]) (h := h) (by simp) ?_
    have hlen := fun L => hv.len (L := L)
    simp [c99, c99_r0, c99_r1]
    refine Wt.loop (Out99 h s l v) (m := l.length) ⟨0, h, rfl, Nat.zero_le _, rfl, rfl, .refl⟩ ?_
    rintro m st ⟨i, h1, rfl, hi, hqt, rfl, ho⟩
    have hcut : cut (some [0, 1, 5]) (env99 v s i) = env99 v s i := by simp
    simp only [hcut]
    by_cases hil : i < l.length
    · have hil' : (i : Int) < l.length := by omega
      obtain ⟨c, hc⟩ : ∃ c, c = l[i] := ⟨_, rfl⟩
      have hcs : c.small := hsm c (by rw [hc]; exact List.getElem_mem hil)
      have hwr : IntKind.wrap .i64 ((i : Int) + 1) = i + 1 := wrap_i64 (by omega) (by omega)
      have hst : quiet (l.take (i + 1)) s = quietC c s (s.length + 1) := by
        simp only [quiet] at hqt ⊢
        rw [List.take_succ_eq_append_getElem hil, List.all_append, hqt, ← hc]
        simp
      have hin := fun Q hr hq => never99_inner (Q := Q) (hv.same ho) hil hc hcs hsl hll hr hq
      simp only [env99i] at hin
      simp at hin
      simp [c99_l2, c99_r2, c99_r4, len1, hlen, hil, hil']
      refine hin _ (fun hloud h2 o2 => ?_) (fun hquiet h2 e o2 => ?_)
      · have hq : quiet l s = false := by
          cases hx : quiet l s with
          | false => rfl
          | true =>
            simp only [quiet, List.all_eq_true] at hx
            have := hx c (by rw [hc]; exact List.getElem_mem hil)
            rw [hloud] at this
            simp at this
        simp [hq]
        exact ho.trans o2
      · have hnext : Out99 h s l v (l.length - (i + 1)) ⟨env99 v s (i + 1), h2⟩ := ⟨i + 1, h2, rfl, hil, by rw [hst, hquiet], rfl, ho.trans o2⟩
        simp only [env99] at hnext
        simp [c99_r3, hwr]
        exact ⟨l.length - (i + 1), by omega, by simpa using hnext⟩
    · have : i = l.length := by omega
      subst this
      rw [List.take_length] at hqt
      simp [c99_l2, c99_r2, c99_r9, len1, hlen, hqt]
      exact ho
  obtain ⟨r, h', h1, rfl, h2⟩ := key
  exact ⟨h', h1, h2⟩

abbrev env48 (v : AV) (s : Txt) (out : AV) (i : Nat) : Env := [(0, v), (1, .str s), (5, out), (6, .int .i64 i)]
def In48 (v : AV) (s : Txt) (out : AV) (ls : List (List Int)) (h : Heap) (m : Nat) (st : St) : Prop := ∃ i, m = ls.length - i ∧ i ≤ ls.length ∧ noEmpty (ls.take i) = true ∧ st = ⟨env48 v s out i, h⟩

theorem holds_doc {h : Heap} {s : Txt} {l : List Cont} {v : AV} (hv : SlC h v l) (hsm : ∀ c ∈ l, c.small) (hsl : s.length ≤ 100000) (hll : l.length ≤ 1000) :
    ∃ h', D cfg 48 [v, .str s] h = some (.bool (holdsC l s), h') ∧ Only (fun _ => False) h h' := by
  have key : ∃ r h', D cfg 48 [v, .str s] h = some (r, h') ∧ (r = .bool (holdsC l s) ∧ Only (fun _ => False) h h') := by
    refine call48 (R := fun r h' => r = .bool (holdsC l s) ∧ Only (fun _ => False) h h') (args := [v, .str s]) (h := h) (by simp) ?_
    obtain ⟨h1, B, bs, e1, H1, o1⟩ := ends_doc hv hsm hsl hll
    obtain ⟨ls, hls⟩ : ∃ ls, ls = (endsAll l s).1 := ⟨_, rfl⟩
    obtain ⟨_, _, ok3, _⟩ := endsAll_ok (l := l) (s := s)
    rw [← hls] at e1 H1 ok3
    have hlen := fun L => H1.sl.len (t := 44) (e := 30) (by simp) (L := L)
    have hz : (List.zipWith intSl bs ls).length = ls.length := by simp [H1.len]
    rw [hz] at hlen
    obtain ⟨h2, e2, o2⟩ := never_doc (h := h1) (hv.same o1) hsm hsl hll
    rw [quiet_none] at e2
    obtain ⟨out, hout⟩ : ∃ out, out = llSl B bs ls := ⟨_, rfl⟩
    have hget := fun i hi => H1.get (i := i) hi
    rw [← hout] at e1 hlen hget
    simp [c48, c48_r0, c48_r1, c48_r2, e1]
    refine Wt.loop (In48 v s out ls h1) (m := ls.length) ⟨0, rfl, Nat.zero_le _, rfl, rfl⟩ ?_
    rintro m st ⟨i, rfl, hi, hno, rfl⟩
    have hcut : cut (some [0, 1, 5, 6]) (env48 v s out i) = env48 v s out i := by simp
    simp only [hcut]
    by_cases hil : i < ls.length
    · have hil' : (i : Int) < ls.length := by omega
      have hwr : IntKind.wrap .i64 ((i : Int) + 1) = i + 1 := wrap_i64 (by omega) (by omega)
      obtain ⟨b, a1, b1, _⟩ := hget i hil
      by_cases hne : ls[i] = []
      · have hh : holdsC l s = false := by simp only [holdsC, ← hls, noEmpty_no hil hne]; rfl
        have hl0 : (ls[i].length : Int) = 0 := by rw [hne]; rfl
        have hl0' : ls[i].length = 0 := by rw [hne]; rfl
        simp [c48_l3, c48_r3, c48_r5, c48_r6, hil', hil, a1, b1, len1, hlen, alen_intSl, hl0, hl0', hh, hne]
        exact o1
      · have hl0 : ¬ (ls[i].length = 0) := fun e => hne (List.length_eq_zero_iff.1 e)
        have hl0' : ¬ ((ls[i].length : Int) = 0) := by omega
        have hnext : In48 v s out ls h1 (ls.length - (i + 1)) ⟨env48 v s out (i + 1), h1⟩ := ⟨i + 1, rfl, hil, by rw [noEmpty_step hil hno]; simpa using hne, rfl⟩
        simp only [env48] at hnext
        simp [c48_l3, c48_r3, c48_r4, c48_r5, c48_r6, hil', hil, a1, b1, len1, hlen, alen_intSl, hl0, hl0', hwr, hne]
        exact ⟨ls.length - (i + 1), by omega, by simpa using hnext⟩
    · have : i = ls.length := by omega
      subst this
      rw [List.take_length] at hno
      have hh : holdsC l s = (neverC l s).isNone := by simp only [holdsC, ← hls, hno]; rfl
      simp [c48_l3, c48_r3, c48_r7, len1, hlen, e2, hh]
      exact o1.trans o2
  obtain ⟨r, h', h1, rfl, h2⟩ := key
  exact ⟨h', h1, h2⟩

/-! ### First -/

def firstFrom (l : List Cont) (s : Txt) : Nat → Nat → Int × Bool
  | _, 0 => (0, false)
  | n, k + 1 => if holdsC l (s.take n) then ((n : Int), true) else firstFrom l s (n + 1) k
def firstD (l : List Cont) (s : Txt) : Int × Bool := firstFrom l s 0 (s.length + 1)

abbrev env46 (v : AV) (s : Txt) (n : Nat) : Env := [(0, v), (1, .str s), (6, .int .i64 n)]
def In46 (h₀ : Heap) (v : AV) (s : Txt) (l : List Cont) (m : Nat) (st : St) : Prop := ∃ n h, m = s.length + 1 - n ∧ n ≤ s.length + 1 ∧ firstD l s = firstFrom l s n (s.length + 1 - n) ∧ st = ⟨env46 v s n, h⟩ ∧ Only (fun _ => False) h₀ h

theorem first_doc {h : Heap} {s : Txt} {l : List Cont} {v : AV} (hv : SlC h v l) (hsm : ∀ c ∈ l, c.small) (hsl : s.length ≤ 100000) (hll : l.length ≤ 1000) :
    ∃ h', D cfg 46 [v, .str s] h = some (.tup [.int .i64 (firstD l s).1, .bool (firstD l s).2], h') ∧ Only (fun _ => False) h h' := by
  have key : ∃ r h', D cfg 46 [v, .str s] h = some (r, h') ∧ (r = .tup [.int .i64 (firstD l s).1, .bool (firstD l s).2] ∧ Only (fun _ => False) h h') := by
    refine call46 (R := fun r h' => r = .tup [.int .i64 (firstD l s).1, .bool (firstD l s).2] ∧ Only (fun _ => False) h h') (args := [v, .str s]) (h := h) (by simp) ?_
    simp [c46, c46_r0, c46_r1]
    refine Wt.loop (In46 h v s l) (m := s.length + 1) ⟨0, h, rfl, Nat.zero_le _, rfl, rfl, .refl⟩ ?_
    rintro m st ⟨n, h1, rfl, hn, hf, rfl, ho⟩
    have hcut : cut (some [0, 1, 6]) (env46 v s n) = env46 v s n := by simp
    simp only [hcut]
    by_cases hns : n < s.length + 1
    · have hle : (n : Int) ≤ s.length := by omega
      have hle' : n ≤ s.length := by omega
      have hwr : IntKind.wrap .i64 ((n : Int) + 1) = n + 1 := wrap_i64 (by omega) (by omega)
      obtain ⟨k, hk⟩ : ∃ k, s.length + 1 - n = k + 1 := ⟨s.length - n, by omega⟩
      rw [hk] at hf
      obtain ⟨h2, e2, o2⟩ := holds_doc (hv.same ho) (s := s.take n) hsm (by simp; omega) hll
      cases hh : holdsC l (s.take n) with
      | true =>
        rw [hh] at e2
        have hval : firstD l s = ((n : Int), true) := by rw [hf]; simp only [firstFrom, hh]; rfl
        simp [c46_l2, c46_r2, c46_r4, c46_r5, len1, alenS, hle, hle', aslice, bound, e2, hval]
        exact ho.trans o2
      | false =>
        rw [hh] at e2
        have hval : firstD l s = firstFrom l s (n + 1) (s.length + 1 - (n + 1)) := by
          have : s.length + 1 - (n + 1) = k := by omega
          rw [hf, this]; simp only [firstFrom, hh]; rfl
        have hnext : In46 h v s l (s.length + 1 - (n + 1)) ⟨env46 v s (n + 1), h2⟩ := ⟨n + 1, h2, rfl, hns, hval, rfl, ho.trans o2⟩
        simp only [env46] at hnext
        simp [c46_l2, c46_r2, c46_r3, c46_r4, c46_r5, len1, alenS, hle, hle', aslice, bound, e2, hwr]
        exact ⟨s.length + 1 - (n + 1), by omega, by simpa using hnext⟩
    · have : n = s.length + 1 := by omega
      subst this
      have hle' : ¬ ((s.length : Int) + 1 ≤ s.length) := by omega
      have hval : firstD l s = (0, false) := by rw [hf, Nat.sub_self]; rfl
      simp [c46_l2, c46_r2, c46_r6, len1, alenS, hle', hval]
      exact ho
  obtain ⟨r, h', h1, rfl, h2⟩ := key
  exact ⟨h', h1, h2⟩

end Go.AM
