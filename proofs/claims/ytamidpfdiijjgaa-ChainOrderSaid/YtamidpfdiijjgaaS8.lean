/-
  The chain's 'Holds' and 'First'.
-/
import Derived.Test.YtamidpfdiijjgaaS7
namespace Go.AM
open Go Go.Proofs
set_option linter.unusedVariables false
set_option linter.unusedSimpArgs false
set_option maxRecDepth 100000

theorem alen_intSl {L : Look} {b : Nat} {l : List Int} : alen Try.prog L 30 (intSl b l) = some (.int .i64 l.length) := by
  unfold intSl
  split
  · rename_i e; subst e; simp [alen]
  · simp [alen]

theorem LL.sl {h₀ h : Heap} {B : Nat} {bs : List Nat} {ls : List (List Int)} (H : LL h₀ h B bs ls) : Sl1 h (llSl B bs ls) (List.zipWith intSl bs ls) := by
  have hz : (List.zipWith intSl bs ls).length = ls.length := by simp [H.len]
  have := Sl1.buf (h := h) (b := B) (e := 30) (s := true) (xs := List.zipWith intSl bs ls) (fun hn => (H.top (by omega)).1)
  rw [hz] at this
  exact this

/-- An element of a slice of slices. -/
theorem LL.get {h₀ h : Heap} {B : Nat} {bs : List Nat} {ls : List (List Int)} (H : LL h₀ h B bs ls) {i : Nat} (hi : i < ls.length) :
    ∃ b, aindexAddr Try.prog 44 (llSl B bs ls) (.int .i64 i) = some (elp (llSl B bs ls) i) ∧ aload Try.prog (look h) 30 (elp (llSl B bs ls) i) = some (intSl b ls[i]) ∧ (ls[i] ≠ [] → h[b]? = some (.cells (intCells ls[i]) 3 true)) := by
  have hz : (List.zipWith intSl bs ls).length = ls.length := by simp [H.len]
  have hb : i < bs.length := by rw [H.len]; exact hi
  have a1 := H.sl.at (t := 44) (e := 30) (by simp) (by simp) (i := i) (by omega)
  have b1 := H.sl.load (e := 30) (by simp) (i := i) (by omega)
  rw [List.getElem_zipWith] at b1
  exact ⟨bs[i], a1, b1, fun hne => (H.each i ls[i] bs[i] (List.getElem?_eq_getElem hi) (List.getElem?_eq_getElem hb) hne).1⟩

def noEmpty (ls : List (List Int)) : Bool := ls.all fun l => decide (l ≠ [])
def holdsC (l : List Cont) (s : Txt) : Bool := noEmpty (endsAll l s).1 && (neverC l s).isNone

abbrev env47 (v : AV) (s : Txt) (out : AV) (n i : Nat) : Env := [(0, v), (1, .str s), (11, out), (12, .int .i64 n), (13, .int .i64 i)]

def In47 (v : AV) (s : Txt) (out : AV) (ls : List (List Int)) (h : Heap) (m : Nat) (st : St) : Prop := ∃ i, m = ls.length - i ∧ i ≤ ls.length ∧ noEmpty (ls.take i) = true ∧ st = ⟨env47 v s out ls.length i, h⟩

theorem noEmpty_step {ls : List (List Int)} {i : Nat} (hi : i < ls.length) (h : noEmpty (ls.take i) = true) : noEmpty (ls.take (i + 1)) = decide (ls[i] ≠ []) := by
  simp only [noEmpty] at h ⊢
  rw [List.take_succ_eq_append_getElem hi, List.all_append, h]
  simp

theorem noEmpty_no {ls : List (List Int)} {i : Nat} (hi : i < ls.length) (h : ls[i] = []) : noEmpty ls = false := by
  cases hx : noEmpty ls with
  | false => rfl
  | true =>
    simp only [noEmpty, List.all_eq_true] at hx
    have := hx ls[i] (List.getElem_mem hi)
    simp [h] at this

theorem holds_chain {h : Heap} {s : Txt} {l : List Cont} {v : AV} (hv : SlC h v l) (hsm : ∀ c ∈ l, c.small) (hsl : s.length ≤ 100000) (hll : l.length ≤ 1000) :
    ∃ h', D cfg 47 [v, .str s] h = some (.bool (holdsC l s), h') ∧ Only (fun _ => False) h h' := by
  have key : ∃ r h', D cfg 47 [v, .str s] h = some (r, h') ∧ (r = .bool (holdsC l s) ∧ Only (fun _ => False) h h') := by
    refine call47 (R := fun r h' => r = .bool (holdsC l s) ∧ Only (fun _ => False) h h') (args := [v, .str s]) (h := h) (by simp) ?_
    obtain ⟨h1, B, bs, e1, H1, o1⟩ := ends_chain hv hsm hsl hll
    obtain ⟨ls, hls⟩ : ∃ ls, ls = (endsAll l s).1 := ⟨_, rfl⟩
    obtain ⟨_, _, ok3, _⟩ := endsAll_ok (l := l) (s := s)
    rw [← hls] at e1 H1 ok3
    have hlen := fun L => H1.sl.len (t := 44) (e := 30) (by simp) (L := L)
    have hz : (List.zipWith intSl bs ls).length = ls.length := by simp [H1.len]
    rw [hz] at hlen
    obtain ⟨h2, e2, o2⟩ := never_chain (h := h1) (hv.same o1) hsm hsl hll
    obtain ⟨out, hout⟩ : ∃ out, out = llSl B bs ls := ⟨_, rfl⟩
    have hget := fun i hi => H1.get (i := i) hi
    rw [← hout] at e1 hlen hget
    simp [c47, c47_r0, c47_r1, e1, len1, hlen]
    refine Wt.loop (In47 v s out ls h1) (m := ls.length) ⟨0, rfl, Nat.zero_le _, rfl, rfl⟩ ?_
    rintro m st ⟨i, rfl, hi, hno, rfl⟩
    have hcut : cut (some [0, 1, 11, 12, 13]) (env47 v s out ls.length i) = env47 v s out ls.length i := by simp
    simp only [hcut]
    by_cases hil : i < ls.length
    · have hil' : (i : Int) < ls.length := by omega
      have hwr : IntKind.wrap .i64 ((i : Int) + 1) = i + 1 := wrap_i64 (by omega) (by omega)
      obtain ⟨b, a1, b1, _⟩ := hget i hil
      by_cases hne : ls[i] = []
      · have hh : holdsC l s = false := by simp only [holdsC, ← hls, noEmpty_no hil hne]; rfl
        have hl0 : (ls[i].length : Int) = 0 := by rw [hne]; rfl
        have hl0' : ls[i].length = 0 := by rw [hne]; rfl
        simp [c47_l2, c47_r2, c47_r3, c47_r4, c47_r5, hil', hil, a1, b1, len1, alen_intSl, hl0, hl0', hh, hne]
        exact o1
      · have hl0 : ¬ (ls[i].length = 0) := fun e => hne (List.length_eq_zero_iff.1 e)
        have hl0' : ¬ ((ls[i].length : Int) = 0) := by omega
        have hnext : In47 v s out ls h1 (ls.length - (i + 1)) ⟨env47 v s out ls.length (i + 1), h1⟩ := ⟨i + 1, rfl, hil, by rw [noEmpty_step hil hno]; simpa using hne, rfl⟩
        simp only [env47] at hnext
        simp [c47_l2, c47_r2, c47_r3, c47_r4, c47_r5, c47_r6, hil', hil, a1, b1, len1, alen_intSl, hl0, hl0', hwr, hne]
        exact ⟨ls.length - (i + 1), by omega, by simpa using hnext⟩
    · have : i = ls.length := by omega
      subst this
      rw [List.take_length] at hno
      have hh : holdsC l s = !(neverC l s).isSome := by simp only [holdsC, ← hls, hno]; cases neverC l s <;> rfl
      simp only [optPair] at e2
      simp [c47_l2, c47_r2, c47_r7, c47_r8, e2, extractV, hh]
      exact o1.trans o2
  obtain ⟨r, h', h1, rfl, h2⟩ := key
  exact ⟨h', h1, h2⟩

/-! ### First -/

def heads (ls : List (List Int)) : Int := ls.foldl (fun n l => max n (l.headD 0)) 0
def firstC (l : List Cont) (s : Txt) : Int × Bool :=
  if noEmpty (endsAll l s).1 then
    match neverC l s with
    | some e => if (e : Int) ≤ heads (endsAll l s).1 then (0, false) else (heads (endsAll l s).1, true)
    | none => (heads (endsAll l s).1, true)
  else (0, false)

theorem heads_step {ls : List (List Int)} {i : Nat} (hi : i < ls.length) : heads (ls.take (i + 1)) = max (heads (ls.take i)) (ls[i].headD 0) := by
  rw [List.take_succ_eq_append_getElem hi]
  simp only [heads, List.foldl_append, List.foldl_cons, List.foldl_nil]

abbrev env45 (v : AV) (s : Txt) (m : Int) (out : AV) (n i : Nat) : Env := [(0, v), (1, .str s), (6, .int .i64 m), (13, out), (14, .int .i64 n), (15, .int .i64 i)]

def In45 (v : AV) (s : Txt) (out : AV) (ls : List (List Int)) (h : Heap) (m : Nat) (st : St) : Prop := ∃ i, m = ls.length - i ∧ i ≤ ls.length ∧ noEmpty (ls.take i) = true ∧ st = ⟨env45 v s (heads (ls.take i)) out ls.length i, h⟩

theorem first_chain {h : Heap} {s : Txt} {l : List Cont} {v : AV} (hv : SlC h v l) (hsm : ∀ c ∈ l, c.small) (hsl : s.length ≤ 100000) (hll : l.length ≤ 1000) :
    ∃ h', D cfg 45 [v, .str s] h = some (.tup [.int .i64 (firstC l s).1, .bool (firstC l s).2], h') ∧ Only (fun _ => False) h h' := by
  have key : ∃ r h', D cfg 45 [v, .str s] h = some (r, h') ∧ (r = .tup [.int .i64 (firstC l s).1, .bool (firstC l s).2] ∧ Only (fun _ => False) h h') := by
    refine call45 (R := fun r h' => r = .tup [.int .i64 (firstC l s).1, .bool (firstC l s).2] ∧ Only (fun _ => False) h h') (args := [v, .str s]) (h := h) (by simp) ?_
    obtain ⟨h1, B, bs, e1, H1, o1⟩ := ends_chain hv hsm hsl hll
    obtain ⟨ls, hls⟩ : ∃ ls, ls = (endsAll l s).1 := ⟨_, rfl⟩
    obtain ⟨_, _, ok3, _⟩ := endsAll_ok (l := l) (s := s)
    rw [← hls] at e1 H1 ok3
    have hlen := fun L => H1.sl.len (t := 44) (e := 30) (by simp) (L := L)
    have hz : (List.zipWith intSl bs ls).length = ls.length := by simp [H1.len]
    rw [hz] at hlen
    obtain ⟨h2, e2, o2⟩ := never_chain (h := h1) (hv.same o1) hsm hsl hll
    obtain ⟨out, hout⟩ : ∃ out, out = llSl B bs ls := ⟨_, rfl⟩
    have hget := fun i hi => H1.get (i := i) hi
    rw [← hout] at e1 hlen hget
    simp [c45, c45_r0, c45_r1, c45_r2, e1, len1, hlen]
    refine Wt.loop (In45 v s out ls h1) (m := ls.length) ⟨0, rfl, Nat.zero_le _, rfl, rfl⟩ ?_
    rintro m st ⟨i, rfl, hi, hno, rfl⟩
    have hcut : cut (some [0, 1, 6, 13, 14, 15]) (env45 v s (heads (ls.take i)) out ls.length i) = env45 v s (heads (ls.take i)) out ls.length i := by simp
    simp only [hcut]
    by_cases hil : i < ls.length
    · have hil' : (i : Int) < ls.length := by omega
      have hwr : IntKind.wrap .i64 ((i : Int) + 1) = i + 1 := wrap_i64 (by omega) (by omega)
      obtain ⟨b, a1, b1, g1⟩ := hget i hil
      by_cases hne : ls[i] = []
      · have hh : firstC l s = (0, false) := by simp only [firstC, ← hls, noEmpty_no hil hne]; rfl
        have hl0 : (ls[i].length : Int) = 0 := by rw [hne]; rfl
        have hl0' : ls[i].length = 0 := by rw [hne]; rfl
        simp [c45_l3, c45_r3, c45_r4, c45_r5, c45_r6, hil', hil, a1, b1, len1, alen_intSl, hl0, hl0', hh, hne]
        exact o1
      · have hpos : 0 < ls[i].length := List.length_pos_iff.2 hne
        have hl0 : ¬ (ls[i].length = 0) := by omega
        have hl0' : ¬ ((ls[i].length : Int) = 0) := by omega
        have sl := Sl1.ints (fun hne => g1 hne)
        have a2 := sl.at (t := 30) (e := 3) (by simp) (by simp) (i := 0) (by rw [intCells_len]; exact hpos)
        have b2 := sl.load (e := 3) (by simp) (i := 0) (by rw [intCells_len]; exact hpos)
        rw [intCells_get] at b2
        have hhead : ls[i].headD 0 = ls[i][0] := by rw [List.headD_eq_head?_getD, List.head?_eq_getElem?, List.getElem?_eq_getElem hpos]; rfl
        have hmax : (if heads (ls.take i) < ls[i][0] then ls[i][0] else heads (ls.take i)) = max (heads (ls.take i)) ls[i][0] := by
          simp only [Int.max_def]
          split <;> split <;> omega
        have hz0 : ((0 : Nat) : Int) = 0 := rfl
        rw [hz0] at a2
        have hnext : In45 v s out ls h1 (ls.length - (i + 1)) ⟨env45 v s (max (heads (ls.take i)) ls[i][0]) out ls.length (i + 1), h1⟩ := ⟨i + 1, rfl, hil, by rw [noEmpty_step hil hno]; simpa using hne, by rw [heads_step hil, hhead]⟩
        simp only [env45] at hnext
        simp [c45_l3, c45_r3, c45_r4, c45_r5, c45_r6, c45_r7, c45_r8, hil', hil, a1, b1, len1, alen_intSl, hl0, hl0', hwr, hne, a2, b2, amax, amax1, hmax]
        exact ⟨ls.length - (i + 1), by omega, by simpa using hnext⟩
    · have : i = ls.length := by omega
      subst this
      rw [List.take_length] at hno ⊢
      simp only [optPair] at e2
      cases hnv : neverC l s with
      | none =>
        have hh : firstC l s = (heads ls, true) := by simp only [firstC, ← hls, hno, hnv]; rfl
        rw [hnv] at e2
        simp at e2
        simp [c45_l3, c45_r3, c45_r9, c45_r10, c45_r11, c45_r12, e2, extractV, hh]
        exact o1.trans o2
      | some e =>
        rw [hnv] at e2
        simp at e2
        by_cases hle : (e : Int) ≤ heads ls
        · have hh : firstC l s = (0, false) := by simp only [firstC, ← hls, hno, hnv, if_pos hle]; rfl
          simp [c45_l3, c45_r3, c45_r9, c45_r10, c45_r11, c45_r12, e2, extractV, hh, hle]
          exact o1.trans o2
        · have hh : firstC l s = (heads ls, true) := by simp only [firstC, ← hls, hno, hnv, if_neg hle]; rfl
          simp [c45_l3, c45_r3, c45_r9, c45_r10, c45_r11, c45_r12, e2, extractV, hh, hle]
          exact o1.trans o2
  obtain ⟨r, h', h1, rfl, h2⟩ := key
  exact ⟨h', h1, h2⟩

end Go.AM
