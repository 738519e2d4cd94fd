/-
  What the trie's functions do.
-/
import Derived.Test.YtamidpfdiijjgaaP0
namespace Go.AM
open Go Go.Proofs
set_option linter.unusedVariables false
set_option linter.unusedSimpArgs false
set_option maxRecDepth 100000

/-- A trie, as it stands for itself. -/
structure TM where
  up : List (Int × Int)
  ends : List (List Int)
  deep : List Int
  n : Int

/-- The blocks that a trie takes. -/
structure TB where
  t : Nat
  m : Nat
  u : Nat
  e : Nat
  d : Nat
  eb : List Nat

def pairCells (l : List (Int × Int)) : List AV := l.flatMap fun p => [.int .i64 p.1, .int .u8 p.2]
def intCells (l : List Int) : List AV := l.map (.int .i64)
def intSl (b : Nat) (l : List Int) : AV := if l = [] then .sl none 0 0 else .sl (some ⟨b, 0, l.length⟩) l.length l.length

/-- A child: its number. -/
def childIn (s b : Int) : List (Int × Int) → Nat → Option Nat
  | [], _ => none
  | (s', b') :: r, i => if s' = s ∧ b' = b then some i else childIn s b r (i + 1)

def TM.child (T : TM) (s b : Int) : Option Nat := childIn s b T.up.tail 1

def TM.size (T : TM) : Nat := T.up.length

structure TrieAt (h : Heap) (B : TB) (T : TM) : Prop where
  hdr : h[B.t]? = some (.cells [.map (some B.m), .sl (some ⟨B.u, 0, 2 * T.size⟩) T.size T.size, .sl (some ⟨B.e, 0, T.size⟩) T.size T.size, .sl (some ⟨B.d, 0, T.size⟩) T.size T.size, .int .i64 T.n] 116 false)
  map : ∃ es c, h[B.m]? = some (.map 113 es c) ∧ EKeys es ∧ ∀ s b, mfind (ekey s b) es = (T.child s b).map fun i => .int .i64 i
  ups : h[B.u]? = some (.cells (pairCells T.up) 118 true)
  ends : h[B.e]? = some (.cells (List.zipWith intSl B.eb T.ends) 30 true)
  deep : h[B.d]? = some (.cells (intCells T.deep) 3 true)
  inner : ∀ (i : Nat) (l : List Int) (b : Nat), T.ends[i]? = some l → B.eb[i]? = some b → l ≠ [] → h[b]? = some (.cells (intCells l) 3 true) ∧ b ∉ [B.t, B.m, B.u, B.e, B.d]
  apart : ∀ (i j : Nat) (l l' : List Int) (b b' : Nat), T.ends[i]? = some l → T.ends[j]? = some l' → l ≠ [] → l' ≠ [] → B.eb[i]? = some b → B.eb[j]? = some b' → b = b' → i = j
  nodup : [B.t, B.m, B.u, B.e, B.d].Nodup
  lenE : T.ends.length = T.size
  lenD : T.deep.length = T.size
  lenB : B.eb.length = T.size
  pos : 0 < T.size
  small : T.size ≤ 1000000

/-- The blocks of a trie. -/
def TB.foot (B : TB) (T : TM) (b : Nat) : Prop := b ∈ [B.t, B.m, B.u, B.e, B.d] ∨ ∃ (i : Nat) (l : List Int), T.ends[i]? = some l ∧ l ≠ [] ∧ B.eb[i]? = some b

abbrev TB.ptr (B : TB) : AV := .ptr (some ⟨B.t, 0, 5⟩)

/-- What does not turn a trie's blocks leaves it. -/
theorem TrieAt.keep {h h' : Heap} {B : TB} {T : TM} {fp : Nat → Prop} (H : TrieAt h B T) (ho : Only fp h h') (hf : ∀ b, B.foot T b → ¬ fp b) : TrieAt h' B T := by
  have f5 : ∀ b, b ∈ [B.t, B.m, B.u, B.e, B.d] → ¬ fp b := fun b hb => hf b (.inl hb)
  obtain ⟨es, c, h1, h2, h3⟩ := H.map
  refine ⟨ho.at H.hdr (f5 _ (by simp)), ⟨es, c, ho.at h1 (f5 _ (by simp)), h2, h3⟩, ho.at H.ups (f5 _ (by simp)), ho.at H.ends (f5 _ (by simp)), ho.at H.deep (f5 _ (by simp)), ?_, H.apart, H.nodup, H.lenE, H.lenD, H.lenB, H.pos, H.small⟩
  intro i l b hl hb hne
  obtain ⟨h4, h5⟩ := H.inner i l b hl hb hne
  exact ⟨ho.at h4 (hf b (.inr ⟨i, l, hl, hne, hb⟩)), h5⟩

theorem TrieAt.app {h l : Heap} {B : TB} {T : TM} (H : TrieAt h B T) : TrieAt (h ++ l) B T := H.keep (fp := fun _ => False) .app fun _ _ => id

theorem mk_map {ev : Ev} {L : Look} {n : Nat} : aop Try.prog ev L n (.makeMap 113 none) = some (.map (some n), .new (.map 113 [] 0)) := op_makeMap tk_113 (by simp)

def T0 : TM := ⟨[(0, 0)], [[]], [0], 0⟩

theorem trie_new {h : Heap} : ∃ B h', D cfg 30 [] h = some (B.ptr, h') ∧ TrieAt h' B T0 ∧ Only (fun _ => False) h h' ∧ (∀ b, B.foot T0 b → h.length ≤ b) := by
  have key : D cfg 30 [] h = some (.ptr (some ⟨h.length + 4, 0, 5⟩), h ++ [.map 113 [] 0, .cells [.int .i64 0, .int .u8 0] 118 true, .cells [.sl none 0 0] 30 true, .cells [.int .i64 0] 3 true,
     .cells [.map (some h.length), .sl (some ⟨h.length + 1, 0, 2⟩) 1 1, .sl (some ⟨h.length + 2, 0, 1⟩) 1 1, .sl (some ⟨h.length + 3, 0, 1⟩) 1 1, .int .i64 0] 116 false]) := by
    refine D_eq (call30 (R := fun r h' => r = _ ∧ h' = _) (by simp) ?_)
    simp [c30, c30_r0, c30_r1, mk_map, amakeSlice, zeros, abuild, afill, splice]
  refine ⟨⟨h.length + 4, h.length, h.length + 1, h.length + 2, h.length + 3, [0]⟩, _, key, ?_, .app, ?_⟩
  · refine ⟨?_, ⟨[], 0, ?_, fun x hx => by simp at hx, fun s b => by simp [mfind, TM.child, T0, childIn]⟩, ?_, ?_, ?_, ?_, ?_, ?_, rfl, rfl, rfl, by decide, by decide⟩
    · simp only [at_new]; rfl
    · simp only [at_new0]; rfl
    · simp only [at_new]; rfl
    · simp only [at_new]; simp [T0, intSl]
    · simp only [at_new]; rfl
    · intro i l b hl hb hne
      cases i with
      | zero => simp [T0] at hl; exact absurd hl hne
      | succ i => simp [T0] at hl
    · intro i j l l' b b' hl hl' hne
      cases i with
      | zero => simp [T0] at hl; exact absurd hl hne
      | succ i => simp [T0] at hl
    · simp
  · rintro b (hb | ⟨i, l, hl, hne, _⟩)
    · simp at hb; omega
    · cases i with
      | zero => simp [T0] at hl; exact absurd hl hne
      | succ i => simp [T0] at hl

section
variable {h : Heap} {B : TB} {T : TM}

theorem trie_states (H : TrieAt h B T) : D cfg 32 [B.ptr] h = some (.int .i64 T.size, h) := by
  refine D_eq (call32 (R := fun r h' => r = _ ∧ h' = _) (by simp) ?_)
  have h1 := H.hdr
  simp [c32, c32_r0, c32_r1, TB.ptr, fieldA, aload, row, h1, len1, alen]

theorem trie_none (H : TrieAt h B T) {s : Int} : D cfg 92 [B.ptr, .int .i64 s] h = some (.bool (decide (s < 0 ∨ (T.size : Int) ≤ s)), h) := by
  refine D_eq (call92 (R := fun r h' => r = _ ∧ h' = _) (by simp) ?_)
  have h1 := H.hdr
  by_cases hs : s < 0
  · simp [c92, c92_r0, c92_r1, fieldA, aload, row, h1, len1, alen, hs]
  · simp [c92, c92_r0, c92_r1, fieldA, aload, row, h1, len1, alen, hs]

theorem intCells_len {l : List Int} : (intCells l).length = l.length := by simp [intCells]
@[simp] theorem intCells_get {l : List Int} {i : Nat} (h : i < (intCells l).length) : (intCells l)[i] = .int .i64 (l[i]'(by simpa [intCells] using h)) := by simp [intCells]
theorem intCells_at {l : List Int} {i : Nat} : (intCells l)[i]? = (l[i]?).map (.int .i64) := by simp [intCells]

theorem trie_depth (H : TrieAt h B T) {s : Int} : D cfg 35 [B.ptr, .int .i64 s] h = some (.int .i64 (if s < 0 then 0 else (T.deep[s.toNat]?).getD 0), h) := by
  refine D_eq (call35 (R := fun r h' => r = _ ∧ h' = _) (by simp) ?_)
  have h1 := H.hdr
  have h2 := H.deep
  have h3 := H.lenD
  by_cases hs : s < 0 ∨ (T.size : Int) ≤ s
  · have e : (if s < 0 then 0 else (T.deep[s.toNat]?).getD 0) = 0 := by
      split
      · rfl
      · rw [List.getElem?_eq_none (by omega)]; rfl
    rw [e]
    simp [c35, c35_r0, c35_r1, c35_r2, c35_r3, trie_none H, hs]
  · have hs0 : 0 ≤ s := by omega
    have hs1 : s < T.size := by omega
    have hs2 : s.toNat < T.deep.length := by omega
    simp [c35, c35_r0, c35_r1, c35_r2, c35_r3, fieldA, aload, row, h1, h2, trie_none H, hs, aindexAddr, hs0, hs1, intCells_len, h3, intCells_at, hs2]
    omega

theorem build_edge {s b : Int} : abuild Try.prog 118 [(0, .int .i64 s), (1, .int .u8 b)] = some (ekey s b) := by
  simp [abuild, afill, ekey]

theorem look_edge {L : Look} {m : Nat} {es : List (AV × AV × Nat)} {c : Nat} (hm : L m = some (.map 113 es c)) {s b : Int} :
    alookup Try.prog L 113 (.map (some m)) (ekey s b) true = some (match mfind (ekey s b) es with | some v => .tup [v, .bool true] | none => .tup [.int .i64 0, .bool false]) := by
  have hs : shapeOf (ekey s b) = some (.many [.int .i64, .int .u8]) := by simp [ekey, shapeOf, kks, kkOfV]
  simp only [alookup, tk_113, hm, hs, kshape_118]
  cases mfind (ekey s b) es <;> simp

theorem trie_child (H : TrieAt h B T) {s b : Int} : D cfg 33 [B.ptr, .int .i64 s, .int .u8 b] h =
    some (.tup [.int .i64 (((T.child s b).getD 0 : Nat) : Int), .bool (T.child s b).isSome], h) := by
  refine D_eq (call33 (R := fun r h' => r = _ ∧ h' = _) (by simp) ?_)
  have h1 := H.hdr
  obtain ⟨es, c, h2, h3, h4⟩ := H.map
  have h5 := look_edge (L := look h) (s := s) (b := b) (show look h B.m = _ from h2)
  rw [h4] at h5
  cases hc : T.child s b with
  | none =>
    simp only [hc, Option.map_none] at h5
    simp [c33, c33_r0, c33_r1, c33_r2, fieldA, aload, row, h1, build_edge, h5, extractV]
  | some i =>
    simp only [hc, Option.map_some] at h5
    simp [c33, c33_r0, c33_r1, c33_r2, fieldA, aload, row, h1, build_edge, h5, extractV]

theorem pairCells_len {l : List (Int × Int)} : (pairCells l).length = 2 * l.length := by
  induction l with
  | nil => rfl
  | cons x xs ih => simp [pairCells] at ih ⊢; omega

theorem pairCells_at : ∀ {l : List (Int × Int)} {i : Nat} {p : Int × Int}, l[i]? = some p → ((pairCells l).drop (i * 2)).take 2 = [.int .i64 p.1, .int .u8 p.2]
  | [], i, p, h => by simp at h
  | x :: xs, 0, p, h => by simp at h; subst h; simp [pairCells]
  | x :: xs, i + 1, p, h => by
    have ih := pairCells_at (l := xs) (i := i) (p := p) (by simpa using h)
    rw [← ih]
    simp only [pairCells, List.flatMap_cons]
    rw [show (i + 1) * 2 = i * 2 + 2 by omega]
    rfl

theorem trie_parent (H : TrieAt h B T) {s : Int} : ∃ h', D cfg 37 [B.ptr, .int .i64 s] h =
    some (if s ≤ 0 ∨ (T.size : Int) ≤ s then .tup [.int .i64 0, .int .u8 0, .bool false] else .tup [.int .i64 ((T.up[s.toNat]?).getD (0, 0)).1, .int .u8 ((T.up[s.toNat]?).getD (0, 0)).2, .bool true], h') ∧
    Only (fun _ => False) h h' := by
  have h1 := H.hdr
  have h2 := H.ups
  by_cases hs : s ≤ 0 ∨ (T.size : Int) ≤ s
  · refine ⟨h, D_eq (call37 (R := fun r h' => r = _ ∧ h' = _) (by simp) ?_), .refl⟩
    rw [if_pos hs]
    by_cases hs' : s < 0 ∨ (T.size : Int) ≤ s
    · simp [c37, c37_r0, c37_r1, c37_r2, c37_r3, c37_r4, trie_none H, hs']
    · have : s = 0 := by omega
      subst this
      have hp := H.pos
      have hp' : T.size ≠ 0 := by omega
      simp [c37, c37_r0, c37_r1, c37_r2, c37_r3, c37_r4, trie_none H, hp']
  · have hs' : ¬ (s < 0 ∨ (T.size : Int) ≤ s) := by omega
    have hs0 : 0 ≤ s := by omega
    have hs1 : s < T.size := by omega
    have hs2 : s ≠ 0 := by omega
    have hlt : s.toNat < T.up.length := by simp only [TM.size] at hs1; omega
    have hp := pairCells_at (l := T.up) (i := s.toNat) (p := T.up[s.toNat]) (by simp [hlt])
    have hlen : (pairCells T.up).length = 2 * T.size := pairCells_len
    have hle : s.toNat * 2 + 2 ≤ 2 * T.size := by omega
    refine ⟨h ++ [.cells [.int .i64 (T.up[s.toNat]).1, .int .u8 (T.up[s.toNat]).2] 118 false], D_eq (call37 (R := fun r h' => r = _ ∧ h' = _) (by simp) ?_), .app⟩
    rw [if_neg hs]
    simp [c37, c37_r0, c37_r1, c37_r2, c37_r3, c37_r4, trie_none H, hs', hs2, fieldA, aload, row, h1, h2, aindexAddr, hs0, hs1, hlen, hle, hp, astore, at_new0, splice]
    simp [List.getElem?_eq_getElem hlt]

theorem take_all {l : List Int} : (intCells l).take l.length = intCells l := by rw [← intCells_len (l := l), List.take_length]
theorem set_new {h : Heap} {x y : AObj} : (h ++ [x]).set h.length y = h ++ [y] := by simp
theorem room_of {n k : Nat} (h : n ≤ 1000000) (hk : k ≤ 64) : n * k ≤ roomMax := by
  have := Nat.mul_le_mul h hk
  simp only [roomMax]
  omega

/-- A slice of numbers, copied. -/
theorem clone_run {h : Heap} {b : Nat} {l : List Int} (hb : l ≠ [] → h[b]? = some (.cells (intCells l) 3 true)) (hl : l.length ≤ 9000000000000) :
    D cfg 93 [intSl b l] h = some (intSl h.length l, if l = [] then h else h ++ [.cells (intCells l) 3 true]) := by
  refine D_eq (call93 (R := fun r h' => r = _ ∧ h' = _) (by simp) ?_)
  by_cases hl0 : l = []
  · simp [c93, c93_r0, c93_r1, c93_r2, c93_r3, intSl, hl0]
  · have h1 := hb hl0
    have hb' := lt_of_at h1
    have hlen : l.length ≠ 0 := by simpa using hl0
    have hr : l.length * 8 ≤ roomMax := by simp only [roomMax]; omega
    have hl6 : l.length ≤ 9223372036854775807 := by omega
    simp [c93, c93_r0, c93_r1, c93_r2, c93_r3, intSl, hl0, abuildSlice, afill, zeros, append2, aappend, srcCells, slCells, row, at_old hb', h1, intCells_len, hlen, aappendE, hr, hl6, take_all]

theorem TrieAt.endsLen (H : TrieAt h B T) : (List.zipWith intSl B.eb T.ends).length = T.size := by
  have h1 := H.lenE
  have h2 := H.lenB
  simp [h1, h2]

theorem trie_ends (H : TrieAt h B T) (hsm : ∀ l ∈ T.ends, l.length ≤ 9000000000000) {s : Int} : ∃ b h', D cfg 34 [B.ptr, .int .i64 s] h = some (intSl b (if s < 0 then [] else (T.ends[s.toNat]?).getD []), h') ∧ Only (fun _ => False) h h' ∧
    ((if s < 0 then [] else (T.ends[s.toNat]?).getD []) ≠ [] → b = h.length ∧ h'[b]? = some (.cells (intCells (if s < 0 then [] else (T.ends[s.toNat]?).getD [])) 3 true)) := by
  have h1 := H.hdr
  have h2 := H.ends
  have hl := H.endsLen
  by_cases hs : s < 0 ∨ (T.size : Int) ≤ s
  · have e : (if s < 0 then [] else (T.ends[s.toNat]?).getD []) = [] := by
      split
      · rfl
      · rw [List.getElem?_eq_none (by have := H.lenE; omega)]; rfl
    rw [e]
    refine ⟨0, h, D_eq (call34 (R := fun r h' => r = _ ∧ h' = _) (by simp) ?_), .refl, fun h => absurd rfl h⟩
    simp [c34, c34_r0, c34_r1, c34_r2, c34_r3, trie_none H, hs, intSl]
  · have hs0 : 0 ≤ s := by omega
    have hs1 : s < T.size := by omega
    have hlE : s.toNat < T.ends.length := by have := H.lenE; omega
    have hlB : s.toNat < B.eb.length := by have := H.lenB; omega
    have hlt : s.toNat < T.size := by omega
    have hns : ¬ s < 0 := by omega
    have e : (if s < 0 then [] else (T.ends[s.toNat]?).getD []) = T.ends[s.toNat] := by rw [if_neg hns, List.getElem?_eq_getElem hlE]; rfl
    rw [e]
    have hin : T.ends[s.toNat] ≠ [] → h[B.eb[s.toNat]]? = some (.cells (intCells T.ends[s.toNat]) 3 true) := fun hne => (H.inner s.toNat T.ends[s.toNat] B.eb[s.toNat] (by simp [hlE]) (by simp [hlB]) hne).1
    have hc := clone_run (b := B.eb[s.toNat]) (l := T.ends[s.toNat]) hin (hsm _ (List.getElem_mem hlE))
    have hcell : (List.zipWith intSl B.eb T.ends)[s.toNat]? = some (intSl B.eb[s.toNat] T.ends[s.toNat]) := by
      simp [List.getElem?_zipWith, List.getElem?_eq_getElem hlE, List.getElem?_eq_getElem hlB]
    refine ⟨h.length, if T.ends[s.toNat] = [] then h else h ++ [.cells (intCells T.ends[s.toNat]) 3 true], D_eq (call34 (R := fun r h' => r = _ ∧ h' = _) (by simp) ?_), ?_, fun hne => ⟨rfl, ?_⟩⟩
    · simp [c34, c34_r0, c34_r1, c34_r2, c34_r3, trie_none H, hs, fieldA, aload, row, h1, h2, aindexAddr, hs0, hs1, hl, hlt, hcell, hc]
      by_cases hne : T.ends[s.toNat] = [] <;> simp [intSl, hne]
    · split
      · exact .refl
      · exact .app
    · rw [if_neg hne]; simp

end
end Go.AM
