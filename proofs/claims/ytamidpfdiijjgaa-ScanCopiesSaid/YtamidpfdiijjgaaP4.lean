/-
  Small functions that the laws share; the trie's functions in plain words.
-/
import Derived.Test.YtamidpfdiijjgaaP3
namespace Go.AM
open Go Go.Proofs
set_option linter.unusedVariables false
set_option linter.unusedSimpArgs false
set_option maxRecDepth 100000

theorem tmod_fix {v n : Int} (hn : 0 < n) : (if v.tmod n < 0 then v.tmod n + n else v.tmod n) = v % n := by
  have h1 : 0 ≤ v % n := Int.emod_nonneg _ (by omega)
  have h2 : v % n < n := Int.emod_lt_of_pos _ hn
  have h3 : v.tmod n = v % n ∨ v.tmod n = v % n - n := by
    rw [Int.tmod_eq_emod]
    split
    · simp
    · right; rw [Int.natAbs_of_nonneg (by omega)]
  have h4 : v.tmod n = v % n - n → v.tmod n < 0 := by omega
  split <;> rcases h3 with h | h
  · omega
  · omega
  · omega
  · omega

theorem place_run {h : Heap} {v n : Int} (hn : 0 < n) (hs : n ≤ 4611686018427387904) : D cfg 29 [.int .i64 v, .int .i64 n] h = some (.int .i64 (v % n), h) := by
  refine D_eq (call29 (R := fun r h' => r = _ ∧ h' = _) (by simp) ?_)
  have hn0 : n ≠ 0 := by omega
  have h1 : 0 ≤ v % n := Int.emod_nonneg _ (by omega)
  have h2 : v % n < n := Int.emod_lt_of_pos _ hn
  have h3 := tmod_fix (v := v) hn
  have h4 : n + v.tmod n = v.tmod n + n := by omega
  by_cases hv : v.tmod n < 0
  · have hw : IntKind.wrap .i64 (v.tmod n + n) = v.tmod n + n := by rw [if_pos hv] at h3; exact wrap_i64 (by omega) (by omega)
    rw [if_pos hv] at h3
    rw [← h3]
    simp [abin_rem, c29, c29_r0, c29_r1, c29_r2, c29_r3, c29_r4, hn0, hv, hw]
  · rw [if_neg hv] at h3
    rw [← h3]
    simp [abin_rem, c29, c29_r0, c29_r1, c29_r2, c29_r3, c29_r4, hn0, hv]

/-- A trie of patterns. -/
structure TrX (h : Heap) (B : TB) (T : TM) (X ps : List Txt) : Prop where
  at_ : TrieAt h B T
  deep : T.deepOK
  model : TModel T X ps

theorem TrX.size {h : Heap} {B : TB} {T : TM} {X ps : List Txt} (H : TrX h B T X ps) : T.size = X.length := H.model.len

theorem TrX.keep {h h' : Heap} {B : TB} {T : TM} {X ps : List Txt} {fp : Nat → Prop} (H : TrX h B T X ps) (ho : Only fp h h') (hf : ∀ b, B.foot T b → ¬ fp b) : TrX h' B T X ps := ⟨H.at_.keep ho hf, H.deep, H.model⟩
theorem TrX.same {h h' : Heap} {B : TB} {T : TM} {X ps : List Txt} (H : TrX h B T X ps) (ho : Only (fun _ => False) h h') : TrX h' B T X ps := H.keep ho fun _ _ => id

theorem places_len {p : Txt} : ∀ {l : List Txt} {i : Nat}, (places p l i).length ≤ l.length
  | [], i => by simp [places]
  | x :: r, i => by
    simp only [places]
    have := places_len (p := p) (l := r) (i := i + 1)
    split <;> simp <;> omega

theorem tr_new {h : Heap} : ∃ B h', D cfg 30 [] h = some (B.ptr, h') ∧ TrX h' B T0 [[]] [] ∧ Only (fun _ => False) h h' ∧ (∀ b, B.foot T0 b → h.length ≤ b) := by
  obtain ⟨B, h', h1, h2, h3, h4⟩ := trie_new (h := h)
  exact ⟨B, h', h1, ⟨h2, by simp [TM.deepOK, T0, TM.size], T0_model⟩, h3, h4⟩

theorem TrX.lens {h : Heap} {B : TB} {T : TM} {X ps : List Txt} (H : TrX h B T X ps) (hp : ps.length ≤ 9000000000000) : ∀ l ∈ T.ends, l.length ≤ 9000000000000 := by
  intro l hl
  rw [H.model.ends] at hl
  simp at hl
  obtain ⟨x, _, rfl⟩ := hl
  have := places_len (p := x) (l := ps) (i := 0)
  omega

/-- 'Add' of a pattern. -/
theorem tr_addB {h : Heap} {B : TB} {T : TM} {X ps : List Txt} (H : TrX h B T X ps) (hX : X.length ≤ 100000) (hp : ps.length ≤ 9000000000000) {p : List UInt8} (hpl : p.length ≤ 9223372036854775807) :
    ∃ B' T' h', D cfg 31 [B.ptr, .str p] h = some (.int .i64 ps.length, h') ∧ B'.ptr = B.ptr ∧ TrX h' B' T' (addFrom X [] (p.take 16)) (ps ++ [p.take 16]) ∧ Only (B.foot T) h h' ∧ (∀ b, B'.foot T' b → B.foot T b ∨ h.length ≤ b) := by
  have h1 := H.size
  have hn := H.model.n
  obtain ⟨B', h', h2, h3, h4, h5, h6, h7⟩ := trie_add H.at_ H.deep (by omega) (by omega) (fun l hl => by have := H.lens hp l hl; omega) hpl
  refine ⟨B', _, h', by rw [← hn]; exact h2, by simp [TB.ptr, h3], ⟨h4, h5, H.model.add p⟩, h6, h7⟩

theorem tr_add {h : Heap} {B : TB} {T : TM} {X ps : List Txt} (H : TrX h B T X ps) (hX : X.length ≤ 100000) (hp : ps.length ≤ 1000) {p : List UInt8} (hpl : p.length ≤ 9223372036854775807) :
    ∃ B' T' h', D cfg 31 [B.ptr, .str p] h = some (.int .i64 ps.length, h') ∧ B'.ptr = B.ptr ∧ TrX h' B' T' (addFrom X [] (p.take 16)) (ps ++ [p.take 16]) ∧ Only (B.foot T) h h' ∧ (∀ b, B'.foot T' b → B.foot T b ∨ h.length ≤ b) := tr_addB H hX (by omega) hpl

section
variable {h : Heap} {B : TB} {T : TM} {X ps : List Txt} (H : TrX h B T X ps)
include H
theorem tr_states : D cfg 32 [B.ptr] h = some (.int .i64 X.length, h) := by rw [trie_states H.at_, H.size]

theorem tr_child {s : Nat} {x : Txt} (hs : X[s]? = some x) {b : UInt8} {c : Nat} (hc : X[c]? = some (x ++ [b])) : D cfg 33 [B.ptr, .int .i64 s, .int .u8 b.toNat] h = some (.tup [.int .i64 c, .bool true], h) := by
  rw [trie_child H.at_, (H.model.child hs).2 hc]
  rfl
theorem tr_child_none {s : Nat} {x : Txt} (hs : X[s]? = some x) {b : UInt8} (hc : x ++ [b] ∉ X) : D cfg 33 [B.ptr, .int .i64 s, .int .u8 b.toNat] h = some (.tup [.int .i64 0, .bool false], h) := by
  rw [trie_child H.at_, (H.model.child_none hs).2 hc]
  rfl
theorem tr_child_off {s : Int} (hs : s < 0 ∨ (X.length : Int) ≤ s) {b : Int} : D cfg 33 [B.ptr, .int .i64 s, .int .u8 b] h = some (.tup [.int .i64 0, .bool false], h) := by
  rw [trie_child H.at_, H.model.child_off hs]
  rfl
theorem tr_depth {s : Nat} {x : Txt} (hs : X[s]? = some x) : D cfg 35 [B.ptr, .int .i64 s] h = some (.int .i64 x.length, h) := by
  rw [trie_depth H.at_, H.model.deep]
  simp [hs]
  omega
theorem tr_depth_off {s : Int} (hs : (X.length : Int) ≤ s) : D cfg 35 [B.ptr, .int .i64 s] h = some (.int .i64 0, h) := by
  rw [trie_depth H.at_, H.model.deep]
  have : X.length ≤ s.toNat := by omega
  simp [this]
theorem tr_parent {s : Nat} {x : Txt} {b : UInt8} (hs : X[s]? = some (x ++ [b])) : ∃ (q : Nat) (h' : Heap), D cfg 37 [B.ptr, .int .i64 s] h = some (.tup [.int .i64 q, .int .u8 b.toNat, .bool true], h') ∧ X[q]? = some x ∧ Only (fun _ => False) h h' := by
  obtain ⟨h', h1, h2⟩ := trie_parent H.at_ (s := s)
  obtain ⟨q, y, b', h3, h4, h5, h6⟩ := H.model.up s _ hs (by simp)
  obtain ⟨e1, e2⟩ := List.append_inj' h6 rfl
  simp at e2
  subst e1
  subst e2
  have hl := (List.getElem?_eq_some_iff.1 hs).1
  have hsz := H.size
  rw [if_neg (by omega)] at h1
  refine ⟨q, h', ?_, h5, h2⟩
  rw [h1]
  simp [h3]
theorem tr_parent_off {s : Int} (hs : s ≤ 0 ∨ (X.length : Int) ≤ s) : ∃ (h' : Heap), D cfg 37 [B.ptr, .int .i64 s] h = some (.tup [.int .i64 0, .int .u8 0, .bool false], h') ∧ Only (fun _ => False) h h' := by
  obtain ⟨h', h1, h2⟩ := trie_parent H.at_ (s := s)
  have hsz := H.size
  rw [if_pos (by omega)] at h1
  exact ⟨h', h1, h2⟩
theorem tr_endsB (hp : ps.length ≤ 9000000000000) {s : Nat} {x : Txt} (hs : X[s]? = some x) : ∃ b h', D cfg 34 [B.ptr, .int .i64 s] h = some (intSl b (places x ps 0), h') ∧ Only (fun _ => False) h h' ∧
    (places x ps 0 ≠ [] → b = h.length ∧ h'[b]? = some (.cells (intCells (places x ps 0)) 3 true)) := by
  obtain ⟨b, h', h1, h2, h3⟩ := trie_ends H.at_ (fun l hl => by have := H.lens hp l hl; omega) (s := s)
  have e : (if (s : Int) < 0 then [] else (T.ends[(s : Int).toNat]?).getD []) = places x ps 0 := by
    rw [if_neg (by omega), H.model.ends]
    simp [hs]
  rw [e] at h1 h3
  exact ⟨b, h', h1, h2, h3⟩
theorem tr_ends (hp : ps.length ≤ 1000) {s : Nat} {x : Txt} (hs : X[s]? = some x) : ∃ b h', D cfg 34 [B.ptr, .int .i64 s] h = some (intSl b (places x ps 0), h') ∧ Only (fun _ => False) h h' ∧
    (places x ps 0 ≠ [] → b = h.length ∧ h'[b]? = some (.cells (intCells (places x ps 0)) 3 true)) := tr_endsB H (by omega) hs
theorem tr_ends_off (hp : ps.length ≤ 1000) {s : Int} (hs : s < 0 ∨ (X.length : Int) ≤ s) : ∃ h', D cfg 34 [B.ptr, .int .i64 s] h = some (.sl none 0 0, h') ∧ Only (fun _ => False) h h' := by
  obtain ⟨b, h', h1, h2, h3⟩ := trie_ends H.at_ (fun l hl => by have := H.lens (by omega) l hl; omega) (s := s)
  have e : (if s < 0 then [] else (T.ends[s.toNat]?).getD []) = [] := by
    split
    · rfl
    · rw [H.model.ends]
      have : X.length ≤ s.toNat := by omega
      simp [this]
  rw [e, intSl_nil] at h1
  exact ⟨h', h1, h2⟩
end

/-- A law's own calls: those of some closed functions forgotten. -/
theorem mixed_D {fs : List FuncId} {F : CallF} {f : FuncId} (hf : fs.contains f = false) {args : List AV} {h : Heap} : mixed fs F f args h = F f args h := by
  simp only [mixed, hf]
  rfl

end Go.AM
