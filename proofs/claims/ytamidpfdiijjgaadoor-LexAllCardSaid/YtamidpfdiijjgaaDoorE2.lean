/-
  A text under way: take (18), put (34).
-/
import Derived.Test.YtamidpfdiijjgaaDoorE1
namespace Go.AM
open Go Go.Proofs
set_option linter.unusedVariables false
set_option linter.unusedSimpArgs false
set_option maxRecDepth 100000

structure Tok where
  kind : Int
  s : Txt
  n : Int
  line : Int
  deriving DecidableEq

def tokC (t : Tok) : List AV := [.int .i64 t.kind, .str t.s, .int .i64 t.n, .int .i64 t.line]
def toksC (l : List Tok) : List AV := l.flatMap tokC
theorem toksC_len : ∀ {l : List Tok}, (toksC l).length = l.length * 4
  | [] => rfl
  | t :: l => by
    have := toksC_len (l := l)
    simp only [toksC, List.flatMap_cons, List.length_append, List.length_cons] at this ⊢
    rw [this]; simp [tokC]; omega
theorem toksC_snoc {l : List Tok} {t : Tok} : toksC (l ++ [t]) = toksC l ++ tokC t := by simp [toksC]

def toksSl (B : Nat) (l : List Tok) : AV := bufSl B l.length (toksC l)

abbrev Nw (n0 : Nat) (h h' : Heap) : Prop := Only (fun c => n0 ≤ c) h h'

structure TextAt (n0 : Nat) (h : Heap) (b B : Nat) (s : Txt) (line : Int) (l : List Tok) : Prop where
  lo : n0 ≤ b
  obj : h[b]? = some (.cells [.str s, .int .i64 line, toksSl B l] 47 false)
  sl : l.length ≠ 0 → n0 ≤ B ∧ h[B]? = some (.cells (toksC l) 30 true)

abbrev tp (b : Nat) : AV := .ptr (some ⟨b, 0, 3⟩)

theorem TextAt.same {n0 b B : Nat} {h h' : Heap} {s : Txt} {line : Int} {l : List Tok} (H : TextAt n0 h b B s line l) (ho : Only (fun _ => False) h h') : TextAt n0 h' b B s line l :=
  ⟨H.lo, ho.at H.obj id, fun hl => ⟨(H.sl hl).1, ho.at (H.sl hl).2 id⟩⟩

theorem Only.nw {n0 : Nat} {h h' : Heap} (ho : Only (fun _ => False) h h') : Nw n0 h h' := ho.mono fun _ _ h => h.elim

theorem toksSl_one {B : Nat} {l : List Tok} : AV.one (toksSl B l) = true := by
  unfold toksSl bufSl; split <;> rfl
theorem toksSl_cells {B : Nat} {l : List Tok} : AV.cells (toksSl B l) = [toksSl B l] := by
  unfold toksSl bufSl; split <;> rfl
theorem toksSl_tup {B : Nat} {l : List Tok} : AV.notTup (toksSl B l) = true := by
  unfold toksSl bufSl; split <;> rfl

section
variable {n0 b B : Nat} {h : Heap} {s : Txt} {line : Int} {l : List Tok}

theorem TextAt.ldS (H : TextAt n0 h b B s line l) : aload Tryd.prog (look h) 9 (.ptr (some ⟨b, 0, 3⟩)) = some (.str s) := by
  simp [aload, row, look_at, H.obj]
theorem TextAt.ldN (H : TextAt n0 h b B s line l) : aload Tryd.prog (look h) 3 (.ptr (some ⟨b, 1, 3⟩)) = some (.int .i64 line) := by
  simp [aload, row, look_at, H.obj]
theorem TextAt.ldL (H : TextAt n0 h b B s line l) : aload Tryd.prog (look h) 22 (.ptr (some ⟨b, 2, 3⟩)) = some (toksSl B l) := by
  simp [aload, row, look_at, H.obj]

theorem take18o (H : TextAt n0 h b B s line l) {n : Nat} (hn : n ≤ s.length) :
    ∃ h', D cfg 18 [tp b, .int .i64 n] h = some (.str (s.take n), h') ∧ TextAt n0 h' b B (s.drop n) line l ∧ Nw n0 h h' ∧ ∃ o, h' = h.set b o := by
  have key : ∃ r h', D cfg 18 [tp b, .int .i64 n] h = some (r, h') ∧ (r = .str (s.take n) ∧ h' = h.set b (.cells [.str (s.drop n), .int .i64 line, toksSl B l] 47 false)) := by
    refine call18 (R := fun r h' => r = _ ∧ h' = _) (args := [tp b, .int .i64 n]) (h := h) (by simp) ?_
    have hn' : (n : Int) ≤ s.length := by omega
    have e1 : List.take (s.length - n) (List.drop n s) = List.drop n s := List.take_of_length_le (by simp)
    simp [c18, c18_r0, c18_r1, c18_r2, c18_r3, H.ldS, fieldA, aslice, bound, hn', hn, e1, astore, look_at, H.obj]
  obtain ⟨r, h', h1, rfl, rfl⟩ := key
  have hb := lt_of_at H.obj
  refine ⟨_, h1, ⟨H.lo, at_same hb, fun hl => ⟨(H.sl hl).1, ?_⟩⟩, .set H.lo, _, rfl⟩
  by_cases hne : b = B
  · subst hne
    have h1 := H.obj
    have h2 := (H.sl hl).2
    rw [h1] at h2
    simp at h2
  · rw [at_other hne]
    exact (H.sl hl).2

theorem take18 (H : TextAt n0 h b B s line l) {n : Nat} (hn : n ≤ s.length) :
    ∃ h', D cfg 18 [tp b, .int .i64 n] h = some (.str (s.take n), h') ∧ TextAt n0 h' b B (s.drop n) line l ∧ Nw n0 h h' := by
  obtain ⟨h', h1, h2, h3, _⟩ := take18o H hn
  exact ⟨h', h1, h2, h3⟩


theorem put34 (H : TextAt n0 h b B s line l) {k n : Int} {w : Txt} (hl : l.length ≤ 100000) (hn0 : n0 ≤ h.length) :
    ∃ h' B', D cfg 34 [tp b, .int .i64 k, .str w, .int .i64 n] h = some (.tup [], h') ∧ TextAt n0 h' b B' s line (l ++ [⟨k, w, n, line⟩]) ∧ Nw n0 h h' := by
  obtain ⟨δ, h', e1, e2, e3, e4⟩ := append_buf (t := 22) (e := 30) (k := 4) (by simp) (by simp) (by decide) (by simp) (by simp) (h := h) (b := B) (n := l.length) (xs := toksC l) (ys := tokC ⟨k, w, n, line⟩) (by simp [tokC]) toksC_len (fun hl => (H.sl hl).2) (by omega)
  have hbB : l.length ≠ 0 → b ≠ B := fun hne e => by
    subst e
    have h1 := H.obj
    rw [(H.sl hne).2] at h1
    simp at h1
  obtain ⟨B', hB'⟩ : ∃ B', B' = if l.length = 0 then h.length + 1 else B := ⟨_, rfl⟩
  rw [← hB'] at e1 e3
  have e1' : append2 Tryd.prog (look (h ++ [AObj.cells [AV.int IntKind.i64 k, AV.str w, AV.int IntKind.i64 n, AV.int IntKind.i64 line] 30 true])) (h.length + 1) 22 22 [toksSl B l, AV.sl (some { b := h.length, off := 0, gen := 4 }) 1 1] =
      some (toksSl B' (l ++ [⟨k, w, n, line⟩]), δ) := by
    rw [← toksC_snoc] at e1
    simpa [toksSl, tokC] using e1
  have e2' : (h ++ [AObj.cells [AV.int IntKind.i64 k, AV.str w, AV.int IntKind.i64 n, AV.int IntKind.i64 line] 30 true]).apply δ = h' := e2
  have hob : h'[b]? = some (.cells [.str s, .int .i64 line, toksSl B l] 47 false) := e4.at H.obj fun e => hbB e.2 e.1
  have key : ∃ r h'', D cfg 34 [tp b, .int .i64 k, .str w, .int .i64 n] h = some (r, h'') ∧ (r = .tup [] ∧ h'' = h'.set b (.cells [.str s, .int .i64 line, toksSl B' (l ++ [⟨k, w, n, line⟩])] 47 false)) := by
    refine call34 (R := fun r h' => r = _ ∧ h' = _) (args := [tp b, .int .i64 k, .str w, .int .i64 n]) (h := h) (by simp) ?_
    simp [-AV.cells, -AV.one, -AV.notTup, c34, c34_r0, H.ldL, H.ldN, fieldA, abuild, abuildSlice, afill, zeros, splice, cells_agg, cells_int, cells_str, one_int, one_str, one_agg, e1', e2', astore, look_at, hob, toksSl_one, toksSl_cells]
  obtain ⟨r, h'', h1, rfl, rfl⟩ := key
  have hlb := lt_of_at hob
  have hlo := H.lo
  have hlb0 := lt_of_at H.obj
  have hne : b ≠ B' := by
    by_cases hl0 : l.length = 0
    · rw [hB', if_pos hl0]; omega
    · rw [hB', if_neg hl0]; exact hbB hl0
  refine ⟨_, B', h1, ⟨H.lo, at_same hlb, fun hl => ⟨?_, ?_⟩⟩, (e4.mono fun c hc e => ?_).trans (.set H.lo)⟩
  · by_cases hl0 : l.length = 0
    · rw [hB', if_pos hl0]; omega
    · rw [hB', if_neg hl0]; exact (H.sl hl0).1
  · rw [at_other hne, e3, toksC_snoc]
  · rw [e.1]; exact (H.sl e.2).1
end

end Go.AM
