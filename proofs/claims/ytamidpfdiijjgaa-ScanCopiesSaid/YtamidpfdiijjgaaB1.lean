/-
  Slices of texts that grow.
-/
import Derived.Test.YtamidpfdiijjgaaP9
namespace Go.AM
open Go Go.Proofs
set_option linter.unusedVariables false
set_option linter.unusedSimpArgs false
set_option maxRecDepth 100000

def txtSl (b : Nat) (l : List Txt) : AV := bufSl b l.length (strCells l)

theorem Sl1.txt {h : Heap} {b : Nat} {s : Bool} {l : List Txt} (hb : l.length ≠ 0 → h[b]? = some (.cells (strCells l) 9 s)) : Sl1 h (txtSl b l) (strCells l) := by
  have := Sl1.buf (h := h) (b := b) (e := 9) (s := s) (xs := strCells l) (by rw [strCells_len]; exact hb)
  rw [strCells_len] at this
  exact this

/-- A text more. -/
theorem append_txt {h : Heap} {b : Nat} {l : List Txt} {p : Txt} (hb : l.length ≠ 0 → h[b]? = some (.cells (strCells l) 9 true)) (hn : l.length ≤ 1000000) :
    ∃ δ h', append2 Try.prog (look (h ++ [AObj.cells [.str p] 9 true])) (h.length + 1) 38 38 [txtSl b l, .sl (some ⟨h.length, 0, 1⟩) 1 1] = some (txtSl (if l.length = 0 then h.length + 1 else b) (l ++ [p]), δ) ∧ Heap.apply (h ++ [AObj.cells [.str p] 9 true]) δ = h' ∧
      h'[if l.length = 0 then h.length + 1 else b]? = some (.cells (strCells (l ++ [p])) 9 true) ∧ Only (fun c => c = b ∧ l.length ≠ 0) h h' := by
  obtain ⟨δ, h', h1, h2, h3, h4⟩ := append_buf (t := 38) (e := 9) (k := 1) (by simp) (by simp) (by decide) (by simp) (by simp) (h := h) (b := b) (n := l.length) (xs := strCells l) (ys := [.str p]) (by simp) (by simp [strCells]) hb hn
  have e : strCells l ++ [AV.str p] = strCells (l ++ [p]) := by simp [strCells]
  rw [e] at h1 h3
  refine ⟨δ, h', ?_, h2, h3, h4⟩
  simp only [txtSl]
  rw [h1]
  simp

theorem alen9 {L : Look} {s : Txt} : alen Try.prog L 9 (.str s) = some (.int .i64 s.length) := by simp [alen]

theorem begs_len {ps : List Txt} (hp : ∀ p ∈ ps, p.length ≤ 16) : (begs ps).length ≤ 1 + 16 * ps.length := by
  have key : ∀ (ps X : List Txt), (∀ p ∈ ps, p.length ≤ 16) → (ps.foldl (fun X p => addFrom X [] p) X).length ≤ X.length + 16 * ps.length := by
    intro ps
    induction ps with
    | nil => intro X _; simp
    | cons p ps ih =>
      intro X h
      have h1 := ih (addFrom X [] p) fun q hq => h q (List.mem_cons_of_mem _ hq)
      have h2 := addFrom_len (r := p) (X := X) (x := [])
      have h3 := h p (List.mem_cons_self ..)
      simp only [List.foldl_cons, List.length_cons]
      omega
  exact key ps _ hp

theorem txtSl_nil {b : Nat} : txtSl b [] = .sl none 0 0 := rfl
theorem txtSl_len {L : Look} {b : Nat} {l : List Txt} : alen Try.prog L 38 (txtSl b l) = some (.int .i64 l.length) := by
  unfold txtSl bufSl
  split
  · rename_i e; simp [alen, e]
  · simp [alen]
theorem intSl_lenA {L : Look} {b : Nat} {l : List Int} : alen Try.prog L 30 (intSl b l) = some (.int .i64 l.length) := by
  unfold intSl
  split
  · rename_i e; simp [alen, e]
  · simp [alen]

structure PatH (h₀ : Heap) (l : List Txt) (b : Nat) (h : Heap) : Prop where
  at_ : l.length ≠ 0 → h[b]? = some (.cells (strCells l) 9 true) ∧ h₀.length ≤ b
  only : Only (fun _ => False) h₀ h

theorem PatH.step {h₀ h : Heap} {l : List Txt} {b : Nat} (H : PatH h₀ l b h) (hn : l.length ≤ 1000000) {p : Txt} :
    ∃ δ h' b', append2 Try.prog (look (h ++ [AObj.cells [.str p] 9 true])) (h.length + 1) 38 38 [txtSl b l, .sl (some ⟨h.length, 0, 1⟩) 1 1] = some (txtSl b' (l ++ [p]), δ) ∧ Heap.apply (h ++ [AObj.cells [.str p] 9 true]) δ = h' ∧ PatH h₀ (l ++ [p]) b' h' := by
  obtain ⟨δ, h', e1, e2, e3, e4⟩ := append_txt (h := h) (b := b) (l := l) (p := p) (fun hne => (H.at_ hne).1) hn
  refine ⟨δ, h', _, e1, e2, fun _ => ⟨e3, ?_⟩, H.only.fresh e4 fun c hc => by rw [hc.1]; exact (H.at_ hc.2).2⟩
  have := H.only.1
  split
  · omega
  · rename_i hne; exact (H.at_ hne).2

end Go.AM
