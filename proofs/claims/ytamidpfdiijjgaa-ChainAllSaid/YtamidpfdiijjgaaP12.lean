/-
  Slices of contents that come in, opened.
-/
import Derived.Test.YtamidpfdiijjgaaP11
import Derived.Test.YtamidpfdiijjgaaS5
import Derived.ChangeArms
import Derived.ChangeOld
namespace Go.AM
open Go Go.Proofs Go.RowKit Go.ChangeShapes Go.WideShapes
set_option linter.unusedVariables false
set_option linter.unusedSimpArgs false

def contCells (l : List Cont) : List AV := l.flatMap contCell
def Cont.wf (c : Cont) : Prop := c.bytes.length ≤ 9223372036854775807

theorem one_at {cs : List Value} {k : Nat} {v : Value} (h : (cs.drop k).take 1 = [v]) : cs[k]? = some v := by
  have := congrArg (fun l : List Value => l[0]?) h
  simpa [List.getElem?_take, List.getElem?_drop] using this

theorem cont_at {H : Type} {enc : TypeId × Value → H} {w : World} {base n : Nat} {spare : Nat → Bool} {held : Bool} {cs : List Value} {y : DataW H × List MemPlace} (h : DataW.trod enc Try.prog w base spare held n 52 cs = some y) :
    ∃ c : Cont, c.wf ∧ ∀ (j : Nat) (x : AV), (contCell c)[j]? = some x → ∃ v, cs[j]? = some v ∧ ∀ ι, Vc ι x v := by
  obtain ⟨xs, m, rfl, _, hlen, hxs, hf⟩ := DataW.trod_struct Try.underlying52 h
  have hxs8 : xs.length = 8 := hxs
  have c9 : Try.prog.cellsOf 9 = 1 := by kernel_rfl
  have c4 : Try.prog.cellsOf 4 = 1 := by kernel_rfl
  have c3 : Try.prog.cellsOf 3 = 1 := by kernel_rfl
  have at' : ∀ i, i < 8 → ∃ z, xs[i]? = some z := fun i hi => ⟨_, List.getElem?_eq_getElem (by omega)⟩
  have str : ∀ (i : Nat) (z : DataW H × List MemPlace) (k : Nat), DataW.trod enc Try.prog w base spare held m 9 ((cs.drop k).take (Try.prog.cellsOf 9)) = xs[i]? → xs[i]? = some z → ∃ s : ByteArray, cs[k]? = some (.string s) ∧ s.size ≤ maxLen := by
    intro i z k h1 h2
    rw [h2, c9] at h1
    obtain ⟨s, h3, _, h4⟩ := DataW.trod_string Try.underlying9 h1
    exact ⟨s, one_at h3, h4⟩
  have boo : ∀ (i : Nat) (z : DataW H × List MemPlace) (k : Nat), DataW.trod enc Try.prog w base spare held m 4 ((cs.drop k).take (Try.prog.cellsOf 4)) = xs[i]? → xs[i]? = some z → ∃ b : Bool, cs[k]? = some (.bool b) := by
    intro i z k h1 h2
    rw [h2, c4] at h1
    obtain ⟨b, h3, _⟩ := DataW.trod_bool Try.underlying4 h1
    exact ⟨b, one_at h3⟩
  have num : ∀ (i : Nat) (z : DataW H × List MemPlace) (k : Nat), DataW.trod enc Try.prog w base spare held m 3 ((cs.drop k).take (Try.prog.cellsOf 3)) = xs[i]? → xs[i]? = some z → ∃ n : Int, cs[k]? = some (.int .i64 n) := by
    intro i z k h1 h2
    rw [h2, c3] at h1
    obtain ⟨n, h3, _⟩ := DataW.trod_int Try.underlying3 h1
    exact ⟨n, one_at h3⟩
  obtain ⟨z0, g0⟩ := at' 0 (by omega)
  obtain ⟨z1, g1⟩ := at' 1 (by omega)
  obtain ⟨z2, g2⟩ := at' 2 (by omega)
  obtain ⟨z3, g3⟩ := at' 3 (by omega)
  obtain ⟨z4, g4⟩ := at' 4 (by omega)
  obtain ⟨z5, g5⟩ := at' 5 (by omega)
  obtain ⟨z6, g6⟩ := at' 6 (by omega)
  obtain ⟨z7, g7⟩ := at' 7 (by omega)
  obtain ⟨s, k0, hs⟩ := str 0 z0 0 (hf 0 _ rfl) g0
  obtain ⟨b1, k1⟩ := boo 1 z1 1 (hf 1 _ rfl) g1
  obtain ⟨b2, k2⟩ := boo 2 z2 2 (hf 2 _ rfl) g2
  obtain ⟨n3, k3⟩ := num 3 z3 3 (hf 3 _ rfl) g3
  obtain ⟨n4, k4⟩ := num 4 z4 4 (hf 4 _ rfl) g4
  obtain ⟨b5, k5⟩ := boo 5 z5 5 (hf 5 _ rfl) g5
  obtain ⟨n6, k6⟩ := num 6 z6 6 (hf 6 _ rfl) g6
  obtain ⟨n7, k7⟩ := num 7 z7 7 (hf 7 _ rfl) g7
  refine ⟨⟨s.data.toList, b1, b2, n3, n4, b5, n6, n7⟩, ?_, fun j x hx => ?_⟩
  · simp [Cont.wf]
    simp [maxLen] at hs
    exact hs
  · match j, hx with
    | 0, hx => simp at hx; subst hx; exact ⟨_, k0, fun ι => by simp [Vc, Vp]⟩
    | 1, hx => simp at hx; subst hx; exact ⟨_, k1, fun ι => by simp [Vc, Vp]⟩
    | 2, hx => simp at hx; subst hx; exact ⟨_, k2, fun ι => by simp [Vc, Vp]⟩
    | 3, hx => simp at hx; subst hx; exact ⟨_, k3, fun ι => by simp [Vc, Vp]⟩
    | 4, hx => simp at hx; subst hx; exact ⟨_, k4, fun ι => by simp [Vc, Vp]⟩
    | 5, hx => simp at hx; subst hx; exact ⟨_, k5, fun ι => by simp [Vc, Vp]⟩
    | 6, hx => simp at hx; subst hx; exact ⟨_, k6, fun ι => by simp [Vc, Vp]⟩
    | 7, hx => simp at hx; subst hx; exact ⟨_, k7, fun ι => by simp [Vc, Vp]⟩
    | j + 8, hx => simp at hx

theorem add_add {w : World} {a : Addr} {x y : Nat} {v : Value} (h : w.cell? ((a.add x).add y) = some v) : w.cell? (a.add (x + y)) = some v := by
  unfold Addr.add at h ⊢
  by_cases hx : x = 0
  · subst hx
    simpa using h
  · by_cases hy : y = 0
    · subst hy
      simpa [hx] using h
    · simp only [hx, hy, if_false, show ¬ (x + y = 0) by omega, Nat.add_assoc] at h ⊢
      exact h

theorem contCells_at : ∀ {l : List Cont} {o : Nat} {x : AV}, (contCells l)[o]? = some x → ∃ i c j, l[i]? = some c ∧ (contCell c)[j]? = some x ∧ o = i * 8 + j
  | [], o, x, h => by simp [contCells] at h
  | c :: r, o, x, h => by
    simp only [contCells, List.flatMap_cons] at h
    by_cases ho : o < 8
    · rw [List.getElem?_append_left (by simpa [contCell] using ho)] at h
      exact ⟨0, c, o, rfl, h, by omega⟩
    · rw [List.getElem?_append_right (by simp [contCell]; omega)] at h
      have hl : (contCell c).length = 8 := by simp [contCell]
      rw [hl] at h
      obtain ⟨i, d, j, h1, h2, h3⟩ := contCells_at (l := r) (o := o - 8) h
      exact ⟨i + 1, d, j, by simpa using h1, h2, by omega⟩

theorem contCells_len {l : List Cont} : (contCells l).length = l.length * 8 := by
  induction l with
  | nil => rfl
  | cons c r ih => simp only [contCells, List.flatMap_cons, List.length_append, List.length_cons] at ih ⊢; rw [ih]; simp [contCell]; omega

theorem in_conts {H : Type} {enc : TypeId × Value → H} {w : World} (ht : Try.prog.underlying 42 = some (.slice 52)) {a : Option Addr} {len cap : Nat} {d : DataW H} {ps : List MemPlace}
    (h : DataW.Trod enc Try.prog w 0 (fun _ => true) true 42 (.slice a len cap) d ps) : ∃ zs : List Cont, SliceIn w 8 a len cap (contCells zs) ∧ ∀ c ∈ zs, c.wf := by
  obtain ⟨fuel, hf⟩ := h
  have c52 : Try.prog.cellsOf 52 = 8 := by kernel_rfl
  rcases DataW.trod_slice ht hf with ⟨hcs, _⟩ | ⟨x, l, c, elems, rest, n, _, hcs, _, _, hl, hm, hel, he, hr, _⟩
  · simp [Value.cells] at hcs
    obtain ⟨rfl, rfl, rfl⟩ := hcs
    exact ⟨[], .inl ⟨rfl, rfl, rfl, rfl⟩, by simp⟩
  · simp [Value.cells] at hcs
    obtain ⟨rfl, rfl, rfl⟩ := hcs
    obtain ⟨hrl, hr2⟩ := hr rfl
    rw [c52] at he hr2
    have one : ∀ i, i < cap → ∃ z, (w.cells? 0 (x.add (i * 8)) 8).bind (DataW.trod enc Try.prog w 0 (fun _ => true) true n 52) = some z := by
      intro i hi
      by_cases hil : i < len
      · exact ⟨_, (he i hil).trans (List.getElem?_eq_getElem (by omega))⟩
      · have := hr2 (i - len) (by omega)
        rw [show len + (i - len) = i by omega] at this
        exact ⟨_, this.trans (List.getElem?_eq_getElem (by omega))⟩
    have each : ∀ i, ∃ c : Cont, i < cap → c.wf ∧ ∀ (j : Nat) (y : AV), (contCell c)[j]? = some y → ∃ v, w.cell? (x.add (i * 8 + j)) = some v ∧ ∀ ι, Vc ι y v := by
      intro i
      by_cases hi : i < cap
      · obtain ⟨z, hz⟩ := one i hi
        rw [Option.bind_eq_some_iff] at hz
        obtain ⟨cs, h1, h2⟩ := hz
        obtain ⟨_, hcl, hcell⟩ := World.cells?_some h1
        obtain ⟨c, h3, h4⟩ := cont_at h2
        refine ⟨c, fun _ => ⟨h3, fun j y hy => ?_⟩⟩
        obtain ⟨v, h5, h6⟩ := h4 j y hy
        have hj : j < 8 := by rw [← hcl]; exact (List.getElem?_eq_some_iff.1 h5).1
        refine ⟨v, add_add ?_, h6⟩
        rw [hcell j hj, h5]
      · exact ⟨⟨[], false, false, 0, 0, false, 0, 0⟩, fun h => absurd h hi⟩
    obtain ⟨D, hD⟩ := Classical.axiomOfChoice each
    refine ⟨(List.range cap).map D, .inr ⟨_, rfl, hl, hm, by rw [contCells_len]; simp, ?_⟩, fun c hc => ?_⟩
    · intro o y hy
      obtain ⟨i, c, j, h1, h2, rfl⟩ := contCells_at hy
      simp only [List.getElem?_map] at h1
      have hi : i < cap := by
        by_cases hi : i < cap
        · exact hi
        · rw [List.getElem?_eq_none (by simp; omega)] at h1; simp at h1
      rw [List.getElem?_range hi] at h1
      simp at h1
      subst h1
      exact (hD i hi).2 j y h2
    · simp at hc
      obtain ⟨i, hi, rfl⟩ := hc
      exact (hD i hi).1

/-- What it reads as. -/
theorem SliceIn.conts {w : World} {a : Option Addr} {len cap : Nat} {l : List Cont} (h : SliceIn w 8 a len cap (contCells l)) {rows : List InRow} {b : Nat} (hb : rows[b]? = some (inRow a (contCells l))) :
    SlC (rowsH rows) (inSl b a len cap (contCells l)) (l.take len) := by
  rcases h with ⟨rfl, rfl, rfl, hx⟩ | ⟨x, rfl, h1, h2, h3, h4⟩
  · exact .inl ⟨rfl, by simp⟩
  · rw [contCells_len] at h3
    have hl : (l.take len).length = len := by simp; omega
    refine .inr ⟨b, (contCells l).length, cap, contCells l, ?_, ?_, fun i c hc => ?_⟩
    · rw [hl]; rfl
    · simp [AM.row, look_at, rowsH, hb, inRow]
    · have hi := (List.getElem?_eq_some_iff.1 hc).1
      rw [hl] at hi
      rw [List.getElem?_take, if_pos hi] at hc
      have key : ∀ (l : List Cont) i c, l[i]? = some c → ((contCells l).drop (i * 8)).take 8 = contCell c := by
        intro l
        induction l with
        | nil => intro i c h; simp at h
        | cons d r ih =>
          intro i c h
          cases i with
          | zero => simp at h; subst h; rfl
          | succ i =>
            have := ih i c (by simpa using h)
            rw [← this, show (i + 1) * 8 = 8 + i * 8 by omega, ← List.drop_drop]
            rfl
      exact key l i c hc

end Go.AM
