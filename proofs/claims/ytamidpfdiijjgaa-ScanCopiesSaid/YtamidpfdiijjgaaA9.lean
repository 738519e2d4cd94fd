/-
  What 'Build' answers, case by case; 'few'; texts that are copied; what ends at a place of a text.
-/
import Derived.Test.YtamidpfdiijjgaaA8
import Derived.Test.YtamidpfdiijjgaaB1
namespace Go.AM
open Go Go.Proofs
set_option linter.unusedVariables false
set_option linter.unusedSimpArgs false
set_option maxRecDepth 100000

section
variable {h : Heap} {v : AV} {l : List Txt} {bud : Int}

theorem build_bad (hv : Sl1 h v (strCells l)) (hvb : ∀ b, slB v = some b → b < h.length) (hl : l.length ≤ 9000000000000) (hg : bgood l = false) :
    ∃ h', D cfg 52 [v, .int .i64 bud] h = some (.tup [.ptr none, .int .i64 1], h') ∧ Only (fun _ => False) h h' := by
  obtain ⟨r, h', e, o, hr⟩ := build_run (bud := bud) hv hvb hl
  rcases hr with ⟨_, rfl⟩ | ⟨hb, _⟩ | ⟨hb, _⟩
  · exact ⟨h', e, o⟩
  · rw [hg] at hb; simp at hb
  · rw [hg] at hb; simp at hb

theorem build_many (hv : Sl1 h v (strCells l)) (hvb : ∀ b, slB v = some b → b < h.length) (hl : l.length ≤ 9000000000000) (hg : bgood l = true) (hm : bud < ((begs l).length : Int)) :
    ∃ h', D cfg 52 [v, .int .i64 bud] h = some (.tup [.ptr none, .int .i64 9], h') ∧ Only (fun _ => False) h h' := by
  obtain ⟨r, h', e, o, hr⟩ := build_run (bud := bud) hv hvb hl
  rcases hr with ⟨hb, _⟩ | ⟨_, _, rfl⟩ | ⟨_, hb, _⟩
  · rw [hg] at hb; simp at hb
  · exact ⟨h', e, o⟩
  · omega

theorem build_ok (hv : Sl1 h v (strCells l)) (hvb : ∀ b, slB v = some b → b < h.length) (hl : l.length ≤ 9000000000000) (hg : bgood l = true) (hm : ((begs l).length : Int) ≤ bud) (hm2 : (begs l).length ≤ 4096) :
    ∃ B tab fl ob ou h', D cfg 52 [v, .int .i64 bud] h = some (.tup [B.ptr, .int .i64 0], h') ∧ Only (fun _ => False) h h' ∧ AutoX h' B (begs l) l tab fl ob ou ∧ ∀ c, B.foot (begs l).length ob ou c → h.length ≤ c := by
  obtain ⟨r, h', e, o, hr⟩ := build_run (bud := bud) hv hvb hl
  rcases hr with ⟨hb, _⟩ | ⟨_, hb, _⟩ | ⟨_, _, _, B, tab, fl, ob, ou, rfl, A, hf⟩
  · rw [hg] at hb; simp at hb
  · rcases hb with hb | ⟨_, hb⟩ <;> omega
  · exact ⟨B, tab, fl, ob, ou, h', e, o, A, hf⟩

theorem bgood_begs (hg : bgood l = true) : (begs l).length ≤ 1 + 16 * l.length := begs_len fun q hq => (bgood_at hg hq).2

/-! ### few patterns -/

def fewB (n : Nat) (l : List Txt) : Bool := decide (l.length ≤ n) && bgood l

def Fw55 (v : AV) (l : List Txt) (h : Heap) (m : Nat) (σ : St) : Prop :=
  ∃ i, m = l.length - i ∧ i ≤ l.length ∧ i ≤ 20 ∧ σ = ⟨[(0, v), (3, .int .i64 i)], h⟩ ∧ bgood (l.take i) = true

theorem bgood_snoc {a : List Txt} {p : Txt} : bgood (a ++ [p]) = (bgood a && decide (1 ≤ p.length ∧ p.length ≤ 16)) := by simp [bgood]

theorem few_run (hv : Sl1 h v (strCells l)) (hl : l.length ≤ 9223372036854775807) : D cfg 55 [v] h = some (.bool (fewB 20 l), h) := by
  refine D_eq (call55 (R := fun r h' => r = _ ∧ h' = _) (by simp) ?_)
  have hlen := fun L => hv.len (t := 38) (e := 9) (by simp) (L := L)
  simp only [strCells_len] at hlen
  simp [c55, c55_r0, c55_r1]
  refine Wt.loop (Fw55 v l h) (m := l.length) ⟨0, rfl, Nat.zero_le _, by omega, rfl, rfl⟩ ?_
  rintro m σ ⟨i, rfl, hi, hi20, rfl, hg⟩
  have hcut : cut (some [0, 3]) [(0, v), (3, .int .i64 (i : Int))] = [(0, v), (3, .int .i64 i)] := by simp
  simp only [hcut]
  by_cases hil : i < l.length
  · have hil' : (i : Int) < l.length := by omega
    by_cases h20 : i < 20
    · have h20' : (i : Int) < 20 := by omega
      have hwr : IntKind.wrap .i64 ((i : Int) + 1) = i + 1 := wrap_i64 (by omega) (by omega)
      have a1 := hv.at (t := 38) (e := 9) (by simp) (by simp) (i := i) (by rw [strCells_len]; exact hil)
      have b1 := hv.load (e := 9) (by simp) (i := i) (by rw [strCells_len]; exact hil)
      rw [strCells_get, txt_eq] at b1
      have htk : l.take (i + 1) = l.take i ++ [txt l i] := by rw [List.take_succ_eq_append_getElem hil, txt_eq hil]
      by_cases hp : 1 ≤ (txt l i).length ∧ (txt l i).length ≤ 16
      · have hnext : Fw55 v l h (l.length - (i + 1)) ⟨[(0, v), (3, .int .i64 (i + 1 : Nat))], h⟩ := ⟨i + 1, rfl, hil, by omega, rfl, by rw [htk, bgood_snoc, hg]; simp [hp]⟩
        have h1 : ¬ ((txt l i).length < 1) := by omega
        have h2 : ¬ (16 < (txt l i).length) := by omega
        have h3 : ¬ (((txt l i).length : Int) < 1) := by omega
        have h4 : ¬ ((16 : Int) < (txt l i).length) := by omega
        have h5 : ¬ (txt l i = []) := fun e => by rw [e] at h1; simp at h1
        simp [c55_l2, c55_r2, c55_r3, c55_r4, len1, hlen, alen9, hil, hil', h20, h20', a1, b1, h1, h2, h3, h4, h5, hwr]
        exact ⟨l.length - (i + 1), by omega, by simpa using hnext⟩
      · have hbg : fewB 20 l = false := by
          have : bgood l = false := by
            simp only [bgood, List.all_eq_false, decide_eq_true_eq]
            refine ⟨txt l i, ?_, hp⟩
            rw [← txt_eq hil]; exact List.getElem_mem hil
          simp [fewB, this]
        by_cases h1 : (txt l i).length < 1
        · have h0 : txt l i = [] := List.length_eq_zero_iff.1 (by omega)
          simp [c55_l2, c55_r2, c55_r4, c55_r5, len1, hlen, alen9, hil, hil', h20, h20', a1, b1, h0, hbg]
        · have h2 : 16 < (txt l i).length := by omega
          have h3 : ¬ (((txt l i).length : Int) < 1) := by omega
          have h4 : (16 : Int) < (txt l i).length := by omega
          have h5 : ¬ (txt l i = []) := fun e => by rw [e] at h1; simp at h1
          simp [c55_l2, c55_r2, c55_r4, c55_r5, len1, hlen, alen9, hil, hil', h20, h20', a1, b1, h1, h2, h3, h4, h5, hbg]
    · have h20' : ¬ ((i : Int) < 20) := by omega
      have hgt : ¬ (l.length ≤ 20) := by omega
      have hgt' : ¬ ((l.length : Int) ≤ 20) := by omega
      simp [c55_l2, c55_r2, c55_r6, len1, hlen, hil, hil', h20, h20', hgt, hgt', fewB]
  · have : i = l.length := by omega
    subst this
    rw [List.take_length] at hg
    have hle : l.length ≤ 20 := hi20
    have hle' : (l.length : Int) ≤ 20 := by omega
    simp [c55_l2, c55_r2, c55_r6, len1, hlen, hle, hle', fewB, hg]

/-! ### texts, copied -/

theorem Sl1.srcT {h : Heap} {v : AV} {l : List Txt} (H : Sl1 h v (strCells l)) : srcCells Try.prog (look h) 9 v = some (l.length, strCells l) := by
  rcases H with ⟨rfl, e⟩ | ⟨b, o, g, c, cs, rfl, h1, h2⟩
  · have : l = [] := by simpa [strCells] using e
    subst this; rfl
  · simp only [strCells_len] at h2 ⊢
    by_cases hl : l.length = 0
    · have : l = [] := List.length_eq_zero_iff.1 hl
      subst this; simp [srcCells, strCells]
    · have h3 : o + l.length ≤ cs.length := by
        have := congrArg List.length h2
        simp [strCells_len] at this
        omega
      simp [srcCells, hl, slCells, h1, h3, h2]

theorem copy_txt (hv : Sl1 h v (strCells l)) (hl : l.length ≤ 8796093022208) :
    ∃ δ h', append2 Try.prog (look h) h.length 38 38 [.sl none 0 0, v] = some (txtSl h.length l, δ) ∧ h.apply δ = h' ∧ (l.length ≠ 0 → h'[h.length]? = some (.cells (strCells l) 9 true)) ∧ Only (fun _ => False) h h' := by
  have hs := hv.srcT
  by_cases h0 : l.length = 0
  · have : l = [] := List.length_eq_zero_iff.1 h0
    subst this
    exact ⟨.no, h, by simp [append2, aappend, hs, aappendE, txtSl, bufSl], rfl, fun h => absurd rfl h, .refl⟩
  · refine ⟨.new (.cells (strCells l) 9 true), h ++ [.cells (strCells l) 9 true], ?_, rfl, fun _ => by simp, .app⟩
    have hr : l.length * 16 ≤ roomMax := by simp only [roomMax]; omega
    have h6 : l.length ≤ 9223372036854775807 := by omega
    have hne : ¬ (l = []) := fun e => h0 (by rw [e]; rfl)
    simp [append2, aappend, hs, aappendE, txtSl, bufSl, h0, hne, hr, h6, strCells_len]

end

/-! ### what ends at a place of a text -/

theorem outs_app {x : Txt} {q : Txt} : ∀ {l : List Txt} {i : Nat}, outs x (l ++ [q]) i = if q <:+ x then outs x l i ++ [((i + l.length : Nat) : Int)] else outs x l i
  | [], i => by simp [outs]
  | p :: r, i => by
    simp only [List.cons_append, outs, outs_app (l := r), List.length_cons]
    rw [show i + 1 + r.length = i + (r.length + 1) by omega]
    split <;> split <;> simp

theorem suffix_take {p s : Txt} {e : Nat} (he : e ≤ s.length) : p <:+ s.take e ↔ p.length ≤ e ∧ (s.drop (e - p.length)).take p.length = p := by
  constructor
  · intro h
    have h1 := h.length_le
    rw [List.length_take, Nat.min_eq_left he] at h1
    refine ⟨h1, ?_⟩
    have h2 := List.suffix_iff_eq_drop.1 h
    rw [List.length_take, Nat.min_eq_left he, List.drop_take] at h2
    rw [show e - (e - p.length) = p.length by omega] at h2
    exact h2.symm
  · rintro ⟨h1, h2⟩
    rw [List.suffix_iff_eq_drop, List.length_take, Nat.min_eq_left he, List.drop_take, show e - (e - p.length) = p.length by omega, h2]

theorem patAt_plain {p s : Txt} {e : Nat} (he : e ≤ s.length) : patAt p false s e = decide (p <:+ s.take e) := by
  rw [Bool.eq_iff_iff, decide_eq_true_eq, suffix_take he]
  simp [patAt, he]

end Go.AM
