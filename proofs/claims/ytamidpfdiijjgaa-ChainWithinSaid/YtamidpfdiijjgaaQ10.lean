/-
  The law ChainWithin returns true.
-/
import Derived.Test.YtamidpfdiijjgaaQ9
import Derived.Test.YtamidpfdiijjgaaL10
namespace Go.AM
open Go Go.Proofs
set_option linter.unusedVariables false
set_option linter.unusedSimpArgs false
set_option maxRecDepth 100000

/-! ### the plain law -/

def contA : Cont := ⟨[97], false, false, 0, 0, false, 0, 0⟩
def contB (d w : Int) : Cont := ⟨[98], false, false, 0, 0, true, d, w⟩
def textW (g : Nat) : Txt := 97 :: (List.replicate g 46 ++ [98])

theorem textW_len {g : Nat} : (textW g).length = g + 2 := by simp [textW]

theorem textW_at {g i : Nat} (hi : i < g + 2) : (textW g)[i]? = some (if i = 0 then 97 else if i = g + 1 then 98 else 46) := by
  unfold textW
  cases i with
  | zero => rfl
  | succ i =>
    rw [List.getElem?_cons_succ]
    by_cases h : i < g
    · rw [List.getElem?_append_left (by simpa using h)]
      have h2 : i ≠ g := by omega
      simp [h, h2]
    · have : i = g := by omega
      subst this
      rw [List.getElem?_append_right (by simp)]
      simp

theorem pat_one {b : UInt8} {s : Txt} {e : Nat} : patAt [b] false s e = decide (1 ≤ e ∧ s[e - 1]? = some b) := by
  rw [patAt_plain]
  by_cases h1 : 1 ≤ e
  · by_cases h2 : e ≤ s.length
    · have h3 : e - 1 < s.length := by omega
      have h4 : (List.drop (e - 1) s).take 1 = [s[e - 1]] := by rw [List.drop_eq_getElem_cons h3]; rfl
      have h5 : s[e - 1]? = some s[e - 1] := List.getElem?_eq_getElem h3
      show (decide (1 ≤ e) && decide (e ≤ s.length) && decide (List.take 1 (List.drop (e - 1) s) = [b])) = _
      rw [h4, h5]
      simp [h1, h2]
    · have h5 : s[e - 1]? = none := List.getElem?_eq_none (by omega)
      simp [h2, h5]
  · simp [h1]

theorem endsA {g e : Nat} (he : e < (textW g).length + 1) : endsAt contA (textW g) e = decide (e = 1 ∧ True) := by
  rw [textW_len] at he
  have h : endsAt contA (textW g) e = (patAt [97] false (textW g) e && (decide ((0 : Int) ≤ (e : Int) - ((1 : Nat) : Int)) && (decide ((0 : Int) ≤ 0) || decide ((e : Int) ≤ 0 + 0)))) := rfl
  rw [h, pat_one, Bool.eq_iff_iff]
  simp only [Bool.and_eq_true, Bool.or_eq_true, decide_eq_true_eq]
  constructor
  · rintro ⟨⟨h1, h2⟩, h3, h4⟩
    rw [textW_at (by omega)] at h2
    by_cases hx : e - 1 = 0
    · exact ⟨by omega, trivial⟩
    · by_cases hy : e - 1 = g + 1 <;> simp [hx, hy] at h2
  · rintro ⟨rfl, _⟩
    exact ⟨⟨by omega, by rw [textW_at (by omega)]; rfl⟩, by omega, .inl (by omega)⟩

theorem endsB2 {g e : Nat} {d w : Int} (he : e < (textW g).length + 1) : endsAt (contB d w) (textW g) e = decide (e = g + 2) := by
  rw [textW_len] at he
  have h : endsAt (contB d w) (textW g) e = (patAt [98] false (textW g) e && true) := rfl
  rw [h, pat_one, Bool.eq_iff_iff]
  simp only [Bool.and_true, decide_eq_true_eq]
  constructor
  · rintro ⟨h1, h2⟩
    rw [textW_at (by omega)] at h2
    by_cases hx : e - 1 = 0
    · simp [hx] at h2
    · by_cases hy : e - 1 = g + 1
      · omega
      · simp [hx, hy] at h2
  · rintro rfl
    refine ⟨by omega, ?_⟩
    rw [textW_at (by omega)]
    simp

def wantW (g : Nat) (d w : Int) : Prop := d ≤ g ∧ (w ≤ 0 ∨ (g : Int) + 1 ≤ d + w)
instance {g : Nat} {d w : Int} : Decidable (wantW g d w) := by unfold wantW; infer_instance

theorem followsW {g : Nat} {d w : Int} : followsB (contB d w) 1 ((g + 2 : Nat) : Int) = decide (wantW g d w) := by
  have h : followsB (contB d w) 1 ((g + 2 : Nat) : Int) = (decide ((1 : Int) ≤ ((g + 2 : Nat) : Int)) && decide ((1 : Int) + d ≤ ((g + 2 : Nat) : Int) - ((1 : Nat) : Int)) && (decide (w ≤ 0) || decide (((g + 2 : Nat) : Int) ≤ 1 + d + w))) := rfl
  rw [h, Bool.eq_iff_iff]
  simp only [Bool.and_eq_true, Bool.or_eq_true, decide_eq_true_eq]
  unfold wantW
  constructor
  · rintro ⟨⟨h1, h2⟩, h3⟩
    omega
  · rintro ⟨h1, h2⟩
    exact ⟨⟨by omega, by omega⟩, by omega⟩

theorem endsAllW {g : Nat} {d w : Int} : (endsAll [contA, contB d w] (textW g)).1 = [[1], if wantW g d w then [((g + 2 : Nat) : Int)] else []] := by
  have h1 : ∀ ah, hits contA (textW g) ah ((textW g).length + 1) = [1] := fun ah => by
    rw [hits_one (a := 1) (p := True) (fun e he => by rw [hitB, endsA he]; simp [contA]) (by rw [textW_len]; omega)]
    simp
  have h2 : hits (contB d w) (textW g) [1] ((textW g).length + 1) = if wantW g d w then [((g + 2 : Nat) : Int)] else [] := by
    rw [hits_one (a := g + 2) (p := wantW g d w) (fun e he => ?_) (by rw [textW_len]; omega)]
    rw [hitB, endsB2 he]
    by_cases hx : e = g + 2
    · subst hx
      have : (contB d w).rel = true := rfl
      simp only [this, behindB, List.any_cons, List.any_nil, Bool.or_false, followsW]
      simp
    · simp [hx]
  have n1 : contA.not = false := rfl
  have n2 : (contB d w).not = false := rfl
  simp only [endsAll, List.foldl_cons, List.foldl_nil, endsStep, n1, n2]
  simp [h1, h2]

theorem neverW {g : Nat} {d w : Int} : neverC [contA, contB d w] (textW g) = none := neverC_noNot (by simp [contA, contB])

theorem firstW {g : Nat} {d w : Int} : firstC [contA, contB d w] (textW g) = if wantW g d w then ((g : Int) + 2, true) else (0, false) := by
  simp only [firstC, endsAllW, neverW]
  by_cases h : wantW g d w
  · simp only [if_pos h]
    simp [noEmpty, heads]
    omega
  · simp only [if_neg h]
    simp [noEmpty]

theorem holdsW {g : Nat} {d w : Int} : holdsC [contA, contB d w] (textW g) = decide (wantW g d w) := by
  simp only [holdsC, endsAllW, neverW]
  by_cases h : wantW g d w
  · simp [h, noEmpty]
  · simp [h, noEmpty]

theorem smallW {d w : Int} (hd : -1000000 ≤ d ∧ d ≤ 1000000) (hw : -1000000 ≤ w ∧ w ≤ 1000000) : ∀ c ∈ [contA, contB d w], c.small := by
  intro c hc
  simp at hc
  rcases hc with rfl | rfl
  · constructor <;> simp [contA]
  · constructor <;> simp [contB] <;> omega

/-! ### the walk -/

theorem within_walk {gap distance within : Int} : Wt Try.prog F16 c10 ⟨argsEnv 0 [.int .i64 gap, .int .i64 distance, .int .i64 within], []⟩ (Ends Try.prog [.tmp 6] fun r _ => r = .bool true) := by
  have p1 := place_run (h := []) (v := gap) (n := 12) (by decide) (by decide)
  have p2 := place_run (h := []) (v := distance) (n := 16) (by decide) (by decide)
  have p3 := place_run (h := []) (v := within) (n := 14) (by decide) (by decide)
  obtain ⟨g, hg⟩ : ∃ k : Nat, gap % 12 = k := ⟨(gap % 12).toNat, by omega⟩
  obtain ⟨d, hd⟩ : ∃ d : Int, d = distance % 16 - 4 := ⟨_, rfl⟩
  obtain ⟨w, hw⟩ : ∃ w : Int, w = within % 14 := ⟨_, rfl⟩
  have hg1 : g < 12 := by omega
  have hd1 : -4 ≤ d ∧ d < 12 := by omega
  have hw1 : 0 ≤ w ∧ w < 14 := by omega
  rw [hg] at p1
  rw [← hw] at p3
  have hwd : IntKind.wrap .i64 (distance % 16 - 4) = d := by rw [← hd]; exact wrap_i64 (by omega) (by omega)
  have htake : List.take g ([46, 46, 46, 46, 46, 46, 46, 46, 46, 46, 46, 46] : List UInt8) = List.replicate g 46 := by
    have : ([46, 46, 46, 46, 46, 46, 46, 46, 46, 46, 46, 46] : List UInt8) = List.replicate 12 46 := rfl
    rw [this, List.take_replicate]
    congr 1
    omega
  have hgk : (g : Int) ≤ 12 := by omega
  have hgk' : g ≤ 12 := by omega
  have hadd : ∀ a b : Txt, a.length + b.length ≤ 1000 → abin TK.str .add (.str a) (.str b) = some (.str (a ++ b)) := fun a b hl => by simp [abin]; omega
  have hadd1 := hadd [97] (List.replicate g 46) (by simp; omega)
  have hadd2 := hadd ([97] ++ List.replicate g 46) [98] (by simp; omega)
  simp only [List.cons_append, List.nil_append] at hadd1 hadd2
  have htx : (97 : UInt8) :: (List.replicate g 46 ++ [98]) = textW g := rfl
  obtain ⟨h0, hh0⟩ : ∃ h0 : Heap, h0 = [.cells (contCell contA ++ contCell (contB d w)) 52 true] := ⟨_, rfl⟩
  have hsl : SlC h0 (.sl (some ⟨0, 0, 16⟩) 2 2) [contA, contB d w] := by
    have := SlC.cells (h := h0) (b := 0) (e := 52) (g := true) (l := [contA, contB d w]) (by simp) (by rw [hh0]; rfl)
    simpa using this
  have hsm := smallW (d := d) (w := w) (by omega) (by omega)
  obtain ⟨h1, e1, o1⟩ := first_chain hsl (s := textW g) hsm (by rw [textW_len]; omega) (by simp)
  obtain ⟨h2, e2, o2⟩ := holds_chain (hsl.same o1) (s := textW g) hsm (by rw [textW_len]; omega) (by simp)
  rw [firstW] at e1
  rw [holdsW] at e2
  have hw2 : IntKind.wrap .i64 ((g : Int) + 1) = g + 1 := wrap_i64 (by omega) (by omega)
  have hw3 : IntKind.wrap .i64 (d + w) = d + w := wrap_i64 (by omega) (by omega)
  have hw4 : IntKind.wrap .i64 ((g : Int) + 2) = g + 2 := wrap_i64 (by omega) (by omega)
  simp only [contA, contB, contCell, List.cons_append, List.nil_append] at hh0
  simp [c10, c10_r0, c10_r1, c10_r2, c10_r3, F16_D, p1, p2, p3, hwd, aslice, bound, hgk, hgk', htake, abuild, abuildSlice, afill, zeros, splice, hadd1, hadd2, htx, ← hh0]
  by_cases hdg : d ≤ g
  · by_cases hw0 : w = 0
    · have hwant : wantW g d w := ⟨hdg, .inl (by omega)⟩
      rw [if_pos hwant] at e1
      rw [decide_eq_true hwant] at e2
      simp [c10_r4, c10_r5, c10_r6, F16_D, hdg, hw0, e1, e2, extractV, hw4, awake16h]
    · by_cases hle : (g : Int) + 1 ≤ d + w
      · have hwant : wantW g d w := ⟨hdg, .inr hle⟩
        rw [if_pos hwant] at e1
        rw [decide_eq_true hwant] at e2
        simp [c10_r4, c10_r5, c10_r6, F16_D, hdg, hw0, hw2, hw3, hle, e1, e2, extractV, hw4, awake16h]
      · have hwant : ¬ wantW g d w := fun h => by
          rcases h.2 with h | h
          · omega
          · exact hle h
        rw [if_neg hwant] at e1
        rw [decide_eq_false hwant] at e2
        simp [c10_r4, c10_r5, c10_r6, F16_D, hdg, hw0, hw2, hw3, hle, e1, e2, extractV, hw4, awake16h]
  · have hwant : ¬ wantW g d w := fun h => hdg h.1
    rw [if_neg hwant] at e1
    rw [decide_eq_false hwant] at e2
    simp [c10_r4, c10_r5, c10_r6, F16_D, hdg, e1, e2, extractV, hw4, awake16h]

end Go.AM
