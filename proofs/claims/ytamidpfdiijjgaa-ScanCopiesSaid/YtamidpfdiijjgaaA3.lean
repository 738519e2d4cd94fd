/-
  One row of the automaton: what 'row' does to it.
-/
import Derived.Test.YtamidpfdiijjgaaA2
namespace Go.AM
open Go Go.Proofs
set_option linter.unusedVariables false
set_option linter.unusedSimpArgs false
set_option maxRecDepth 100000

/-! ### slices of numbers: appended, sorted -/

theorem intSl_one {b : Nat} {l : List Int} : (intSl b l).one = true := by unfold intSl; split <;> rfl
theorem intSl_cells {b : Nat} {l : List Int} : (intSl b l).cells = [intSl b l] := by unfold intSl; split <;> rfl
theorem intSl_notTup {b : Nat} {l : List Int} : (intSl b l).notTup = true := by unfold intSl; split <;> rfl
theorem intSl_ne {b : Nat} {l : List Int} (h : l ≠ []) : intSl b l = .sl (some ⟨b, 0, l.length⟩) l.length l.length := by simp [intSl, h]

theorem cells_agg {cs : List AV} : (AV.agg cs).cells = cs := rfl
theorem cells_int {k : IntKind} {n : Int} : (AV.int k n).cells = [.int k n] := rfl
theorem cells_sl {a : Option AA} {n c : Nat} : (AV.sl a n c).cells = [.sl a n c] := rfl
theorem one_agg {cs : List AV} : (AV.agg cs).one = false := rfl
theorem one_int {k : IntKind} {n : Int} : (AV.int k n).one = true := rfl
theorem one_sl {a : Option AA} {n c : Nat} : (AV.sl a n c).one = true := rfl
theorem notTup_int {k : IntKind} {n : Int} : (AV.int k n).notTup = true := rfl
theorem notTup_sl {a : Option AA} {n c : Nat} : (AV.sl a n c).notTup = true := rfl

theorem touchD_no {n : Nat} : touchD n .no = .no := rfl
theorem touchD_new {n : Nat} {o : AObj} : touchD n (.new o) = .blk n := rfl
theorem touchD_set {n c : Nat} {o : AObj} : touchD n (.set c o) = .blk c := rfl
theorem same_no {b : Nat} : Touch.same .no b = true := rfl
theorem same_blk {c b : Nat} : Touch.same (.blk c) b = (b != c) := rfl
theorem same_heaps {h h' : Heap} {b : Nat} : Touch.same (.heaps h h') b = sameAt h h' b := rfl

/-- What of a slice of numbers is behind a place. -/
def offSl (b o : Nat) (l : List Int) : AV := .sl (some ⟨b, o, l.length⟩) (l.length - o) (l.length - o)

theorem Sl1.src {h : Heap} {v : AV} {l : List Int} (H : Sl1 h v (intCells l)) : srcCells Try.prog (look h) 3 v = some (l.length, intCells l) := by
  rcases H with ⟨rfl, e⟩ | ⟨b, o, g, c, cs, rfl, h1, h2⟩
  · have : l = [] := by simpa [intCells] using e
    subst this; rfl
  · simp only [intCells_len] at h2 ⊢
    by_cases hl : l.length = 0
    · have : l = [] := List.length_eq_zero_iff.1 hl
      subst this; simp [srcCells, intCells]
    · have h3 : o + l.length ≤ cs.length := by
        have := congrArg List.length h2
        simp [intCells_len] at this
        omega
      simp [srcCells, hl, slCells, h1, h3, h2]

theorem append_ints {h : Heap} {b : Nat} {l : List Int} {v : AV} {l2 : List Int} (hb : l ≠ [] → h[b]? = some (.cells (intCells l) 3 true)) (hv : Sl1 h v (intCells l2)) (hn : l.length + l2.length ≤ 9000000000000) :
    ∃ δ, append2 Try.prog (look h) h.length 30 30 [intSl b l, v] = some (intSl (if l = [] then h.length else b) (l ++ l2), δ) ∧
      (l ++ l2 ≠ [] → (h.apply δ)[if l = [] then h.length else b]? = some (.cells (intCells (l ++ l2)) 3 true)) ∧ Only (fun c => c = b ∧ l ≠ []) h (h.apply δ) ∧
      (∀ c, c < h.length → ¬ (c = b ∧ l ≠ []) → (touchD h.length δ).same c = true) := by
  have hs := hv.src
  have hr : ∀ k, k ≤ 9000000000000 → k * 8 ≤ roomMax := fun k hk => by simp only [roomMax]; omega
  by_cases h2 : l2 = []
  · subst h2
    refine ⟨.no, ?_, ?_, .refl, fun _ _ _ => rfl⟩
    · by_cases h1 : l = []
      · subst h1; simp [append2, aappend, hs, aappendE, intSl]
      · simp [append2, aappend, hs, aappendE, intSl_ne h1, h1]
    · intro hne
      simp at hne
      simp [hne, hb hne, Heap.apply]
  · have hl2 : l2.length ≠ 0 := fun e => h2 (List.length_eq_zero_iff.1 e)
    by_cases h1 : l = []
    · subst h1
      refine ⟨.new (.cells (intCells l2) 3 true), ?_, fun _ => by simp [Heap.apply], by simp only [Heap.apply]; exact .app, fun c hc _ => by simp [bne_dec]; omega⟩
      have := hr l2.length (by omega)
      have h6 : l2.length ≤ 9223372036854775807 := by omega
      simp [append2, aappend, hs, aappendE, intSl, h2, this, h6, intCells_len]
    · have hb1 := hb h1
      refine ⟨.set b (.cells (intCells (l ++ l2)) 3 true), ?_, fun _ => ?_, by simp only [Heap.apply]; exact .set ⟨rfl, h1⟩, fun c hc hne => by simp [bne_dec]; intro e; exact hne ⟨e, h1⟩⟩
      · have h5 := hr (l.length + l2.length) (by omega)
        have h6 : l.length + l2.length ≤ 9223372036854775807 := by omega
        have h7 : ¬ (l.length + l2.length ≤ l.length) := by omega
        have h8 : intCells l ++ intCells l2 = intCells (l ++ l2) := by simp [intCells]
        simp [append2, aappend, hs, aappendE, intSl, h1, h2, hb1, intCells_len, h5, h6, h7, take_all, h8]
      · simp [h1, Heap.apply, lt_of_at hb1]

/-- Behind a slice that begins within its block. -/
theorem append_off {h : Heap} {b o : Nat} {l : List Int} {v : AV} {l2 : List Int} (hb : h[b]? = some (.cells (intCells l) 3 true)) (ho : o ≤ l.length) (hv : Sl1 h v (intCells l2)) (hn : l.length + l2.length ≤ 1000000) :
    ∃ δ, append2 Try.prog (look h) h.length 30 30 [offSl b o l, v] = some (offSl b o (l ++ l2), δ) ∧
      (h.apply δ)[b]? = some (.cells (intCells (l ++ l2)) 3 true) ∧ Only (fun c => c = b) h (h.apply δ) := by
  have hs := hv.src
  have hr : ∀ k, k ≤ 1000000 → k * 8 ≤ roomMax := fun k hk => by simp only [roomMax]; omega
  by_cases h2 : l2 = []
  · subst h2
    refine ⟨.no, by simp [append2, aappend, hs, aappendE, offSl], by simp [Heap.apply, hb], .refl⟩
  · have hl2 : l2.length ≠ 0 := fun e => h2 (List.length_eq_zero_iff.1 e)
    refine ⟨.set b (.cells (intCells (l ++ l2)) 3 true), ?_, ?_, by simp only [Heap.apply]; exact .set rfl⟩
    · have h5 := hr (l.length - o + l2.length) (by omega)
      have h6 : l.length - o + l2.length ≤ 9223372036854775807 := by omega
      have h7 : ¬ (l.length - o + l2.length ≤ l.length - o) := by omega
      have h8 : intCells l ++ intCells l2 = intCells (l ++ l2) := by simp [intCells]
      have h9 : o + (l.length - o) = l.length := by omega
      have h10 : l.length - o + l2.length = l.length + l2.length - o := by omega
      simp only [append2, aappend, offSl]
      simp [hs, aappendE, hl2, h2, hb, intCells_len, h5, h6, h7, h9, take_all, h8]
      simp [offSl, h10]
    · simp [Heap.apply, lt_of_at hb]

theorem sort_run {h : Heap} {b : Nat} {l : List Int} (hb : l ≠ [] → h[b]? = some (.cells (intCells l) 3 true)) (hl : l.length ≤ 9000000000000) :
    D cfg 120 [intSl b l] h = some (.tup [], if l = [] then h else h.set b (.cells (intCells (isort l)) 3 true)) := by
  refine D_of (n := 1) ?_
  have hx : cfg.ext 120 = some extSort := by rfl
  unfold acall
  rw [hx]
  by_cases h1 : l = []
  · subst h1; rfl
  · have hb1 := hb h1
    have hl0 : l.length ≠ 0 := fun e => h1 (List.length_eq_zero_iff.1 e)
    obtain ⟨k, hk⟩ : ∃ k, l.length = k + 1 := ⟨l.length - 1, by omega⟩
    have hu : unI ((intCells l).take l.length) = some l := by rw [take_all]; exact unI_map l
    have hle : l.length ≤ 1000000000000000 := by omega
    have hsp : splice (intCells l) 0 ((isort l).map (.int .i64)) = intCells (isort l) := by
      simp [splice, intCells, isort_len]
    have e : extSort [.sl (some ⟨b, 0, l.length⟩) l.length l.length] h = match h[b]? with
        | some (.cells cs e g) =>
          if cs.length = l.length ∧ 0 + l.length ≤ cs.length ∧ l.length ≤ 1000000000000000 then
            match unI ((cs.drop 0).take l.length) with
            | some zs => some (.tup [], h.set b (.cells (splice cs 0 ((isort zs).map (.int .i64))) e g))
            | none => none
          else none
        | _ => none := by rw [hk]; rfl
    simp only [intSl, h1, if_false]
    rw [e, hb1]
    simp only [intCells_len, List.drop_zero, Nat.zero_add]
    rw [if_pos ⟨trivial, Nat.le_refl _, hle⟩, hu]
    simp only [hsp]

theorem sameAt_of {h h' : Heap} {b : Nat} {o : AObj} (h1 : h[b]? = some o) (h2 : h'[b]? = some o) (hb : o.beq o = true) : sameAt h h' b = true := by
  simp only [sameAt, h1, h2, hb]

/-! ### the automaton's cells -/

def rowC (f : Nat → Nat) : List AV := (List.range 256).map fun b => .int .u16 ((f b : Nat) : Int)
theorem rowC_len {f : Nat → Nat} : (rowC f).length = 256 := by simp [rowC]
theorem rowC_one {f : Nat → Nat} : (rowC f).all AV.one = true := by simp [rowC, AV.one]
theorem rowC_one' {f : Nat → Nat} : ∀ x ∈ rowC f, x.one = true := by simp [rowC, AV.one]

theorem grid_get {n : Nat} {tab : Nat → Nat → Nat} {k : Nat} : (grid n tab)[k]? = if k < n * 256 then some (.int .u16 ((tab (k / 256) (k % 256) : Nat) : Int)) else none := by
  simp only [grid, List.getElem?_map]
  split
  · rename_i h; simp [h]
  · rename_i h; simp; omega

theorem grid_ext {n : Nat} {tab tab' : Nat → Nat → Nat} (h : ∀ s b, s < n → b < 256 → tab s b = tab' s b) : grid n tab = grid n tab' := by
  apply List.ext_getElem?
  intro k
  rw [grid_get, grid_get]
  split
  · rw [h (k / 256) (k % 256) (by omega) (by omega)]
  · rfl

theorem grid_row {n : Nat} {tab : Nat → Nat → Nat} {s : Nat} (hs : s < n) : ((grid n tab).drop (s * 256)).take 256 = rowC (tab s) := by
  apply List.ext_getElem?
  intro k
  rw [List.getElem?_take]
  by_cases hk : k < 256
  · rw [if_pos hk, List.getElem?_drop, grid_get, if_pos (by omega)]
    have h1 : (s * 256 + k) / 256 = s := by omega
    have h2 : (s * 256 + k) % 256 = k := by omega
    simp [rowC, hk, h1, h2]
  · rw [if_neg hk]
    rw [List.getElem?_eq_none (by rw [rowC_len]; omega)]

theorem grid_set {n : Nat} {tab : Nat → Nat → Nat} {s b v : Nat} (hs : s < n) (hb : b < 256) : (grid n tab).set (s * 256 + b) (.int .u16 (v : Int)) = grid n (fun s' b' => if s' = s ∧ b' = b then v else tab s' b') := by
  apply List.ext_getElem?
  intro k
  by_cases hk : k = s * 256 + b
  · subst hk
    have h1 : (s * 256 + b) / 256 = s := by omega
    have h2 : (s * 256 + b) % 256 = b := by omega
    rw [List.getElem?_set_self (by rw [grid_len]; omega), grid_get, if_pos (by omega), h1, h2]
    simp
  · rw [List.getElem?_set_ne (Ne.symm hk), grid_get, grid_get]
    split
    · have : ¬ (k / 256 = s ∧ k % 256 = b) := by rintro ⟨h1, h2⟩; omega
      rw [if_neg this]
    · rfl

theorem grid_splice {n : Nat} {tab : Nat → Nat → Nat} {s : Nat} {f : Nat → Nat} (hs : s < n) : splice (grid n tab) (s * 256) (rowC f) = grid n (fun s' b' => if s' = s then f b' else tab s' b') := by
  have hlen : s * 256 + 256 ≤ (grid n tab).length := by rw [grid_len]; omega
  apply List.ext_getElem?
  intro k
  rw [grid_get]
  simp only [splice, List.getElem?_append, List.length_append, List.length_take, rowC_len, List.getElem?_take, List.getElem?_drop]
  rw [grid_len] at *
  by_cases h1 : k < s * 256
  · have h2 : ¬ (k / 256 = s) := by omega
    rw [if_pos (by omega), if_pos (by omega), if_pos h1, grid_get, if_neg h2]
  · by_cases h3 : k < s * 256 + 256
    · have h2 : k / 256 = s := by omega
      have h4 : k - min (s * 256) (n * 256) = k % 256 := by omega
      have h5 : k % 256 < 256 := by omega
      rw [if_pos (by omega), if_neg (by omega), if_pos (by omega), h4, if_pos h2]
      simp [rowC, h5]
    · have h2 : ¬ (k / 256 = s) := by omega
      have h4 : s * 256 + 256 + (k - (min (s * 256) (n * 256) + 256)) = k := by omega
      rw [if_neg (by omega), h4, grid_get, if_neg h2]

theorem nums_set {n : Nat} {fl : Nat → Nat} {s v : Nat} : (nums n fl).set s (.int .i64 (v : Int)) = nums n (fun s' => if s' = s then v else fl s') := by
  apply List.ext_getElem?
  intro k
  by_cases hk : k = s
  · subst hk
    by_cases hl : k < n
    · rw [List.getElem?_set_self (by rw [nums_len]; exact hl), nums_at hl]; simp
    · rw [List.getElem?_eq_none (by simp [nums_len]; omega), List.getElem?_eq_none (by simp [nums_len]; omega)]
  · rw [List.getElem?_set_ne (Ne.symm hk)]
    by_cases hl : k < n
    · rw [nums_at hl, nums_at hl, if_neg hk]
    · rw [List.getElem?_eq_none (by simp [nums_len]; omega), List.getElem?_eq_none (by simp [nums_len]; omega)]

theorem outC_set {n : Nat} {ob : Nat → Nat} {ou : Nat → List Int} {s b : Nat} {l : List Int} : (outC n ob ou).set s (intSl b l) = outC n (fun s' => if s' = s then b else ob s') (fun s' => if s' = s then l else ou s') := by
  apply List.ext_getElem?
  intro k
  by_cases hk : k = s
  · subst hk
    by_cases hl : k < n
    · rw [List.getElem?_set_self (by rw [outC_len]; exact hl), outC_at hl]; simp
    · rw [List.getElem?_eq_none (by simp [outC_len]; omega), List.getElem?_eq_none (by simp [outC_len]; omega)]
  · rw [List.getElem?_set_ne (Ne.symm hk)]
    by_cases hl : k < n
    · rw [outC_at hl, outC_at hl, if_neg hk, if_neg hk]
    · rw [List.getElem?_eq_none (by simp [outC_len]; omega), List.getElem?_eq_none (by simp [outC_len]; omega)]

section
variable {h : Heap} {B : AB} {n : Nat} {tab : Nat → Nat → Nat} {fl : Nat → Nat} {ob : Nat → Nat} {ou : Nat → List Int}

theorem AutoAt.ne (H : AutoAt h B n tab fl ob ou) : B.a ≠ B.nx ∧ B.a ≠ B.fl ∧ B.a ≠ B.ou ∧ B.nx ≠ B.fl ∧ B.nx ≠ B.ou ∧ B.fl ≠ B.ou := by
  have := H.nodup
  simp at this
  obtain ⟨⟨h1, h2, h3⟩, ⟨h4, h5⟩, h6⟩ := this
  exact ⟨h1, h2, h3, h4, h5, h6⟩

theorem AutoAt.lt (H : AutoAt h B n tab fl ob ou) : B.a < h.length ∧ B.nx < h.length ∧ B.fl < h.length ∧ B.ou < h.length := ⟨lt_of_at H.hdr, lt_of_at H.nx, lt_of_at H.fls, lt_of_at H.outs⟩

theorem AutoAt.setNx (H : AutoAt h B n tab fl ob ou) {tab' : Nat → Nat → Nat} (hle : ∀ s b, tab' s b ≤ 65535) : AutoAt (h.set B.nx (.cells (grid n tab') 132 true)) B n tab' fl ob ou := by
  obtain ⟨n1, n2, n3, n4, n5, n6⟩ := H.ne
  have hl := H.lt
  refine ⟨?_, ?_, ?_, ?_, ?_, H.nodup, H.small, hle, H.lens⟩
  · rw [List.getElem?_set_ne n1.symm]; exact H.hdr
  · rw [List.getElem?_set_self hl.2.1]
  · rw [List.getElem?_set_ne n4]; exact H.fls
  · rw [List.getElem?_set_ne n5]; exact H.outs
  · intro s hs hne
    obtain ⟨h1, h2⟩ := H.inn s hs hne
    refine ⟨?_, h2⟩
    simp at h2
    rw [List.getElem?_set_ne (Ne.symm h2.2.1)]; exact h1

theorem AutoAt.setFl (H : AutoAt h B n tab fl ob ou) {fl' : Nat → Nat} : AutoAt (h.set B.fl (.cells (nums n fl') 3 true)) B n tab fl' ob ou := by
  obtain ⟨n1, n2, n3, n4, n5, n6⟩ := H.ne
  have hl := H.lt
  refine ⟨?_, ?_, ?_, ?_, ?_, H.nodup, H.small, H.le, H.lens⟩
  · rw [List.getElem?_set_ne n2.symm]; exact H.hdr
  · rw [List.getElem?_set_ne n4.symm]; exact H.nx
  · rw [List.getElem?_set_self hl.2.2.1]
  · rw [List.getElem?_set_ne n6]; exact H.outs
  · intro s hs hne
    obtain ⟨h1, h2⟩ := H.inn s hs hne
    refine ⟨?_, h2⟩
    simp at h2
    rw [List.getElem?_set_ne (Ne.symm h2.2.2.1)]; exact h1

/-- A state's list, laid anew. -/
theorem AutoAt.renew (H : AutoAt h B n tab fl ob ou) {h' : Heap} {s b : Nat} {l : List Int} (ho : Only (fun c => c = B.ou) h h') (hou : h'[B.ou]? = some (.cells ((outC n ob ou).set s (intSl b l)) 30 true))
    (hb : l ≠ [] → h'[b]? = some (.cells (intCells l) 3 true) ∧ h.length ≤ b) (hl : l.length ≤ 9000000000000) : AutoAt h' B n tab fl (fun s' => if s' = s then b else ob s') (fun s' => if s' = s then l else ou s') := by
  obtain ⟨n1, n2, n3, n4, n5, n6⟩ := H.ne
  have hlt := H.lt
  refine ⟨ho.at H.hdr n3, ho.at H.nx n5, ho.at H.fls n6, by rw [hou, outC_set], ?_, H.nodup, H.small, H.le, ?_⟩
  · intro s' hs' hne
    by_cases he : s' = s
    · subst he
      simp only [if_true] at hne ⊢
      obtain ⟨h1, h2⟩ := hb hne
      refine ⟨h1, ?_⟩
      simp
      omega
    · simp only [if_neg he] at hne ⊢
      obtain ⟨h1, h2⟩ := H.inn s' hs' hne
      refine ⟨ho.at h1 ?_, h2⟩
      simp at h2
      exact h2.2.2.2
  · intro s' hs'
    by_cases he : s' = s
    · simp [he, hl]
    · simp only [if_neg he]; exact H.lens s' hs'
end

end Go.AM
