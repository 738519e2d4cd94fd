/-
  Slices that grow.
-/
import Derived.Test.YtamidpfdiijjgaaP8
namespace Go.AM
open Go Go.Proofs
set_option linter.unusedVariables false
set_option linter.unusedSimpArgs false
set_option maxRecDepth 100000

/-- A slice of n elements that takes a block for itself: these cells. -/
def bufSl (b n : Nat) (xs : List AV) : AV := if n = 0 then .sl none 0 0 else .sl (some ⟨b, 0, xs.length⟩) n n

theorem bufSl_zero {b : Nat} {xs : List AV} : bufSl b 0 xs = .sl none 0 0 := by simp [bufSl]

theorem append_buf {t e k : Nat} (ht : tk Try.prog t = .slice e) (hk : tsz Try.prog e = k) (hk0 : 0 < k) (hz : zeroOK Try.prog e = true) (hby : Try.prog.bytesOf e ≤ 100) {h : Heap} {b n : Nat} {xs ys : List AV} (hys : ys.length = k) (hxs : xs.length = n * k)
    (hb : n ≠ 0 → h[b]? = some (.cells xs e true)) (hn : n ≤ 1000000) :
    ∃ δ h', append2 Try.prog (look (h ++ [AObj.cells ys e true])) (h.length + 1) t t [bufSl b n xs, .sl (some ⟨h.length, 0, k⟩) 1 1] = some (bufSl (if n = 0 then h.length + 1 else b) (n + 1) (xs ++ ys), δ) ∧ Heap.apply (h ++ [AObj.cells ys e true]) δ = h' ∧
      h'[if n = 0 then h.length + 1 else b]? = some (.cells (xs ++ ys) e true) ∧ Only (fun c => c = b ∧ n ≠ 0) h h' := by
  have hsrc : srcCells Try.prog (look (h ++ [AObj.cells ys e true])) e (.sl (some ⟨h.length, 0, k⟩) 1 1) = some (1, ys) := by
    simp [srcCells, slCells, row, hk, hys]
    exact List.take_of_length_le (by omega)
  have hroom : ∀ m, m ≤ 1000001 → m * Try.prog.bytesOf e ≤ roomMax := fun m hm => by
    have := Nat.mul_le_mul hm hby
    simp only [roomMax]
    omega
  by_cases hn0 : n = 0
  · subst hn0
    have hxs0 : xs = [] := List.length_eq_zero_iff.1 (by simpa using hxs)
    subst hxs0
    refine ⟨.new (.cells ys e true), h ++ [AObj.cells ys e true] ++ [AObj.cells ys e true], ?_, rfl, ?_, ?_⟩
    · have h1 := hroom 1 (by omega)
      simp only [append2, aappend, ht, hk, hsrc, hk0, if_true, bufSl, aappendE]
      simp at h1
      simp [h1, hz]
    · simp
    · rw [List.append_assoc]; exact .app
  · have hb1 := hb hn0
    have hlt := lt_of_at hb1
    have hb2 : (h ++ [AObj.cells ys e true])[b]? = some (.cells xs e true) := by rw [List.getElem?_append_left hlt]; exact hb1
    rw [if_neg hn0]
    refine ⟨.set b (.cells (xs ++ ys) e true), (h ++ [AObj.cells ys e true]).set b (.cells (xs ++ ys) e true), ?_, rfl, ?_, ?_⟩
    · have h1 := hroom (n + 1) (by omega)
      have h2 : ¬ (n + 1 ≤ n) := by omega
      have h3 : n + 1 ≤ 9223372036854775807 := by omega
      have h4 : xs.take (n * k) = xs := List.take_of_length_le (by omega)
      simp only [append2, aappend, ht, hk, hsrc, hk0, if_true, bufSl, hn0, if_false, aappendE, look_at, hb2]
      simp [h1, hz, h2, h3, hxs, h4]
    · rw [List.getElem?_set_self (by simp; omega)]
    · exact Only.app.trans (.set ⟨rfl, hn0⟩)

/-- What turns new blocks alone. -/
theorem Only.fresh {h₀ h h' : Heap} {fp : Nat → Prop} (a : Only (fun _ => False) h₀ h) (b : Only fp h h') (hf : ∀ c, fp c → h₀.length ≤ c) : Only (fun _ => False) h₀ h' :=
  ⟨Nat.le_trans a.1 b.1, fun c hc _ => by rw [b.2 c (Nat.lt_of_lt_of_le hc a.1) (fun hm => by have := hf c hm; omega), a.2 c hc id]⟩

theorem Sl1.buf {h : Heap} {b : Nat} {e : TypeId} {s : Bool} {xs : List AV} (hb : xs.length ≠ 0 → h[b]? = some (.cells xs e s)) : Sl1 h (bufSl b xs.length xs) xs := by
  by_cases hx : xs.length = 0
  · have : xs = [] := List.length_eq_zero_iff.1 hx
    subst this
    rw [List.length_nil, bufSl_zero]
    exact .nil
  · unfold bufSl
    rw [if_neg hx]
    exact .cells (hb hx)

theorem intSl_buf {b : Nat} {l : List Int} : intSl b l = bufSl b l.length (intCells l) := by
  unfold intSl bufSl
  by_cases hl : l = []
  · subst hl; rfl
  · have : l.length ≠ 0 := fun e => hl (List.length_eq_zero_iff.1 e)
    rw [if_neg hl, if_neg this, intCells_len]

theorem append_int {h : Heap} {b : Nat} {l : List Int} {x : Int} (hb : l ≠ [] → h[b]? = some (.cells (intCells l) 3 true)) (hn : l.length ≤ 1000000) :
    ∃ δ h', append2 Try.prog (look (h ++ [AObj.cells [.int .i64 x] 3 true])) (h.length + 1) 30 30 [intSl b l, .sl (some ⟨h.length, 0, 1⟩) 1 1] = some (intSl (if l = [] then h.length + 1 else b) (l ++ [x]), δ) ∧ Heap.apply (h ++ [AObj.cells [.int .i64 x] 3 true]) δ = h' ∧
      h'[if l = [] then h.length + 1 else b]? = some (.cells (intCells (l ++ [x])) 3 true) ∧ Only (fun c => c = b ∧ l ≠ []) h h' := by
  have hne : l.length ≠ 0 ↔ l ≠ [] := by rw [ne_eq, List.length_eq_zero_iff]
  have hz : (if l.length = 0 then h.length + 1 else b) = if l = [] then h.length + 1 else b := by
    by_cases hl : l = []
    · subst hl; rfl
    · rw [if_neg hl, if_neg (hne.2 hl)]
  obtain ⟨δ, h', h1, h2, h3, h4⟩ := append_buf (t := 30) (e := 3) (k := 1) (by simp) (by simp) (by decide) (by simp) (by simp) (h := h) (b := b) (n := l.length) (xs := intCells l) (ys := [.int .i64 x]) (by simp) (by simp [intCells]) (fun e => hb (hne.1 e)) hn
  have e : intCells l ++ [AV.int .i64 x] = intCells (l ++ [x]) := by simp [intCells]
  rw [e, hz] at h1 h3
  refine ⟨δ, h', ?_, h2, h3, h4.mono fun c _ e => ⟨e.1, hne.1 e.2⟩⟩
  rw [intSl_buf, h1, intSl_buf]
  simp

end Go.AM
