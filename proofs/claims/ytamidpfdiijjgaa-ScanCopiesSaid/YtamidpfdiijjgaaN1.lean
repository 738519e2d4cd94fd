/-
  The scanner: its last bytes, round and round; what stands there.
-/
import Derived.Test.YtamidpfdiijjgaaA9
namespace Go.AM
open Go Go.Proofs
set_option linter.unusedVariables false
set_option linter.unusedSimpArgs false
set_option maxRecDepth 100000

theorem tmod_nat' {a b : Nat} : ((a : Int)).tmod b = ((a % b : Nat) : Int) := by
  rw [Int.tmod_eq_emod_of_nonneg (by omega)]; omega

/-- The last sixteen bytes of a text, each at its place modulo sixteen. -/
def RingOK (ring w : Txt) : Prop := ring.length = 16 ∧ ∀ i, i < w.length → w.length ≤ i + 16 → ring[i % 16]? = w[i]?

theorem RingOK.step {ring w : Txt} (H : RingOK ring w) {b : UInt8} : RingOK (ring.set (w.length % 16) b) (w ++ [b]) := by
  refine ⟨by simp [H.1], fun i hi hle => ?_⟩
  simp at hi hle
  by_cases he : i = w.length
  · subst he
    rw [List.getElem?_set_self (by rw [H.1]; omega)]
    simp
  · rw [List.getElem?_set_ne (by omega), H.2 i (by omega) (by omega), List.getElem?_append_left (by omega)]

theorem ring0 : RingOK (List.replicate 16 0) [] := ⟨by simp, fun i hi => by simp at hi⟩

/-- What a cell of a block holds. -/
theorem cell_load {h : Heap} {sb n off : Nat} {cs : List AV} {e t : TypeId} {g : Bool} (h1 : h[sb]? = some (.cells cs e g)) (hl : cs.length = n) (ht : agk (tk Try.prog t) = some false) {v : AV} (hv : cs[off]? = some v) : aload Try.prog (look h) t (.ptr (some ⟨sb, off, n⟩)) = some v := by
  have hr : row (look h) ⟨sb, off, n⟩ = some cs := by simp [row, h1, hl]
  simp only [aload, hr, ht]
  exact hv

/-- A cell, turned. -/
theorem cell_store {h : Heap} {sb n off : Nat} {cs : List AV} {e t : TypeId} {g : Bool} (h1 : h[sb]? = some (.cells cs e g)) (hl : cs.length = n) (ht : tsz Try.prog t = 1) {v : AV} (hv : v.one = true) (ho : off < n) : astore Try.prog (look h) t (.ptr (some ⟨sb, off, n⟩)) v = some (.set sb (.cells (cs.set off v) e g)) := by
  have hc : v.cells = [v] := by cases v <;> simp at hv <;> rfl
  have h2 : off + 1 ≤ n := ho
  simp [astore, h1, hl, ht, hc, hv, h2, -AV.cells, -AV.one]

/-- A scanner's cells. -/
def hdrC (a lv nv : AV) (s n : Nat) (ring : Txt) : List AV := [a, lv, nv, .int .i64 s, .int .i64 n] ++ byteCells ring

section
variable {a lv nv : AV} {s n : Nat} {ring : Txt}
theorem hdrC_len (hr : ring.length = 16) : (hdrC a lv nv s n ring).length = 21 := by simp [hdrC, byteCells_len, hr]
theorem hdrC_0 : (hdrC a lv nv s n ring)[0]? = some a := rfl
theorem hdrC_1 : (hdrC a lv nv s n ring)[1]? = some lv := rfl
theorem hdrC_2 : (hdrC a lv nv s n ring)[2]? = some nv := rfl
theorem hdrC_3 : (hdrC a lv nv s n ring)[3]? = some (.int .i64 s) := rfl
theorem hdrC_4 : (hdrC a lv nv s n ring)[4]? = some (.int .i64 n) := rfl
theorem hdrC_5 {k : Nat} {b : UInt8} (hk : ring[k]? = some b) : (hdrC a lv nv s n ring)[5 + k]? = some (.int .u8 b.toNat) := by
  rw [hdrC, List.getElem?_append_right (by simp)]
  simp [byteCells, hk]
theorem hdrC_set3 {s' : Nat} : (hdrC a lv nv s n ring).set 3 (.int .i64 s') = hdrC a lv nv s' n ring := rfl
theorem hdrC_set4 {n' : Nat} : (hdrC a lv nv s n ring).set 4 (.int .i64 n') = hdrC a lv nv s n' ring := rfl
theorem hdrC_set5 {k : Nat} {b : UInt8} : (hdrC a lv nv s n ring).set (5 + k) (.int .u8 b.toNat) = hdrC a lv nv s n (ring.set k b) := by
  rw [hdrC, List.set_append_right _ _ (by simp)]
  simp only [List.length_cons, List.length_nil, Nat.add_sub_cancel_left, byteCells_set]
  rfl
end

/-- Where a scanner lies, what it has seen. -/
structure ScanH (h : Heap) (sb : Nat) (a lv nv : AV) (s : Nat) (w : Txt) : Prop where
  hdr : ∃ ring, RingOK ring w ∧ h[sb]? = some (.cells (hdrC a lv nv s w.length ring) 136 false)

abbrev scPtr (sb : Nat) : AV := .ptr (some ⟨sb, 0, 21⟩)

theorem lowB_run {h : Heap} {b : UInt8} : D cfg 103 [.int .u8 b.toNat] h = some (.int .u8 (lowB b).toNat, h) := by
  refine D_eq (call103 (R := fun r h' => r = _ ∧ h' = _) (by simp) ?_)
  have hb := b.toNat_lt
  by_cases h1 : 65 ≤ b.toNat
  · have h1' : (65 : Int) ≤ b.toNat := by omega
    by_cases h2 : b.toNat ≤ 90
    · have h2' : (b.toNat : Int) ≤ 90 := by omega
      obtain ⟨k, hk⟩ : ∃ k : Nat, b.toNat = 65 + k := ⟨b.toNat - 65, by omega⟩
      have hw1 : IntKind.wrap .u8 ((b.toNat : Int) - 65) = k := by rw [wrap_u8 (by omega) (by omega)]; omega
      have hw2 : IntKind.wrap .u8 ((k : Int) + 97) = ((lowB b).toNat : Int) := by
        rw [wrap_u8 (by omega) (by omega)]
        simp only [lowB, h1, h2, and_self, if_true]
        simp
        omega
      simp [c103, c103_r0, c103_r1, c103_r2, h1, h1', h2, h2', hw1, hw2]
    · have h2' : ¬ ((b.toNat : Int) ≤ 90) := by omega
      have hl : lowB b = b := by simp [lowB, h2]
      simp [c103, c103_r0, c103_r1, c103_r3, h1, h1', h2, h2', hl]
  · have h1' : ¬ ((65 : Int) ≤ b.toNat) := by omega
    have hl : lowB b = b := by simp [lowB, h1]
    simp [c103, c103_r0, c103_r1, c103_r3, h1, h1', hl]

theorem scan_at {h : Heap} {sb : Nat} {a lv nv : AV} {s : Nat} {w : Txt} (H : ScanH h sb a lv nv s w) : D cfg 66 [scPtr sb] h = some (.int .i64 w.length, h) := by
  obtain ⟨ring, hr, h1⟩ := H.hdr
  refine D_eq (call66 (R := fun r h' => r = _ ∧ h' = _) (by simp) ?_)
  have hl := hdrC_len (a := a) (lv := lv) (nv := nv) (s := s) (n := w.length) hr.1
  have hrow : ∀ off, row (look h) ⟨sb, off, 21⟩ = some (hdrC a lv nv s w.length ring) := fun off => by simp [row, h1, hl]
  simp [c66, c66_r0, c66_r1, fieldA, aload, hrow, hdrC_4]

def In104 (h : Heap) (sb : Nat) (p w : Txt) (m : Nat) (σ : St) : Prop :=
  ∃ i, m = p.length - i ∧ i ≤ p.length ∧ σ = ⟨[(0, scPtr sb), (1, .str p), (7, .int .i64 p.length), (8, .int .i64 i)], h⟩ ∧ ∀ j, j < i → p[j]? = w[w.length - p.length + j]?

theorem scan_stands {h : Heap} {sb : Nat} {a lv nv : AV} {s : Nat} {w p : Txt} (H : ScanH h sb a lv nv s w) (hp : p.length ≤ 16) (hpw : p.length ≤ w.length) (hw : w.length ≤ 1000000000000) : D cfg 104 [scPtr sb, .str p] h = some (.bool (decide (p <:+ w)), h) := by
  obtain ⟨ring, hr, h1⟩ := H.hdr
  refine D_eq (call104 (R := fun r h' => r = _ ∧ h' = _) (by simp) ?_)
  have hl := hdrC_len (a := a) (lv := lv) (nv := nv) (s := s) (n := w.length) hr.1
  have hrow : ∀ off, row (look h) ⟨sb, off, 21⟩ = some (hdrC a lv nv s w.length ring) := fun off => by simp [row, h1, hl]
  simp [c104, c104_r0, c104_r1, len1, alen9]
  refine Wt.loop (In104 h sb p w) (m := p.length) ⟨0, rfl, Nat.zero_le _, rfl, fun j hj => by omega⟩ ?_
  rintro m σ ⟨i, rfl, hi, rfl, heq⟩
  have hcut : cut (some [0, 1, 7, 8]) [(0, scPtr sb), (1, .str p), (7, .int .i64 p.length), (8, .int .i64 (i : Int))] = [(0, scPtr sb), (1, .str p), (7, .int .i64 p.length), (8, .int .i64 i)] := by simp
  simp only [hcut]
  by_cases hip : i < p.length
  · have hip' : (i : Int) < p.length := by omega
    have hwr : IntKind.wrap .i64 ((i : Int) + 1) = i + 1 := wrap_i64 (by omega) (by omega)
    obtain ⟨d, hd⟩ : ∃ d : Nat, w.length - p.length = d := ⟨_, rfl⟩
    have hw1 : IntKind.wrap .i64 ((w.length : Int) - p.length) = d := by rw [wrap_i64 (by omega) (by omega)]; omega
    obtain ⟨q, hq⟩ : ∃ q : Nat, d + i = q := ⟨_, rfl⟩
    have hw2 : IntKind.wrap .i64 ((d : Int) + i) = q := by rw [wrap_i64 (by omega) (by omega)]; omega
    obtain ⟨k, hk⟩ : ∃ k : Nat, q % 16 = k := ⟨_, rfl⟩
    have hrem : ((q : Int)).tmod 16 = k := by rw [← hk]; exact tmod_nat' (b := 16)
    have hk16 : k < 16 := by omega
    have hk16' : (k : Int) < 16 := by omega
    have hqw : q < w.length := by omega
    have hring : ring[k]? = some w[q] := by
      rw [← hk, hr.2 q hqw (by omega), List.getElem?_eq_getElem hqw]
    have h5 := hdrC_5 (a := a) (lv := lv) (nv := nv) (s := s) (n := w.length) hring
    have hpi : p[i]? = some p[i] := List.getElem?_eq_getElem hip
    have hu1 := w[q].toNat_lt
    have hu2 := p[i].toNat_lt
    by_cases he : w[q] = p[i]
    · have hnext : In104 h sb p w (p.length - (i + 1)) ⟨[(0, scPtr sb), (1, .str p), (7, .int .i64 p.length), (8, .int .i64 (i + 1 : Nat))], h⟩ := by
        refine ⟨i + 1, rfl, hip, rfl, fun j hj => ?_⟩
        by_cases hji : j = i
        · subst hji
          rw [hd, hq, hpi, List.getElem?_eq_getElem hqw, he]
        · exact heq j (by omega)
      simp [abin_rem, c104_l2, c104_r2, c104_r3, c104_r4, c104_r6, len1, alen9, hip, hip', fieldA, aload, hrow, hdrC_4, hw1, hw2, hrem, aindexAddr, hk16, hk16', h5, aindex, hpi, he, hwr]
      exact ⟨p.length - (i + 1), by omega, by simpa using hnext⟩
    · have hne : ¬ (p <:+ w) := by
        intro hs
        apply he
        have h6 := List.suffix_iff_eq_drop.1 hs
        have h7 : p[i]? = w[d + i]? := by
          rw [← hd]
          have : p[i]? = (w.drop (w.length - p.length))[i]? := by rw [← h6]
          rw [this, List.getElem?_drop]
        rw [hpi, hq, List.getElem?_eq_getElem hqw] at h7
        simpa using h7.symm
      have he' : ¬ ((w[q].toNat : Int) = p[i].toNat) := fun e => he (UInt8.toNat_inj.1 (by omega))
      simp [abin_rem, c104_l2, c104_r2, c104_r3, c104_r4, c104_r5, len1, alen9, hip, hip', fieldA, aload, hrow, hdrC_4, hw1, hw2, hrem, aindexAddr, hk16, hk16', h5, aindex, hpi, he', hne]
  · have : i = p.length := by omega
    subst this
    have hs : p <:+ w := by
      rw [List.suffix_iff_eq_drop]
      apply List.ext_getElem?
      intro j
      rw [List.getElem?_drop]
      by_cases hj : j < p.length
      · exact heq j hj
      · rw [List.getElem?_eq_none (by omega), List.getElem?_eq_none (by omega)]
    simp [c104_l2, c104_r2, c104_r7, hs]

end Go.AM
