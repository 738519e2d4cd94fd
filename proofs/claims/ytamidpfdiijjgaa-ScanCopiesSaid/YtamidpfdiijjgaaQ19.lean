/-
  The law ScanCopies returns true.
-/
import Derived.Test.YtamidpfdiijjgaaN6
import Derived.Test.YtamidpfdiijjgaaL19
namespace Go.AM
open Go Go.Proofs
set_option linter.unusedVariables false
set_option linter.unusedSimpArgs false
set_option maxRecDepth 100000

noncomputable abbrev F19 : CallF := mixed [62] (D cfg)
theorem awake19 {h : Heap} : F19 62 [] h = some (.bool true, h) := awake15c rfl
theorem F19_D {f : FuncId} (hf : f ≠ 62) {args : List AV} {h : Heap} : F19 f args h = D cfg f args h := mixed_D (by simp [hf])

section
variable {lv nv : AV} {B : AB} {l : List Txt} {nc : List Bool} {t : Txt} {tab : Nat → Nat → Nat} {fl ob : Nat → Nat} {ou : Nat → List Int}

/-- Another scanner over the same automaton is not turned. -/
theorem ScanX.other {h h' : Heap} {sb sb' : Nat} {w w' : Txt} (H : ScanX h sb lv nv B l nc w tab fl ob ou) (H' : ScanX h sb' lv nv B l nc w' tab fl ob ou) (hne : sb ≠ sb') (o : Only (fun c => c = sb') h h') : ScanX h' sb lv nv B l nc w tab fl ob ou := by
  refine H.keep o ?_
  rintro c (rfl | hc | hc | hc) e
  · exact hne e
  · exact H'.sepL (e ▸ hc)
  · exact H'.sepN (e ▸ hc)
  · exact H'.sepA (e ▸ hc)

theorem ScanX.lt {h : Heap} {sb : Nat} {w : Txt} (H : ScanX h sb lv nv B l nc w tab fl ob ou) : sb < h.length := by
  obtain ⟨ring, _, g⟩ := H.sc.hdr
  exact lt_of_at g

def Fi19 (t : Txt) (sb : Nat) (lv nv : AV) (B : AB) (l : List Txt) (nc : List Bool) (tab : Nat → Nat → Nat) (fl ob : Nat → Nat) (ou : Nat → List Int) (k : Nat) (m : Nat) (σ : St) : Prop :=
  ∃ i h, m = k - i ∧ i ≤ k ∧ σ = ⟨[(2, .str t), (9, scPtr sb), (10, .int .i64 k), (11, .int .i64 i)], h⟩ ∧ ScanX h sb lv nv B l nc (t.take i) tab fl ob ou

theorem first19 {h : Heap} {sb k : Nat} (X : ScanX h sb lv nv B l nc [] tab fl ob ou) (hk : k ≤ t.length) (ht : t.length ≤ 300) {Q : AExit → St → Prop}
    (hq : ∀ h', ScanX h' sb lv nv B l nc (t.take k) tab fl ob ou → Q (.exit 0) ⟨[(2, .str t), (9, scPtr sb), (10, .int .i64 k), (11, .int .i64 k), (42, .bool false)], h'⟩) :
    Wt Try.prog F19 (.loop c19_l8 (some [2, 9, 10, 11])) ⟨[(2, .str t), (9, scPtr sb), (10, .int .i64 k), (11, .int .i64 0)], h⟩ Q := by
  refine Wt.loop (Fi19 t sb lv nv B l nc tab fl ob ou k) (m := k) ⟨0, h, rfl, Nat.zero_le _, rfl, by simpa using X⟩ ?_
  rintro m σ ⟨i, h1, rfl, hi, rfl, X1⟩
  have hcut : cut (some [2, 9, 10, 11]) [(2, .str t), (9, scPtr sb), (10, .int .i64 k), (11, .int .i64 (i : Int))] = [(2, .str t), (9, scPtr sb), (10, .int .i64 k), (11, .int .i64 i)] := by simp
  simp only [hcut]
  by_cases hik : i < k
  · have hik' : (i : Int) < k := by omega
    have hit : i < t.length := by omega
    have hwr : IntKind.wrap .i64 ((i : Int) + 1) = i + 1 := wrap_i64 (by omega) (by omega)
    have hti : t[i]? = some t[i] := List.getElem?_eq_getElem hit
    have hwl : (t.take i).length = i := by simp; omega
    obtain ⟨bo, h2, e1, X2, o2, d2⟩ := scan_step X1 (by omega) (b := t[i])
    rw [(List.take_succ_eq_append_getElem hit).symm] at X2
    have hnext : Fi19 t sb lv nv B l nc tab fl ob ou k (k - (i + 1)) ⟨[(2, .str t), (9, scPtr sb), (10, .int .i64 k), (11, .int .i64 (i + 1 : Nat))], h2⟩ := ⟨i + 1, h2, rfl, hik, rfl, X2⟩
    simp [c19_l8, c19_r8, c19_r9, c19_r10, hik, hik', aindex, hti, F19_D, e1, hwr]
    exact ⟨k - (i + 1), by omega, by simpa using hnext⟩
  · have : i = k := by omega
    subst this
    have := hq h1 X1
    simp [c19_l8, c19_r8]
    simpa using this

def Se19 (t : Txt) (sb : Nat) (lv nv : AV) (B : AB) (l : List Txt) (nc : List Bool) (tab : Nat → Nat → Nat) (fl ob : Nat → Nat) (ou : Nat → List Int) (m : Nat) (σ : St) : Prop :=
  ∃ i sb' h, m = t.length - i ∧ i ≤ t.length ∧ σ = ⟨[(2, .str t), (9, scPtr sb), (12, scPtr sb'), (13, .int .i64 i)], h⟩ ∧ ScanX h sb lv nv B l nc (t.take i) tab fl ob ou ∧ ScanX h sb' lv nv B l nc (t.take i) tab fl ob ou ∧ sb ≠ sb'

theorem second19 {h : Heap} {sb sb' k : Nat} (hk : k ≤ t.length) (X : ScanX h sb lv nv B l nc (t.take k) tab fl ob ou) (X' : ScanX h sb' lv nv B l nc (t.take k) tab fl ob ou) (hne : sb ≠ sb') (ht : t.length ≤ 300) {Q : AExit → St → Prop}
    (hq : ∀ sb' h', Q (.exit 2) ⟨[(2, .str t), (9, scPtr sb), (12, scPtr sb'), (13, .int .i64 t.length), (58, .bool false)], h'⟩) :
    Wt Try.prog F19 (.loop c19_l15 (some [2, 9, 12, 13])) ⟨[(2, .str t), (9, scPtr sb), (12, scPtr sb'), (13, .int .i64 k)], h⟩ Q := by
  refine Wt.loop (Se19 t sb lv nv B l nc tab fl ob ou) (m := t.length - k) ⟨k, sb', h, rfl, hk, rfl, X, X', hne⟩ ?_
  rintro m σ ⟨i, s1, h1, rfl, hi, rfl, X1, Y1, hne1⟩
  have hcut : cut (some [2, 9, 12, 13]) [(2, .str t), (9, scPtr sb), (12, scPtr s1), (13, .int .i64 (i : Int))] = [(2, .str t), (9, scPtr sb), (12, scPtr s1), (13, .int .i64 i)] := by simp
  simp only [hcut]
  by_cases hit : i < t.length
  · have hit' : (i : Int) < t.length := by omega
    have hwr : IntKind.wrap .i64 ((i : Int) + 1) = i + 1 := wrap_i64 (by omega) (by omega)
    have hti : t[i]? = some t[i] := List.getElem?_eq_getElem hit
    have hwl : (t.take i).length = i := by simp; omega
    have hwl1 : (t.take (i + 1)).length = i + 1 := by simp; omega
    have htk := (List.take_succ_eq_append_getElem hit).symm
    -- the copy steps
    obtain ⟨bx, h2, e2, Y2, o2, d2⟩ := scan_step Y1 (by omega) (b := t[i])
    have X2 := X1.other Y1 hne1 o2
    -- the copy steps once more
    obtain ⟨bz, h3, e3, Y3, o3, d3⟩ := scan_step Y2 (by rw [List.length_append]; simp; omega) (b := 63)
    have X3 := X2.other Y2 hne1 o3
    have e3' : D cfg 65 [scPtr s1, .int .u8 63] h2 = some (intSl bz (hits nc (List.take i t ++ [t[i]] ++ [63]) l 0), h3) := e3
    -- a new copy
    obtain ⟨s2, h4, e4, Y4, o4, n4⟩ := scan_copy X3
    have X4 := X3.same o4
    have hl3 := X3.lt
    have hne2 : sb ≠ s2 := by omega
    -- the first one steps
    obtain ⟨by_, h5, e5, X5, o5, d5⟩ := scan_step X4 (by omega) (b := t[i])
    have Y5 := Y4.other X4 (Ne.symm hne2) o5
    rw [htk] at e2 e5 d2 d5 X5
    have hs1 := Y1.lt
    have hsb := X1.lt
    obtain ⟨O, hO⟩ : ∃ O, hits nc (t.take (i + 1)) l 0 = O := ⟨_, rfl⟩
    have hOl : O.length ≤ l.length := by rw [← hO]; exact hits_len
    have hfew := X1.few
    rw [hO] at e2 e5 d2 d5
    have sx : Sl1 h5 (intSl bx O) (intCells O) := Sl1.ints fun hne => by
      obtain ⟨j1, j2⟩ := d2 hne
      have k3 := o3.at j2 (by omega)
      exact o5.at (o4.at k3 id) (by omega)
    have sy : Sl1 h5 (intSl by_ O) (intCells O) := Sl1.ints fun hne => (d5 hne).2
    have e6 := same_ints sx sy (by omega)
    have e7 := scan_at X5.sc
    rw [hwl1] at e7
    have e8 := scan_at Y5.sc
    rw [hwl] at e8
    have hcast : ((i + 1 : Nat) : Int) = (i : Int) + 1 := rfl
    rw [hcast] at e7
    obtain ⟨s3, h6, e9, Y6, o6, n6⟩ := scan_copy X5
    have X6 := X5.same o6
    have hl5 := X5.lt
    have hnext : Se19 t sb lv nv B l nc tab fl ob ou (t.length - (i + 1)) ⟨[(2, .str t), (9, scPtr sb), (12, scPtr s3), (13, .int .i64 (i + 1 : Nat))], h6⟩ := ⟨i + 1, s3, h6, rfl, hit, rfl, X6, Y6, by omega⟩
    simp [c19_l15, c19_r15, c19_r16, c19_r17, c19_r18, c19_r19, c19_r20, c19_r21, c19_r23, c19_r24, len1, alen9, hit, hit', aindex, hti, F19_D, e2, e3', e4, e5, e6, e7, e8, hwr, e9]
    exact ⟨t.length - (i + 1), by omega, by simpa using hnext⟩
  · have : i = t.length := by omega
    subst this
    have := hq s1 h1
    simp [c19_l15, c19_r15, len1, alen9]
    simpa using this

theorem copies_walk {h₀ : Heap} {v u : AV} {cutn : Int} (hvv : Sl1 h₀ v (strCells l)) (hu : Sl1 h₀ u (boolCells nc)) (hl : l.length ≤ 9223372036854775807) :
    Wt Try.prog F19 c19 ⟨argsEnv 0 [v, u, .str t, .int .i64 cutn], h₀⟩ (Ends Try.prog [.tmp 8] fun r _ => r = .bool true) := by
  have e1 := few15_run hvv (by omega)
  have hlen2 := fun L => hu.len (t := 68) (e := 4) (by simp) (L := L)
  simp only [boolCells_len] at hlen2
  cases hf : fewB 15 l with
  | false =>
    rw [hf] at e1
    simp [c19, c19_r0, c19_r1, c19_r2, F19_D, e1, awake19]
  | true =>
    rw [hf] at e1
    simp only [fewB, Bool.and_eq_true, decide_eq_true_eq] at hf
    obtain ⟨hl15, hg⟩ := hf
    by_cases h30 : 30 < nc.length
    · have h30' : (30 : Int) < nc.length := by omega
      simp [c19, c19_r0, c19_r1, c19_r2, F19_D, e1, len1, hlen2, h30, h30', awake19]
    · have h30' : ¬ ((30 : Int) < nc.length) := by omega
      by_cases h300 : 300 < t.length
      · have h300' : (300 : Int) < t.length := by omega
        simp [c19, c19_r0, c19_r1, c19_r2, F19_D, e1, len1, hlen2, h30, h30', alen9, h300, h300', awake19]
      · have h300' : ¬ ((300 : Int) < t.length) := by omega
        obtain ⟨sb, lv, nv, B, tab, fl, ob, ou, h1, e2, X1, o1, f1⟩ := make_scan hvv hu (by omega) hg (by omega)
        obtain ⟨n1, hn1⟩ : ∃ n1 : Nat, n1 = t.length + 1 := ⟨_, rfl⟩
        have hw1 : IntKind.wrap .i64 ((t.length : Int) + 1) = n1 := by rw [wrap_i64 (by omega) (by omega)]; omega
        have p1 := place_run (h := h1) (v := cutn) (n := (n1 : Int)) (by omega) (by omega)
        obtain ⟨k, hk⟩ : ∃ k : Nat, cutn % (n1 : Int) = k := ⟨(cutn % (n1 : Int)).toNat, by have := Int.emod_nonneg cutn (b := (n1 : Int)) (by omega); omega⟩
        have hkn : (k : Int) < n1 := by rw [← hk]; exact Int.emod_lt_of_pos _ (by omega)
        rw [hk] at p1
        have hfst := fun Q hq => first19 (t := t) (Q := Q) X1 (k := k) (by omega) (by omega) hq
        simp [c19, c19_r0, c19_r1, c19_r3, c19_r4, c19_r6, c19_r7, F19_D, e1, len1, hlen2, h30, h30', alen9, h300, h300', e2, hw1, p1]
        refine hfst _ fun h2 X2 => ?_
        obtain ⟨sb', h3, e3, Y3, o3, n3⟩ := scan_copy X2
        have X3 := X2.same o3
        have hl2 := X2.lt
        have hsnd := fun Q hq => second19 (Q := Q) (k := k) (by omega) X3 Y3 (by omega) (by omega) hq
        simp [c19_r11, c19_r12, c19_r14, F19_D, e3]
        refine hsnd _ fun s4 h4 => ?_
        simp [c19_r26, awake19]
end
end Go.AM
