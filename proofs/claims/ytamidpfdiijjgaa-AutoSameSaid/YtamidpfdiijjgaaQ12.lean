/-
  The law AutoSame returns true.
-/
import Derived.Test.YtamidpfdiijjgaaA8
import Derived.Test.YtamidpfdiijjgaaB1
import Derived.Test.YtamidpfdiijjgaaT1
import Derived.Test.YtamidpfdiijjgaaL12
namespace Go.AM
open Go Go.Proofs
set_option linter.unusedVariables false
set_option linter.unusedSimpArgs false
set_option maxRecDepth 100000

noncomputable abbrev F12 : CallF := mixed [51] (D cfg)
theorem awake12 {h : Heap} : F12 51 [] h = some (.bool true, h) := awake14c rfl
theorem F12_D {f : FuncId} (hf : f ≠ 51) {args : List AV} {h : Heap} : F12 f args h = D cfg f args h := mixed_D (by simp [hf])

/-- The ends of a text, the longest first. -/
def ends (p : Txt) (k : Nat) : List Txt := (List.range k).map fun i => p.drop i
theorem ends_len {p : Txt} {k : Nat} : (ends p k).length = k := by simp [ends]
theorem ends_succ {p : Txt} {k : Nat} : ends p (k + 1) = ends p k ++ [p.drop k] := by simp [ends, List.range_succ]

/-- The patterns. -/
def samePats (p : Txt) : List Txt := ends p p.length ++ [p]
theorem samePats_len {p : Txt} : (samePats p).length = p.length + 1 := by simp [samePats, ends_len]
theorem samePats_suffix {p : Txt} : ∀ q ∈ samePats p, q <:+ p := by
  intro q hq
  simp [samePats, ends] at hq
  rcases hq with ⟨i, _, rfl⟩ | rfl
  · exact List.drop_suffix i p
  · exact List.suffix_refl _
theorem samePats_good {p : Txt} (h1 : p ≠ []) (h2 : p.length ≤ 16) : bgood (samePats p) = true := by
  simp only [bgood, List.all_eq_true, decide_eq_true_eq]
  have h3 : 0 < p.length := List.length_pos_iff.2 h1
  intro q hq
  simp [samePats, ends] at hq
  rcases hq with ⟨i, hi, rfl⟩ | rfl
  · simp; omega
  · omega
theorem outs_all {x : Txt} : ∀ {l : List Txt} {i : Nat}, (∀ q ∈ l, q <:+ x) → outs x l i = (List.range l.length).map fun k => ((i + k : Nat) : Int)
  | [], i, _ => by simp [outs]
  | q :: r, i, h => by
    have ih := outs_all (x := x) (l := r) (i := i + 1) fun q hq => h q (List.mem_cons_of_mem _ hq)
    simp only [outs, if_pos (h q (List.mem_cons_self ..)), ih, List.length_cons, List.range_succ_eq_map, List.map_cons, List.map_map, Nat.add_zero]
    congr 1
    apply List.map_congr_left
    intro k _
    simp only [Function.comp_apply]
    congr 1
    omega

structure PatH (h₀ : Heap) (l : List Txt) (b : Nat) (h : Heap) : Prop where
  at_ : l.length ≠ 0 → h[b]? = some (.cells (strCells l) 9 true) ∧ h₀.length ≤ b
  only : Only (fun _ => False) h₀ h

theorem PatH.step {h₀ h : Heap} {l : List Txt} {b : Nat} (H : PatH h₀ l b h) (hn : l.length ≤ 1000000) {p : Txt} :
    ∃ δ h' b', append2 Try.prog (look (h ++ [AObj.cells [.str p] 9 true])) (h.length + 1) 38 38 [txtSl b l, .sl (some ⟨h.length, 0, 1⟩) 1 1] = some (txtSl b' (l ++ [p]), δ) ∧ Heap.apply (h ++ [AObj.cells [.str p] 9 true]) δ = h' ∧ PatH h₀ (l ++ [p]) b' h' := by
  obtain ⟨δ, h', e1, e2, e3, e4⟩ := append_txt (h := h) (b := b) (l := l) (p := p) (fun hne => (H.at_ hne).1) hn
  refine ⟨δ, h', _, e1, e2, fun _ => ⟨e3, ?_⟩, H.only.fresh e4 fun c hc => by rw [hc.1]; exact (H.at_ hc.2).2⟩
  have := H.only.1
  split
  · omega
  · rename_i hne; exact (H.at_ hne).2

def Pt12 (h₀ : Heap) (p : Txt) (m : Nat) (σ : St) : Prop :=
  ∃ i b h, m = p.length - i ∧ i ≤ p.length ∧ σ = ⟨[(5, .str p), (6, txtSl b (ends p i)), (7, .int .i64 i)], h⟩ ∧ PatH h₀ (ends p i) b h

theorem pats_loop {h₀ : Heap} {p : Txt} (hp : p.length ≤ 16) {Q : AExit → St → Prop}
    (hq : ∀ b h, PatH h₀ (ends p p.length) b h → Q (.exit 0) ⟨[(5, .str p), (6, txtSl b (ends p p.length)), (7, .int .i64 p.length), (25, .bool false)], h⟩) :
    Wt Try.prog F12 (.loop c12_l6 (some [5, 6, 7])) ⟨[(5, .str p), (6, .sl none 0 0), (7, .int .i64 0)], h₀⟩ Q := by
  refine Wt.loop (Pt12 h₀ p) (m := p.length) ⟨0, 0, h₀, rfl, Nat.zero_le _, rfl, fun h => absurd rfl h, .refl⟩ ?_
  rintro m σ ⟨i, b, h, rfl, hi, rfl, H⟩
  have hcut : cut (some [5, 6, 7]) [(5, .str p), (6, txtSl b (ends p i)), (7, .int .i64 (i : Int))] = [(5, .str p), (6, txtSl b (ends p i)), (7, .int .i64 i)] := by simp
  simp only [hcut]
  by_cases hip : i < p.length
  · have hip' : (i : Int) < p.length := by omega
    have hip2 : (i : Int) ≤ p.length := by omega
    have hwr : IntKind.wrap .i64 ((i : Int) + 1) = i + 1 := wrap_i64 (by omega) (by omega)
    have htk : List.take (p.length - i) (List.drop i p) = p.drop i := List.take_of_length_le (by simp)
    obtain ⟨δ, h', b', e1, e2, H'⟩ := H.step (by rw [ends_len]; omega) (p := p.drop i)
    rw [← ends_succ] at e1 H'
    have hnext : Pt12 h₀ p (p.length - (i + 1)) ⟨[(5, .str p), (6, txtSl b' (ends p (i + 1))), (7, .int .i64 (i + 1 : Nat))], h'⟩ := ⟨i + 1, b', h', rfl, hip, rfl, H'⟩
    simp [c12_l6, c12_r6, c12_r7, c12_r8, len1, alen9, hip, hip', aslice, bound, hip2, hi, htk, abuildSlice, afill, zeros, e1, e2, hwr]
    exact ⟨p.length - (i + 1), by omega, by simpa using hnext⟩
  · have : i = p.length := by omega
    subst this
    have := hq b h H
    simp [c12_l6, c12_r6, len1, alen9]
    simpa using this

def Wk12 (h₁ : Heap) (p : Txt) (sv P : AV) (X : List Txt) (m : Nat) (σ : St) : Prop :=
  ∃ i : Nat, m = p.length - i ∧ i ≤ p.length ∧ σ = ⟨[(5, .str p), (6, sv), (8, P), (10, .int .i64 (st X (lsuf X (p.take i)) : Nat)), (11, .int .i64 i)], h₁⟩

theorem walk12_loop {h : Heap} {p : Txt} {sv : AV} {B : AB} {X ps : List Txt} {tab : Nat → Nat → Nat} {fl ob : Nat → Nat} {ou : Nat → List Int} (hp : p.length ≤ 16) (A : AutoX h B X ps tab fl ob ou) {Q : AExit → St → Prop}
    (hq : Q (.exit 2) ⟨[(5, .str p), (6, sv), (8, B.ptr), (10, .int .i64 (st X (lsuf X p) : Nat)), (11, .int .i64 p.length), (52, .bool false)], h⟩) :
    Wt Try.prog F12 (.loop c12_l15 (some [5, 6, 8, 10, 11])) ⟨[(5, .str p), (6, sv), (8, B.ptr), (10, .int .i64 0), (11, .int .i64 0)], h⟩ Q := by
  refine Wt.loop (Wk12 h p sv B.ptr X) (m := p.length) ⟨0, rfl, Nat.zero_le _, by simp [A.nil]⟩ ?_
  rintro m σ ⟨i, rfl, hi, rfl⟩
  have hcut : ∀ s : Int, cut (some [5, 6, 8, 10, 11]) [(5, .str p), (6, sv), (8, B.ptr), (10, .int .i64 s), (11, .int .i64 (i : Int))] = [(5, .str p), (6, sv), (8, B.ptr), (10, .int .i64 s), (11, .int .i64 i)] := fun s => by simp
  simp only [hcut]
  by_cases hip : i < p.length
  · have hip' : (i : Int) < p.length := by omega
    have hwr : IntKind.wrap .i64 ((i : Int) + 1) = i + 1 := wrap_i64 (by omega) (by omega)
    have e1 := ax_next A (w := p.take i) (b := p[i])
    rw [← List.take_succ_eq_append_getElem hip] at e1
    have hpk : p[i]? = some p[i] := List.getElem?_eq_getElem hip
    have hnext : Wk12 h p sv B.ptr X (p.length - (i + 1)) ⟨[(5, .str p), (6, sv), (8, B.ptr), (10, .int .i64 (st X (lsuf X (p.take (i + 1))) : Nat)), (11, .int .i64 (i + 1 : Nat))], h⟩ := ⟨i + 1, rfl, hip, rfl⟩
    simp [c12_l15, c12_r15, c12_r16, c12_r17, len1, alen9, hip, hip', aindex, hpk, F12_D, e1, hwr]
    exact ⟨p.length - (i + 1), by omega, by simpa using hnext⟩
  · have : i = p.length := by omega
    subst this
    rw [List.take_length]
    simp [c12_l15, c12_r15, len1, alen9]
    simpa using hq

def Ck12 (h : Heap) (sv ov : AV) (n : Nat) (m : Nat) (σ : St) : Prop := ∃ i : Nat, m = n - i ∧ i ≤ n ∧ σ = ⟨[(6, sv), (12, ov), (13, .int .i64 i)], h⟩

theorem same_walk {h₀ : Heap} {v : AV} {l : List Int} {n : Int} (hv : Sl1 h₀ v (intCells l)) (hl : l.length ≤ 9223372036854775807) :
    Wt Try.prog F12 c12 ⟨argsEnv 0 [v, .int .i64 n], h₀⟩ (Ends Try.prog [.tmp 4] fun r _ => r = .bool true) := by
  have p1 := place_run (h := h₀) (v := n) (n := 16) (by decide) (by decide)
  obtain ⟨k, hk⟩ : ∃ k : Nat, n % 16 = k := ⟨(n % 16).toNat, by omega⟩
  rw [hk] at p1
  have hk16 : k < 16 := by omega
  obtain ⟨K, hK⟩ : ∃ K, K = k + 1 := ⟨_, rfl⟩
  have hw1 : IntKind.wrap .i64 (1 + (k : Int)) = (K : Int) := by rw [wrap_i64 (by omega) (by omega)]; omega
  obtain ⟨p, h1, e1, hp, o1⟩ := letters hv (n := K) (by omega) hl
  have hp16 : p.length ≤ 16 := by omega
  by_cases hp0 : p = []
  · subst hp0
    simp [c12, c12_r0, c12_r1, c12_r2, c12_r3, F12_D, p1, hw1, e1, awake12]
  · have hloop := fun Q hq => pats_loop (h₀ := h1) (Q := Q) hp16 hq
    simp [c12, c12_r0, c12_r1, c12_r2, F12_D, p1, hw1, e1, hp0, c12_r4, c12_r5]
    refine hloop _ fun b h2 H2 => ?_
    obtain ⟨δ, h3, b3, e3, e4, H3⟩ := H2.step (by rw [ends_len]; omega) (p := p)
    have hsp : ends p p.length ++ [p] = samePats p := rfl
    rw [hsp] at e3 H3
    have hpl := samePats_len (p := p)
    have hs3 : Sl1 h3 (txtSl b3 (samePats p)) (strCells (samePats p)) := Sl1.txt (s := true) fun hne => (H3.at_ hne).1
    obtain ⟨r, h4, e5, o4, hr⟩ := build_run (bud := 4096) hs3 (fun c hc => by
      have hne : (samePats p).length ≠ 0 := by omega
      simp only [txtSl, bufSl, if_neg hne, slB] at hc
      simp at hc
      subst hc
      exact lt_of_at (H3.at_ hne).1) (by omega)
    have hg := samePats_good hp0 hp16
    have hb : (begs (samePats p)).length ≤ 4096 := by
      have := begs_len (ps := samePats p) (fun q hq => by have := bgood_at hg hq; omega)
      omega
    rcases hr with ⟨hbad, _⟩ | ⟨_, hb1, _⟩ | ⟨_, _, _, B, tab, fl, ob, ou, rfl, A, _⟩
    · rw [hg] at hbad; simp at hbad
    · rcases hb1 with hb1 | ⟨_, hb1⟩ <;> omega
    have hw := fun Q hq => walk12_loop (sv := txtSl b3 (samePats p)) (Q := Q) hp16 A hq
    simp [c12_r9, c12_r10, c12_r11, c12_r13, c12_r14, abuildSlice, afill, zeros, e3, e4, F12_D, e5, extractV]
    refine hw _ ?_
    obtain ⟨bo, h5, e6, o5, ho⟩ := ax_out A (w := p)
    have hall := outs_all (i := 0) (samePats_suffix (p := p))
    have hol : (outs p (samePats p) 0).length = p.length + 1 := by rw [hall]; simp [hpl]
    have hone : outs p (samePats p) 0 ≠ [] := fun e => by rw [e] at hol; simp at hol
    have hso : Sl1 h5 (intSl bo (outs p (samePats p) 0)) (intCells (outs p (samePats p) 0)) := Sl1.ints fun hne => (ho hne).1
    obtain ⟨O, hO⟩ : ∃ O, outs p (samePats p) 0 = O := ⟨_, rfl⟩
    rw [hO] at e6 hol hso
    have hOl := fun L => hso.len (t := 30) (e := 3) (by simp) (L := L)
    simp only [intCells_len, hol] at hOl
    simp [c12_r18, c12_r19, F12_D, e6]
    refine Wt.loop (Ck12 h5 (txtSl b3 (samePats p)) (intSl bo O) (p.length + 1)) (m := p.length + 1) ⟨0, rfl, Nat.zero_le _, rfl⟩ ?_
    rintro m σ ⟨i, rfl, hi, rfl⟩
    have hcut : cut (some [6, 12, 13]) [(6, txtSl b3 (samePats p)), (12, intSl bo O), (13, .int .i64 (i : Int))] = [(6, txtSl b3 (samePats p)), (12, intSl bo O), (13, .int .i64 i)] := by simp
    simp only [hcut]
    by_cases hip : i < p.length + 1
    · have hip' : (i : Int) < p.length + 1 := by omega
      have hwr : IntKind.wrap .i64 ((i : Int) + 1) = i + 1 := wrap_i64 (by omega) (by omega)
      have a1 := hso.at (t := 30) (e := 3) (by simp) (by simp) (i := i) (by rw [intCells_len, hol]; exact hip)
      have b1 := hso.load (e := 3) (by simp) (i := i) (by rw [intCells_len, hol]; exact hip)
      have hOi : (intCells O)[i]'(by rw [intCells_len, hol]; exact hip) = .int .i64 i := by
        have : (intCells O)[i]? = some (.int .i64 i) := by
          rw [intCells_at, ← hO, hall]
          simp [hpl, hip]
        rw [List.getElem?_eq_getElem (by rw [intCells_len, hol]; exact hip)] at this
        simpa using this
      rw [hOi] at b1
      have hnext : Ck12 h5 (txtSl b3 (samePats p)) (intSl bo O) (p.length + 1) (p.length + 1 - (i + 1)) ⟨[(6, txtSl b3 (samePats p)), (12, intSl bo O), (13, .int .i64 (i + 1 : Nat))], h5⟩ := ⟨i + 1, rfl, hip, rfl⟩
      simp [c12_l20, c12_r20, c12_r21, c12_r22, len1, hOl, hip, hip', a1, b1, hwr]
      exact ⟨p.length + 1 - (i + 1), by omega, by simpa using hnext⟩
    · have : i = p.length + 1 := by omega
      subst this
      simp [c12_l20, c12_r20, c12_r24, len1, hOl, txtSl_len, hpl, awake12]

end Go.AM
