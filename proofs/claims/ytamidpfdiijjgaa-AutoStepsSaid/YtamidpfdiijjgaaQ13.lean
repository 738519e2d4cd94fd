/-
  The law AutoSteps returns true.
-/
import Derived.Test.YtamidpfdiijjgaaA9
import Derived.Test.YtamidpfdiijjgaaL13
namespace Go.AM
open Go Go.Proofs
set_option linter.unusedVariables false
set_option linter.unusedSimpArgs false
set_option maxRecDepth 100000

noncomputable abbrev F13 : CallF := mixed [51] (D cfg)
theorem awake13 {h : Heap} : F13 51 [] h = some (.bool true, h) := awake14c rfl
theorem F13_D {f : FuncId} (hf : f ≠ 51) {args : List AV} {h : Heap} : F13 f args h = D cfg f args h := mixed_D (by simp [hf])

theorem slB_txt {b c : Nat} {l : List Txt} (h : slB (txtSl b l) = some c) : c = b ∧ l.length ≠ 0 := by
  unfold txtSl bufSl at h
  split at h
  · simp [slB] at h
  · rename_i hne
    simp [slB] at h
    exact ⟨h.symm, hne⟩

/-- 'Build' answers with two values, whatever it is asked. -/
theorem build_any {h : Heap} {v : AV} {l : List Txt} {bud : Int} (hv : Sl1 h v (strCells l)) (hvb : ∀ b, slB v = some b → b < h.length) (hl : l.length ≤ 9000000000000) :
    ∃ p e h', D cfg 52 [v, .int .i64 bud] h = some (.tup [p, .int .i64 e], h') ∧ Only (fun _ => False) h h' := by
  obtain ⟨r, h', e, o, hr⟩ := build_run (bud := bud) hv hvb hl
  rcases hr with ⟨_, rfl⟩ | ⟨_, _, rfl⟩ | ⟨_, _, _, B, tab, fl, ob, ou, rfl, _⟩
  · exact ⟨_, _, h', e, o⟩
  · exact ⟨_, _, h', e, o⟩
  · exact ⟨_, _, h', e, o⟩

/-! ### the document's answer at a place -/

abbrev wenv (v : AV) (t : Txt) (P : AV) (s n : Nat) (w : AV) (j : Nat) : Env := [(0, v), (1, .str t), (5, P), (7, .int .i64 s), (8, .int .i64 n), (9, w), (10, .int .i64 j)]

def Wn13 (h₀ : Heap) (v : AV) (l : List Txt) (t : Txt) (P : AV) (s n : Nat) (m : Nat) (σ : St) : Prop :=
  ∃ j bw h, m = l.length - j ∧ j ≤ l.length ∧ σ = ⟨wenv v t P s n (intSl bw (outs (t.take n) (l.take j) 0)) j, h⟩ ∧ Only (fun _ => False) h₀ h ∧ (outs (t.take n) (l.take j) 0 ≠ [] → h₀.length ≤ bw ∧ h[bw]? = some (.cells (intCells (outs (t.take n) (l.take j) 0)) 3 true))

theorem want13 {h₀ : Heap} {v P : AV} {l : List Txt} {t : Txt} {s n : Nat} (hv : Sl1 h₀ v (strCells l)) (hl : l.length ≤ 1000) (hp : ∀ p ∈ l, p.length ≤ 1000000) (ht : t.length ≤ 1000000) (hn : n ≤ t.length) {Q : AExit → St → Prop}
    (hq : ∀ h bw, Only (fun _ => False) h₀ h → (outs (t.take n) l 0 ≠ [] → h[bw]? = some (.cells (intCells (outs (t.take n) l 0)) 3 true)) → Q (.exit 2) ⟨wenv v t P s n (intSl bw (outs (t.take n) l 0)) l.length ++ [(81, .bool false)], h⟩) :
    Wt Try.prog F13 (.loop c13_l15 (some [0, 1, 5, 7, 8, 9, 10])) ⟨wenv v t P s n (.sl none 0 0) 0, h₀⟩ Q := by
  refine Wt.loop (Wn13 h₀ v l t P s n) (m := l.length) ⟨0, 0, h₀, rfl, Nat.zero_le _, by simp [outs, intSl], .refl, fun h => absurd rfl h⟩ ?_
  rintro m σ ⟨j, bw, h, rfl, hj, rfl, ho, hw⟩
  have hcut : cut (some [0, 1, 5, 7, 8, 9, 10]) (wenv v t P s n (intSl bw (outs (t.take n) (l.take j) 0)) j) = wenv v t P s n (intSl bw (outs (t.take n) (l.take j) 0)) j := by simp
  simp only [hcut]
  have hlen := fun L => hv.len (t := 38) (e := 9) (by simp) (L := L)
  simp only [strCells_len] at hlen
  by_cases hjl : j < l.length
  · have hjl' : (j : Int) < l.length := by omega
    have hwr : IntKind.wrap .i64 ((j : Int) + 1) = j + 1 := wrap_i64 (by omega) (by omega)
    have a1 := hv.at (t := 38) (e := 9) (by simp) (by simp) (i := j) (by rw [strCells_len]; exact hjl)
    have b1 := (hv.same ho).load (e := 9) (by simp) (i := j) (by rw [strCells_len]; exact hjl)
    rw [strCells_get, txt_eq] at b1
    have htk : l.take (j + 1) = l.take j ++ [txt l j] := by rw [List.take_succ_eq_append_getElem hjl, txt_eq hjl]
    have hpl := hp (txt l j) (by rw [← txt_eq hjl]; exact List.getElem_mem hjl)
    obtain ⟨h1, e1, o1⟩ := at_ref (h := h) (p := txt l j) (s := t) (nc := false) (e := n) hpl ht
    rw [patAt_plain hn] at e1
    have ho1 := ho.trans o1
    have hout : outs (t.take n) (l.take (j + 1)) 0 = if txt l j <:+ t.take n then outs (t.take n) (l.take j) 0 ++ [(j : Int)] else outs (t.take n) (l.take j) 0 := by
      rw [htk, outs_app]
      simp [Nat.min_eq_left hj]
    by_cases he : txt l j <:+ t.take n
    · rw [if_pos he] at hout
      rw [decide_eq_true he] at e1
      obtain ⟨δ, h2, e2, e3, e4, o2⟩ := append_int (h := h1) (b := bw) (l := outs (t.take n) (l.take j) 0) (x := j) (fun hne => o1.at (hw hne).2 id) (by have := outs_len (x := t.take n) (l := l.take j) (i := 0); simp at this; omega)
      rw [← hout] at e2 e4
      have hnext : Wn13 h₀ v l t P s n (l.length - (j + 1)) ⟨wenv v t P s n (intSl (if outs (t.take n) (l.take j) 0 = [] then h1.length + 1 else bw) (outs (t.take n) (l.take (j + 1)) 0)) (j + 1), h2⟩ := by
        refine ⟨j + 1, _, h2, rfl, hjl, rfl, ho1.fresh o2 fun c e => by rw [e.1]; exact (hw e.2).1, fun _ => ⟨?_, e4⟩⟩
        have := ho1.1
        split
        · omega
        · rename_i hne; exact (hw hne).1
      simp only [wenv] at hnext
      simp [c13_l15, c13_r15, c13_r16, c13_r17, c13_r18, len1, hlen, hjl, hjl', a1, b1, F13_D, e1, abuildSlice, afill, zeros, e2, e3, hwr]
      exact ⟨l.length - (j + 1), by omega, by simpa using hnext⟩
    · rw [if_neg he] at hout
      rw [decide_eq_false he] at e1
      have hnext : Wn13 h₀ v l t P s n (l.length - (j + 1)) ⟨wenv v t P s n (intSl bw (outs (t.take n) (l.take (j + 1)) 0)) (j + 1), h1⟩ := by
        refine ⟨j + 1, _, h1, rfl, hjl, rfl, ho1, ?_⟩
        rw [hout]
        exact fun hne => ⟨(hw hne).1, o1.at (hw hne).2 id⟩
      rw [hout] at hnext
      simp only [wenv] at hnext
      simp [c13_l15, c13_r15, c13_r16, c13_r17, len1, hlen, hjl, hjl', a1, b1, F13_D, e1, hwr]
      exact ⟨l.length - (j + 1), by omega, by simpa using hnext⟩
  · have : j = l.length := by omega
    subst this
    rw [List.take_length] at hw ⊢
    have := hq h bw ho fun hne => (hw hne).2
    simp only [wenv] at this
    simp [c13_l15, c13_r15, len1, hlen]
    simpa using this

abbrev senv (v : AV) (t : Txt) (P : AV) (s i : Nat) : Env := [(0, v), (1, .str t), (5, P), (7, .int .i64 s), (8, .int .i64 i)]

def St13 (h₀ : Heap) (v : AV) (l : List Txt) (t : Txt) (P : AV) (m : Nat) (σ : St) : Prop :=
  ∃ i h, m = t.length - i ∧ i ≤ t.length ∧ σ = ⟨senv v t P (st (begs l) (lsuf (begs l) (t.take i))) (i + 1), h⟩ ∧ Only (fun _ => False) h₀ h

theorem steps13 {h₀ : Heap} {v : AV} {l : List Txt} {t : Txt} {B : AB} {tab : Nat → Nat → Nat} {fl ob : Nat → Nat} {ou : Nat → List Int} (A : AutoX h₀ B (begs l) l tab fl ob ou) (hv : Sl1 h₀ v (strCells l)) (hl : l.length ≤ 1000) (hp : ∀ p ∈ l, p.length ≤ 16) (ht : t.length ≤ 300) {Q : AExit → St → Prop}
    (hq : ∀ h s, Only (fun _ => False) h₀ h → Q (.exit 0) ⟨senv v t B.ptr s (t.length + 1) ++ [(68, .bool false)], h⟩) :
    Wt Try.prog F13 (.loop c13_l10 (some [0, 1, 5, 7, 8])) ⟨senv v t B.ptr 0 1, h₀⟩ Q := by
  refine Wt.loop (St13 h₀ v l t B.ptr) (m := t.length) ⟨0, h₀, rfl, Nat.zero_le _, by simp [A.nil], .refl⟩ ?_
  rintro m σ ⟨i, h1, rfl, hi, rfl, o1⟩
  obtain ⟨s, hs⟩ : ∃ s, st (begs l) (lsuf (begs l) (t.take i)) = s := ⟨_, rfl⟩
  rw [hs]
  have hcut : cut (some [0, 1, 5, 7, 8]) (senv v t B.ptr s (i + 1)) = senv v t B.ptr s (i + 1) := by simp
  simp only [hcut]
  have A1 := A.same o1
  by_cases hit : i < t.length
  · have hit' : (i : Int) + 1 ≤ t.length := by omega
    have hwr : IntKind.wrap .i64 ((i : Int) + 1 + 1) = i + 1 + 1 := wrap_i64 (by omega) (by omega)
    have hwr2 : IntKind.wrap .i64 (i : Int) = i := wrap_i64 (by omega) (by omega)
    have hti : t[i]? = some t[i] := List.getElem?_eq_getElem hit
    have e1 := ax_next A1 (w := t.take i) (b := t[i])
    rw [← List.take_succ_eq_append_getElem hit, hs] at e1
    obtain ⟨s2, hs2⟩ : ∃ s, st (begs l) (lsuf (begs l) (t.take (i + 1))) = s := ⟨_, rfl⟩
    rw [hs2] at e1
    have hmem := A1.lmem (w := t.take (i + 1))
    have hlt := A1.lt (w := t.take (i + 1))
    rw [hs2] at hlt
    have hwant := fun Q hq => want13 (Q := Q) (P := B.ptr) (s := s2) (n := i + 1) (hv.same o1) hl (fun p h => by have := hp p h; omega) (by omega) hit hq
    simp only [wenv] at hwant
    have hcast : ((i + 1 : Nat) : Int) = (i : Int) + 1 := rfl
    rw [hcast] at hwant
    simp [c13_l10, c13_r10, c13_r12, c13_r13, c13_r14, len1, alen9, hit, hit', hwr2, aindex, hti, F13_D, e1]
    refine hwant _ fun h2 bw o2 hw => ?_
    have A2 := A1.same o2
    have e2 := ax_states A2
    obtain ⟨bo, h3, e3, o3, ho⟩ := ax_out A2 (w := t.take (i + 1))
    rw [hs2] at e3
    have hol := outs_len (x := t.take (i + 1)) (l := l) (i := 0)
    have e4 := same_ints (h := h3) (v := intSl bo (outs (t.take (i + 1)) l 0)) (w := intSl bw (outs (t.take (i + 1)) l 0)) (Sl1.ints fun hne => (ho hne).1) (Sl1.ints fun hne => o3.at (hw hne) id) (by omega)
    have A3 := A2.same o3
    have e5 := ax_fail A3 hmem
    rw [hs2] at e5
    have hfl := st_lt (fsuf_mem (x := lsuf (begs l) (t.take (i + 1))) A3.mem0)
    have hfs : s2 ≠ 0 → st (begs l) (fsuf (begs l) (lsuf (begs l) (t.take (i + 1)))) ≠ s2 := by
      intro h0 e
      rw [← hs2] at e
      have h1 := st_inj (fsuf_mem A3.mem0) hmem e
      by_cases hx : lsuf (begs l) (t.take (i + 1)) = []
      · rw [hx, st_nil A3.nodup A3.zero] at hs2; exact h0 hs2.symm
      · have h2 := fsuf_len (X := begs l) hx
        rw [h1] at h2; omega
    obtain ⟨f, hf⟩ : ∃ f, st (begs l) (fsuf (begs l) (lsuf (begs l) (t.take (i + 1)))) = f := ⟨_, rfl⟩
    rw [hf] at e5 hfl hfs
    have e6 := ax_states A3
    have hlt1 : ¬ ((begs l).length ≤ s2) := by omega
    have hfl1 : ¬ ((begs l).length ≤ f) := by omega
    have hnn1 : ¬ ((s2 : Int) < 0) := by omega
    have hnn2 : ¬ ((f : Int) < 0) := by omega
    have hnext : St13 h₀ v l t B.ptr (t.length - (i + 1)) ⟨senv v t B.ptr s2 (i + 1 + 1), h3⟩ := ⟨i + 1, h3, rfl, hit, by rw [hs2], (o1.trans o2).trans o3⟩
    simp only [senv] at hnext
    have hbne : ¬ (begs l = []) := fun e => by have := A3.mem0; rw [e] at this; simp at this
    by_cases h0 : s2 = 0
    · have h0' : ¬ (0 < s2) := by omega
      simp [c13_r11, c13_r19, F13_D, e2, hlt1, e3, e4, e5, hfl1, hnn1, hnn2, e6, h0', hwr]
      exact ⟨t.length - (i + 1), by omega, by simpa using hnext⟩
    · have hfs' := hfs h0
      have hfs2 : ¬ ((f : Int) = s2) := by omega
      have h0' : 0 < s2 := by omega
      have h0'' : (0 : Int) < s2 := by omega
      simp [c13_r11, c13_r19, F13_D, e2, hlt1, e3, e4, e5, hfl1, hnn1, hnn2, e6, h0, h0', h0'', hfs', hfs2, hwr]
      exact ⟨t.length - (i + 1), by omega, by simpa using hnext⟩
  · have : i = t.length := by omega
    subst this
    have := hq h1 s o1
    simp only [senv] at this
    have hii : ¬ ((t.length : Int) + 1 ≤ t.length) := by omega
    simp [c13_l10, c13_r10, len1, alen9, hii]
    simpa using this

theorem autosteps_walk {h₀ : Heap} {v : AV} {l : List Txt} {t : Txt} (hv : Sl1 h₀ v (strCells l)) (hvb : ∀ b, slB v = some b → b < h₀.length) (hl : l.length ≤ 8796093022208) (ht : t.length ≤ 9223372036854775807) :
    Wt Try.prog F13 c13 ⟨argsEnv 0 [v, .str t], h₀⟩ (Ends Try.prog [.tmp 4] fun r _ => r = .bool true) := by
  obtain ⟨δ, h1, e1, e2, d1, o1⟩ := copy_txt hv hl
  have hv1 : Sl1 h1 (txtSl h₀.length l) (strCells l) := Sl1.txt (s := true) d1
  have hvb1 : ∀ b, slB (txtSl h₀.length l) = some b → b < h1.length := fun b hb => by
    obtain ⟨rfl, hne⟩ := slB_txt hb
    exact lt_of_at (d1 hne)
  have hlen := fun L => hv.len (t := 38) (e := 9) (by simp) (L := L)
  simp only [strCells_len] at hlen
  cases hf : fewB 20 l with
  | false =>
    by_cases h20 : 20 < l.length
    · have h20' : (20 : Int) < l.length := by omega
      obtain ⟨p, e, h2, e3, o2⟩ := build_any (bud := 4096) hv1 hvb1 (by omega)
      have e4 := few_run (hv.same (o1.trans o2)) (by omega)
      rw [hf] at e4
      simp [c13, c13_r0, c13_r1, c13_r2, c13_r3, c13_r4, e1, e2, F13_D, e3, extractV, e4, len1, hlen, h20, h20', awake13]
    · have h20' : ¬ ((20 : Int) < l.length) := by omega
      have hg : bgood l = false := by
        cases hg : bgood l with
        | false => rfl
        | true => simp [fewB, hg] at hf; omega
      obtain ⟨h2, e3, o2⟩ := build_bad (bud := 4096) hv1 hvb1 (by omega) hg
      have e4 := few_run (hv.same (o1.trans o2)) (by omega)
      rw [hf] at e4
      simp [c13, c13_r0, c13_r1, c13_r2, c13_r3, c13_r5, e1, e2, F13_D, e3, extractV, e4, len1, hlen, h20, h20', awake13]
  | true =>
    have hf0 := hf
    simp only [fewB, Bool.and_eq_true, decide_eq_true_eq] at hf
    obtain ⟨hl20, hg⟩ := hf
    have hgp := fun q hq => (bgood_at (l := l) hg (p := q) hq).2
    have hb := bgood_begs hg
    obtain ⟨B, tab, fl, ob, ou, h2, e3, o2, A, _⟩ := build_ok (bud := 4096) hv1 hvb1 (by omega) hg (by omega) (by omega)
    have o02 := o1.trans o2
    have e4 := few_run (hv.same o02) (by omega)
    rw [hf0] at e4
    have e5 := ax_states A
    have e6 := ref_states (hv.same o02) (by omega) (fun q hq => by have := hgp q hq; omega)
    rw [cnt_begs] at e6
    by_cases h300 : 300 < t.length
    · have h300' : (300 : Int) < t.length := by omega
      simp [c13, c13_r0, c13_r1, c13_r2, c13_r6, c13_r7, e1, e2, F13_D, e3, extractV, e4, e5, e6, len1, alen9, h300, h300', awake13]
    · have h300' : ¬ ((300 : Int) < t.length) := by omega
      have hloop := fun Q hq => steps13 (Q := Q) A (hv.same o02) (by omega) hgp (t := t) (by omega) hq
      simp only [senv] at hloop
      simp [c13, c13_r0, c13_r1, c13_r2, c13_r6, c13_r8, c13_r9, e1, e2, F13_D, e3, extractV, e4, e5, e6, len1, alen9, h300, h300']
      refine hloop _ fun h3 s o3 => ?_
      obtain ⟨h4, e7, o4⟩ := fold_auto (h := h3) (s := t) (by omega)
      obtain ⟨h5, e8, o5⟩ := fold_ref (h := h4) (s := t) (by omega)
      simp [c13_r21, F13_D, e7, e8, awake13]

end Go.AM
