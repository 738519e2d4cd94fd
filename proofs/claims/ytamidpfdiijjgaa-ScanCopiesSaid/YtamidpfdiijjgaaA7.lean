/-
  'Build': refused, or an automaton of the patterns.
-/
import Derived.Test.YtamidpfdiijjgaaA6
namespace Go.AM
open Go Go.Proofs
set_option linter.unusedVariables false
set_option linter.unusedSimpArgs false
set_option maxRecDepth 100000

def z132 : List AV := List.replicate 256 (.int .u16 0)
theorem tzero_132 : tzero Try.prog 132 = some (.agg z132) := by kernel_rfl
theorem z132_len : z132.length = 256 := by simp [z132]
theorem zeros_rep {v : AV} {k : Nat} : ∀ n, zeros (List.replicate k v) n = List.replicate (n * k) v
  | 0 => by simp [zeros]
  | n + 1 => by
    simp only [zeros, zeros_rep n, List.replicate_append_replicate]
    congr 1
    rw [Nat.add_mul]; omega
theorem zeros_grid {n : Nat} : zeros z132 n = grid n (fun _ _ => 0) := by
  rw [z132, zeros_rep]
  apply List.ext_getElem?
  intro k
  rw [grid_get, List.getElem?_replicate]
  rfl
theorem zeros_nums {n : Nat} : zeros [AV.int .i64 0] n = nums n (fun _ => 0) := by
  have := zeros_rep (v := AV.int .i64 0) (k := 1) n
  simp only [List.replicate_one, Nat.mul_one] at this
  rw [this]
  apply List.ext_getElem?
  intro k
  by_cases hk : k < n
  · rw [nums_at hk]; simp [hk]
  · rw [List.getElem?_eq_none (by simp; omega), List.getElem?_eq_none (by rw [nums_len]; omega)]
theorem zeros_out {n : Nat} : zeros [AV.sl none 0 0] n = outC n (fun _ => 0) (fun _ => []) := by
  have := zeros_rep (v := AV.sl none 0 0) (k := 1) n
  simp only [List.replicate_one, Nat.mul_one] at this
  rw [this]
  apply List.ext_getElem?
  intro k
  by_cases hk : k < n
  · rw [outC_at hk]; simp [hk, intSl]
  · rw [List.getElem?_eq_none (by simp; omega), List.getElem?_eq_none (by rw [outC_len]; omega)]

def bgood (l : List Txt) : Bool := l.all fun p => decide (1 ≤ p.length ∧ p.length ≤ 16)

theorem bgood_at {l : List Txt} (h : bgood l = true) {p : Txt} (hp : p ∈ l) : 1 ≤ p.length ∧ p.length ≤ 16 := by
  simp only [bgood, List.all_eq_true, decide_eq_true_eq] at h
  exact h p hp

theorem begs_app {a : List Txt} : ∀ {b : List Txt}, (begs a).length ≤ (begs (a ++ b)).length
  | [] => by simp
  | p :: b => by
    have h1 := begs_app (a := a ++ [p]) (b := b)
    have h2 := (addFrom_len (r := p) (X := begs a) (x := [])).1
    rw [begs_snoc] at h1
    simp only [List.append_assoc, List.singleton_append] at h1
    omega

theorem begs_take {l : List Txt} {i : Nat} : (begs (l.take i)).length ≤ (begs l).length := by
  have := begs_app (a := l.take i) (b := l.drop i)
  rwa [List.take_append_drop] at this

section
variable {h₀ h : Heap} {v : AV} {l : List Txt} {bud : Int}

def Ck52 (v : AV) (l : List Txt) (bud : Int) (P : AV) (h : Heap) (m : Nat) (σ : St) : Prop :=
  ∃ i, m = l.length - i ∧ i ≤ l.length ∧ σ = ⟨[(0, v), (1, .int .i64 bud), (6, P), (16, v), (17, .int .i64 l.length), (18, .int .i64 i)], h⟩ ∧ bgood (l.take i) = true

/-- The first loop: are all patterns such as may be? -/
theorem check_loop {P : AV} (hv : Sl1 h v (strCells l)) (hl : l.length ≤ 9223372036854775807) {Q : AExit → St → Prop} (hbad : bgood l = false → Q .ret ⟨[(4, .ptr none), (5, .int .i64 1)], h⟩)
    (hgood : bgood l = true → Q (.exit 0) ⟨[(0, v), (1, .int .i64 bud), (6, P), (16, v), (17, .int .i64 l.length), (18, .int .i64 l.length), (19, .bool false)], h⟩) :
    Wt Try.prog (D cfg) (.loop c52_l3 (some [0, 1, 6, 16, 17, 18])) ⟨[(0, v), (1, .int .i64 bud), (6, P), (16, v), (17, .int .i64 l.length), (18, .int .i64 0)], h⟩ Q := by
  refine Wt.loop (Ck52 v l bud P h) (m := l.length) ⟨0, rfl, Nat.zero_le _, rfl, rfl⟩ ?_
  rintro m σ ⟨i, rfl, hi, rfl, hg⟩
  have hcut : cut (some [0, 1, 6, 16, 17, 18]) [(0, v), (1, .int .i64 bud), (6, P), (16, v), (17, .int .i64 l.length), (18, .int .i64 (i : Int))] = [(0, v), (1, .int .i64 bud), (6, P), (16, v), (17, .int .i64 l.length), (18, .int .i64 i)] := by simp
  simp only [hcut]
  by_cases hil : i < l.length
  · have hil' : (i : Int) < l.length := by omega
    have hwr : IntKind.wrap .i64 ((i : Int) + 1) = i + 1 := wrap_i64 (by omega) (by omega)
    have a1 := hv.at (t := 38) (e := 9) (by simp) (by simp) (i := i) (by rw [strCells_len]; exact hil)
    have b1 := hv.load (e := 9) (by simp) (i := i) (by rw [strCells_len]; exact hil)
    rw [strCells_get, txt_eq] at b1
    have htk : l.take (i + 1) = l.take i ++ [txt l i] := by rw [List.take_succ_eq_append_getElem hil, txt_eq hil]
    by_cases hp : 1 ≤ (txt l i).length ∧ (txt l i).length ≤ 16
    · have hnext : Ck52 v l bud P h (l.length - (i + 1)) ⟨[(0, v), (1, .int .i64 bud), (6, P), (16, v), (17, .int .i64 l.length), (18, .int .i64 (i + 1 : Nat))], h⟩ := by
        refine ⟨i + 1, rfl, hil, rfl, ?_⟩
        rw [htk]
        simp only [bgood, List.all_append, List.all_cons, List.all_nil, Bool.and_true, Bool.and_eq_true, decide_eq_true_eq] at hg ⊢
        exact ⟨hg, hp⟩
      have hne : ¬ (txt l i = []) := fun e => by rw [e] at hp; simp at hp
      have hgt : ¬ ((16 : Int) < (txt l i).length) := by omega
      have hgt' : ¬ (16 < (txt l i).length) := by omega
      simp [c52_l3, c52_r3, c52_r4, c52_r5, c52_r7, hil, a1, b1, hne, len1, alen, hgt, hgt', hwr]
      exact ⟨l.length - (i + 1), by omega, by simpa using hnext⟩
    · have hbg : bgood l = false := by
        simp only [bgood, List.all_eq_false, decide_eq_true_eq]
        refine ⟨txt l i, ?_, hp⟩
        rw [← txt_eq hil]
        exact List.getElem_mem hil
      have := hbad hbg
      by_cases hne : txt l i = []
      · simp [c52_l3, c52_r3, c52_r4, c52_r5, c52_r6, hil, a1, b1, hne]
        exact this
      · have h1 : (txt l i).length ≠ 0 := fun e => hne (List.length_eq_zero_iff.1 e)
        have hgt : (16 : Int) < (txt l i).length := by omega
        have hgt' : 16 < (txt l i).length := by omega
        simp [c52_l3, c52_r3, c52_r4, c52_r5, c52_r6, hil, a1, b1, hne, len1, alen, hgt, hgt']
        exact this
  · have : i = l.length := by omega
    subst this
    rw [List.take_length] at hg
    have := hgood hg
    simp [c52_l3, c52_r3]
    simpa using this

def lim (bud : Int) : Int := if (4096 : Int) < bud then 4096 else bud

structure AddH (h₀ : Heap) (B : TB) (T : TM) (ps : List Txt) (h : Heap) : Prop where
  tr : TrX h B T (begs ps) ps
  only : Only (fun _ => False) h₀ h
  foot : ∀ b, B.foot T b → h₀.length ≤ b

def Ad52 (h₀ : Heap) (v : AV) (l : List Txt) (bud : Int) (P : AV) (m : Nat) (σ : St) : Prop :=
  ∃ i B T h, m = l.length - i ∧ i ≤ l.length ∧ B.ptr = P ∧ σ = ⟨[(1, .int .i64 bud), (6, P), (30, v), (31, .int .i64 l.length), (32, .int .i64 i)], h⟩ ∧ AddH h₀ B T (l.take i) h ∧ (i = 0 ∨ ((begs (l.take i)).length : Int) ≤ lim bud)

theorem lim_le : lim bud ≤ 4096 := by unfold lim; split <;> omega

theorem add_all {B : TB} {T : TM} (hv : Sl1 h₀ v (strCells l)) (hvb : ∀ b, slB v = some b → b < h₀.length) (hl : l.length ≤ 9000000000000) (hg : bgood l = true) (H : AddH h₀ B T [] h) {Q : AExit → St → Prop}
    (hmany : l ≠ [] → lim bud < ((begs l).length : Int) → ∀ h', Only (fun _ => False) h₀ h' → Q .ret ⟨[(4, .ptr none), (5, .int .i64 9)], h'⟩)
    (hdone : (l = [] ∨ ((begs l).length : Int) ≤ lim bud) → ∀ B' T' h', B'.ptr = B.ptr → AddH h₀ B' T' l h' → Q (.exit 2) ⟨[(1, .int .i64 bud), (6, B.ptr), (30, v), (31, .int .i64 l.length), (32, .int .i64 l.length), (33, .bool false)], h'⟩) :
    Wt Try.prog (D cfg) (.loop c52_l9 (some [1, 6, 30, 31, 32])) ⟨[(1, .int .i64 bud), (6, B.ptr), (30, v), (31, .int .i64 l.length), (32, .int .i64 0)], h⟩ Q := by
  refine Wt.loop (Ad52 h₀ v l bud B.ptr) (m := l.length) ⟨0, B, T, h, rfl, Nat.zero_le _, rfl, rfl, H, .inl rfl⟩ ?_
  rintro m σ ⟨i, B1, T1, h1, rfl, hi, hP, rfl, H1, hs⟩
  have hcut : cut (some [1, 6, 30, 31, 32]) [(1, .int .i64 bud), (6, B.ptr), (30, v), (31, .int .i64 l.length), (32, .int .i64 (i : Int))] = [(1, .int .i64 bud), (6, B.ptr), (30, v), (31, .int .i64 l.length), (32, .int .i64 i)] := by simp
  simp only [hcut]
  by_cases hil : i < l.length
  · have hil' : (i : Int) < l.length := by omega
    have hwr : IntKind.wrap .i64 ((i : Int) + 1) = i + 1 := wrap_i64 (by omega) (by omega)
    have a1 := hv.at (t := 38) (e := 9) (by simp) (by simp) (i := i) (by rw [strCells_len]; exact hil)
    have b1 := (hv.same H1.only).load (e := 9) (by simp) (i := i) (by rw [strCells_len]; exact hil)
    rw [strCells_get, txt_eq] at b1
    have hp := bgood_at hg (p := txt l i) (by rw [← txt_eq hil]; exact List.getElem_mem hil)
    have hX : (begs (l.take i)).length ≤ 4096 := by
      rcases hs with rfl | hs
      · simp [begs]
      · have := lim_le (bud := bud); omega
    have htk : l.take (i + 1) = l.take i ++ [txt l i] := by rw [List.take_succ_eq_append_getElem hil, txt_eq hil]
    have hps : (l.take i).length = i := by simp; omega
    obtain ⟨B2, T2, h2, e1, e2, H2, o2, f2⟩ := tr_addB H1.tr (by omega) (by omega) (p := txt l i) (by omega)
    have htake : (txt l i).take 16 = txt l i := List.take_of_length_le hp.2
    rw [htake, ← begs_snoc, ← htk] at H2
    have o02 : Only (fun _ => False) h₀ h2 := H1.only.fresh o2 fun c hc => H1.foot c hc
    have hA : AddH h₀ B2 T2 (l.take (i + 1)) h2 := ⟨H2, o02, fun b hb => by
      rcases f2 b hb with h | h
      · exact H1.foot b h
      · have := H1.only.1; omega⟩
    have e3 := tr_states H2
    rw [hP] at e1
    rw [e2, hP] at e3
    have hlm : (if (4096 : Int) < bud then (4096 : Int) else bud) = lim bud := rfl
    by_cases hm : lim bud < ((begs (l.take (i + 1))).length : Int)
    · have := hmany (fun e => by subst e; simp at hil) (by have := begs_take (l := l) (i := i + 1); omega) h2 o02
      simp [c52_l9, c52_r9, c52_r10, c52_r11, c52_r12, c52_r13, hil, a1, b1, e1, e3, amin, amin1, hlm, hm]
      exact this
    · have hnext : Ad52 h₀ v l bud B.ptr (l.length - (i + 1)) ⟨[(1, .int .i64 bud), (6, B.ptr), (30, v), (31, .int .i64 l.length), (32, .int .i64 (i + 1 : Nat))], h2⟩ := ⟨i + 1, B2, T2, h2, rfl, hil, by rw [e2, hP], rfl, hA, .inr (by omega)⟩
      simp [c52_l9, c52_r9, c52_r10, c52_r11, c52_r12, c52_r14, hil, a1, b1, e1, e3, amin, amin1, hlm, hm, hwr]
      exact ⟨l.length - (i + 1), by omega, by simpa using hnext⟩
  · have : i = l.length := by omega
    subst this
    rw [List.take_length] at H1 hs
    have := hdone (by rcases hs with h | h; exact .inl (List.length_eq_zero_iff.1 h); exact .inr h) B1 T1 h1 hP H1
    simp [c52_l9, c52_r9]
    simpa using this

/-- What 'Build' answers. -/
def BuildR (h : Heap) (l : List Txt) (bud : Int) (r : AV) (h' : Heap) : Prop :=
  Only (fun _ => False) h h' ∧
  ((bgood l = false ∧ r = .tup [.ptr none, .int .i64 1]) ∨
   (bgood l = true ∧ (bud < ((begs l).length : Int) ∨ (l ≠ [] ∧ 4096 < (begs l).length)) ∧ r = .tup [.ptr none, .int .i64 9]) ∨
   (bgood l = true ∧ ((begs l).length : Int) ≤ bud ∧ (begs l).length ≤ 4096 ∧ ∃ B tab fl ob ou, r = .tup [B.ptr, .int .i64 0] ∧ AutoX h' B (begs l) l tab fl ob ou ∧ ∀ c, B.foot (begs l).length ob ou c → h.length ≤ c))

theorem zero_auto {h : Heap} {n : Nat} (hn : n ≤ 60000) :
    AutoAt (h ++ [.cells (grid n fun _ _ => 0) 132 true, .cells (nums n fun _ => 0) 3 true, .cells (outC n (fun _ => 0) fun _ => []) 30 true, .cells [.sl (some ⟨h.length, 0, n * 256⟩) n n, .sl (some ⟨h.length + 1, 0, n⟩) n n, .sl (some ⟨h.length + 2, 0, n⟩) n n] 129 false, .cells [.int .i64 0] 3 true])
      ⟨h.length + 3, h.length, h.length + 1, h.length + 2⟩ n (fun _ _ => 0) (fun _ => 0) (fun _ => 0) (fun _ => []) := by
  refine ⟨?_, ?_, ?_, ?_, fun s _ h => absurd rfl h, ?_, hn, fun _ _ => by omega, fun _ _ => by simp⟩
  · simp only [at_new]; rfl
  · simp only [at_new0]; rfl
  · simp only [at_new]; rfl
  · simp only [at_new]; rfl
  · simp

theorem build_run (hv : Sl1 h v (strCells l)) (hvb : ∀ b, slB v = some b → b < h.length) (hl : l.length ≤ 9000000000000) : ∃ r h', D cfg 52 [v, .int .i64 bud] h = some (r, h') ∧ BuildR h l bud r h' := by
  refine call52 (R := BuildR h l bud) (args := [v, .int .i64 bud]) (h := h) (by simp) ?_
  obtain ⟨B, h1, e1, H1, o1, f1⟩ := tr_new (h := h)
  have hlen := fun L => hv.len (t := 38) (e := 9) (by simp) (L := L)
  simp only [strCells_len] at hlen
  have hck := fun Q hb hg => check_loop (h := h1) (Q := Q) (bud := bud) (P := B.ptr) (hv.same o1) (by omega) hb hg
  simp [c52, c52_r0, c52_r1, c52_r2, e1, len1, hlen]
  refine hck _ (fun hb => ?_) (fun hg => ?_)
  · simp
    exact ⟨o1, .inl ⟨hb, rfl⟩⟩
  have hA0 : AddH h B T0 [] h1 := ⟨H1, o1, f1⟩
  have had := fun Q hm hd => add_all (Q := Q) (bud := bud) hv hvb hl hg hA0 hm hd
  simp [c52_r8, len1, hlen]
  refine had _ (fun hne hm h2 o2 => ?_) (fun hd B2 T2 h2 eP H2 => ?_)
  · simp
    refine ⟨o2, .inr (.inl ⟨hg, ?_, rfl⟩)⟩
    unfold lim at hm
    split at hm
    · exact .inr ⟨hne, by omega⟩
    · exact .inl hm
  have e3 := tr_states H2.tr
  rw [eP] at e3
  by_cases hb : bud < ((begs l).length : Int)
  · simp [c52_r15, c52_r16, c52_r17, e3, hb]
    exact ⟨H2.only, .inr (.inl ⟨hg, .inl hb, rfl⟩)⟩
  · have hX : (begs l).length ≤ 4096 := by
      rcases hd with rfl | hd
      · simp [begs]
      · have := lim_le (bud := bud); omega
    have hz1 : (512 : Int) * ((begs l).length : Int) ≤ 281474976710656 := by omega
    have hz2 : (8 : Int) * ((begs l).length : Int) ≤ 281474976710656 := by omega
    have hz3 : (24 : Int) * ((begs l).length : Int) ≤ 281474976710656 := by omega
    have hz4 : ((begs l).length : Int) ≤ 9223372036854775807 := by omega
    have hz5 : (begs l).length ≤ 9223372036854775807 := by omega
    have A0 := zero_auto (h := h2) (n := (begs l).length) (by omega)
    have hm0 : [] ∈ begs l := H2.tr.model.nil_mem
    have hnil := st_nil H2.tr.model.nodup H2.tr.model.zero
    have hI : QI h2 ⟨h2.length + 3, h2.length, h2.length + 1, h2.length + 2⟩ B2 T2 (begs l) l (h2.length + 4) [] [[]] 0 [0] (h2 ++ [.cells (grid (begs l).length fun _ _ => 0) 132 true, .cells (nums (begs l).length fun _ => 0) 3 true, .cells (outC (begs l).length (fun _ => 0) fun _ => []) 30 true, .cells [.sl (some ⟨h2.length, 0, (begs l).length * 256⟩) (begs l).length (begs l).length, .sl (some ⟨h2.length + 1, 0, (begs l).length⟩) (begs l).length (begs l).length, .sl (some ⟨h2.length + 2, 0, (begs l).length⟩) (begs l).length (begs l).length] 129 false, .cells [.int .i64 0] 3 true]) := by
      refine ⟨⟨_, _, _, _, ⟨A0, .start hm0, fun x hx => by simp at hx, fun x hx => by simp at hx, fun x hx => ?_, fun x _ _ => rfl, fun _ _ => rfl⟩, fun c hc => ?_⟩, H2.tr.same .app, ?_, ?_, by simp, ?_, .app⟩
      · simp at hx; subst hx
        simp [fsuf, lsuf, hnil]
      · rcases hc with hc | ⟨s, _, h, _⟩
        · simp at hc; omega
        · exact absurd rfl h
      · simp only [at_new]; rfl
      · simp [qList, hnil]
      · have := H2.tr.model.pos; simp; omega
    have hloop := fun Q hq => queue_loop (Q := Q) (by omega) hl (by omega) (fun b hb => lt_of_foot H2.tr.at_ hb) hI hq
    rw [eP] at hloop
    have hob : offSl (h2.length + 4) 0 [0] = .sl (some ⟨h2.length + 4, 0, 1⟩) 1 1 := rfl
    rw [hob] at hloop
    simp [c52_r15, c52_r16, c52_r18, c52_r19, e3, hb, amakeSlice, tzero_132, z132_len, hz1, hz2, hz3, hz4, hz5, zeros_grid, zeros_nums, zeros_out, abuild, afill, abuildSlice, zeros]
    refine hloop _ fun h3 tab fl ob ou o full A3 H3 o3 f3 => ?_
    simp [c52_r23]
    have o03 : Only (fun _ => False) h h3 := H2.only.trans o3
    refine ⟨o03, .inr (.inr ⟨hg, by omega, hX, _, tab, fl, ob, ou, rfl, A3, fun c hc => ?_⟩)⟩
    have h1 := f3 c hc
    have h2 := H2.only.1
    omega
end
end Go.AM
