/-
  What the law TrackNumbers stands on, part 4.
-/
import Derived.Test.YtamidpfdiijjgaaW21c
import Derived.Test.YtamidpfdiijjgaaL21
namespace Go.AM
open Go Go.Proofs Go.RowKit
set_option linter.unusedVariables false
set_option linter.unusedSimpArgs false
set_option maxRecDepth 100000
def hd (b : Nat) (all : List (Int × Int)) (k : Nat) : AV := if all.length = 0 then .sl none 0 0 else .sl (some ⟨b, k * 2, all.length * 2⟩) (all.length - k) (all.length - k)
theorem hd_zero {b : Nat} {all : List (Int × Int)} : hitSl b all = hd b all 0 := by
 unfold hitSl bufSl hd
 split <;> simp [hitCells_len]
theorem hd_nt {b : Nat} {all : List (Int × Int)} {k : Nat} : (hd b all k).notTup = true := by unfold hd; split <;> rfl
theorem hd_len {b : Nat} {all : List (Int × Int)} {k : Nat} {L : Look} : alen Try.prog L 71 (hd b all k) = some (.int .i64 (all.length - k : Nat)) := by
 unfold hd
 split
 · rename_i h; simp [alen, h]
 · simp [alen]
theorem hd_at {b : Nat} {all : List (Int × Int)} {k : Nat} (hk : k < all.length) : aindexAddr Try.prog 71 (hd b all k) (.int .i64 0) = some (.ptr (some ⟨b, k * 2, all.length * 2⟩)) := by
 have h0 : ¬ (all.length = 0) := by omega
 have h1 : (0 : Int) < ((all.length - k : Nat) : Int) := by omega
 unfold hd
 rw [if_neg h0]
 simp only [aindexAddr, tk_71, tsz_75]
 rw [if_pos ⟨by omega, h1, by decide⟩]
 rfl
theorem hd_next {b : Nat} {all : List (Int × Int)} {k : Nat} (hk : k < all.length) : aslice Try.prog 71 (hd b all k) (some (.int .i64 1)) none none = some (hd b all (k + 1)) := by
 have h0 : ¬ (all.length = 0) := by omega
 have h1 : (0 : Int) ≤ 1 ∧ (1 : Int) ≤ ((all.length - k : Nat) : Int) := by omega
 unfold hd
 rw [if_neg h0, if_neg h0]
 simp only [aslice, tk_71, tsz_75, bound]
 rw [if_pos h1]
 simp
 omega
abbrev env16 (v : AV) (s : Txt) (tb : Nat) (w : AV) (n hb N : Nat) : Env := [(0, v), (2, .str s), (8, .int .i64 0), (9, tPtr tb), (14, w), (15, .int .i64 n), (16, .sl (some ⟨hb, 0, N⟩) N N)]
def In16 (hA : Heap) (v : AV) (s : Txt) (tb b : Nat) (hs : Nat → List Int) (n N : Nat) (m : Nat) (σ : St) : Prop := ∃ t h, m = (hs (n + 1)).length - t ∧ t ≤ (hs (n + 1)).length ∧ σ = ⟨env16 v s tb (hd b (allTo hs s.length) ((allTo hs n).length + t)) (n + 1) hA.length N, h⟩ ∧ Only (fun _ => False) hA h ∧ h[hA.length]? = some (.cells (boolCells (endsOf N ((hs (n + 1)).take t))) 4 true)
theorem ends_loop {hA h : Heap} {v : AV} {s : Txt} {tb b n N : Nat} {hs : Nat → List Int} (hn : n < s.length) (hz : ∀ z ∈ hs (n + 1), 0 ≤ z ∧ z < N) (hb : (allTo hs s.length).length ≠ 0 → hA[b]? = some (.cells (hitCells (allTo hs s.length)) 75 true)) (ho : Only (fun _ => False) hA h)
  (hg : h[hA.length]? = some (.cells (boolCells (endsOf N [])) 4 true)) {Q : AExit → St → Prop}
  (hq : ∀ h', Only (fun _ => False) hA h' → h'[hA.length]? = some (.cells (boolCells (endsOf N (hs (n + 1)))) 4 true) → Q (.exit 4) ⟨env16 v s tb (hd b (allTo hs s.length) (allTo hs (n + 1)).length) (n + 1) hA.length N ++ [(62, .bool false)], h'⟩) (hvt : v.notTup = true) :
  Wt Try.prog (D cfg) (.loop c70_l16 (some [0, 2, 8, 9, 14, 15, 16])) ⟨env16 v s tb (hd b (allTo hs s.length) (allTo hs n).length) (n + 1) hA.length N, h⟩ Q := by
 refine Wt.loop (In16 hA v s tb b hs n N) (m := (hs (n + 1)).length) ⟨0, h, rfl, Nat.zero_le _, rfl, ho, hg⟩ ?_
 rintro m σ ⟨t, h1, rfl, ht, rfl, o1, g1⟩
 obtain ⟨all, hall⟩ : ∃ all, allTo hs s.length = all := ⟨_, rfl⟩
 obtain ⟨K, hK⟩ : ∃ K, (allTo hs n).length + t = K := ⟨_, rfl⟩
 rw [hall] at hb hq
 rw [hall, hK]
 have hcut : cut (some [0, 2, 8, 9, 14, 15, 16]) (env16 v s tb (hd b all K) (n + 1) hA.length N) = env16 v s tb (hd b all K) (n + 1) hA.length N := by simp
 simp only [hcut]
 have v1 : (hd b all K).notTup = true := hd_nt
 have v2 : (hd b all (K + 1)).notTup = true := hd_nt
 have hl := fun L => hd_len (L := L) (b := b) (all := all) (k := K)
 by_cases htl : t < (hs (n + 1)).length
 · obtain ⟨z, hz1⟩ : ∃ z, (hs (n + 1))[t]? = some z := ⟨_, List.getElem?_eq_getElem htl⟩
   have hzb := hz z (List.mem_of_getElem? hz1)
   obtain ⟨i, rfl⟩ : ∃ i : Nat, z = i := ⟨z.toNat, by omega⟩
   have hiN : i < N := by omega
   have hiN' : (i : Int) < N := by omega
   have hp := allTo_at (m := s.length) hn hz1
   rw [hall, hK] at hp
   have hKl : K < all.length := (List.getElem?_eq_some_iff.1 hp).1
   have a1 := hd_at (b := b) hKl
   have b1 := hd_next (b := b) hKl
   obtain ⟨l0, l1⟩ := hit_load (fun hne => o1.at (hb hne) id) hp
   have hlen : (boolCells (endsOf N ((hs (n + 1)).take t))).length = N := by rw [boolCells_len, endsOf_len]
   have s1 := cell_store g1 hlen (t := 4) (by simp) (v := .bool true) rfl (off := i) hiN
   rw [endsOf_set hz1 hiN] at s1
   obtain ⟨h2, hh2⟩ : ∃ h2, h1.set hA.length (.cells (boolCells (endsOf N ((hs (n + 1)).take (t + 1)))) 4 true) = h2 := ⟨_, rfl⟩
   have g2 : h2[hA.length]? = some (.cells (boolCells (endsOf N ((hs (n + 1)).take (t + 1)))) 4 true) := by rw [← hh2, List.getElem?_set_self (lt_of_at g1)]
   have o2 : Only (fun c => c = hA.length) h1 h2 := by rw [← hh2]; exact .set rfl
   have hpos : 0 < all.length - K := by omega
   have hpos' : (0 : Int) < ((all.length - K : Nat) : Int) := by omega
   have a2 : aindexAddr Try.prog 68 (.sl (some ⟨hA.length, 0, N⟩) N N) (.int .i64 i) = some (.ptr (some ⟨hA.length, i, N⟩)) := by simp [aindexAddr, hiN, hiN']
   obtain ⟨n1, hn1⟩ : ∃ n1, n + 1 = n1 := ⟨_, rfl⟩
   obtain ⟨r, hr⟩ : ∃ r, all.length - K = r := ⟨_, rfl⟩
   rw [hn1] at l1
   rw [hr] at hl hpos hpos'
   obtain ⟨w, hw⟩ : ∃ w, hd b all K = w := ⟨_, rfl⟩
   obtain ⟨w', hw'⟩ : ∃ w', hd b all (K + 1) = w' := ⟨_, rfl⟩
   rw [hw] at v1 hl a1 b1 ⊢
   rw [hw'] at v2 b1
   have hnext : In16 hA v s tb b hs n N ((hs (n + 1)).length - (t + 1)) ⟨env16 v s tb w' n1 hA.length N, h2⟩ := ⟨t + 1, h2, rfl, htl, by rw [← hw', ← hn1, ← hK, hall, Nat.add_assoc], o1.fresh o2 fun c e => by omega, g2⟩
   simp only [env16] at hnext
   rw [hn1]
   simp [-AV.notTup, hvt, v1, v2, notTup_ptr, c70_l16, c70_r16, c70_r17, c70_r18, len1, hl, hpos, hpos', a1, fieldA, l0, l1, a2, s1, hh2, b1]
   exact ⟨(hs (n + 1)).length - (t + 1), by rw [← hn1]; omega, by simpa using hnext⟩
 · have ht2 : t = (hs (n + 1)).length := by omega
   subst ht2
   rw [List.take_length] at g1
   have hKe : (allTo hs (n + 1)).length = K := by rw [← hK]; simp [allTo]
   have hfin := hq h1 o1 g1
   rw [hKe] at hfin
   simp only [env16] at hfin
   by_cases hKl : K < all.length
   · obtain ⟨p, hp⟩ : ∃ p, all[K]? = some p := ⟨_, List.getElem?_eq_getElem hKl⟩
     have hp2 := allTo_after (hs := hs) (n := n + 1) (m := s.length) hn (p := p) (by rw [hall, hKe]; exact hp)
     obtain ⟨l0, l1⟩ := hit_load (fun hne => o1.at (hb hne) id) hp
     have a1 := hd_at (b := b) hKl
     have hpos : 0 < all.length - K := by omega
     have hpos' : (0 : Int) < ((all.length - K : Nat) : Int) := by omega
     obtain ⟨n1, hn1⟩ : ∃ n1, n + 1 = n1 := ⟨_, rfl⟩
     have hne : ¬ (p.2 = (n1 : Int)) := by rw [← hn1]; omega
     obtain ⟨r, hr⟩ : ∃ r, all.length - K = r := ⟨_, rfl⟩
     rw [hr] at hl hpos hpos'
     obtain ⟨w, hw⟩ : ∃ w, hd b all K = w := ⟨_, rfl⟩
     rw [hw] at v1 hl a1 hfin ⊢
     rw [hn1] at hfin ⊢
     simp [-AV.notTup, hvt, v1, notTup_ptr, c70_l16, c70_r16, len1, hl, hpos, hpos', a1, fieldA, l1, hne]
     simpa using hfin
   · have hpos : all.length - K = 0 := by omega
     rw [hpos] at hl
     obtain ⟨n1, hn1⟩ : ∃ n1, n + 1 = n1 := ⟨_, rfl⟩
     obtain ⟨w, hw⟩ : ∃ w, hd b all K = w := ⟨_, rfl⟩
     rw [hw] at v1 hl hfin ⊢
     rw [hn1] at hfin ⊢
     have hl' : ∀ L, alen Try.prog L 71 w = some (.int .i64 0) := hl
     simp [-AV.notTup, hvt, v1, notTup_ptr, c70_l16, c70_r16, len1, hl']
     simpa using hfin
def patsOf (l : List Cont) : List Txt := l.map fun c => c.bytes
def ncOf (l : List Cont) : List Bool := l.map fun c => c.nocase
def hsOf (l : List Cont) (s : Txt) (n : Nat) : List Int := if bgood (patsOf l) then scHits (ncOf l) (s.take n) (patsOf l) 0 else []
theorem allTo_hsOf {l : List Cont} {s : Txt} : ∀ {n : Nat}, allTo (hsOf l s) n = if bgood (patsOf l) then hitsTo (ncOf l) s (patsOf l) n else []
 | 0 => by simp [allTo, hitsTo]
 | n + 1 => by
  simp only [allTo, allTo_hsOf (n := n), hsOf, hitsTo]
  split <;> rfl
theorem scHits_range {nc : List Bool} {w : Txt} : ∀ {l : List Txt} {i : Nat}, ∀ z ∈ scHits nc w l i, (i : Int) ≤ z ∧ z < i + l.length
 | [], i, z, h => by simp [scHits] at h
 | p :: r, i, z, h => by
  simp only [scHits] at h
  have ih : z ∈ scHits nc w r (i + 1) → (i : Int) ≤ z ∧ z < i + (p :: r).length := fun h => by
   have := scHits_range (i := i + 1) z h
   simp only [List.length_cons]
   omega
  split at h
  · rcases List.mem_cons.1 h with rfl | h
    · simp only [List.length_cons]; omega
    · exact ih h
  · exact ih h
structure R13 (h₀ h : Heap) (tb pa nb b : Nat) (T : TS) (fl : FL) (all : List (Int × Int)) : Prop where
 tr : TrackAt h tb pa nb T fl
 only : Only (fun _ => False) h₀ h
 fresh : ∀ c, trF tb fl c → h₀.length ≤ c
 hit : all.length ≠ 0 → h[b]? = some (.cells (hitCells all) 75 true)
abbrev env13 (v : AV) (s : Txt) (tb : Nat) (w : AV) (n : Nat) : Env := [(0, v), (2, .str s), (8, .int .i64 0), (9, tPtr tb), (14, w), (15, .int .i64 n)]
def In13 (h₀ : Heap) (v : AV) (s : Txt) (tb pa nb b : Nat) (f : Nat → TS) (hs : Nat → List Int) (m : Nat) (σ : St) : Prop := ∃ n fl h, m = s.length - n ∧ n ≤ s.length ∧ σ = ⟨env13 v s tb (hd b (allTo hs s.length) (allTo hs n).length) (n + 1), h⟩ ∧ R13 h₀ h tb pa nb b (f n) fl (allTo hs s.length) ∧ runT f s.length = runR f (n + 1) (s.length - n)
theorem run_loop {h₀ h : Heap} {v : AV} {l : List Cont} {s : Txt} {tb pa nb b : Nat} {fl : FL} {hs : Nat → List Int} {T0 : TS} {f : Nat → TS} (hf : f = stS T0 hs l.length) (hv : SlC h₀ v l) (hll : l.length ≤ 100) (hsl : s.length ≤ 1000) (hz : ∀ n, ∀ z ∈ hs n, 0 ≤ z ∧ z < l.length) (hok : T0.ok) (hat : T0.at_ = 0) (hpl : T0.parts.length + T0.nots.length ≤ 1000) (h0 : T0.holds = false)
  (H : R13 h₀ h tb pa nb b T0 fl (allTo hs s.length)) {Q : AExit → St → Prop}
  (hret : ∀ h' (a c : Int) (k : Bool), (a, k, c) = runT f s.length → Only (fun _ => False) h₀ h' → Q .ret ⟨[(6, .int .i64 a), (7, .bool k), (8, .int .i64 c)], h'⟩)
  (hq : ∀ h' n w, (0, false, 0) = runT f s.length → Only (fun _ => False) h₀ h' → w.notTup = true → Q (.exit 2) ⟨env13 v s tb w n ++ [(46, .bool false)], h'⟩) :
  Wt Try.prog (D cfg) (.loop c70_l13 (some [0, 2, 8, 9, 14, 15])) ⟨env13 v s tb (hd b (allTo hs s.length) 0) 1, h⟩ Q := by
 have hvt : v.notTup = true := by rcases hv with ⟨rfl, _⟩ | ⟨_, _, _, _, rfl, _, _⟩ <;> rfl
 have hlen := fun L => hv.len (L := L)
 refine Wt.loop (In13 h₀ v s tb pa nb b f hs) (m := s.length) ⟨0, fl, h, rfl, Nat.zero_le _, rfl, ?_, ?_⟩ ?_
 · rw [hf]; exact H
 · have : (f 0).holds = false := by rw [hf]; exact h0
   simp only [runT, this]; rfl
 rintro m σ ⟨n, fl1, h1, rfl, hn, rfl, R, hrun⟩
 have hcut : cut (some [0, 2, 8, 9, 14, 15]) (env13 v s tb (hd b (allTo hs s.length) (allTo hs n).length) (n + 1)) = env13 v s tb (hd b (allTo hs s.length) (allTo hs n).length) (n + 1) := by simp
 simp only [hcut]
 have v1 : (hd b (allTo hs s.length) (allTo hs n).length).notTup = true := hd_nt
 by_cases hns : n < s.length
 · have hle : ((n + 1 : Nat) : Int) ≤ s.length := by omega
   have hle' : (n : Int) + 1 ≤ s.length := by omega
   have hle2 : n + 1 ≤ s.length := hns
   obtain ⟨h2, hh2⟩ : ∃ h2, h1 ++ [AObj.cells (zeros [.bool false] l.length) 4 true] = h2 := ⟨_, rfl⟩
   have o12 : Only (fun _ => False) h1 h2 := by rw [← hh2]; exact .app
   have g2 : h2[h1.length]? = some (.cells (boolCells (endsOf l.length [])) 4 true) := by
    rw [← hh2]
    simp only [List.getElem?_concat_length]
    rw [fillC_zero (f := fun _ => .bool false), fillC]
    congr 2
    simp [boolCells, endsOf]
   have hb1 : (l.length : Int) ≤ 281474976710656 := by omega
   have hb2 : (l.length : Int) ≤ 9223372036854775807 := by omega
   have hloop := fun Q hq => ends_loop (Q := Q) (v := v) (tb := tb) (b := b) (N := l.length) hns (hz (n + 1)) R.hit o12 g2 hq hvt
   simp only [env16] at hloop
   obtain ⟨w, hw⟩ : ∃ w, hd b (allTo hs s.length) (allTo hs n).length = w := ⟨_, rfl⟩
   obtain ⟨n1, hn1⟩ : ∃ n1, n + 1 = n1 := ⟨_, rfl⟩
   rw [hw] at v1
   rw [hw, hn1] at hloop
   rw [hw]
   simp only [hn1] at hle hle2 ⊢
   simp [-AV.notTup, hvt, v1, notTup_ptr, c70_l13, c70_r13, c70_r15, len1, alen9, hle, hle2, hlen, amakeSlice, hb1, hb2, hh2]
   refine hloop _ fun h3 o3 g3 => ?_
   have hT1 : f n1 = stepT (f n) (endsOf l.length (hs n1)) := by rw [← hn1, hf]; rfl
   have hfl : (f n).ok := by rw [hf]; exact stS_ok hok
   have hfn := stS_len (T0 := T0) (hs := hs) (N := l.length) (n := n)
   rw [← hf] at hfn
   have R3 := R.tr.same o3
   have hbv := Sl1.cells g3
   rw [boolCells_len, endsOf_len] at hbv
   obtain ⟨fl4, h4, e4, T4, o4, s4⟩ := step_ok (ends := endsOf l.length (hs n1)) R3 hbv (fun c hc => by
    simp only [slB] at hc
    cases hc
    rintro (e | e)
    · rw [e, R3.hdr] at g3; injection g3 with h5; injection h5 with _ _ h5; exact absurd h5 (by simp)
    · exact R3.ps.not g3 (.inl rfl) e) hfl (by omega) (by omega)
   rw [← hT1] at e4 T4
   have hp4 : (f n1).parts.length ≤ 1000000 := by
    have := stS_len (T0 := T0) (hs := hs) (N := l.length) (n := n1)
    rw [← hf] at this
    omega
   have e5 := holds_run T4 hp4
   have o04 : Only (fun _ => False) h₀ h4 := (R.only.trans o3).fresh o4 fun c hc => R.fresh c hc
   have hrun2 : runT f s.length = if (f n1).holds then ((n1 : Int), true, if (f n1).over then (n1 : Int) else 0) else if (f n1).over then (0, false, (n1 : Int)) else runR f (n1 + 1) (s.length - n1) := by
    rw [hrun, hn1, show s.length - n = (s.length - n1) + 1 by omega]; rfl
   obtain ⟨w3, hw3⟩ : ∃ w3, hd b (allTo hs s.length) (allTo hs (n + 1)).length = w3 := ⟨_, rfl⟩
   have v3 : w3.notTup = true := by rw [← hw3]; exact hd_nt
   rw [← hn1, hw3, hn1]
   cases hov : (f n1).over with
   | true =>
    rw [hov] at e4 hrun2
    cases hho : (f n1).holds with
    | true =>
     rw [hho] at e5 hrun2
     have := hret h4 n1 n1 true (by rw [hrun2]; rfl) o04
     simp [-AV.notTup, hvt, v3, notTup_ptr, c70_r19, c70_r20, c70_r21, c70_r22, e4, e5]
     simpa using this
    | false =>
     rw [hho] at e5 hrun2
     have := hret h4 0 n1 false (by rw [hrun2]; rfl) o04
     have hpos : 0 < n1 := by omega
     have hpos' : (0 : Int) < n1 := by omega
     simp [-AV.notTup, hvt, v3, notTup_ptr, c70_r19, c70_r20, c70_r21, c70_r23, c70_r24, e4, e5, hpos, hpos']
     simpa using this
   | false =>
    rw [hov] at e4 hrun2
    cases hho : (f n1).holds with
    | true =>
     rw [hho] at e5 hrun2
     have := hret h4 n1 0 true (by rw [hrun2]; rfl) o04
     simp [-AV.notTup, hvt, v3, notTup_ptr, c70_r19, c70_r20, c70_r21, c70_r22, e4, e5]
     simpa using this
    | false =>
     rw [hho] at e5 hrun2
     have hwr : IntKind.wrap .i64 ((n1 : Int) + 1) = n1 + 1 := wrap_i64 (by omega) (by omega)
     have hl3 := o3.1
     have hnext : In13 h₀ v s tb pa nb b f hs (s.length - n1) ⟨env13 v s tb w3 (n1 + 1), h4⟩ := by
      refine ⟨n1, fl4, h4, rfl, by omega, by rw [← hw3, hn1], ⟨T4, o04, ?_, fun hne => ?_⟩, by rw [hrun2]; rfl⟩
      · rintro c (e | e)
        · exact R.fresh c (.inl e)
        · rcases s4 c e with h6 | h6
          · exact R.fresh c (.inr h6)
          · have := R.only.1; omega
      · have h5 := o3.at (R.hit hne) id
        refine o4.at h5 ?_
        rintro (e | e)
        · rw [e, R3.hdr] at h5; injection h5 with h5; injection h5 with _ _ h5; exact absurd h5 (by simp)
        · exact R3.ps.not h5 (.inl rfl) e
     simp only [env13] at hnext
     simp [-AV.notTup, hvt, v3, notTup_ptr, c70_r14, c70_r19, c70_r20, c70_r21, c70_r23, e4, e5, hwr]
     exact ⟨s.length - n1, by omega, by simpa using hnext⟩
 · have hns2 : n = s.length := by omega
   subst hns2
   have := hq h1 (s.length + 1) (hd b (allTo hs s.length) (allTo hs s.length).length) (by rw [hrun]; simp [runR]) R.only hd_nt
   simp only [env13] at this
   have hnl : ¬ ((s.length : Int) + 1 ≤ s.length) := by omega
   obtain ⟨w, hw⟩ : ∃ w, hd b (allTo hs s.length) (allTo hs s.length).length = w := ⟨_, rfl⟩
   rw [hw] at v1 this ⊢
   simp [-AV.notTup, hvt, v1, notTup_ptr, c70_l13, c70_r13, len1, alen9, hnl]
   simpa using this
theorem newTo_nots_eq {l : List Cont} {a b : Nat} : ∀ {k : Nat}, (newTo l a k).nots = (newTo l b k).nots
 | 0 => rfl
 | k + 1 => by
  have ih := newTo_nots_eq (l := l) (a := a) (b := b) (k := k)
  simp only [newTo]
  cases l[k]? with
  | none => exact ih
  | some c =>
   simp only [addT]
   split
   · simp only [ih]
   · exact ih
theorem keptE_len {nx : Option Cont} {U : List Int} {n : Int} : (keptE nx U n).length ≤ U.length := by
 unfold keptE
 split
 · simp; omega
 · exact List.length_filter_le _ _
theorem overD_big {l : List Cont} {s : Txt} {n : Nat} : overD l (s.length + 1) s n = false := by
 simp only [overD, List.any_eq_false, keptD, List.mem_map, List.mem_range, decide_eq_true_eq]
 rintro _ ⟨j, hj, rfl⟩
 obtain ⟨x, hx⟩ : ∃ x, (posA l)[j]? = some x := ⟨_, List.getElem?_eq_getElem hj⟩
 have h1 := keptE_len (nx := nextP (posA l) j) (U := upTo n (eAt (posA l) s j)) (n := n)
 have h2 : (upTo n (eAt (posA l) s j)).length ≤ s.length + 1 := by
  refine Nat.le_trans (List.length_filter_le _ _) ?_
  rw [eAt_some hx]
  exact hits_len
 omega
theorem step_holds {T : TS} {l : List Cont} {s : Txt} {most n : Nat} (I : InvT T l s most n) (hn : n + 1 ≤ s.length) : (stepT T (stepsOf l s (n + 1))).holds = holdsC l (s.take (n + 1)) := by
 have I2 : InvT { T with most := s.length + 1 } l s (s.length + 1) n := ⟨I.at_, rfl, I.over, I.len, I.parts, I.nots.trans newTo_nots_eq, I.bad⟩
 obtain ⟨_, h2⟩ := step_inv I2 hn
 have h3 := (holds_inv (h2 overD_big) hn).1
 rw [← h3]
 simp only [stepT, I.over, Bool.false_eq_true, if_false, TS.holds]
def runDfrom (l : List Cont) (k : Nat) (s : Txt) (n : Nat) : Nat → Int × Bool × Int
 | 0 => (0, false, 0)
 | m + 1 => if holdsC l (s.take n) then (n, true, if decide (0 < n) && overD l k s n then n else 0) else if decide (0 < n) && overD l k s n then (0, false, n) else runDfrom l k s (n + 1) m
theorem runR_doc {l : List Cont} {s : Txt} {k : Nat} {f : Nat → TS} (hf : ∀ n, n + 1 ≤ s.length → f (n + 1) = stepT (f n) (stepsOf l s (n + 1))) : ∀ (m n : Nat), n + m = s.length → InvT (f n) l s k n → runR f (n + 1) m = runDfrom l k s (n + 1) m
 | 0, _, _, _ => rfl
 | m + 1, n, hnm, I => by
  have hn : n + 1 ≤ s.length := by omega
  obtain ⟨h1, h2⟩ := step_inv I hn
  have h3 := step_holds I hn
  rw [← hf n hn] at h1 h2 h3
  have h0 : decide (0 < n + 1) = true := by simp
  simp only [runR, runDfrom, h1, h3, h0, Bool.true_and]
  cases hov : overD l k s (n + 1) with
  | true => simp
  | false =>
   simp only [Bool.false_eq_true, if_false]
   rw [runR_doc hf m (n + 1) (by omega) (h2 hov)]
theorem runT_doc {l : List Cont} {s : Txt} {k : Nat} {f : Nat → TS} (hf : ∀ n, n + 1 ≤ s.length → f (n + 1) = stepT (f n) (stepsOf l s (n + 1))) (h0 : InvT (f 0) l s k 0) : runT f s.length = runDfrom l k s 0 (s.length + 1) := by
 have h1 := (holds_inv h0 (Nat.zero_le _)).1
 have h2 : decide (0 < 0) = false := by simp
 simp only [runT, runDfrom, h1, h2, Bool.false_and, Bool.false_eq_true, if_false]
 rw [runR_doc hf s.length 0 (by omega) h0]
 split <;> rfl
theorem scHits_mem {nc : List Bool} {w : Txt} {z : Int} : ∀ {l : List Txt} {i : Nat}, z ∈ scHits nc w l i ↔ ∃ j p, l[j]? = some p ∧ z = ((i + j : Nat) : Int) ∧ scHitB (nth nc (i + j)) p w = true
 | [], i => by simp [scHits]
 | p :: r, i => by
  have ih := scHits_mem (nc := nc) (w := w) (z := z) (l := r) (i := i + 1)
  have key : (∃ j q, (p :: r)[j]? = some q ∧ z = ((i + j : Nat) : Int) ∧ scHitB (nth nc (i + j)) q w = true) ↔ (z = (i : Int) ∧ scHitB (nth nc i) p w = true) ∨ z ∈ scHits nc w r (i + 1) := by
   rw [ih]
   constructor
   · rintro ⟨j, q, h1, h2, h3⟩
     cases j with
     | zero => simp at h1; subst h1; exact .inl ⟨by simpa using h2, by simpa using h3⟩
     | succ j => exact .inr ⟨j, q, by simpa using h1, by rw [h2]; congr 1; omega, by rw [← h3]; congr 2; omega⟩
   · rintro (⟨h1, h2⟩ | ⟨j, q, h1, h2, h3⟩)
     · exact ⟨0, p, rfl, by simpa using h1, by simpa using h2⟩
     · exact ⟨j + 1, q, by simpa using h1, by rw [h2]; congr 1; omega, by rw [← h3]; congr 2; omega⟩
  rw [key]
  simp only [scHits]
  split
  · rename_i h
    simp only [List.mem_cons, h, and_true]
  · rename_i h
    constructor
    · exact .inr
    · rintro (⟨_, h2⟩ | h2)
      · exact absurd h2 h
      · exact h2
def nextO (l : List Cont) : Nat → Nat → Option Nat
 | _, 0 => none
 | i, m + 1 => match l[i]? with
  | some c => if c.not then nextO l (i + 1) m else some i
  | none => nextO l (i + 1) m
def nextV : Option Nat → Int
 | none => -1
 | some i => i
theorem nextO_lt {l : List Cont} {i' : Nat} : ∀ {m i : Nat}, nextO l i m = some i' → i' < i + m
 | 0, i, h => by simp [nextO] at h
 | m + 1, i, h => by
  simp only [nextO] at h
  split at h
  · split at h
    · have := nextO_lt h; omega
    · cases h; omega
  · have := nextO_lt h; omega
theorem posTo_pre {l : List Cont} {k : Nat} : ∀ m, ∃ r, posTo l (k + m) = posTo l k ++ r
 | 0 => ⟨[], by simp⟩
 | m + 1 => by
  obtain ⟨r, hr⟩ := posTo_pre (l := l) (k := k) m
  show ∃ r, posTo l (k + m + 1) = _
  simp only [posTo]
  split
  · split
    · exact ⟨r, hr⟩
    · exact ⟨r ++ _, by rw [hr, List.append_assoc]⟩
  · exact ⟨r, hr⟩
theorem posTo_at {l : List Cont} {i : Nat} (hi : i < l.length) (hn : l[i].not = false) : (posA l)[(posTo l i).length]? = some (i, l[i]) ∧ posTo l (i + 1) = posTo l i ++ [(i, l[i])] := by
 have h1 : posTo l (i + 1) = posTo l i ++ [(i, l[i])] := by
  simp only [posTo, List.getElem?_eq_getElem hi, hn]
  simp
 obtain ⟨r, hr⟩ := posTo_pre (l := l) (k := i + 1) (l.length - (i + 1))
 rw [show i + 1 + (l.length - (i + 1)) = l.length by omega, h1] at hr
 refine ⟨?_, h1⟩
 show (posTo l l.length)[(posTo l i).length]? = _
 rw [hr]
 simp
theorem posTo_not {l : List Cont} {i : Nat} (hi : i < l.length) (hn : l[i].not = true) : posTo l (i + 1) = posTo l i := by
 simp only [posTo, List.getElem?_eq_getElem hi, hn]
 simp
theorem next_pos {l : List Cont} : ∀ (m i : Nat), i + m = l.length → (posA l)[(posTo l i).length]? = (nextO l i m).bind fun i' => l[i']?.map fun c => (i', c)
 | 0, i, h => by
  have : i = l.length := by omega
  subst this
  simp [nextO]
 | m + 1, i, h => by
  have hi : i < l.length := by omega
  cases hn : l[i].not with
  | true =>
   rw [← posTo_not hi hn, next_pos m (i + 1) (by omega)]
   simp only [nextO, List.getElem?_eq_getElem hi, hn, if_true]
  | false =>
   rw [(posTo_at hi hn).1]
   simp [nextO, List.getElem?_eq_getElem hi, hn]
theorem nextP_of {l : List Cont} {i : Nat} (hi : i < l.length) (hn : l[i].not = false) : nextP (posA l) (posTo l i).length = (nextO l (i + 1) (l.length - (i + 1))).bind fun i' => l[i']? := by
 have h1 := next_pos (l := l) (l.length - (i + 1)) (i + 1) (by omega)
 rw [(posTo_at hi hn).2, List.length_append, List.length_singleton] at h1
 simp only [nextP, h1]
 cases nextO l (i + 1) (l.length - (i + 1)) with
 | none => rfl
 | some i' =>
  simp only [Option.bind_some]
  cases l[i']? <;> rfl
def keptN (l : List Cont) (t : Txt) (j : Nat) : Int := ((keptE (nextP (posA l) j) (((endsAll l t).1[j]?).getD []) t.length).length : Int)
def keptDoc (l : List Cont) (t : Txt) : List Int := (List.range (posA l).length).map (keptN l t)
theorem keptDoc_take {l : List Cont} {s : Txt} {n : Nat} (hn : n ≤ s.length) : keptDoc l (s.take n) = keptD l s n := by
 have hlen : (s.take n).length = n := by simp; omega
 have he := endsAll_pos (l := l) (s := s) (k := l.length) (Nat.le_refl _)
 rw [List.take_length] at he
 simp only [keptDoc, keptD]
 apply List.map_congr_left
 intro j hj
 have hj' := List.mem_range.1 hj
 simp only [keptN, endsAll_take hn, he, hlen]
 simp [hj']
theorem SlC.flds {h : Heap} {v : AV} {l : List Cont} (H : SlC h v l) {i : Nat} (hi : i < l.length) :
  ∃ p : Nat → AV, (∀ f, f < 8 → fieldA Try.prog 52 f (elC v i) = some (p f, .no)) ∧
   ∀ h', Only (fun _ => False) h h' → aload Try.prog (look h') 9 (p 0) = some (.str l[i].bytes) ∧ aload Try.prog (look h') 4 (p 1) = some (.bool l[i].nocase) ∧ aload Try.prog (look h') 4 (p 2) = some (.bool l[i].not) ∧ aload Try.prog (look h') 4 (p 5) = some (.bool l[i].rel) ∧ aload Try.prog (look h') 3 (p 6) = some (.int .i64 l[i].distance) ∧ aload Try.prog (look h') 3 (p 7) = some (.int .i64 l[i].within) := by
 rcases H with ⟨rfl, rfl⟩ | ⟨b, g, c, cs, rfl, h1, h2⟩
 · simp at hi
 · have h3 := h2 i l[i] (List.getElem?_eq_getElem hi)
   have at' : ∀ k, k < 8 → cs[i * 8 + k]? = (contCell l[i])[k]? := by
    intro k hk
    rw [← h3, List.getElem?_take, if_pos hk, List.getElem?_drop]
   refine ⟨fun f => .ptr (some ⟨b, i * 8 + f, g⟩), fun f hf => ?_, fun h' ho => ?_⟩
   · have : f = 0 ∨ f = 1 ∨ f = 2 ∨ f = 3 ∨ f = 4 ∨ f = 5 ∨ f = 6 ∨ f = 7 := by omega
     rcases this with rfl | rfl | rfl | rfl | rfl | rfl | rfl | rfl <;> simp [fieldA, elC]
   · have h4 : ∀ k, AM.row (look h') { b := b, off := i * 8 + k, gen := g } = some cs := fun k => row_only ho h1 id
     simp only [aload, h4]
     have a0 := at' 0 (by omega)
     simp at a0
     simp [a0, at' 1 (by omega), at' 2 (by omega), at' 5 (by omega), at' 6 (by omega), at' 7 (by omega)]
def In121 (h : Heap) (v : AV) (l : List Cont) (k : Nat) (m : Nat) (σ : St) : Prop := ∃ i, m = l.length - i ∧ i ≤ l.length ∧ σ = ⟨[(0, v), (5, .int .i64 (i : Nat))], h⟩ ∧ nextO l (k + 1) (l.length - (k + 1)) = nextO l i (l.length - i)
theorem next_run {h : Heap} {v : AV} {l : List Cont} (hv : SlC h v l) (hll : l.length ≤ 1000) {k : Nat} (hk : k < l.length) : D cfg 121 [v, .int .i64 k] h = some (.int .i64 (nextV (nextO l (k + 1) (l.length - (k + 1)))), h) := by
 refine D_eq (call121 (R := fun r h' => r = _ ∧ h' = _) (by simp) ?_)
 have hvt : v.notTup = true := by rcases hv with ⟨rfl, _⟩ | ⟨_, _, _, _, rfl, _, _⟩ <;> rfl
 have hlen := fun L => hv.len (L := L)
 obtain ⟨k1, hk1⟩ : ∃ k1, k + 1 = k1 := ⟨_, rfl⟩
 have hwr : IntKind.wrap .i64 ((k : Int) + 1) = k1 := by rw [wrap_i64 (by omega) (by omega)]; omega
 simp [-AV.notTup, hvt, c121, c121_r0, c121_r1, hwr]
 refine Wt.loop (In121 h v l k) (m := l.length - k1) ⟨k1, rfl, by omega, rfl, by rw [hk1]⟩ ?_
 rintro m σ ⟨i, rfl, hi, rfl, hnx⟩
 have hcut : cut (some [0, 5]) [(0, v), (5, .int .i64 (i : Int))] = [(0, v), (5, .int .i64 (i : Int))] := by simp
 simp only [hcut]
 rw [hnx]
 by_cases hil : i < l.length
 · have hil' : (i : Int) < l.length := by omega
   have hwr2 : IntKind.wrap .i64 ((i : Int) + 1) = i + 1 := wrap_i64 (by omega) (by omega)
   have a1 := hv.at hil
   obtain ⟨p, pf, pl⟩ := hv.flds hil
   have f2 := pf 2 (by omega)
   obtain ⟨_, _, l2, _⟩ := pl h .refl
   have hst : l.length - i = (l.length - (i + 1)) + 1 := by omega
   have hstep : nextO l i (l.length - i) = if l[i].not then nextO l (i + 1) (l.length - (i + 1)) else some i := by
    rw [hst]; simp only [nextO, List.getElem?_eq_getElem hil]
   cases hn : l[i].not with
   | true =>
    rw [hn] at l2
    rw [hn, if_pos rfl] at hstep
    have hnext : In121 h v l k (l.length - (i + 1)) ⟨[(0, v), (5, .int .i64 (i + 1 : Nat))], h⟩ := ⟨i + 1, rfl, hil, rfl, hnx.trans hstep⟩
    have pe : (elC v i).notTup = true := by unfold elC; split <;> rfl
    simp [-AV.notTup, hvt, pe, c121_l2, c121_r2, c121_r3, c121_r4, len1, hlen, hil, hil', a1, f2, l2, hwr2]
    exact ⟨l.length - (i + 1), by omega, by simpa using hnext⟩
   | false =>
    rw [hn] at l2
    rw [hn, if_neg (by simp)] at hstep
    rw [hstep]
    have pe : (elC v i).notTup = true := by unfold elC; split <;> rfl
    simp [-AV.notTup, hvt, pe, c121_l2, c121_r2, c121_r4, c121_r5, len1, hlen, hil, hil', a1, f2, l2, nextV]
    try simp [AV.notTup]
 · have hi2 : i = l.length := by omega
   subst hi2
   simp [-AV.notTup, hvt, c121_l2, c121_r2, c121_r6, len1, hlen, nextO, nextV]
   try simp [AV.notTup]
def cntE (E : List Int) (d : Int) (n : Nat) (k : Nat) : Nat := ((E.take k).filter fun a => decide ((n : Int) < a + d)).length
theorem cntE_le {E : List Int} {d : Int} {n k : Nat} : cntE E d n k ≤ k := Nat.le_trans (List.length_filter_le _ _) (by simp; omega)
theorem cntE_step {E : List Int} {d : Int} {n k : Nat} (hk : k < E.length) : cntE E d n (k + 1) = cntE E d n k + if (n : Int) < E[k] + d then 1 else 0 := by
 unfold cntE
 rw [List.take_succ_eq_append_getElem hk, List.filter_append, List.length_append]
 congr 1
 rw [List.filter_cons]
 by_cases h : (n : Int) < E[k] + d
 · rw [if_pos (by simpa using h), if_pos h]; rfl
 · rw [if_neg (by simpa using h), if_neg h]; rfl
abbrev env107 (v : AV) (t : Txt) (all m : AV) (i : Nat) : Env := [(0, v), (1, .str t), (5, all), (6, m), (7, .int .i64 i)]
abbrev env107i (v : AV) (t : Txt) (all m : AV) (i : Nat) (e : AV) (x n k : Nat) : Env := [(0, v), (1, .str t), (5, all), (6, m), (7, .int .i64 i), (8, e), (9, .int .i64 x), (10, .int .i64 n), (11, .int .i64 k)]
def In107i (h : Heap) (v : AV) (t : Txt) (all m : AV) (i : Nat) (e : AV) (x : Nat) (E : List Int) (d : Int) (mm : Nat) (σ : St) : Prop := ∃ k, mm = E.length - k ∧ k ≤ E.length ∧ σ = ⟨env107i v t all m i e x (cntE E d t.length k) k, h⟩
theorem count_loop {h : Heap} {v all m e : AV} {t : Txt} {l : List Cont} {i x : Nat} {E : List Int} (hv : SlC h v l) (hx : x < l.length) (hs : l[x].small) (he : Sl1 h e (intCells E)) (hE : ∀ a ∈ E, 0 ≤ a ∧ a ≤ 2000000) (hEl : E.length ≤ 1000000) (hn1 : all.notTup = true) (hn2 : m.notTup = true) {Q : AExit → St → Prop}
  (hq : Q (.exit 2) ⟨env107i v t all m i e x (cntE E (l[x].distance + l[x].within) t.length E.length) E.length ++ [(57, .bool false)], h⟩) :
  Wt Try.prog (D cfg) (.loop c107_l13 (some [0, 1, 5, 6, 7, 8, 9, 10, 11])) ⟨env107i v t all m i e x 0 0, h⟩ Q := by
 have hvt : v.notTup = true := by rcases hv with ⟨rfl, _⟩ | ⟨_, _, _, _, rfl, _, _⟩ <;> rfl
 have het : e.notTup = true := by rcases he with ⟨rfl, _⟩ | ⟨_, _, _, _, _, rfl, _, _⟩ <;> rfl
 have hlen := fun L => he.len (L := L) (t := 30) (e := 3) (by simp)
 rw [intCells_len] at hlen
 obtain ⟨d, hd⟩ : ∃ d, l[x].distance + l[x].within = d := ⟨_, rfl⟩
 rw [hd] at hq
 refine Wt.loop (In107i h v t all m i e x E d) (m := E.length) ⟨0, rfl, Nat.zero_le _, by simp [cntE]⟩ ?_
 rintro mm σ ⟨k, rfl, hk, rfl⟩
 have hcut : cut (some [0, 1, 5, 6, 7, 8, 9, 10, 11]) (env107i v t all m i e x (cntE E d t.length k) k) = env107i v t all m i e x (cntE E d t.length k) k := by simp
 simp only [hcut]
 by_cases hkE : k < E.length
 · have hkE' : (k : Int) < E.length := by omega
   have hic : k < (intCells E).length := by rw [intCells_len]; exact hkE
   have a1 := he.at (t := 30) (e := 3) (by simp) (by simp) hic
   have l1 := he.load (e := 3) (by simp) hic
   have hcell : (intCells E)[k] = .int .i64 E[k] := by simp [intCells]
   rw [hcell] at l1
   obtain ⟨a, ha⟩ : ∃ a, E[k] = a := ⟨_, rfl⟩
   have hab := hE a (by rw [← ha]; exact List.getElem_mem hkE)
   rw [ha] at l1
   have a2 := hv.at hx
   obtain ⟨p, pf, pl⟩ := hv.flds hx
   have f6 := pf 6 (by omega)
   have f7 := pf 7 (by omega)
   obtain ⟨_, _, _, _, l6, l7⟩ := pl h .refl
   have hdi := hs.di
   have hwi := hs.w
   have w1 : IntKind.wrap .i64 (a + l[x].distance) = a + l[x].distance := wrap_i64 (by omega) (by omega)
   have w2 : IntKind.wrap .i64 (a + l[x].distance + l[x].within) = a + d := by rw [wrap_i64 (by omega) (by omega)]; omega
   have hwk : IntKind.wrap .i64 ((k : Int) + 1) = k + 1 := wrap_i64 (by omega) (by omega)
   have hcl := cntE_le (E := E) (d := d) (n := t.length) (k := k)
   have hst := cntE_step (d := d) (n := t.length) hkE
   rw [ha] at hst
   have pe : (elC v x).notTup = true := by unfold elC; split <;> rfl
   have pe2 : (elp e k).notTup = true := by unfold elp; split <;> rfl
   have hxl : (x : Int) < l.length := by omega
   by_cases hc : (t.length : Int) < a + d
   · rw [if_pos hc] at hst
     obtain ⟨C, hC⟩ : ∃ C, cntE E d t.length k + 1 = C := ⟨_, rfl⟩
     have hwc : IntKind.wrap .i64 ((cntE E d t.length k : Int) + 1) = C := by rw [wrap_i64 (by omega) (by omega)]; omega
     have hnext : In107i h v t all m i e x E d (E.length - (k + 1)) ⟨env107i v t all m i e x C (k + 1), h⟩ := ⟨k + 1, rfl, hkE, by rw [hst, hC]⟩
     simp only [env107i] at hnext
     simp [-AV.notTup, hvt, het, hn1, hn2, pe, pe2, c107_l13, c107_r13, c107_r14, c107_r15, c107_r16, len1, hlen, alen9, hkE, hkE', a1, l1, a2, f6, f7, l6, l7, w1, w2, hc, hwc, hwk]
     exact ⟨E.length - (k + 1), by omega, by simpa using hnext⟩
   · rw [if_neg hc, Nat.add_zero] at hst
     have hnext : In107i h v t all m i e x E d (E.length - (k + 1)) ⟨env107i v t all m i e x (cntE E d t.length k) (k + 1), h⟩ := ⟨k + 1, rfl, hkE, by rw [hst]; rfl⟩
     simp only [env107i] at hnext
     simp [-AV.notTup, hvt, het, hn1, hn2, pe, pe2, c107_l13, c107_r13, c107_r14, c107_r15, len1, hlen, alen9, hkE, hkE', a1, l1, a2, f6, f7, l6, l7, w1, w2, hc, hwk]
     exact ⟨E.length - (k + 1), by omega, by simpa using hnext⟩
 · have hk2 : k = E.length := by omega
   subst hk2
   simp only [env107i] at hq
   simp [-AV.notTup, hvt, het, hn1, hn2, c107_l13, c107_r13, len1, hlen]
   simpa using hq
def kmTo (l : List Cont) (t : Txt) (i : Nat) : List Int := (List.range (posTo l i).length).map (keptN l t)
def In107 (hE : Heap) (v : AV) (t : Txt) (all : AV) (l : List Cont) (m : Nat) (σ : St) : Prop :=
 ∃ i bm h, m = l.length - i ∧ i ≤ l.length ∧ σ = ⟨env107 v t all (intSl bm (kmTo l t i)) i, h⟩ ∧ (kmTo l t i ≠ [] → h[bm]? = some (.cells (intCells (kmTo l t i)) 3 true) ∧ hE.length ≤ bm) ∧ Only (fun _ => False) hE h
theorem posTo_len_le {l : List Cont} : ∀ {k : Nat}, (posTo l k).length ≤ k
 | 0 => by simp [posTo]
 | k + 1 => by
  have := posTo_len_le (l := l) (k := k)
  simp only [posTo]
  split
  · split
    · omega
    · simp; omega
  · omega
theorem kept_doc {h : Heap} {v : AV} {l : List Cont} {t : Txt} (hv : SlC h v l) (hsm : ∀ c ∈ l, c.small) (hll : l.length ≤ 1000) (htl : t.length ≤ 100000) :
  ∃ r h', D cfg 107 [v, .str t] h = some (r, h') ∧ Sl1 h' r (intCells (keptDoc l t)) ∧ Only (fun _ => False) h h' := by
 have key : ∃ r h', D cfg 107 [v, .str t] h = some (r, h') ∧ (Sl1 h' r (intCells (keptDoc l t)) ∧ Only (fun _ => False) h h') := by
  refine call107 (R := fun r h' => Sl1 h' r (intCells (keptDoc l t)) ∧ Only (fun _ => False) h h') (args := [v, .str t]) (h := h) (by simp) ?_
  have hvt : v.notTup = true := by rcases hv with ⟨rfl, _⟩ | ⟨_, _, _, _, rfl, _, _⟩ <;> rfl
  have hlen := fun L => hv.len (L := L)
  obtain ⟨hE, B, bs, e1, L1, o1⟩ := ends_doc hv hsm htl hll
  have hpos := endsAll_pos (l := l) (s := t) (k := l.length) (Nat.le_refl _)
  rw [List.take_length] at hpos
  have hEl : (endsAll l t).1.length = (posA l).length := by rw [hpos]; simp
  obtain ⟨_, _, _, ok4⟩ := endsAll_ok (l := l) (s := t)
  obtain ⟨all, hall⟩ : ∃ all, llSl B bs (endsAll l t).1 = all := ⟨_, rfl⟩
  have hat : all.notTup = true := by rw [← hall]; exact bufSl_notTup
  rw [hall] at e1
  have L2 := fun (h' : Heap) (o : Only (fun _ => False) hE h') (i : Nat) (hi : i < (endsAll l t).1.length) => (L1.same o).get hi
  rw [hall] at L2
  simp [-AV.notTup, hvt, hat, c107, c107_r0, c107_r1, c107_r2, c107_r3, e1]
  refine Wt.loop (In107 hE v t all l) (m := l.length) ⟨0, 0, hE, rfl, Nat.zero_le _, by simp [kmTo, posTo, intSl], fun e => absurd rfl e, .refl⟩ ?_
  rintro m σ ⟨i, bm, h1, rfl, hi, rfl, hb, oE⟩
  have hcut : cut (some [0, 1, 5, 6, 7]) (env107 v t all (intSl bm (kmTo l t i)) i) = env107 v t all (intSl bm (kmTo l t i)) i := by simp
  simp only [hcut]
  have n1 : (intSl bm (kmTo l t i)).notTup = true := intSl_notTup
  have hkl : (kmTo l t i).length = (posTo l i).length := by simp [kmTo]
  have hple := posTo_len_le (l := l) (k := i)
  by_cases hil : i < l.length
  · have hil' : (i : Int) < l.length := by omega
    have hwr : IntKind.wrap .i64 ((i : Int) + 1) = i + 1 := wrap_i64 (by omega) (by omega)
    have hv1 := hv.same (o1.trans oE)
    have a1 := hv.at hil
    obtain ⟨p, pf, pl⟩ := hv1.flds hil
    have f2 := pf 2 (by omega)
    obtain ⟨_, _, l2, _⟩ := pl h1 .refl
    have pe : (elC v i).notTup = true := by unfold elC; split <;> rfl
    cases hn : l[i].not with
    | true =>
     rw [hn] at l2
     have hk : kmTo l t (i + 1) = kmTo l t i := by simp only [kmTo, posTo_not hil hn]
     have hnext : In107 hE v t all l (l.length - (i + 1)) ⟨env107 v t all (intSl bm (kmTo l t i)) (i + 1), h1⟩ := ⟨i + 1, bm, h1, rfl, hil, by rw [hk], by rw [hk]; exact hb, oE⟩
     generalize intSl bm (kmTo l t i) = mv at *
     simp only [env107] at hnext
     simp [-AV.notTup, hvt, hat, n1, pe, c107_l4, c107_r4, c107_r5, c107_r6, len1, hlen, hil, hil', a1, f2, l2, hwr]
     exact ⟨l.length - (i + 1), by omega, by simpa using hnext⟩
    | false =>
     rw [hn] at l2
     obtain ⟨j, hj⟩ : ∃ j, (posTo l i).length = j := ⟨_, rfl⟩
     obtain ⟨at1, at2⟩ := posTo_at hil hn
     rw [hj] at at1 hkl hple
     have hjp : j < (posA l).length := (List.getElem?_eq_some_iff.1 at1).1
     have hjE : j < (endsAll l t).1.length := by rw [hEl]; exact hjp
     obtain ⟨E, hEE⟩ : ∃ E, (endsAll l t).1[j] = E := ⟨_, rfl⟩
     obtain ⟨b, a3, l3, d3⟩ := L2 h1 oE j hjE
     rw [hEE] at l3 d3
     obtain ⟨okE, okl⟩ := ok4 E (by rw [← hEE]; exact List.getElem_mem hjE)
     have hES : Sl1 h1 (intSl b E) (intCells E) := Sl1.ints fun hne => d3 hne
     have hk : kmTo l t (i + 1) = kmTo l t i ++ [keptN l t j] := by simp only [kmTo, at2, List.length_append, List.length_singleton, hj, List.range_succ, List.map_append, List.map_singleton]
     have hkn : keptN l t j = ((keptE ((nextO l (i + 1) (l.length - (i + 1))).bind fun i' => l[i']?) E t.length).length : Int) := by
      have hnp := nextP_of hil hn
      rw [hj] at hnp
      simp only [keptN, hnp, List.getElem?_eq_getElem hjE, hEE, Option.getD_some]
     have e2 := next_run hv1 hll hil
     have app : ∀ (val : Nat), (val : Int) = keptN l t j → ∃ δ h2 b2, append2 Try.prog (look (h1 ++ [AObj.cells [.int .i64 val] 3 true])) (h1.length + 1) 30 30 [intSl bm (kmTo l t i), .sl (some ⟨h1.length, 0, 1⟩) 1 1] = some (intSl b2 (kmTo l t (i + 1)), δ) ∧ Heap.apply (h1 ++ [AObj.cells [.int .i64 val] 3 true]) δ = h2 ∧ In107 hE v t all l (l.length - (i + 1)) ⟨env107 v t all (intSl b2 (kmTo l t (i + 1))) (i + 1), h2⟩ := by
      intro val hval
      obtain ⟨δ, h2, g1, g2, g3, g4⟩ := append_int (h := h1) (b := bm) (l := kmTo l t i) (x := val) (fun hne => (hb hne).1) (by rw [hkl]; omega)
      rw [hval, ← hk] at g1 g3
      rw [← hval] at g1
      refine ⟨δ, h2, _, g1, g2, i + 1, _, h2, rfl, hil, rfl, fun _ => ⟨g3, ?_⟩, oE.fresh g4 fun x hx => by rw [hx.1]; exact (hb hx.2).2⟩
      have := oE.1
      split
      · omega
      · rename_i hne; exact (hb hne).2
     have hmin : amin [.int .i64 E.length, .int .i64 1] = some (.int .i64 (min E.length 1 : Nat)) := by
      simp only [amin, List.foldl, amin1, if_true]
      congr 2
      split <;> omega
     have hjE' : (j : Int) < (endsAll l t).1.length := by omega
     have mlen : ∀ L, alen Try.prog L 30 (intSl bm (kmTo l t i)) = some (.int .i64 j) := fun L => by rw [intSl_lenA, hkl]
     have elen : ∀ L, alen Try.prog L 30 (intSl b E) = some (.int .i64 E.length) := fun L => intSl_lenA
     have n3 : (intSl b E).notTup = true := intSl_notTup
     have pe3 : (elp all j).notTup = true := by unfold elp; split <;> rfl
     cases hnx : nextO l (i + 1) (l.length - (i + 1)) with
     | none =>
      rw [hnx] at e2 hkn
      have hval : ((min E.length 1 : Nat) : Int) = keptN l t j := by rw [hkn]; simp [keptE, leastOf]; omega
      obtain ⟨δ, h2, b2, g1, g2, hnext⟩ := app _ hval
      have e2' : D cfg 121 [v, .int .i64 i] h1 = some (.int .i64 (-1), h1) := e2
      have n4 : (intSl b2 (kmTo l t (i + 1))).notTup = true := intSl_notTup
      obtain ⟨mn, hmn⟩ : ∃ mn, min E.length 1 = mn := ⟨_, rfl⟩
      rw [hmn] at hmin g1 g2
      generalize intSl bm (kmTo l t i) = mv at *
      generalize intSl b2 (kmTo l t (i + 1)) = mv2 at *
      generalize intSl b E = ev at *
      simp only [env107] at hnext
      simp [-AV.notTup, hvt, hat, n1, n3, n4, pe, pe3, c107_l4, c107_r4, c107_r5, c107_r6, c107_r7, c107_r8, c107_r9, c107_r10, c107_r17, len1, hlen, hil, hil', a1, f2, l2, mlen, a3, l3, e2', elen, hmin, abuildSlice, afill, zeros, g1, g2, hwr]
      exact ⟨l.length - (i + 1), by omega, by simpa using hnext⟩
     | some x =>
      have hxl : x < l.length := by have := nextO_lt hnx; omega
      have hxl' : (x : Int) < l.length := by omega
      rw [hnx] at e2 hkn
      have hlx : l[x]? = some l[x] := List.getElem?_eq_getElem hxl
      simp only [Option.bind_some, hlx] at hkn
      have e2' : D cfg 121 [v, .int .i64 i] h1 = some (.int .i64 x, h1) := e2
      have a5 := hv.at hxl
      obtain ⟨p', pf', pl'⟩ := hv1.flds hxl
      have f5 := pf' 5 (by omega)
      have f7 := pf' 7 (by omega)
      obtain ⟨_, _, _, l5, _, l7⟩ := pl' h1 .refl
      have pe5 : (elC v x).notTup = true := by unfold elC; split <;> rfl
      by_cases hw : relW l[x] = true
      · have hw2 := hw
        simp only [relW, Bool.and_eq_true, decide_eq_true_eq] at hw2
        obtain ⟨r1, r2⟩ := hw2
        rw [r1] at l5
        have hval : ((cntE E (l[x].distance + l[x].within) t.length E.length : Nat) : Int) = keptN l t j := by
         rw [hkn]
         simp [keptE, leastOf, byOf, hw, cntE]
        obtain ⟨δ, h2, b2, g1, g2, hnext⟩ := app _ hval
        have n4 : (intSl b2 (kmTo l t (i + 1))).notTup = true := intSl_notTup
        have hxs := hsm l[x] (List.getElem_mem hxl)
        have hcount := fun Q hq => count_loop (Q := Q) (t := t) (i := i) (all := all) (m := intSl bm (kmTo l t i)) hv1 hxl hxs hES (fun a ha => by have := okE a ha; omega) (by omega) hat n1 hq
        simp only [env107i] at hcount
        obtain ⟨cn, hcn⟩ : ∃ cn, cntE E (l[x].distance + l[x].within) t.length E.length = cn := ⟨_, rfl⟩
        rw [hcn] at hcount g1 g2
        generalize intSl bm (kmTo l t i) = mv at *
        generalize intSl b2 (kmTo l t (i + 1)) = mv2 at *
        generalize intSl b E = ev at *
        simp only [env107] at hnext
        simp [-AV.notTup, hvt, hat, n1, n3, pe, pe3, pe5, c107_l4, c107_r4, c107_r6, c107_r7, c107_r8, c107_r9, c107_r10, c107_r11, c107_r12, len1, hlen, hil, hil', a1, f2, l2, mlen, a3, l3, e2', elen, hmin, a5, hxl, hxl', f5, f7, l5, l7, r2]
        refine hcount _ ?_
        simp [-AV.notTup, hvt, hat, n1, n3, n4, c107_r5, c107_r17, abuildSlice, afill, zeros, g1, g2, hwr]
        exact ⟨l.length - (i + 1), by omega, by simpa using hnext⟩
      · have hw' : relW l[x] = false := by simpa using hw
        have hval : ((min E.length 1 : Nat) : Int) = keptN l t j := by rw [hkn]; simp [keptE, leastOf, hw']; omega
        obtain ⟨δ, h2, b2, g1, g2, hnext⟩ := app _ hval
        have n4 : (intSl b2 (kmTo l t (i + 1))).notTup = true := intSl_notTup
        obtain ⟨mn, hmn⟩ : ∃ mn, min E.length 1 = mn := ⟨_, rfl⟩
        rw [hmn] at hmin g1 g2
        generalize intSl bm (kmTo l t i) = mv at *
        generalize intSl b2 (kmTo l t (i + 1)) = mv2 at *
        generalize intSl b E = ev at *
        simp only [env107] at hnext
        cases r1 : l[x].rel with
        | true =>
         rw [r1] at l5
         have r2 : ¬ (0 < l[x].within) := fun h => by simp [relW, r1, h] at hw'
         simp [-AV.notTup, hvt, hat, n1, n3, n4, pe, pe3, pe5, c107_l4, c107_r4, c107_r5, c107_r6, c107_r7, c107_r8, c107_r9, c107_r10, c107_r17, len1, hlen, hil, hil', a1, f2, l2, mlen, a3, l3, e2', elen, hmin, a5, hxl, hxl', f5, f7, l5, l7, r2, abuildSlice, afill, zeros, g1, g2, hwr]
         exact ⟨l.length - (i + 1), by omega, by simpa using hnext⟩
        | false =>
         rw [r1] at l5
         simp [-AV.notTup, hvt, hat, n1, n3, n4, pe, pe3, pe5, c107_l4, c107_r4, c107_r5, c107_r6, c107_r7, c107_r8, c107_r9, c107_r10, c107_r17, len1, hlen, hil, hil', a1, f2, l2, mlen, a3, l3, e2', elen, hmin, a5, hxl, hxl', f5, f7, l5, l7, abuildSlice, afill, zeros, g1, g2, hwr]
         exact ⟨l.length - (i + 1), by omega, by simpa using hnext⟩
  · have hi2 : i = l.length := by omega
    subst hi2
    have hfull : kmTo l t l.length = keptDoc l t := rfl
    rw [hfull] at hb n1 ⊢
    have hfin : Sl1 h1 (intSl bm (keptDoc l t)) (intCells (keptDoc l t)) := Sl1.ints fun hne => (hb hne).1
    obtain ⟨mv, hmv⟩ : ∃ mv, intSl bm (keptDoc l t) = mv := ⟨_, rfl⟩
    rw [hmv] at n1 hfin ⊢
    simp [-AV.notTup, hvt, hat, n1, c107_l4, c107_r4, c107_r18, len1, hlen]
    exact ⟨hfin, o1.trans oE⟩
 obtain ⟨r, h', h1, h2, h3⟩ := key
 exact ⟨r, h', h1, h2, h3⟩
theorem copy_conts2 {h : Heap} {v : AV} {l : List Cont} (H : SlC h v l) (hl : l.length ≤ 1000) : ∃ v' δ h', append2 Try.prog (look h) h.length 42 42 [.sl none 0 0, v] = some (v', δ) ∧ h.apply δ = h' ∧ SlC h' v' l ∧ Only (fun _ => False) h h' := by
 rcases H with ⟨rfl, rfl⟩ | ⟨b, g, c, cs, rfl, h1, h2⟩
 · exact ⟨.sl none 0 0, .no, h, by simp [append2, aappend, srcCells, aappendE], rfl, .inl ⟨rfl, rfl⟩, .refl⟩
 · by_cases hl0 : l.length = 0
   · have : l = [] := List.length_eq_zero_iff.1 hl0
     subst this
     exact ⟨.sl none 0 0, .no, h, by simp [append2, aappend, srcCells, aappendE], rfl, .inl ⟨rfl, rfl⟩, .refl⟩
   · have hge : l.length * 8 ≤ cs.length := by
      have h3 := h2 (l.length - 1) _ (List.getElem?_eq_getElem (by omega))
      have := congrArg List.length h3
      rw [List.length_take, List.length_drop] at this
      simp [contCell] at this
      omega
     have hlen : (cs.take (l.length * 8)).length = l.length * 8 := by simp; omega
     have hby : Try.prog.bytesOf 52 ≤ 100 := by simp
     have hroom : l.length * Try.prog.bytesOf 52 ≤ roomMax := by
      have := Nat.mul_le_mul hl hby
      simp only [roomMax]
      omega
     have hsrc : srcCells Try.prog (look h) 52 (.sl (some ⟨b, 0, g⟩) l.length c) = some (l.length, cs.take (l.length * 8)) := by
      simp [srcCells, hl0, slCells, h1, hge]
     refine ⟨.sl (some ⟨h.length, 0, l.length * 8⟩) l.length l.length, .new (.cells (cs.take (l.length * 8)) 52 true), h ++ [.cells (cs.take (l.length * 8)) 52 true], ?_, rfl, ?_, .app⟩
     · have h9 : l.length ≤ 9223372036854775807 := by omega
       have hz : zeroOK Try.prog 52 = true := by simp
       have hpos : 0 < tsz Try.prog 52 := by simp
       have ht : tk Try.prog 42 = .slice 52 := by simp
       simp only [append2, aappend, ht, hsrc, hpos, if_true, aappendE, hl0, if_false]
       simp only [hroom, h9, hz, and_self, if_true, hlen]
     · refine .inr ⟨h.length, l.length * 8, l.length, cs.take (l.length * 8), rfl, ?_, fun i c hc => ?_⟩
       · simp only [AM.row, look_at, at_app, if_true]
         rw [if_pos hlen]
       · have hi := (List.getElem?_eq_some_iff.1 hc).1
         rw [List.drop_take, List.take_take, Nat.min_eq_left (by omega)]
         exact h2 i c hc
def In106 (h : Heap) (w : AV) (most : Nat) (K : List Int) (m : Nat) (σ : St) : Prop := ∃ i, m = K.length - i ∧ i ≤ K.length ∧ (K.any (fun k => decide ((most : Int) < k)) = (K.drop i).any fun k => decide ((most : Int) < k)) ∧ σ = ⟨[(1, .int .i64 most), (7, w), (8, .int .i64 i)], h⟩
theorem over_doc {h : Heap} {v : AV} {l : List Cont} {t : Txt} {most : Nat} (hv : SlC h v l) (hsm : ∀ c ∈ l, c.small) (hll : l.length ≤ 1000) (htl : t.length ≤ 100000) :
  ∃ h', D cfg 106 [v, .int .i64 most, .str t] h = some (.bool ((keptDoc l t).any fun k => decide ((most : Int) < k)), h') ∧ Only (fun _ => False) h h' := by
 have key : ∃ r h', D cfg 106 [v, .int .i64 most, .str t] h = some (r, h') ∧ (r = .bool ((keptDoc l t).any fun k => decide ((most : Int) < k)) ∧ Only (fun _ => False) h h') := by
  refine call106 (R := fun r h' => r = .bool ((keptDoc l t).any fun k => decide ((most : Int) < k)) ∧ Only (fun _ => False) h h') (args := [v, .int .i64 most, .str t]) (h := h) (by simp) ?_
  have hvt : v.notTup = true := by rcases hv with ⟨rfl, _⟩ | ⟨_, _, _, _, rfl, _, _⟩ <;> rfl
  obtain ⟨w, h1, e1, hw, o1⟩ := kept_doc hv hsm hll htl
  have hwt : w.notTup = true := by rcases hw with ⟨rfl, _⟩ | ⟨_, _, _, _, _, rfl, _, _⟩ <;> rfl
  obtain ⟨K, hK⟩ : ∃ K, keptDoc l t = K := ⟨_, rfl⟩
  have hKl : K.length ≤ 1000 := by
   rw [← hK]
   have : (posA l).length ≤ l.length := posTo_len_le
   simp only [keptDoc, List.length_map, List.length_range]
   omega
  rw [hK] at hw ⊢
  have hlen := fun L => hw.len (L := L) (t := 30) (e := 3) (by simp)
  rw [intCells_len] at hlen
  simp [-AV.notTup, hvt, hwt, c106, c106_r0, c106_r1, c106_r2, e1]
  refine Wt.loop (In106 h1 w most K) (m := K.length) ⟨0, rfl, Nat.zero_le _, rfl, rfl⟩ ?_
  rintro m σ ⟨i, rfl, hi, hany, rfl⟩
  have hcut : cut (some [1, 7, 8]) [(1, .int .i64 (most : Int)), (7, w), (8, .int .i64 (i : Int))] = [(1, .int .i64 (most : Int)), (7, w), (8, .int .i64 (i : Int))] := by simp
  simp only [hcut]
  by_cases hil : i < K.length
  · have hil' : (i : Int) < K.length := by omega
    have hwr : IntKind.wrap .i64 ((i : Int) + 1) = i + 1 := wrap_i64 (by omega) (by omega)
    have hic : i < (intCells K).length := by rw [intCells_len]; exact hil
    have a1 := hw.at (t := 30) (e := 3) (by simp) (by simp) hic
    have l1 := hw.load (e := 3) (by simp) hic
    have hcell : (intCells K)[i] = .int .i64 K[i] := by simp [intCells]
    rw [hcell] at l1
    have pe : (elp w i).notTup = true := by unfold elp; split <;> rfl
    have hdr : K.drop i = K[i] :: K.drop (i + 1) := List.drop_eq_getElem_cons hil
    rw [hdr, List.any_cons] at hany
    obtain ⟨a, ha⟩ : ∃ a, K[i] = a := ⟨_, rfl⟩
    rw [ha] at l1 hany
    by_cases hc : (most : Int) < a
    · rw [decide_eq_true hc, Bool.true_or] at hany
      simp [-AV.notTup, hwt, pe, c106_l3, c106_r3, c106_r5, c106_r6, len1, hlen, hil, hil', a1, l1, hc]
      try simp [AV.notTup]
      refine ⟨?_, o1⟩
      simpa using hany
    · rw [decide_eq_false hc, Bool.false_or] at hany
      have hnext : In106 h1 w most K (K.length - (i + 1)) ⟨[(1, .int .i64 most), (7, w), (8, .int .i64 (i + 1 : Nat))], h1⟩ := ⟨i + 1, rfl, hil, hany, rfl⟩
      simp [-AV.notTup, hwt, pe, c106_l3, c106_r3, c106_r4, c106_r5, len1, hlen, hil, hil', a1, l1, hc, hwr]
      exact ⟨K.length - (i + 1), by omega, by simpa using hnext⟩
  · have hi2 : i = K.length := by omega
    subst hi2
    rw [List.drop_length] at hany
    simp [-AV.notTup, hwt, c106_l3, c106_r3, c106_r7, len1, hlen]
    try simp [AV.notTup]
    refine ⟨?_, o1⟩
    simpa using hany
 obtain ⟨r, h', h1, rfl, h2⟩ := key
 exact ⟨h', h1, h2⟩
def In105 (h₀ : Heap) (v : AV) (s : Txt) (n : Nat) (l : List Cont) (m : Nat) (σ : St) : Prop := ∃ i b h, m = l.length - i ∧ i ≤ l.length ∧ σ = ⟨[(0, v), (1, .str s), (2, .int .i64 n), (7, boolSl b (stepsOf (l.take i) s n)), (8, .int .i64 i)], h⟩ ∧
 ((stepsOf (l.take i) s n).length ≠ 0 → h[b]? = some (.cells (boolCells (stepsOf (l.take i) s n)) 4 true) ∧ h₀.length ≤ b) ∧ Only (fun _ => False) h₀ h
theorem step_law {h : Heap} {v : AV} {l : List Cont} {s : Txt} {n : Nat} (hv : SlC h v l) (hsm : ∀ c ∈ l, c.small) (hll : l.length ≤ 1000) (hsl : s.length ≤ 100000) :
  ∃ r h', D cfg 105 [v, .str s, .int .i64 n] h = some (r, h') ∧ Sl1 h' r (boolCells (stepsOf l s n)) ∧ (∀ b, slB r = some b → h.length ≤ b) ∧ Only (fun _ => False) h h' := by
 have key : ∃ r h', D cfg 105 [v, .str s, .int .i64 n] h = some (r, h') ∧ (Sl1 h' r (boolCells (stepsOf l s n)) ∧ (∀ b, slB r = some b → h.length ≤ b) ∧ Only (fun _ => False) h h') := by
  refine call105 (R := fun r h' => Sl1 h' r (boolCells (stepsOf l s n)) ∧ (∀ b, slB r = some b → h.length ≤ b) ∧ Only (fun _ => False) h h') (args := [v, .str s, .int .i64 n]) (h := h) (by simp) ?_
  have hvt : v.notTup = true := by rcases hv with ⟨rfl, _⟩ | ⟨_, _, _, _, rfl, _, _⟩ <;> rfl
  have hlen := fun L => hv.len (L := L)
  simp [-AV.notTup, hvt, c105, c105_r0, c105_r1, c105_r2]
  refine Wt.loop (In105 h v s n l) (m := l.length) ⟨0, 0, h, rfl, Nat.zero_le _, by simp [stepsOf, boolSl, bufSl], fun e => absurd rfl e, .refl⟩ ?_
  rintro m σ ⟨i, b, h1, rfl, hi, rfl, hb, o1⟩
  have hcut : cut (some [0, 1, 2, 7, 8]) [(0, v), (1, .str s), (2, .int .i64 (n : Int)), (7, boolSl b (stepsOf (l.take i) s n)), (8, .int .i64 (i : Int))] = [(0, v), (1, .str s), (2, .int .i64 (n : Int)), (7, boolSl b (stepsOf (l.take i) s n)), (8, .int .i64 (i : Int))] := by simp
  simp only [hcut]
  have n1 : (boolSl b (stepsOf (l.take i) s n)).notTup = true := bufSl_notTup
  by_cases hil : i < l.length
  · have hil' : (i : Int) < l.length := by omega
    have hwr : IntKind.wrap .i64 ((i : Int) + 1) = i + 1 := wrap_i64 (by omega) (by omega)
    have hv1 := hv.same o1
    have a1 := hv.at hil
    obtain ⟨p, pf, pl⟩ := hv1.flds hil
    have f0 := pf 0 (by omega)
    have f1 := pf 1 (by omega)
    obtain ⟨l0, l1, _⟩ := pl h1 .refl
    have pe : (elC v i).notTup = true := by unfold elC; split <;> rfl
    have hc := hsm l[i] (List.getElem_mem hil)
    obtain ⟨h2, e2, o2⟩ := at_ref (h := h1) (p := l[i].bytes) (s := s) (nc := l[i].nocase) (e := n) hc.b (by omega)
    have hst : stepsOf (l.take (i + 1)) s n = stepsOf (l.take i) s n ++ [patAt l[i].bytes l[i].nocase s n] := by
     rw [List.take_succ_eq_append_getElem hil]; simp only [stepsOf, List.map_append, List.map_cons, List.map_nil]
    have hsl2 : (stepsOf (l.take i) s n).length = i := by simp [stepsOf]; omega
    obtain ⟨pb, hpb⟩ : ∃ pb, patAt l[i].bytes l[i].nocase s n = pb := ⟨_, rfl⟩
    rw [hpb] at e2 hst
    obtain ⟨δ, h3, g1, g2, g3, g4⟩ := append_buf (t := 68) (e := 4) (k := 1) (by simp) (by simp) (by decide) (by simp) (by simp) (h := h2) (b := b) (n := (stepsOf (l.take i) s n).length) (xs := boolCells (stepsOf (l.take i) s n)) (ys := [.bool pb]) (by simp) (by simp [boolCells_len]) (fun hne => o2.at (hb hne).1 id) (by omega)
    have hbc : boolCells (stepsOf (l.take i) s n) ++ [AV.bool pb] = boolCells (stepsOf (l.take (i + 1)) s n) := by rw [hst]; simp [boolCells]
    have hsl3 : (stepsOf (l.take i) s n).length + 1 = (stepsOf (l.take (i + 1)) s n).length := by rw [hst]; simp
    obtain ⟨b2, hb2⟩ : ∃ b2, (if (stepsOf (l.take i) s n).length = 0 then h2.length + 1 else b) = b2 := ⟨_, rfl⟩
    rw [hbc, hsl3, hb2] at g1
    rw [hbc, hb2] at g3
    have o13 : Only (fun _ => False) h h3 := (o1.trans o2).fresh g4 fun x hx => by rw [hx.1]; exact (hb hx.2).2
    have hnext : In105 h v s n l (l.length - (i + 1)) ⟨[(0, v), (1, .str s), (2, .int .i64 n), (7, boolSl b2 (stepsOf (l.take (i + 1)) s n)), (8, .int .i64 (i + 1 : Nat))], h3⟩ := by
     refine ⟨i + 1, b2, h3, rfl, hil, rfl, fun _ => ⟨g3, ?_⟩, o13⟩
     have q1 := o1.1
     have q2 := o2.1
     rw [← hb2]
     split
     · omega
     · rename_i hne; exact (hb hne).2
    have g1' : append2 Try.prog (look (h2 ++ [AObj.cells [.bool pb] 4 true])) (h2.length + 1) 68 68 [boolSl b (stepsOf (l.take i) s n), .sl (some ⟨h2.length, 0, 1⟩) 1 1] = some (boolSl b2 (stepsOf (l.take (i + 1)) s n), δ) := g1
    have n2 : (boolSl b2 (stepsOf (l.take (i + 1)) s n)).notTup = true := bufSl_notTup
    obtain ⟨w1, hw1⟩ : ∃ w, boolSl b (stepsOf (l.take i) s n) = w := ⟨_, rfl⟩
    obtain ⟨w2, hw2⟩ : ∃ w, boolSl b2 (stepsOf (l.take (i + 1)) s n) = w := ⟨_, rfl⟩
    rw [hw1] at n1 g1' ⊢
    rw [hw2] at n2 g1' hnext
    simp [-AV.notTup, hvt, n1, n2, pe, c105_l3, c105_r3, c105_r4, c105_r5, len1, hlen, hil, hil', a1, f0, f1, l0, l1, e2, abuildSlice, afill, zeros, g1', g2, hwr]
    exact ⟨l.length - (i + 1), by omega, by simpa using hnext⟩
  · have hi2 : i = l.length := by omega
    subst hi2
    rw [List.take_length] at hb n1 ⊢
    have hfin : Sl1 h1 (boolSl b (stepsOf l s n)) (boolCells (stepsOf l s n)) := by
     have := Sl1.buf (h := h1) (b := b) (e := 4) (s := true) (xs := boolCells (stepsOf l s n)) (fun hne => (hb (by rwa [boolCells_len] at hne)).1)
     rwa [boolCells_len] at this
    have hfr : ∀ c, slB (boolSl b (stepsOf l s n)) = some c → h.length ≤ c := fun c hc => by
     obtain ⟨rfl, hne⟩ := slB_buf hc
     exact (hb hne).2
    obtain ⟨w1, hw1⟩ : ∃ w, boolSl b (stepsOf l s n) = w := ⟨_, rfl⟩
    rw [hw1] at n1 hfin hfr ⊢
    simp [-AV.notTup, hvt, n1, c105_l3, c105_r3, c105_r6, len1, hlen]
    exact ⟨hfin, hfr, o1⟩
 obtain ⟨r, h', h1, h2, h3, h4⟩ := key
 exact ⟨r, h', h1, h2, h3, h4⟩
theorem ends_steps {l : List Cont} {s : Txt} {n : Nat} (hg : bgood (patsOf l) = true) (hn : n ≤ s.length) : endsOf l.length (hsOf l s n) = stepsOf l s n := by
 apply List.ext_getElem?
 intro i
 by_cases hi : i < l.length
 · have h1 : (patsOf l)[i]? = some l[i].bytes := by simp [patsOf, hi]
   have h2 : nth (ncOf l) i = l[i].nocase := by simp [nth, ncOf, hi]
   have h3 : ((i : Int) ∈ hsOf l s n) ↔ patAt l[i].bytes l[i].nocase s n = true := by
    simp only [hsOf, hg, if_true]
    rw [scHits_mem, patAt_hit hn]
    constructor
    · rintro ⟨j, p, g1, g2, g3⟩
      have : j = i := by omega
      subst this
      rw [h1] at g1
      cases g1
      rw [Nat.zero_add, h2] at g3
      exact g3
    · intro g
      exact ⟨i, _, h1, by simp, by rw [Nat.zero_add, h2]; exact g⟩
   simp only [endsOf, stepsOf, List.getElem?_map, List.getElem?_range hi, List.getElem?_eq_getElem hi, Option.map_some]
   congr 1
   rw [Bool.eq_iff_iff, decide_eq_true_eq]
   exact h3
 · rw [List.getElem?_eq_none (by rw [endsOf_len]; omega), List.getElem?_eq_none (by simp [stepsOf]; omega)]
def tupR (x : Int × Bool × Int) : AV := .tup [.int .i64 x.1, .bool x.2.1, .int .i64 x.2.2]
def In71 (h₀ : Heap) (v : AV) (l : List Cont) (s : Txt) (k : Nat) (m : Nat) (σ : St) : Prop := ∃ n h, m = s.length + 1 - n ∧ n ≤ s.length + 1 ∧ σ = ⟨[(0, v), (1, .int .i64 k), (2, .str s), (9, .int .i64 n)], h⟩ ∧ Only (fun _ => False) h₀ h ∧ runDfrom l k s 0 (s.length + 1) = runDfrom l k s n (s.length + 1 - n)
theorem run_doc {h : Heap} {v : AV} {l : List Cont} {s : Txt} {m : Int} {k : Nat} (hv : SlC h v l) (hsm : ∀ c ∈ l, c.small) (hll : l.length ≤ 1000) (hsl : s.length ≤ 1000) (hk : (k : Int) = max 1 (min m 32)) :
  ∃ h', D cfg 71 [v, .int .i64 m, .str s] h = some (tupR (runDfrom l k s 0 (s.length + 1)), h') ∧ Only (fun _ => False) h h' := by
 have key : ∃ r h', D cfg 71 [v, .int .i64 m, .str s] h = some (r, h') ∧ (r = tupR (runDfrom l k s 0 (s.length + 1)) ∧ Only (fun _ => False) h h') := by
  refine call71 (R := fun r h' => r = tupR (runDfrom l k s 0 (s.length + 1)) ∧ Only (fun _ => False) h h') (args := [v, .int .i64 m, .str s]) (h := h) (by simp) ?_
  have hvt : v.notTup = true := by rcases hv with ⟨rfl, _⟩ | ⟨_, _, _, _, rfl, _, _⟩ <;> rfl
  have m1 : amax [.int .i64 m, .int .i64 1] = some (.int .i64 (max m 1)) := by
   simp only [amax, List.foldl, amax1, if_true]
   congr 2
   split <;> omega
  have m2 : amin [.int .i64 (max m 1), .int .i64 32] = some (.int .i64 k) := by
   simp only [amin, List.foldl, amin1, if_true]
   congr 2
   split <;> omega
  simp [-AV.notTup, hvt, c71, c71_r0, c71_r1, c71_r2, m1, m2]
  refine Wt.loop (In71 h v l s k) (m := s.length + 1) ⟨0, h, rfl, Nat.zero_le _, by simp, .refl, rfl⟩ ?_
  rintro mm σ ⟨n, h1, rfl, hn, rfl, o1, hrun⟩
  have hcut : cut (some [0, 1, 2, 9]) [(0, v), (1, .int .i64 (k : Int)), (2, .str s), (9, .int .i64 (n : Int))] = [(0, v), (1, .int .i64 (k : Int)), (2, .str s), (9, .int .i64 (n : Int))] := by simp
  simp only [hcut]
  by_cases hns : n ≤ s.length
  · have hle : (n : Int) ≤ s.length := by omega
    have htl : (s.take n).length ≤ 100000 := by simp; omega
    have asl : aslice Try.prog 9 (.str s) none (some (.int .i64 n)) none = some (.str (s.take n)) := by simp [aslice, bound, hle, hns]
    have hv1 := hv.same o1
    obtain ⟨h2, e2, o2⟩ := holds_doc hv1 (s := s.take n) hsm htl hll
    obtain ⟨h3, e3, o3⟩ := over_doc (t := s.take n) (most := k) (hv1.same o2) hsm hll htl
    rw [keptDoc_take hns] at e3
    have e3' : D cfg 106 [v, .int .i64 k, .str (s.take n)] h2 = some (.bool (overD l k s n), h3) := e3
    have hstep : runDfrom l k s n (s.length + 1 - n) = if holdsC l (s.take n) then ((n : Int), true, if decide (0 < n) && overD l k s n then (n : Int) else 0) else if decide (0 < n) && overD l k s n then (0, false, (n : Int)) else runDfrom l k s (n + 1) (s.length + 1 - (n + 1)) := by
     rw [show s.length + 1 - n = (s.length + 1 - (n + 1)) + 1 by omega]; rfl
    rw [hrun]
    have hwr : IntKind.wrap .i64 ((n : Int) + 1) = n + 1 := wrap_i64 (by omega) (by omega)
    have o12 := o1.trans o2
    have o13 := o12.trans o3
    obtain ⟨hb, hhb⟩ : ∃ b, holdsC l (s.take n) = b := ⟨_, rfl⟩
    obtain ⟨ob, hob⟩ : ∃ b, overD l k s n = b := ⟨_, rfl⟩
    rw [hhb] at e2 hstep
    rw [hob] at e3' hstep
    obtain ⟨tk, htk⟩ : ∃ tk, s.take n = tk := ⟨_, rfl⟩
    rw [htk] at e2 e3' asl
    by_cases h0 : 0 < n
    · have h0' : (0 : Int) < n := by omega
      have hnext : In71 h v l s k (s.length + 1 - (n + 1)) ⟨[(0, v), (1, .int .i64 k), (2, .str s), (9, .int .i64 (n + 1 : Nat))], h3⟩ ∨ hb = true ∨ ob = true := by
       cases hb
       · cases ob
         · exact .inl ⟨n + 1, h3, rfl, by omega, rfl, o13, by rw [hrun, hstep]; simp⟩
         · exact .inr (.inr rfl)
       · exact .inr (.inl rfl)
      cases hb with
      | true =>
       cases ob <;>
       · simp [-AV.notTup, hvt, c71_l3, c71_r3, c71_r5, c71_r6, c71_r7, c71_r8, c71_r9, len1, alen9, hle, hns, asl, e2, h0, h0', e3', hstep, tupR]
         try simp [AV.notTup]
         exact o13
      | false =>
       cases ob with
       | true =>
        simp [-AV.notTup, hvt, c71_l3, c71_r3, c71_r5, c71_r6, c71_r8, c71_r10, c71_r11, len1, alen9, hle, hns, asl, e2, h0, h0', e3', hstep, tupR]
        try simp [AV.notTup]
        exact o13
       | false =>
        rcases hnext with hnext | h9 | h9
        · rw [hrun] at *
          simp [-AV.notTup, hvt, c71_l3, c71_r3, c71_r4, c71_r5, c71_r6, c71_r8, c71_r10, len1, alen9, hle, hns, asl, e2, h0, h0', e3', hwr]
          exact ⟨s.length + 1 - (n + 1), by omega, by simpa using hnext⟩
        · simp at h9
        · simp at h9
    · have hn0 : n = 0 := by omega
      subst hn0
      have asl' : aslice Try.prog 9 (.str s) none (some (.int .i64 0)) none = some (.str tk) := asl
      have e2' : D cfg 48 [v, .str tk] h1 = some (.bool hb, h2) := e2
      have hw1 : IntKind.wrap .i64 1 = 1 := by decide
      have hz : decide (0 < 0) = false := by simp
      rw [hz, Bool.false_and] at hstep
      cases hb with
      | true =>
       have hs2 : runDfrom l k s 0 (s.length + 1) = (0, true, 0) := by simpa using hstep
       simp [-AV.notTup, hvt, c71_l3, c71_r3, c71_r5, c71_r6, c71_r8, c71_r9, len1, alen9, asl', e2', hs2, tupR]
       try simp [AV.notTup]
       exact o12
      | false =>
       have hnext : In71 h v l s k (s.length + 1 - 1) ⟨[(0, v), (1, .int .i64 k), (2, .str s), (9, .int .i64 (1 : Nat))], h2⟩ := ⟨1, h2, rfl, by omega, rfl, o12, by rw [hrun, hstep]; simp⟩
       simp [-AV.notTup, hvt, c71_l3, c71_r3, c71_r4, c71_r5, c71_r6, c71_r8, c71_r10, len1, alen9, asl', e2', hw1]
       exact ⟨s.length + 1 - 1, by omega, by simpa using hnext⟩
  · have hn2 : n = s.length + 1 := by omega
    subst hn2
    have hnl : ¬ ((s.length : Int) + 1 ≤ s.length) := by omega
    have hz : runDfrom l k s (s.length + 1) (s.length + 1 - (s.length + 1)) = (0, false, 0) := by simp [runDfrom]
    rw [hrun, hz]
    simp [-AV.notTup, hvt, c71_l3, c71_r3, c71_r12, len1, alen9, hnl, tupR]
    try simp [AV.notTup]
    exact o1
 obtain ⟨r, h', h1, rfl, h2⟩ := key
 exact ⟨h', h1, h2⟩
structure I69 (h₀ h : Heap) (tb pa nb : Nat) (T : TS) (fl : FL) (l : List Cont) (s : Txt) (k n : Nat) : Prop where
 tr : TrackAt h tb pa nb T fl
 ok : T.ok
 inv : InvT T l s k n
 lens : T.parts.length + T.nots.length ≤ 1000
 only : Only (fun _ => False) h₀ h
 fresh : ∀ c, trF tb fl c → h₀.length ≤ c
abbrev env69 (v : AV) (s : Txt) (tb k n : Nat) : Env := [(0, v), (2, .str s), (7, tPtr tb), (8, .int .i64 k), (9, .int .i64 n)]
def In69 (h₀ : Heap) (v : AV) (l : List Cont) (s : Txt) (tb pa nb k : Nat) (m : Nat) (σ : St) : Prop := ∃ n fl T h, m = s.length - n ∧ n ≤ s.length ∧ σ = ⟨env69 v s tb k (n + 1), h⟩ ∧ I69 h₀ h tb pa nb T fl l s k n
theorem same_run {h : Heap} {v : AV} {l : List Cont} {s : Txt} {m : Int} (hv : SlC h v l) (hsm : ∀ c ∈ l, c.small) (hbn : ∀ c ∈ l, c.bytes ≠ []) (hll : l.length ≤ 100) (hsl : s.length ≤ 1000) :
  ∃ h', D cfg 69 [v, .int .i64 m, .str s] h = some (.bool true, h') ∧ Only (fun _ => False) h h' := by
 have key : ∃ r h', D cfg 69 [v, .int .i64 m, .str s] h = some (r, h') ∧ (r = .bool true ∧ Only (fun _ => False) h h') := by
  refine call69 (R := fun r h' => r = .bool true ∧ Only (fun _ => False) h h') (args := [v, .int .i64 m, .str s]) (h := h) (by simp) ?_
  have hvt : v.notTup = true := by rcases hv with ⟨rfl, _⟩ | ⟨_, _, _, _, rfl, _, _⟩ <;> rfl
  obtain ⟨v', δ, h1, x1, x2, hv1, o1⟩ := copy_conts2 hv (by omega)
  have hvt' : v'.notTup = true := by rcases hv1 with ⟨rfl, _⟩ | ⟨_, _, _, _, rfl, _, _⟩ <;> rfl
  obtain ⟨k, hk⟩ : ∃ k : Nat, (k : Int) = max 1 (min m 32) := ⟨(max 1 (min m 32)).toNat, by omega⟩
  obtain ⟨tb, pa, nb, fl, h2, e2, T2, o2, f2⟩ := new_run hv1 hsm (by omega) hk
  have hok := newTo_ok (l := l) (most := k) hsm (k := l.length)
  have hln := newTo_len (l := l) (most := k) (k := l.length)
  have hinv := init_inv (s := s) (most := k) hbn
  obtain ⟨T, hT⟩ : ∃ T, newTo l k l.length = T := ⟨_, rfl⟩
  rw [hT] at T2 hok hln hinv
  have e3 := holds_run T2 (by omega)
  obtain ⟨g1, _⟩ := holds_inv hinv (Nat.zero_le _)
  have hv2 := (hv.same o1).same o2
  obtain ⟨h3, e4, o3⟩ := holds_doc hv2 (s := []) hsm (by simp) (by omega)
  rw [show s.take 0 = [] from rfl] at g1
  rw [g1] at e3
  have T3 := T2.same o3
  have e5 := over_run T3
  rw [hinv.over] at e5
  obtain ⟨hb0, hhb0⟩ : ∃ b, holdsC l [] = b := ⟨_, rfl⟩
  rw [hhb0] at e3 e4
  have m1 : amax [.int .i64 m, .int .i64 1] = some (.int .i64 (max m 1)) := by
   simp only [amax, List.foldl, amax1, if_true]
   congr 2
   split <;> omega
  have m2 : amin [.int .i64 (max m 1), .int .i64 32] = some (.int .i64 k) := by
   simp only [amin, List.foldl, amin1, if_true]
   congr 2
   split <;> omega
  have o03 : Only (fun _ => False) h h3 := (o1.trans o2).trans o3
  have hl1 := o1.1
  have I0 : I69 h h3 tb pa nb T fl l s k 0 := ⟨T3, hok, hinv, by omega, o03, fun c hc => by have := f2 c hc; omega⟩
  have hloop : Wt Try.prog (D cfg) (.loop c69_l6 (some [0, 2, 7, 8, 9])) ⟨env69 v s tb k 1, h3⟩ (inBlock 0 (andThen (fun s' => Wt Try.prog (D cfg) (.seq (.reg c69_r15 none (some [6])) .ret) s' (Ends Try.prog [.tmp 6] fun r h' => r = .bool true ∧ Only (fun _ => False) h h')) (Ends Try.prog [.tmp 6] fun r h' => r = .bool true ∧ Only (fun _ => False) h h'))) := by
   refine Wt.loop (In69 h v l s tb pa nb k) (m := s.length) ⟨0, fl, T, h3, rfl, Nat.zero_le _, rfl, I0⟩ ?_
   rintro mm σ ⟨n, fl4, T4, h4, rfl, hn, rfl, I⟩
   have hcut : cut (some [0, 2, 7, 8, 9]) (env69 v s tb k (n + 1)) = env69 v s tb k (n + 1) := by simp
   simp only [hcut]
   by_cases hns : n < s.length
   · obtain ⟨n1, hn1⟩ : ∃ n1, n + 1 = n1 := ⟨_, rfl⟩
     have hle : (n1 : Int) ≤ s.length := by omega
     have hle2 : n1 ≤ s.length := by omega
     have hv4 := hv.same I.only
     obtain ⟨w, h5, e6, hw5, fr5, o5⟩ := step_law (n := n1) hv4 hsm (by omega) (by omega) (s := s)
     have hwt : w.notTup = true := by rcases hw5 with ⟨rfl, _⟩ | ⟨_, _, _, _, _, rfl, _, _⟩ <;> rfl
     have T5 := I.tr.same o5
     have hlt4 : ∀ c, trF tb fl4 c → c < h4.length := fun c hc => by
      rcases hc with rfl | hc
      · exact lt_of_at I.tr.hdr
      · exact I.tr.ps.lt hc
     obtain ⟨fl6, h6, e7, T6, o6, s6⟩ := step_ok T5 hw5 (fun b hb hf => by have := fr5 b hb; have := hlt4 b hf; omega) I.ok (by rw [I.inv.at_]; omega) I.lens
     obtain ⟨g2, g3⟩ := step_inv I.inv (by omega)
     rw [hn1] at g2 g3
     obtain ⟨T', hT'⟩ : ∃ T', stepT T4 (stepsOf l s n1) = T' := ⟨_, rfl⟩
     have hok' : T'.ok := by rw [← hT']; exact I.ok.step
     have hl' : T'.parts.length + T'.nots.length ≤ 1000 := by
      have := stepT_len (T := T4) (ends := stepsOf l s n1)
      have := I.lens
      rw [hT'] at *
      omega
     rw [hT'] at e7 T6 g2 g3
     rw [g2] at e7
     have e8 := over_run T6
     rw [g2] at e8
     have o46 : Only (fun _ => False) h h6 := ((I.only.trans o5).fresh o6 fun c hc => I.fresh c hc)
     have hv6 := hv.same o46
     have htl : (s.take n1).length ≤ 100000 := by simp; omega
     obtain ⟨h7, e9, o7⟩ := over_doc (t := s.take n1) (most := k) hv6 hsm (by omega) htl
     rw [keptDoc_take hle2] at e9
     have e9' : D cfg 106 [v, .int .i64 k, .str (s.take n1)] h6 = some (.bool (overD l k s n1), h7) := e9
     have asl : aslice Try.prog 9 (.str s) none (some (.int .i64 n1)) none = some (.str (s.take n1)) := by
      simp [aslice, bound, hle, hle2]
     have o07 := o46.trans o7
     obtain ⟨tk, htk⟩ : ∃ tk, s.take n1 = tk := ⟨_, rfl⟩
     rw [htk] at e9' asl
     rw [hn1]
     cases hov : overD l k s n1 with
     | true =>
      rw [hov] at e7 e8 e9'
      simp [-AV.notTup, hvt, hwt, notTup_ptr, c69_l6, c69_r6, c69_r8, c69_r9, c69_r11, c69_r12, len1, alen9, hle, hle2, e6, e7, e8, asl, e9']
      exact ⟨rfl, o07⟩
     | false =>
      rw [hov] at e7 e8 e9' g2
      have I7 := g3 hov
      obtain ⟨q1, q2⟩ := holds_inv I7 hle2
      have T7 := T6.same o7
      have e10 := holds_run T7 (by omega)
      rw [q1, htk] at e10
      have hv7 := hv.same o07
      obtain ⟨h8, e11, o8⟩ := holds_doc hv7 (s := tk) hsm (by rw [← htk]; exact htl) (by omega)
      obtain ⟨hb, hhb⟩ : ∃ b, holdsC l tk = b := ⟨_, rfl⟩
      rw [hhb] at e10 e11
      have T8 := T7.same o8
      obtain ⟨w1, h9, e12, hw9, o9⟩ := kept_run T8 (by omega)
      have hv9 := ((hv7.same o8).same o9)
      obtain ⟨w2, h10, e13, hw10, o10⟩ := kept_doc (t := tk) hv9 hsm (by omega) (by rw [← htk]; exact htl)
      rw [← htk, keptDoc_take hle2] at hw10
      rw [q2] at hw9
      have hKl : (keptD l s n1).length ≤ 1000000000 := by
       have : (posA l).length ≤ l.length := posTo_len_le
       simp only [keptD, List.length_map, List.length_range]
       omega
      have e14 := same_ints (hw9.same o10) hw10 hKl
      rw [decide_eq_true rfl] at e14
      have wt1 : w1.notTup = true := by rcases hw9 with ⟨rfl, _⟩ | ⟨_, _, _, _, _, rfl, _, _⟩ <;> rfl
      have wt2 : w2.notTup = true := by rcases hw10 with ⟨rfl, _⟩ | ⟨_, _, _, _, _, rfl, _, _⟩ <;> rfl
      have hwr : IntKind.wrap .i64 ((n1 : Int) + 1) = n1 + 1 := wrap_i64 (by omega) (by omega)
      have o710 := (o8.trans o9).trans o10
      have hnext : In69 h v l s tb pa nb k (s.length - n1) ⟨env69 v s tb k (n1 + 1), h10⟩ := by
       refine ⟨n1, fl6, T', h10, rfl, hle2, rfl, ⟨T7.same o710, hok', I7, hl', o07.trans o710, ?_⟩⟩
       rintro c (e | e)
       · exact I.fresh c (.inl e)
       · rcases s6 c e with h12 | h12
         · exact I.fresh c (.inr h12)
         · have := I.only.1
           have := o5.1
           omega
      simp only [env69] at hnext
      cases hb <;>
      · simp [-AV.notTup, hvt, hwt, wt1, wt2, notTup_ptr, c69_l6, c69_r6, c69_r7, c69_r8, c69_r9, c69_r11, c69_r13, len1, alen9, hle, hle2, e6, e7, e8, asl, e9', e10, e11, e12, e13, e14, hwr]
        exact ⟨s.length - n1, by omega, by simpa using hnext⟩
   · have hn2 : n = s.length := by omega
     subst hn2
     have hnl : ¬ ((s.length : Int) + 1 ≤ s.length) := by omega
     simp [-AV.notTup, hvt, notTup_ptr, c69_l6, c69_r6, c69_r15, len1, alen9, hnl]
     try simp [AV.notTup]
     exact I.only
  simp only [env69] at hloop
  cases hb0 <;>
  · simp [-AV.notTup, hvt, hvt', notTup_ptr, c69, c69_r0, c69_r1, c69_r2, c69_r4, c69_r5, x1, x2, e2, e3, e4, e5, m1, m2]
    simpa using hloop
 obtain ⟨r, h', h1, rfl, h2⟩ := key
 exact ⟨h', h1, h2⟩
structure R7 (h₀ h : Heap) (tb pa nb : Nat) (T : TS) (fl : FL) (b1 b2 : Nat) (ps : List Txt) (ns : List Bool) : Prop where
 tr : TrackAt h tb pa nb T fl
 only : Only (fun _ => False) h₀ h
 fresh : ∀ c, trF tb fl c → h₀.length ≤ c
 p1 : ps.length ≠ 0 → h[b1]? = some (.cells (strCells ps) 9 true) ∧ h₀.length ≤ b1
 p2 : ns.length ≠ 0 → h[b2]? = some (.cells (boolCells ns) 4 true) ∧ h₀.length ≤ b2
abbrev env70 (v : AV) (s : Txt) (tb : Nat) (w1 w2 : AV) (N i : Nat) : Env := [(0, v), (2, .str s), (8, .int .i64 0), (9, tPtr tb), (10, w1), (11, w2), (22, v), (23, .int .i64 N), (24, .int .i64 i)]
def In70 (h₀ : Heap) (v : AV) (s : Txt) (tb pa nb : Nat) (T : TS) (fl : FL) (l : List Cont) (m : Nat) (σ : St) : Prop := ∃ i b1 b2 h, m = l.length - i ∧ i ≤ l.length ∧ σ = ⟨env70 v s tb (txtSl b1 (patsOf (l.take i))) (boolSl b2 (ncOf (l.take i))) l.length i, h⟩ ∧ R7 h₀ h tb pa nb T fl b1 b2 (patsOf (l.take i)) (ncOf (l.take i))
theorem append_buf3 {t e k : Nat} (ht : tk Try.prog t = .slice e) (hk : tsz Try.prog e = k) (hk0 : 0 < k) (hz : zeroOK Try.prog e = true) (hby : Try.prog.bytesOf e ≤ 100) {h : Heap} {b n : Nat} {xs ys : List AV} (hys : ys.length = k) (hxs : xs.length = n * k)
  (hb : n ≠ 0 → h[b]? = some (.cells xs e true)) (hn : n ≤ 1000000) :
  ∃ δ h', append2 Try.prog (look (h ++ [AObj.cells ys e true])) (h.length + 1) t t [bufSl b n xs, .sl (some ⟨h.length, 0, k⟩) 1 1] = some (bufSl (if n = 0 then h.length + 1 else b) (n + 1) (xs ++ ys), δ) ∧ Heap.apply (h ++ [AObj.cells ys e true]) δ = h' ∧
   h'[if n = 0 then h.length + 1 else b]? = some (.cells (xs ++ ys) e true) ∧ Only (fun c => c = b ∧ n ≠ 0) h h' ∧ ((n = 0 ∧ ∃ o, δ = .new o) ∨ (n ≠ 0 ∧ ∃ o, δ = .set b o)) := by
 have hsrc : srcCells Try.prog (look (h ++ [AObj.cells ys e true])) e (.sl (some ⟨h.length, 0, k⟩) 1 1) = some (1, ys) := by
  simp [srcCells, slCells, row, hk, hys]
  exact List.take_of_length_le (by omega)
 have hroom : ∀ m, m ≤ 1000001 → m * Try.prog.bytesOf e ≤ roomMax := fun m hm => by
  have := Nat.mul_le_mul hm hby
  simp only [roomMax]
  omega
 by_cases hn0 : n = 0
 · subst hn0
   have hxs0 : xs = [] := List.length_eq_zero_iff.1 (by simpa using hxs)
   subst hxs0
   refine ⟨.new (.cells ys e true), h ++ [AObj.cells ys e true] ++ [AObj.cells ys e true], ?_, rfl, ?_, ?_, .inl ⟨rfl, _, rfl⟩⟩
   · have h1 := hroom 1 (by omega)
     simp only [append2, aappend, ht, hk, hsrc, hk0, if_true, bufSl, aappendE]
     simp at h1
     simp [h1, hz]
   · simp
   · rw [List.append_assoc]; exact .app
 · have hb1 := hb hn0
   have hlt := lt_of_at hb1
   have hb2 : (h ++ [AObj.cells ys e true])[b]? = some (.cells xs e true) := by rw [List.getElem?_append_left hlt]; exact hb1
   rw [if_neg hn0]
   refine ⟨.set b (.cells (xs ++ ys) e true), (h ++ [AObj.cells ys e true]).set b (.cells (xs ++ ys) e true), ?_, rfl, ?_, ?_, .inr ⟨hn0, _, rfl⟩⟩
   · have h1 := hroom (n + 1) (by omega)
     have h2 : ¬ (n + 1 ≤ n) := by omega
     have h3 : n + 1 ≤ 9223372036854775807 := by omega
     have h4 : xs.take (n * k) = xs := List.take_of_length_le (by omega)
     simp only [append2, aappend, ht, hk, hsrc, hk0, if_true, bufSl, hn0, if_false, aappendE, look_at, hb2]
     simp [h1, hz, h2, h3, hxs, h4]
   · rw [List.getElem?_set_self (by simp; omega)]
   · exact Only.app.trans (.set ⟨rfl, hn0⟩)
theorem boolSl_nt {b : Nat} {l : List Bool} : (boolSl b l).notTup = true := bufSl_notTup
theorem txtSl_nt {b : Nat} {l : List Txt} : (txtSl b l).notTup = true := bufSl_notTup
theorem collect_loop {h₀ h : Heap} {v : AV} {l : List Cont} {s : Txt} {tb pa nb : Nat} {fl : FL} {T : TS} (hv : SlC h₀ v l) (hll : l.length ≤ 100) (H : R7 h₀ h tb pa nb T fl 0 0 [] []) {Q : AExit → St → Prop}
  (hq : ∀ h' b1 b2, R7 h₀ h' tb pa nb T fl b1 b2 (patsOf l) (ncOf l) → Q (.exit 0) ⟨env70 v s tb (txtSl b1 (patsOf l)) (boolSl b2 (ncOf l)) l.length l.length ++ [(25, .bool false)], h'⟩) :
  Wt Try.prog (D cfg) (.loop c70_l7 (some [0, 2, 8, 9, 10, 11, 22, 23, 24])) ⟨env70 v s tb (.sl none 0 0) (.sl none 0 0) l.length 0, h⟩ Q := by
 have hvt : v.notTup = true := by rcases hv with ⟨rfl, _⟩ | ⟨_, _, _, _, rfl, _, _⟩ <;> rfl
 refine Wt.loop (In70 h₀ v s tb pa nb T fl l) (m := l.length) ⟨0, 0, 0, h, rfl, Nat.zero_le _, rfl, H⟩ ?_
 rintro m σ ⟨i, b1, b2, h1, rfl, hi, rfl, R⟩
 have hcut : cut (some [0, 2, 8, 9, 10, 11, 22, 23, 24]) (env70 v s tb (txtSl b1 (patsOf (l.take i))) (boolSl b2 (ncOf (l.take i))) l.length i) = env70 v s tb (txtSl b1 (patsOf (l.take i))) (boolSl b2 (ncOf (l.take i))) l.length i := by simp
 simp only [hcut]
 by_cases hil : i < l.length
 · have hil' : (i : Int) < l.length := by omega
   have hwr : IntKind.wrap .i64 ((i : Int) + 1) = i + 1 := wrap_i64 (by omega) (by omega)
   obtain ⟨c, hc⟩ : ∃ c, c = l[i] := ⟨_, rfl⟩
   have a1 := hv.at hil
   have l1 := (hv.same R.only).load hil
   rw [← hc] at l1
   have htk : l.take (i + 1) = l.take i ++ [c] := by rw [List.take_succ_eq_append_getElem hil, hc]
   have hp' : patsOf (l.take (i + 1)) = patsOf (l.take i) ++ [c.bytes] := by rw [htk]; simp [patsOf]
   have hn' : ncOf (l.take (i + 1)) = ncOf (l.take i) ++ [c.nocase] := by rw [htk]; simp [ncOf]
   have hpl : (patsOf (l.take i)).length = i := by simp [patsOf]; omega
   have hnl : (ncOf (l.take i)).length = i := by simp [ncOf]; omega
   obtain ⟨h2, hh2⟩ : ∃ h2, h1 ++ [.cells (contCell c) 52 false] = h2 := ⟨_, rfl⟩
   have o2 : Only (fun _ => False) h1 h2 := by rw [← hh2]; exact .app
   have bx2 : h2[h1.length]? = some (.cells (contCell c) 52 false) := by rw [← hh2]; simp
   obtain ⟨c0, _⟩ := contLoads bx2
   obtain ⟨δ, h3, e1, e2, d3, o3, hδ⟩ := append_buf3 (t := 38) (e := 9) (k := 1) (by simp) (by simp) (by decide) (by simp) (by simp) (h := h2) (b := b1) (n := (patsOf (l.take i)).length) (xs := strCells (patsOf (l.take i))) (ys := [.str c.bytes]) (by simp) (by simp [strCells]) (fun hne => o2.at (R.p1 hne).1 id) (by omega)
   have hsc : strCells (patsOf (l.take i)) ++ [AV.str c.bytes] = strCells (patsOf (l.take (i + 1))) := by rw [hp']; simp [strCells]
   have hpl' : (patsOf (l.take i)).length + 1 = (patsOf (l.take (i + 1))).length := by rw [hp']; simp
   rw [hsc, hpl'] at e1
   rw [hsc] at d3
   have hne1 : (patsOf (l.take i)).length ≠ 0 → b1 ≠ h1.length := fun hne e => by have := lt_of_at (R.p1 hne).1; omega
   have bx3 := o3.at bx2 fun e => hne1 e.2 e.1.symm
   obtain ⟨_, c1, _⟩ := contLoads bx3
   obtain ⟨w1, hw1⟩ : ∃ w1, (if (patsOf (l.take i)).length = 0 then h2.length + 1 else b1) = w1 := ⟨_, rfl⟩
   rw [hw1] at e1 d3
   have hl2 : h2.length = h1.length + 1 := by rw [← hh2]; simp
   have hw1c : w1 = b1 ∧ (patsOf (l.take i)).length ≠ 0 ∨ w1 = h2.length + 1 := by
    rw [← hw1]
    by_cases h0 : (patsOf (l.take i)).length = 0
    · exact .inr (by rw [if_pos h0])
    · exact .inl ⟨by rw [if_neg h0], h0⟩
   have hb12 : (ncOf (l.take i)).length ≠ 0 → ¬ (b2 = b1 ∧ (patsOf (l.take i)).length ≠ 0) := fun hne e => by
    have h5 := (R.p1 e.2).1
    have h6 := (R.p2 hne).1
    rw [e.1, h5] at h6
    injection h6 with h6; injection h6 with _ h6 _; exact absurd h6 (by decide)
   have p23 : (ncOf (l.take i)).length ≠ 0 → h3[b2]? = some (.cells (boolCells (ncOf (l.take i))) 4 true) := fun hne => o3.at (o2.at (R.p2 hne).1 id) (hb12 hne)
   obtain ⟨δ2, h4, f1, f2, d4, o4⟩ := append_buf (t := 68) (e := 4) (k := 1) (by simp) (by simp) (by decide) (by simp) (by simp) (h := h3) (b := b2) (n := (ncOf (l.take i)).length) (xs := boolCells (ncOf (l.take i))) (ys := [.bool c.nocase]) (by simp) (by simp [boolCells_len]) p23 (by omega)
   have hbc : boolCells (ncOf (l.take i)) ++ [AV.bool c.nocase] = boolCells (ncOf (l.take (i + 1))) := by rw [hn']; simp [boolCells]
   obtain ⟨w2, hw2⟩ : ∃ w2, (if (ncOf (l.take i)).length = 0 then h3.length + 1 else b2) = w2 := ⟨_, rfl⟩
   have hnl' : (ncOf (l.take i)).length + 1 = (ncOf (l.take (i + 1))).length := by rw [hn']; simp
   rw [hw2, hbc, hnl'] at f1
   rw [hw2, hbc] at d4
   have hw2c : w2 = b2 ∧ (ncOf (l.take i)).length ≠ 0 ∨ w2 = h3.length + 1 := by
    rw [← hw2]
    by_cases h0 : (ncOf (l.take i)).length = 0
    · exact .inr (by rw [if_pos h0])
    · exact .inl ⟨by rw [if_neg h0], h0⟩
   have o04 : Only (fun _ => False) h₀ h4 := ((R.only.trans o2).fresh o3 fun x hx => by rw [hx.1]; exact (R.p1 hx.2).2).fresh o4 fun x hx => by rw [hx.1]; exact (R.p2 hx.2).2
   have l01 := R.only.1
   have l23 := o3.1
   have T2 := R.tr.same o2
   have hTno : ∀ {h' : Heap} {T : TS} {fl : FL} {x : Nat} {cs : List AV} {t : TypeId}, TrackAt h' tb pa nb T fl → h'[x]? = some (.cells cs t true) → (t = 9 ∨ t = 4) → tb ≠ x ∧ (fl.length ≠ 0 → pa ≠ x) ∧ (T.nots.length ≠ 0 → nb ≠ x) ∧ ∀ c, flF fl c → c ≠ x := by
    intro h' T fl x cs t HT hx ht
    refine ⟨fun e => ?_, fun hne e => ?_, fun hne e => ?_, fun c hc e => HT.ps.not hx (.inl rfl) (e ▸ hc)⟩
    · have := HT.hdr; rw [e, hx] at this; injection this with this; injection this with _ _ this; exact absurd this (by simp)
    · have := HT.pv hne; rw [e, hx] at this; injection this with this; injection this with _ this _; rcases ht with ht | ht <;> rw [ht] at this <;> exact absurd this (by decide)
    · have := HT.nv hne; rw [e, hx] at this; injection this with this; injection this with _ this _; rcases ht with ht | ht <;> rw [ht] at this <;> exact absurd this (by decide)
   have T3 : TrackAt h3 tb pa nb T fl := by
    by_cases hne : (patsOf (l.take i)).length = 0
    · exact T2.keep o3 (fun e => e.2 hne) (fun _ e => e.2 hne) (fun _ e => e.2 hne) fun c _ e => e.2 hne
    · obtain ⟨x1, x2, x3, x4⟩ := hTno T2 (o2.at (R.p1 hne).1 id) (.inl rfl)
      exact T2.keep o3 (fun e => x1 e.1) (fun h e => x2 h e.1) (fun h e => x3 h e.1) fun c hc e => x4 c hc e.1
   have T4 : TrackAt h4 tb pa nb T fl := by
    by_cases hne : (ncOf (l.take i)).length = 0
    · exact T3.keep o4 (fun e => e.2 hne) (fun _ e => e.2 hne) (fun _ e => e.2 hne) fun c _ e => e.2 hne
    · obtain ⟨x1, x2, x3, x4⟩ := hTno T3 (p23 hne) (.inr rfl)
      exact T3.keep o4 (fun e => x1 e.1) (fun h e => x2 h e.1) (fun h e => x3 h e.1) fun c hc e => x4 c hc e.1
   have hd3l := lt_of_at d3
   have hw12 : ¬ (w1 = b2 ∧ (ncOf (l.take i)).length ≠ 0) := fun e => by
    have h6 := p23 e.2
    rw [← e.1, d3] at h6
    injection h6 with h6; injection h6 with _ h6 _; exact absurd h6 (by decide)
   have hnext : In70 h₀ v s tb pa nb T fl l (l.length - (i + 1)) ⟨env70 v s tb (txtSl w1 (patsOf (l.take (i + 1)))) (boolSl w2 (ncOf (l.take (i + 1)))) l.length (i + 1), h4⟩ := by
    refine ⟨i + 1, w1, w2, h4, rfl, hil, rfl, ⟨T4, o04, R.fresh, fun _ => ⟨o4.at d3 hw12, ?_⟩, fun _ => ⟨d4, ?_⟩⟩⟩
    · rcases hw1c with ⟨e, hne⟩ | e
      · rw [e]; exact (R.p1 hne).2
      · omega
    · rcases hw2c with ⟨e, hne⟩ | e
      · rw [e]; exact (R.p2 hne).2
      · omega
   have h9 : (h1.length != h2.length) = true := by simp [hl2]
   replace e1 : append2 Try.prog (look (h2 ++ [AObj.cells [.str c.bytes] 9 true])) (h2.length + 1) 38 38 [txtSl b1 (patsOf (l.take i)), .sl (some ⟨h2.length, 0, 1⟩) 1 1] = some (txtSl w1 (patsOf (l.take (i + 1))), δ) := e1
   have n1 : (txtSl b1 (patsOf (l.take i))).notTup = true := txtSl_nt
   have n2 : (boolSl b2 (ncOf (l.take i))).notTup = true := boolSl_nt
   have n3 : (txtSl w1 (patsOf (l.take (i + 1)))).notTup = true := txtSl_nt
   have n4 : (boolSl w2 (ncOf (l.take (i + 1)))).notTup = true := boolSl_nt
   have f1' : append2 Try.prog (look (h3 ++ [AObj.cells [.bool c.nocase] 4 true])) (h3.length + 1) 68 68 [boolSl b2 (ncOf (l.take i)), .sl (some ⟨h3.length, 0, 1⟩) 1 1] = some (boolSl w2 (ncOf (l.take (i + 1))), δ2) := f1
   obtain ⟨x1, hx1⟩ : ∃ x, txtSl b1 (patsOf (l.take i)) = x := ⟨_, rfl⟩
   obtain ⟨x2, hx2⟩ : ∃ x, boolSl b2 (ncOf (l.take i)) = x := ⟨_, rfl⟩
   obtain ⟨x3, hx3⟩ : ∃ x, txtSl w1 (patsOf (l.take (i + 1))) = x := ⟨_, rfl⟩
   obtain ⟨x4, hx4⟩ : ∃ x, boolSl w2 (ncOf (l.take (i + 1))) = x := ⟨_, rfl⟩
   rw [hx3, hx4] at hnext
   rw [hx1] at e1 n1 ⊢
   rw [hx2] at f1' n2 ⊢
   rw [hx3] at e1 n3
   rw [hx4] at f1' n4
   simp only [contCell, Cont.av] at l1 hh2
   simp only [env70] at hnext
   rcases hδ with ⟨_, o, rfl⟩ | ⟨hne, o, rfl⟩
   · have h8 : (h1.length != h2.length + 1) = true := by simp; omega
     simp [-AV.notTup, hvt, n1, n2, n3, n4, notTup_ptr, c70_l7, c70_r7, c70_r8, c70_r9, c70_r10, hil, hil', a1, l1, zeros, store_box, splice, hh2, fieldA, c0, abuildSlice, afill, e1, e2, c1, h8, h9, f1', f2, hwr]
     exact ⟨l.length - (i + 1), by omega, by simpa using hnext⟩
   · have := hne1 hne
     have h8 : (h1.length != b1) = true := by simp; omega
     simp [-AV.notTup, hvt, n1, n2, n3, n4, notTup_ptr, c70_l7, c70_r7, c70_r8, c70_r9, c70_r10, hil, hil', a1, l1, zeros, store_box, splice, hh2, fieldA, c0, abuildSlice, afill, e1, e2, c1, h8, h9, f1', f2, hwr]
     exact ⟨l.length - (i + 1), by omega, by simpa using hnext⟩
 · have hi2 : i = l.length := by omega
   subst hi2
   rw [List.take_length] at R ⊢
   have := hq h1 b1 b2 R
   have n1 : (txtSl b1 (patsOf l)).notTup = true := txtSl_nt
   have n2 : (boolSl b2 (ncOf l)).notTup = true := boolSl_nt
   obtain ⟨x1, hx1⟩ : ∃ x, txtSl b1 (patsOf l) = x := ⟨_, rfl⟩
   obtain ⟨x2, hx2⟩ : ∃ x, boolSl b2 (ncOf l) = x := ⟨_, rfl⟩
   rw [hx1] at n1 this ⊢
   rw [hx2] at n2 this ⊢
   simp only [env70] at this
   simp [-AV.notTup, hvt, n1, n2, notTup_ptr, c70_l7, c70_r7]
   simpa using this
def runOf (l : List Cont) (most : Nat) (s : Txt) : Int × Bool × Int := runT (stS (newTo l most l.length) (hsOf l s) l.length) s.length
theorem run_track {h : Heap} {v : AV} {l : List Cont} {s : Txt} {m : Int} {most : Nat} (hv : SlC h v l) (hsm : ∀ c ∈ l, c.small) (hll : l.length ≤ 100) (hsl : s.length ≤ 1000) (hm : (most : Int) = max 1 (min m 32)) :
  ∃ h', D cfg 70 [v, .int .i64 m, .str s] h = some (.tup [.int .i64 (runOf l most s).1, .bool (runOf l most s).2.1, .int .i64 (runOf l most s).2.2], h') ∧ Only (fun _ => False) h h' := by
 have key : ∃ r h', D cfg 70 [v, .int .i64 m, .str s] h = some (r, h') ∧ (r = .tup [.int .i64 (runOf l most s).1, .bool (runOf l most s).2.1, .int .i64 (runOf l most s).2.2] ∧ Only (fun _ => False) h h') := by
  refine call70 (R := fun r h' => r = .tup [.int .i64 (runOf l most s).1, .bool (runOf l most s).2.1, .int .i64 (runOf l most s).2.2] ∧ Only (fun _ => False) h h') (args := [v, .int .i64 m, .str s]) (h := h) (by simp) ?_
  have hvt : v.notTup = true := by rcases hv with ⟨rfl, _⟩ | ⟨_, _, _, _, rfl, _, _⟩ <;> rfl
  obtain ⟨tb, pa, nb, fl, h1, e1, T1, o1, f1⟩ := new_run hv hsm (by omega) hm
  have hok : (newTo l most l.length).ok := newTo_ok hsm
  have hln := newTo_len (l := l) (most := most) (k := l.length)
  obtain ⟨_, hat, _⟩ := newTo_most (l := l) (most := most) (k := l.length)
  have e2 := holds_run T1 (by omega)
  have hlen := fun L => hv.len (L := L)
  obtain ⟨T, hT⟩ : ∃ T, newTo l most l.length = T := ⟨_, rfl⟩
  have hrun : runOf l most s = runT (stS T (hsOf l s) l.length) s.length := by rw [runOf, hT]
  rw [hT] at T1 hok hln hat e2
  cases hho : T.holds with
  | true =>
   rw [hho] at e2
   have hr : runOf l most s = (0, true, 0) := by
    rw [hrun]
    simp only [runT]
    rw [if_pos (show (stS T (hsOf l s) l.length 0).holds = true from hho)]
   rw [hr]
   simp [-AV.notTup, hvt, notTup_ptr, c70, c70_r0, c70_r1, c70_r2, c70_r3, e1, e2]
   simp [AV.notTup]
   exact o1
  | false =>
   rw [hho] at e2
   have R0 : R7 h h1 tb pa nb T fl 0 0 [] [] := ⟨T1, o1, f1, fun e => absurd rfl e, fun e => absurd rfl e⟩
   have hcol := fun Q hq => collect_loop (s := s) (Q := Q) hv hll R0 hq
   simp only [env70] at hcol
   simp [-AV.notTup, hvt, notTup_ptr, c70, c70_r0, c70_r1, c70_r2, c70_r4, c70_r5, c70_r6, e1, e2, len1, hlen]
   refine hcol _ fun h2 b1 b2 R => ?_
   have hpl : (patsOf l).length = l.length := by simp [patsOf]
   have hnl : (ncOf l).length = l.length := by simp [ncOf]
   have hsx : Sl1 h2 (txtSl b1 (patsOf l)) (strCells (patsOf l)) := Sl1.txt (s := true) fun hne => (R.p1 hne).1
   have hbx : Sl1 h2 (boolSl b2 (ncOf l)) (boolCells (ncOf l)) := by
    have := Sl1.buf (h := h2) (b := b2) (e := 4) (s := true) (xs := boolCells (ncOf l)) (fun hne => (R.p2 (by rwa [boolCells_len] at hne)).1)
    rwa [boolCells_len] at this
   have hscan : ∃ b h3, D cfg 64 [txtSl b1 (patsOf l), boolSl b2 (ncOf l), .str s] h2 = some (hd b (allTo (hsOf l s) s.length) 0, h3) ∧ Only (fun _ => False) h2 h3 ∧ ((allTo (hsOf l s) s.length).length ≠ 0 → h3[b]? = some (.cells (hitCells (allTo (hsOf l s) s.length)) 75 true)) := by
    rw [allTo_hsOf]
    cases hg : bgood (patsOf l) with
    | true =>
     obtain ⟨b, h3, e3, o3, d3⟩ := scan_all (t := s) hsx hbx (by omega) hg (by omega) (by rw [hpl]; exact Nat.le_trans (Nat.mul_le_mul hsl hll) (by decide)) (by omega)
     rw [hd_zero] at e3
     exact ⟨b, h3, e3, o3, d3⟩
    | false =>
     obtain ⟨h3, e3, o3⟩ := scan_all_bad (u := boolSl b2 (ncOf l)) (t := s) hsx (fun p hp => by
      simp only [patsOf, List.mem_map] at hp
      obtain ⟨c, hc, rfl⟩ := hp
      have := (hsm c hc).b
      omega) (by omega) hg
     exact ⟨0, h3, e3, o3, fun e => absurd rfl e⟩
   obtain ⟨b, h3, e3, o3, d3⟩ := hscan
   have hz : ∀ n, ∀ z ∈ hsOf l s n, 0 ≤ z ∧ z < l.length := by
    intro n z hz
    simp only [hsOf] at hz
    split at hz
    · have := scHits_range z hz
      rw [hpl] at this
      omega
    · simp at hz
   have n1 : (txtSl b1 (patsOf l)).notTup = true := txtSl_nt
   have n2 : (boolSl b2 (ncOf l)).notTup = true := boolSl_nt
   have n3 : (hd b (allTo (hsOf l s) s.length) 0).notTup = true := hd_nt
   have RR : R13 h h3 tb pa nb b T fl (allTo (hsOf l s) s.length) := ⟨R.tr.same o3, R.only.trans o3, R.fresh, d3⟩
   have hlp := fun Q hret hq => run_loop (Q := Q) (f := stS T (hsOf l s) l.length) rfl hv hll hsl hz hok hat (by omega) hho RR hret hq
   rw [← hrun] at hlp
   simp only [env13] at hlp
   obtain ⟨x1, hx1⟩ : ∃ x, txtSl b1 (patsOf l) = x := ⟨_, rfl⟩
   obtain ⟨x2, hx2⟩ : ∃ x, boolSl b2 (ncOf l) = x := ⟨_, rfl⟩
   obtain ⟨x3, hx3⟩ : ∃ x, hd b (allTo (hsOf l s) s.length) 0 = x := ⟨_, rfl⟩
   rw [hx1] at n1 e3 ⊢
   rw [hx2] at n2 e3 ⊢
   rw [hx3] at n3 e3 hlp
   simp [-AV.notTup, hvt, n1, n2, n3, notTup_ptr, c70_r11, c70_r12, e3]
   refine hlp _ (fun h' a c k hr ho => ?_) fun h' n w hr ho hw => ?_
   · rw [← hr]
     simp [AV.notTup]
     exact ho
   · rw [← hr]
     simp [-AV.notTup, hvt, hw, notTup_ptr, c70_r25]
     simp [AV.notTup]
     exact ho
 obtain ⟨r, h', h1, rfl, h2⟩ := key
 exact ⟨h', h1, h2⟩
def In50 (h₀ : Heap) (v : AV) (n : Nat) (m : Nat) (st : St) : Prop := ∃ (i : Nat) (s : Txt) (b : Nat) (h : Heap), m = n - i ∧ i ≤ n ∧ s.length = i ∧ st = ⟨[(0, v), (1, .int .i64 n), (5, bufSl b s.length (byteCells s)), (6, .int .i64 i)], h⟩ ∧
 (s.length ≠ 0 → h[b]? = some (.cells (byteCells s) 5 true) ∧ h₀.length ≤ b) ∧ Only (fun _ => False) h₀ h
theorem tmod_nat {a b : Nat} : ((a : Int)).tmod b = ((a % b : Nat) : Int) := by
 rw [Int.tmod_eq_emod_of_nonneg (by omega)]; omega
theorem end50 {P : Txt → Prop} {h₀ h : Heap} {v : AV} {n i : Nat} {s : Txt} {b : Nat} (hb : s.length ≠ 0 → h[b]? = some (.cells (byteCells s) 5 true) ∧ h₀.length ≤ b) (ho : Only (fun _ => False) h₀ h) (hs : P s) {ρ : Env} (h5 : ρ.get 5 = some (bufSl b s.length (byteCells s))) :
  Wt Try.prog (D cfg) (.seq (.reg c50_r6 none (some [4])) .ret) ⟨ρ, h⟩ (Ends Try.prog [.tmp 4] fun r h' => ∃ s : Txt, r = .str s ∧ P s ∧ Only (fun _ => False) h₀ h') := by
 by_cases h0 : s.length = 0
 · have : s = [] := List.length_eq_zero_iff.1 h0
   subst this
   rw [List.length_nil, bufSl_zero] at h5
   have hfin : ∃ s : Txt, (.str [] : AV) = .str s ∧ P s ∧ Only (fun _ => False) h₀ h := ⟨[], rfl, hs, ho⟩
   simp [c50_r6, h5, aconv]
   simpa using hfin
 · obtain ⟨hb1, _⟩ := hb h0
   have ht : List.take s.length (byteCells s) = byteCells s := List.take_of_length_le (by rw [byteCells_len]; omega)
   have h0' : 0 < s.length := by omega
   have hfin : ∃ s' : Txt, (.str s : AV) = .str s' ∧ P s' ∧ Only (fun _ => False) h₀ h := ⟨s, rfl, hs, ho⟩
   simp only [bufSl, if_neg h0, byteCells_len] at h5
   simp [c50_r6, h5, aconv, slCells, AM.row, hb1, byteCells_len, ht, cellBytes_all]
   simpa using hfin
theorem letters2 {h : Heap} {v : AV} {l : List Int} (hv : Sl1 h v (intCells l)) {n : Nat} (hn : n ≤ 1000) (hl : l.length ≤ 9223372036854775807) :
  ∃ (s : Txt) (h' : Heap), D cfg 50 [v, .int .i64 n] h = some (.str s, h') ∧ (s.length ≤ n ∧ (l.length ≠ 0 → s.length = n)) ∧ Only (fun _ => False) h h' := by
 have key : ∃ r h', D cfg 50 [v, .int .i64 n] h = some (r, h') ∧ (∃ s : Txt, r = .str s ∧ (s.length ≤ n ∧ (l.length ≠ 0 → s.length = n)) ∧ Only (fun _ => False) h h') := by
  refine call50 (R := fun r h' => ∃ s : Txt, r = .str s ∧ (s.length ≤ n ∧ (l.length ≠ 0 → s.length = n)) ∧ Only (fun _ => False) h h') (args := [v, .int .i64 n]) (h := h) (by simp) ?_
  have hlen := fun L => hv.len (t := 30) (e := 3) (by simp) (L := L)
  simp only [intCells_len] at hlen
  simp [c50, c50_r0, c50_r1, c50_r2]
  refine Wt.loop (In50 h v n) (m := n) ⟨0, [], 0, h, rfl, Nat.zero_le _, rfl, by simp [bufSl], by simp, .refl⟩ ?_
  rintro m st ⟨i, s, b, h1, rfl, hi, hsi, rfl, hb, ho⟩
  have hcut : cut (some [0, 1, 5, 6]) [(0, v), (1, .int .i64 (n : Int)), (5, bufSl b s.length (byteCells s)), (6, .int .i64 (i : Nat))] = [(0, v), (1, .int .i64 n), (5, bufSl b s.length (byteCells s)), (6, .int .i64 (i : Nat))] := by simp
  simp only [hcut]
  have hend := fun (hP : s.length ≤ n ∧ (l.length ≠ 0 → s.length = n)) ρ h5 => end50 (P := fun s => s.length ≤ n ∧ (l.length ≠ 0 → s.length = n)) (v := v) (n := n) (i := i) hb ho hP (ρ := ρ) h5
  by_cases hin : i < n
  · have hin' : (i : Int) < n := by omega
    by_cases hl0 : l.length = 0
    · simp only [hl0] at hlen
      simp [c50_l3, c50_r3, hin, hin', len1, hlen]
      have := hend ⟨by omega, fun e => absurd hl0 e⟩ [(0, v), (1, .int .i64 n), (5, bufSl b s.length (byteCells s)), (6, .int .i64 i), (14, .bool false)] (by simp)
      simpa using this
    · have hlp : 0 < l.length := by omega
      have hlp' : (0 : Int) < l.length := by omega
      have hne : (l.length : Int) ≠ 0 := by omega
      have hwr : IntKind.wrap .i64 ((i : Int) + 1) = i + 1 := wrap_i64 (by omega) (by omega)
      have hmod := tmod_nat (a := i) (b := l.length)
      have hml : i % l.length < l.length := Nat.mod_lt _ hlp
      obtain ⟨k, hk⟩ : ∃ k, k = i % l.length := ⟨_, rfl⟩
      rw [← hk] at hmod hml
      have a1 := hv.at (t := 30) (e := 3) (by simp) (by simp) (i := k) (by rw [intCells_len]; exact hml)
      have b1 := (hv.same ho).load (e := 3) (by simp) (i := k) (by rw [intCells_len]; exact hml)
      rw [intCells_get] at b1
      obtain ⟨x, hx⟩ : ∃ x, x = l[k] := ⟨_, rfl⟩
      rw [← hx] at b1
      have p1 := place_run (h := h1) (v := x) (n := 1073741824) (by decide) (by decide)
      obtain ⟨y, hy⟩ : ∃ y, y = x % 1073741824 := ⟨_, rfl⟩
      rw [← hy] at p1
      have hy0 : 0 ≤ y ∧ y < 1073741824 := by omega
      have hii : (i : Int) * i ≤ 1000 * 1000 := Int.mul_le_mul (by omega) (by omega) (by omega) (by omega)
      have hii0 : (0 : Int) ≤ (i : Int) * i := Int.mul_nonneg (by omega) (by omega)
      have hw1 : IntKind.wrap .i64 ((i : Int) * i) = (i : Int) * i := wrap_i64 (by omega) (by omega)
      obtain ⟨q, hq⟩ : ∃ q, q = ((i : Int) * i).tdiv 3 := ⟨_, rfl⟩
      have hq0 : 0 ≤ q ∧ q ≤ 1000000 := by
       rw [hq, Int.tdiv_eq_ediv_of_nonneg hii0]
       omega
      have hw2 : IntKind.wrap .i64 q = q := wrap_i64 (by omega) (by omega)
      have hw3 : IntKind.wrap .i64 (y + q) = y + q := wrap_i64 (by omega) (by omega)
      have p2 := place_run (h := h1) (v := y + q) (n := 4) (by decide) (by decide)
      obtain ⟨z, hz⟩ : ∃ z : Nat, (y + q) % 4 = z := ⟨((y + q) % 4).toNat, by omega⟩
      have hz4 : z < 4 := by omega
      rw [hz] at p2
      obtain ⟨c, hc⟩ : ∃ c : UInt8, ([97, 98, 99, 65] : List UInt8)[z]? = some c := ⟨_, List.getElem?_eq_getElem (by simpa using hz4)⟩
      obtain ⟨δ, h2, e2, e3, e4, o4⟩ := append_byte (h := h1) (b := b) (l := s) (x := c) (fun hne => (hb hne).1) (by omega)
      have hnext : In50 h v n (n - (i + 1)) ⟨[(0, v), (1, .int .i64 n), (5, bufSl (if s.length = 0 then h1.length + 1 else b) (s ++ [c]).length (byteCells (s ++ [c]))), (6, .int .i64 (i + 1 : Nat))], h2⟩ := by
       refine ⟨i + 1, s ++ [c], _, h2, rfl, hin, by simp [hsi], rfl, fun _ => ⟨e4, ?_⟩, ho.fresh o4 fun d e => by rw [e.1]; exact (hb e.2).2⟩
       have := ho.1
       split
       · omega
       · rename_i hne; exact (hb hne).2
      have h3n : (3 : Int) ≠ 0 := by decide
      simp only [List.length_append, List.length_singleton] at e2 hnext
      simp [c50_l3, c50_r3, c50_r4, c50_r5, hin, hin', len1, hlen, hlp, hlp', abin_rem, hne, hl0, hmod, a1, b1, p1, hw1, abin_quo, ← hq, hw2, hw3, p2, aindex, hc, abuildSlice, afill, zeros, e2, e3, hwr]
      exact ⟨n - (i + 1), by omega, by simpa using hnext⟩
  · have hin' : ¬ ((i : Int) < n) := by omega
    simp [c50_l3, c50_r3, hin, hin']
    have := hend ⟨by omega, fun _ => by omega⟩ [(0, v), (1, .int .i64 n), (5, bufSl b s.length (byteCells s)), (6, .int .i64 i), (14, .bool false)] (by simp)
    simpa using this
 obtain ⟨r, h', h1, s, rfl, h2⟩ := key
 exact ⟨s, h', h1, h2⟩
theorem letters {h : Heap} {v : AV} {l : List Int} (hv : Sl1 h v (intCells l)) {n : Nat} (hn : n ≤ 1000) (hl : l.length ≤ 9223372036854775807) :
  ∃ (s : Txt) (h' : Heap), D cfg 50 [v, .int .i64 n] h = some (.str s, h') ∧ s.length ≤ n ∧ Only (fun _ => False) h h' := by
 obtain ⟨s, h', h1, h2, h3⟩ := letters2 hv hn hl
 exact ⟨s, h', h1, h2.1, h3⟩
def c49_sw : SC := (.block 4 (.seq (.reg c49_r13 none (some [0, 3, 4, 5, 6, 7, 9, 59])) (.cond (.tmp 59) (.reg c49_r14 none (some [0, 3, 4, 6])) (.seq (.reg c49_r15 none (some [0, 3, 4, 5, 6, 9, 63])) (.cond (.tmp 63) (.seq (.reg c49_r16 none (some [0, 3, 4, 5, 6])) (.seq (.reg c49_r17 none (some [0, 3, 4, 5, 6])) (.seq (.reg c49_r18 none (some [0, 3, 4, 5, 6, 78])) (.cond (.tmp 78) (.reg c49_r19 none (some [0, 3, 4, 6])) .skip (some [0, 3, 4, 6]))))) (.seq (.reg c49_r20 none (some [0, 3, 4, 5, 6, 9, 87])) (.cond (.tmp 87) (.reg c49_r21 none (some [0, 3, 4, 6])) (.seq (.reg c49_r22 none (some [0, 3, 4, 5, 6, 94])) (.cond (.tmp 94) (.reg c49_r23 none (some [0, 3, 4, 6])) .skip (some [0, 3, 4, 6]))) (some [0, 3, 4, 6]))) (some [0, 3, 4, 6]))) (some [0, 3, 4, 6]))))
theorem c49_l3_eq : c49_l3 = (.seq (.seq (.reg c49_r3 none (some [0, 3, 4, 17])) (.cond (.tmp 17) .skip (.exit 0) (some [0, 3, 4]))) (.seq (.block 1 (.seq (.reg c49_r5 none (some [0, 3, 4, 5])) (.seq (.reg c49_r6 none (some [0, 3, 4, 5, 6])) (.seq (.reg c49_r7 none (some [0, 3, 4, 5, 6, 7])) (.seq (.seq (.reg c49_r8 none (some [0, 3, 4, 5, 6, 7, 8])) (.block 2 (.loop c49_l9 (some [0, 3, 4, 5, 6, 7, 8])))) (.seq (.seq (.reg c49_r12 none (some [0, 3, 4, 5, 6, 7, 9])) c49_sw) (.reg c49_r24 none (some [0, 3, 4])))))))) (.reg c49_r4 none (some [0, 3, 4])))) := rfl
theorem div_fact {a n : Int} (ha : 0 ≤ a) (hn : 0 < n) : 0 ≤ a.tdiv n ∧ a.tdiv n ≤ a := by
 rw [Int.tdiv_eq_ediv_of_nonneg ha]
 exact ⟨Int.ediv_nonneg ha (by omega), Int.ediv_le_self _ ha⟩
theorem mod_fact {a n : Int} (ha : 0 ≤ a) (hn : 0 < n) : 0 ≤ a.tmod n ∧ a.tmod n < n := by
 rw [Int.tmod_eq_emod_of_nonneg ha]
 exact ⟨Int.emod_nonneg _ (by omega), Int.emod_lt_of_pos _ hn⟩
abbrev baseC (s : Txt) (nc : Bool) : Cont := ⟨s, nc, false, 0, 0, false, 0, 0⟩
theorem switch49 {h : Heap} {v m : AV} {i bc : Nat} {x w : Int} {plain nc : Bool} {s : Txt} (hb : h[bc]? = some (.cells (contCell (baseC s nc)) 52 false)) (hx : 0 ≤ x ∧ x < 16777216) (hw : 0 ≤ w ∧ w < 8) (hs : s.length ≤ 3) {Q : AExit → St → Prop}
  (hq : ∀ c' : Cont, c'.small → c'.bytes = s → ∀ h', h'[bc]? = some (.cells (contCell c') 52 false) → Only (fun b => b = bc) h h' → Q .normal ⟨[(0, v), (3, m), (4, .int .i64 i), (6, .ptr (some ⟨bc, 0, 8⟩))], h'⟩) :
  Wt Try.prog (D cfg) c49_sw ⟨[(0, v), (3, m), (4, .int .i64 i), (5, .int .i64 x), (6, .ptr (some ⟨bc, 0, 8⟩)), (7, .bool plain), (9, .int .i64 w)], h⟩ Q := by
 have hl := lt_of_at hb
 have g72 := div_fact hx.1 (n := 72) (by decide)
 have g576 := div_fact hx.1 (n := 576) (by decide)
 have g1152 := div_fact hx.1 (n := 1152) (by decide)
 obtain ⟨d72, e72⟩ : ∃ d, d = x.tdiv 72 := ⟨_, rfl⟩
 obtain ⟨d576, e576⟩ : ∃ d, d = x.tdiv 576 := ⟨_, rfl⟩
 obtain ⟨d1152, e1152⟩ : ∃ d, d = x.tdiv 1152 := ⟨_, rfl⟩
 rw [← e72] at g72
 rw [← e576] at g576
 rw [← e1152] at g1152
 have w72 : IntKind.wrap .i64 d72 = d72 := wrap_i64 (by omega) (by omega)
 have w576 : IntKind.wrap .i64 d576 = d576 := wrap_i64 (by omega) (by omega)
 have w1152 : IntKind.wrap .i64 d1152 = d1152 := wrap_i64 (by omega) (by omega)
 have m8 := mod_fact g72.1 (n := 8) (by decide)
 have m5 := mod_fact g72.1 (n := 5) (by decide)
 have m9 := mod_fact g72.1 (n := 9) (by decide)
 have m6 := mod_fact g1152.1 (n := 6) (by decide)
 have wm8 : IntKind.wrap .i64 (d72.tmod 8 - 3) = d72.tmod 8 - 3 := wrap_i64 (by omega) (by omega)
 have wm9 : IntKind.wrap .i64 ((s.length : Int) + d72.tmod 9) = s.length + d72.tmod 9 := wrap_i64 (by omega) (by omega)
 have wm6 : IntKind.wrap .i64 ((s.length : Int) + d1152.tmod 6) = s.length + d1152.tmod 6 := wrap_i64 (by omega) (by omega)
 have put : ∀ c' : Cont, c'.small → c'.bytes = s → Q .normal ⟨[(0, v), (3, m), (4, .int .i64 i), (6, .ptr (some ⟨bc, 0, 8⟩))], h.set bc (.cells (contCell c') 52 false)⟩   := fun c' hc' hcb =>
  hq c' hc' hcb _ (List.getElem?_set_self hl) (.set rfl)
 have keep : Q .normal ⟨[(0, v), (3, m), (4, .int .i64 i), (6, .ptr (some ⟨bc, 0, 8⟩))], h⟩ := hq (baseC s nc) ⟨by simp; omega, by simp, by simp, by simp, by simp⟩ rfl h hb .refl
 by_cases h0 : w = 0
 · have := put ⟨s, nc, true, 0, 0, false, 0, 0⟩ ⟨by simp; omega, by simp, by simp, by simp, by simp⟩
   simp [c49_sw, c49_r13, c49_r14, h0, fieldA, astore, hb]
   simpa using this
 · have tail : w < 4 → plain = true → Wt Try.prog (D cfg) c49_sw ⟨[(0, v), (3, m), (4, .int .i64 i), (5, .int .i64 x), (6, .ptr (some ⟨bc, 0, 8⟩)), (7, .bool plain), (9, .int .i64 w)], h⟩ Q := by
    intro h4 hp
    by_cases h2 : d576.tmod 2 = 0
    · have := put ⟨s, nc, false, 0, 0, true, d72.tmod 8 - 3, s.length + d1152.tmod 6⟩ ⟨by simp; omega, by simp, by simp, by simp; omega, by simp; omega⟩
      simp [c49_sw, c49_r13, c49_r14, c49_r15, c49_r16, c49_r17, c49_r18, c49_r19, h0, h4, hp, fieldA, astore, aload, AM.row, hb, at_put, abin_quo, abin_rem, ← e72, ← e576, ← e1152, w72, w576, w1152, wm8, wm6, h2, len1, alenS]
      simpa using this
    · have := put ⟨s, nc, false, 0, 0, true, d72.tmod 8 - 3, 0⟩ ⟨by simp; omega, by simp, by simp, by simp; omega, by simp⟩
      simp [c49_sw, c49_r13, c49_r14, c49_r15, c49_r16, c49_r17, c49_r18, c49_r19, h0, h4, hp, fieldA, astore, aload, AM.row, hb, at_put, abin_quo, abin_rem, ← e72, ← e576, ← e1152, w72, w576, w1152, wm8, wm6, h2, len1, alenS]
      simpa using this
   have rest : ¬ (w < 4 ∧ plain = true) → Wt Try.prog (D cfg) c49_sw ⟨[(0, v), (3, m), (4, .int .i64 i), (5, .int .i64 x), (6, .ptr (some ⟨bc, 0, 8⟩)), (7, .bool plain), (9, .int .i64 w)], h⟩ Q := by
    intro hno
    by_cases h4 : w < 4
    · cases plain with
      | true => exact absurd ⟨h4, rfl⟩ hno
      | false =>
       have n4 : ¬ (w = 4) := by omega
       have n5 : ¬ (w = 5) := by omega
       simp [c49_sw, c49_r13, c49_r14, c49_r15, c49_r20, c49_r21, c49_r22, c49_r23, h0, fieldA, astore, aload, AM.row, hb, at_put, abin_quo, abin_rem, ← e72, w72, wm9, len1, alenS, h4, n4, n5]
       simpa using keep
    · by_cases h44 : w = 4
      · have := put ⟨s, nc, false, d72.tmod 5, 0, false, 0, 0⟩ ⟨by simp; omega, by simp; omega, by simp, by simp, by simp⟩
        simp [c49_sw, c49_r13, c49_r14, c49_r15, c49_r20, c49_r21, c49_r22, c49_r23, h0, fieldA, astore, aload, AM.row, hb, at_put, abin_quo, abin_rem, ← e72, w72, wm9, len1, alenS, h44]
        simpa using this
      · by_cases h5 : w = 5
        · have := put ⟨s, nc, false, 0, s.length + d72.tmod 9, false, 0, 0⟩ ⟨by simp; omega, by simp, by simp; omega, by simp, by simp⟩
          simp [c49_sw, c49_r13, c49_r14, c49_r15, c49_r20, c49_r21, c49_r22, c49_r23, h0, fieldA, astore, aload, AM.row, hb, at_put, abin_quo, abin_rem, ← e72, w72, wm9, len1, alenS, h5]
          simpa using this
        · simp [c49_sw, c49_r13, c49_r14, c49_r15, c49_r20, c49_r21, c49_r22, c49_r23, h0, fieldA, astore, aload, AM.row, hb, at_put, abin_quo, abin_rem, ← e72, w72, wm9, len1, alenS, h4, h44, h5]
          simpa using keep
   by_cases hc : w < 4 ∧ plain = true
   · exact tail hc.1 hc.2
   · exact rest hc
abbrev contSl (b : Nat) (zs : List Cont) : AV := bufSl b zs.length (zs.flatMap contCell)
theorem flat_len {l : List Cont} : (l.flatMap contCell).length = l.length * 8 := by
 induction l with
 | nil => rfl
 | cons c r ih => simp only [List.flatMap_cons, List.length_append, ih, List.length_cons]; simp [contCell]; omega
theorem SlC.buf {h : Heap} {b : Nat} {zs : List Cont} (hb : zs.length ≠ 0 → h[b]? = some (.cells (zs.flatMap contCell) 52 true)) : SlC h (contSl b zs) zs := by
 by_cases hz : zs.length = 0
 · have : zs = [] := List.length_eq_zero_iff.1 hz
   subst this
   exact .inl ⟨by simp [bufSl], rfl⟩
 · have hne : zs ≠ [] := fun e => hz (by rw [e]; rfl)
   have := SlC.cells hne (hb hz)
   simp only [bufSl, if_neg hz, flat_len]
   exact this
theorem build_cont {n : Nat} {c : Cont} : abuildSlice Try.prog n 42 1 [(0, c.av)] = some (.sl (some ⟨n, 0, 8⟩) 1 1, .new (.cells (contCell c) 52 true)) := by
 simp [abuildSlice, afill, zeros, splice]
theorem append_cont {h : Heap} {b : Nat} {zs : List Cont} {c : Cont} (hb : zs.length ≠ 0 → h[b]? = some (.cells (zs.flatMap contCell) 52 true)) (hn : zs.length ≤ 1000000) :
  ∃ δ h', append2 Try.prog (look (h ++ [AObj.cells (contCell c) 52 true])) (h.length + 1) 42 42 [contSl b zs, .sl (some ⟨h.length, 0, 8⟩) 1 1] = some (contSl (if zs.length = 0 then h.length + 1 else b) (zs ++ [c]), δ) ∧ Heap.apply (h ++ [AObj.cells (contCell c) 52 true]) δ = h' ∧
   h'[if zs.length = 0 then h.length + 1 else b]? = some (.cells ((zs ++ [c]).flatMap contCell) 52 true) ∧ Only (fun x => x = b ∧ zs.length ≠ 0) h h' := by
 obtain ⟨δ, h', h1, h2, h3, h4⟩ := append_buf (t := 42) (e := 52) (k := 8) (by simp) (by simp) (by decide) (by simp) (by simp) (h := h) (b := b) (n := zs.length) (xs := zs.flatMap contCell) (ys := contCell c) (by simp [contCell]) flat_len hb hn
 have e : zs.flatMap contCell ++ contCell c = (zs ++ [c]).flatMap contCell := by simp
 rw [e] at h1 h3
 refine ⟨δ, h', ?_, h2, h3, h4⟩
 rw [h1]
 simp [contSl]
abbrev env49 (v m : AV) (i : Nat) (x : Int) (bc : Nat) (p : Bool) (k : Nat) : Env := [(0, v), (3, m), (4, .int .i64 i), (5, .int .i64 x), (6, .ptr (some ⟨bc, 0, 8⟩)), (7, .bool p), (8, .int .i64 k)]
def In49 (v m : AV) (i : Nat) (x : Int) (bc : Nat) (zs : List Cont) (h : Heap) (mm : Nat) (st : St) : Prop := ∃ (k : Nat) (p : Bool), mm = zs.length - k ∧ k ≤ zs.length ∧ st = ⟨env49 v m i x bc p k, h⟩
theorem plain_loop {h : Heap} {v m : AV} {i bc : Nat} {x : Int} {zs : List Cont} (hm : SlC h m zs) (hz : zs.length ≤ 1000) {Q : AExit → St → Prop} (hq : ∀ (p : Bool) (k : Nat), Q (.exit 2) ⟨env49 v m i x bc p k ++ [(44, .bool false)], h⟩) :
  Wt Try.prog (D cfg) (.loop c49_l9 (some [0, 3, 4, 5, 6, 7, 8])) ⟨env49 v m i x bc false 0, h⟩ Q := by
 have hlen := fun L => hm.len (L := L)
 refine Wt.loop (In49 v m i x bc zs h) (m := zs.length) ⟨0, false, rfl, Nat.zero_le _, rfl⟩ ?_
 rintro mm st ⟨k, p, rfl, hk, rfl⟩
 have hcut : cut (some [0, 3, 4, 5, 6, 7, 8]) (env49 v m i x bc p k) = env49 v m i x bc p k := by simp
 simp only [hcut]
 by_cases hkz : k < zs.length
 · have hkz' : (k : Int) < zs.length := by omega
   have hwr : IntKind.wrap .i64 ((k : Int) + 1) = k + 1 := wrap_i64 (by omega) (by omega)
   cases p with
   | true =>
    have hnext : In49 v m i x bc zs h (zs.length - (k + 1)) ⟨env49 v m i x bc true (k + 1), h⟩ := ⟨k + 1, true, rfl, hkz, rfl⟩
    simp only [env49] at hnext
    simp [c49_l9, c49_r9, c49_r10, c49_r11, len1, hlen, hkz, hkz', hwr]
    exact ⟨zs.length - (k + 1), by omega, by simpa using hnext⟩
   | false =>
    have a1 := hm.at hkz
    obtain ⟨p2, p5, f2, _, ff⟩ := hm.fields hkz
    have f6 := (ff h .refl).1
    have hnext : In49 v m i x bc zs h (zs.length - (k + 1)) ⟨env49 v m i x bc (!zs[k].not) (k + 1), h⟩ := ⟨k + 1, _, rfl, hkz, rfl⟩
    simp only [env49] at hnext
    simp [c49_l9, c49_r9, c49_r10, c49_r11, len1, hlen, hkz, hkz', hwr, a1, f2, f6]
    exact ⟨zs.length - (k + 1), by omega, by simpa using hnext⟩
 · have hkz' : ¬ ((k : Int) < zs.length) := by omega
   have hn := hq p k
   simp only [env49] at hn
   simp [c49_l9, c49_r9, len1, hlen, hkz, hkz']
   simpa using hn
def Cont.few (c : Cont) : Prop := c.small ∧ 1 ≤ c.bytes.length ∧ c.bytes.length ≤ 3
def Out49 (h₀ : Heap) (v : AV) (l : List Int) (mm : Nat) (st : St) : Prop := ∃ (zs : List Cont) (bm : Nat) (h : Heap), mm = l.length - zs.length ∧ zs.length ≤ l.length ∧ zs.length ≤ 3 ∧ (∀ c ∈ zs, c.few) ∧
 st = ⟨[(0, v), (3, contSl bm zs), (4, .int .i64 (zs.length : Nat))], h⟩ ∧ (zs.length ≠ 0 → h[bm]? = some (.cells (zs.flatMap contCell) 52 true) ∧ h₀.length ≤ bm) ∧ Only (fun _ => False) h₀ h
theorem round49 {h₀ h : Heap} {v : AV} {l : List Int} {zs : List Cont} {bm : Nat} (hv : Sl1 h₀ v (intCells l)) (hi : zs.length < l.length) (h3 : zs.length < 3) (hsm : ∀ c ∈ zs, c.few) (hb : zs.length ≠ 0 → h[bm]? = some (.cells (zs.flatMap contCell) 52 true) ∧ h₀.length ≤ bm) (ho : Only (fun _ => False) h₀ h)
  {Q : AExit → St → Prop} (hq : ∀ st, Out49 h₀ v l (l.length - (zs.length + 1)) st → Q .normal st) :
  Wt Try.prog (D cfg) c49_l3 ⟨[(0, v), (3, contSl bm zs), (4, .int .i64 (zs.length : Nat))], h⟩ Q := by
 obtain ⟨i, hii⟩ : ∃ i, i = zs.length := ⟨_, rfl⟩
 have hlen := fun L => hv.len (t := 30) (e := 3) (by simp) (L := L)
 simp only [intCells_len] at hlen
 have hil : (i : Int) < l.length := by omega
 have hi' : i < l.length := by omega
 have hi3 : (i : Int) < 3 := by omega
 have hi3' : i < 3 := by omega
 have hwr : IntKind.wrap .i64 ((i : Int) + 1) = i + 1 := wrap_i64 (by omega) (by omega)
 have a1 := hv.at (t := 30) (e := 3) (by simp) (by simp) (i := i) (by rw [intCells_len]; exact hi')
 have b1 := (hv.same ho).load (e := 3) (by simp) (i := i) (by rw [intCells_len]; exact hi')
 rw [intCells_get] at b1
 have p1 := place_run (h := h) (v := l[i]) (n := 16777216) (by decide) (by decide)
 obtain ⟨x, hx⟩ : ∃ x, x = l[i] % 16777216 := ⟨_, rfl⟩
 rw [← hx] at p1
 have hx0 : 0 ≤ x ∧ x < 16777216 := by omega
 have g7 := div_fact hx0.1 (n := 7) (by decide)
 have g31 := div_fact hx0.1 (n := 31) (by decide)
 have g101 := div_fact hx0.1 (n := 101) (by decide)
 have g3 := div_fact hx0.1 (n := 3) (by decide)
 have g9 := div_fact hx0.1 (n := 9) (by decide)
 have m3 := mod_fact hx0.1 (n := 3) (by decide)
 have m8 := mod_fact g9.1 (n := 8) (by decide)
 have w7 : IntKind.wrap .i64 (x.tdiv 7) = x.tdiv 7 := wrap_i64 (by omega) (by omega)
 have w31 : IntKind.wrap .i64 (x.tdiv 31) = x.tdiv 31 := wrap_i64 (by omega) (by omega)
 have w101 : IntKind.wrap .i64 (x.tdiv 101) = x.tdiv 101 := wrap_i64 (by omega) (by omega)
 have w3 : IntKind.wrap .i64 (x.tdiv 3) = x.tdiv 3 := wrap_i64 (by omega) (by omega)
 have w9 : IntKind.wrap .i64 (x.tdiv 9) = x.tdiv 9 := wrap_i64 (by omega) (by omega)
 have wm : IntKind.wrap .i64 (1 + x.tmod 3) = 1 + x.tmod 3 := wrap_i64 (by omega) (by omega)
 obtain ⟨nn, hnn⟩ : ∃ nn : Nat, 1 + x.tmod 3 = nn := ⟨(1 + x.tmod 3).toNat, by omega⟩
 have hnn3 : nn ≤ 3 := by omega
 rw [hnn] at wm
 obtain ⟨h2, hh2⟩ : ∃ h2, h2 = h ++ [.cells [.int .i64 (x.tdiv 7), .int .i64 (x.tdiv 31), .int .i64 (x.tdiv 101)] 3 true] := ⟨_, rfl⟩
 have o2 : Only (fun _ => False) h h2 := by rw [hh2]; exact .app
 have sl : Sl1 h2 (.sl (some ⟨h.length, 0, 3⟩) 3 3) (intCells [x.tdiv 7, x.tdiv 31, x.tdiv 101]) := Sl1.cells (xs := intCells [x.tdiv 7, x.tdiv 31, x.tdiv 101]) (e := 3) (s := true) (by rw [hh2]; simp [intCells])
 obtain ⟨s, h4, e4, hs, o4⟩ := letters2 sl (n := nn) (by omega) (by simp)
 obtain ⟨nc, hnc⟩ : ∃ nc, nc = decide ((x.tdiv 3).tmod 3 = 0) := ⟨_, rfl⟩
 obtain ⟨h5, hh5⟩ : ∃ h5, h5 = h4 ++ [.cells (contCell (baseC s nc)) 52 false] := ⟨_, rfl⟩
 have o5 : Only (fun _ => False) h4 h5 := by rw [hh5]; exact .app
 have hb5 : h5[h4.length]? = some (.cells (contCell (baseC s nc)) 52 false) := by rw [hh5]; simp
 have oh5 := (o2.trans o4).trans o5
 have hm5 : SlC h5 (contSl bm zs) zs := SlC.buf fun hne => oh5.at (hb hne).1 id
 have hpl := fun Q hq => plain_loop (Q := Q) (v := v) (i := i) (bc := h4.length) (x := x) hm5 (by omega) hq
 have hsw := fun (p : Bool) Q hq => switch49 (Q := Q) (v := v) (m := contSl bm zs) (i := i) (bc := h4.length) (x := x) (w := (x.tdiv 9).tmod 8) (plain := p) (nc := nc) (s := s) hb5 hx0 m8 (by omega) hq
 have hl4 : h.length + 1 ≤ h4.length := by have := (o4).1; rw [hh2] at this; simp at this; omega
 rw [c49_l3_eq]
 rw [← hii]
 simp only [env49, List.cons_append, List.nil_append] at hpl
 rw [show ((0 : Nat) : Int) = 0 from rfl] at hpl
 have hnc' : contCell (baseC s nc) = [.str s, .bool nc, .bool false, .int .i64 0, .int .i64 0, .bool false, .int .i64 0, .int .i64 0] := rfl
 rw [hnc', hnc] at hh5
 simp [c49_r3, c49_r5, c49_r6, c49_r7, c49_r8, len1, hlen, hil, hi', hi3, hi3', a1, b1, p1, abin_quo, abin_rem, w7, w31, w101, w3, hnn, wm, abuildSlice, afill, zeros, splice, ← hh2, e4, abuild, astore, ← hh5]
 refine hpl _ fun p k => ?_
 simp [c49_r12, abin_quo, abin_rem, w9]
 refine hsw p _ fun c' hc' hcb h6 hb6 o6 => ?_
 have cl := contLoads hb6
 have hne6 : zs.length ≠ 0 → h6[bm]? = some (.cells (zs.flatMap contCell) 52 true) := fun hne => o6.at (oh5.at (hb hne).1 id) (by have := lt_of_at (hb hne).1; omega)
 obtain ⟨δ, h7, e7, e8, e9, o7⟩ := append_cont (h := h6) (b := bm) (zs := zs) (c := c') hne6 (by omega)
 have hln : (zs ++ [c']).length = zs.length + 1 := by simp
 have oh6 : Only (fun _ => False) h₀ h6 := (ho.trans oh5).fresh o6 fun b hbc => by have := ho.1; omega
 have hnext : Out49 h₀ v l (l.length - (zs.length + 1)) ⟨[(0, v), (3, contSl (if zs.length = 0 then h6.length + 1 else bm) (zs ++ [c'])), (4, .int .i64 ((zs ++ [c']).length : Nat))], h7⟩ := by
  refine ⟨zs ++ [c'], _, h7, by rw [hln], by rw [hln]; omega, by rw [hln]; omega, fun d hd => ?_, rfl, fun _ => ⟨e9, ?_⟩, oh6.fresh o7 fun b e => by rw [e.1]; exact (hb e.2).2⟩
  · simp at hd
    rcases hd with hd | rfl
    · exact hsm d hd
    · exact ⟨hc', by rw [hcb]; have := hs.2 (by simp); omega⟩
  · have := oh6.1
    split
    · omega
    · rename_i hne; exact (hb hne).2
 have hfin := hq _ hnext
 rw [hln, ← hii] at hfin
 rw [← hii] at e7
 simp [c49_r24, c49_r4, cl, build_cont, e7, e8, hwr]
 simpa using hfin
theorem contents2 {h : Heap} {v : AV} {l : List Int} (hv : Sl1 h v (intCells l)) (hl : l.length ≤ 1000000) :
  ∃ (zs : List Cont) (v' : AV) (h' : Heap), D cfg 49 [v] h = some (v', h') ∧ SlC h' v' zs ∧ (∀ c ∈ zs, c.few) ∧ zs.length ≤ 3 ∧ Only (fun _ => False) h h' := by
 have key : ∃ r h', D cfg 49 [v] h = some (r, h') ∧ (∃ zs : List Cont, SlC h' r zs ∧ (∀ c ∈ zs, c.few) ∧ zs.length ≤ 3 ∧ Only (fun _ => False) h h') := by
  refine call49 (R := fun r h' => ∃ zs : List Cont, SlC h' r zs ∧ (∀ c ∈ zs, c.few) ∧ zs.length ≤ 3 ∧ Only (fun _ => False) h h') (args := [v]) (h := h) (by simp) ?_
  have hlen := fun L => hv.len (t := 30) (e := 3) (by simp) (L := L)
  simp only [intCells_len] at hlen
  simp [c49, c49_r0, c49_r1, c49_r2]
  refine Wt.loop (Out49 h v l) (m := l.length) ⟨[], 0, h, rfl, Nat.zero_le _, by simp, by simp, by simp [bufSl], by simp, .refl⟩ ?_
  rintro mm st ⟨zs, bm, h1, rfl, hzl, hz3, hsm, rfl, hb, ho⟩
  have hcut : cut (some [0, 3, 4]) [(0, v), (3, contSl bm zs), (4, .int .i64 (zs.length : Nat))] = [(0, v), (3, contSl bm zs), (4, .int .i64 (zs.length : Nat))] := by simp
  simp only [hcut]
  by_cases hgo : zs.length < l.length ∧ zs.length < 3
  · refine round49 hv hgo.1 hgo.2 hsm hb ho fun st hst => ⟨_, ?_, hst⟩
    omega
  · have hsl : SlC h1 (contSl bm zs) zs := SlC.buf fun hne => (hb hne).1
    have hfin : ∃ zs' : List Cont, SlC h1 (contSl bm zs) zs' ∧ (∀ c ∈ zs', c.few) ∧ zs'.length ≤ 3 ∧ Only (fun _ => False) h h1 := ⟨zs, hsl, hsm, hz3, ho⟩
    obtain ⟨out, hout⟩ : ∃ out, out = contSl bm zs := ⟨_, rfl⟩
    have hnt : AV.notTup out = true := by rw [hout]; exact bufSl_nt
    rw [← hout] at hfin ⊢
    by_cases hil : zs.length < l.length
    · have hil' : (zs.length : Int) < l.length := by omega
      have h3 : ¬ (zs.length < 3) := fun h => hgo ⟨hil, h⟩
      have h3' : ¬ ((zs.length : Int) < 3) := by omega
      simp [c49_l3, c49_r3, c49_r25, len1, hlen, hil, hil', h3, h3']
      exact ⟨hnt, hfin⟩
    · have hil' : ¬ ((zs.length : Int) < l.length) := by omega
      simp [c49_l3, c49_r3, c49_r25, len1, hlen, hil, hil']
      exact ⟨hnt, hfin⟩
 obtain ⟨r, h', h1, zs, h2, h3, h4, h5⟩ := key
 exact ⟨zs, r, h', h1, h2, h3, h4, h5⟩
def contOf (t : Txt) : Cont := ⟨t, false, false, 0, 0, false, 0, 0⟩
theorem contOf_small {t : Txt} (ht : t.length ≤ 1000000) : (contOf t).small := ⟨ht, by simp [contOf], by simp [contOf], by simp [contOf], by simp [contOf]⟩
theorem awake16w : ∃ h', D cfg 68 [] [] = some (.bool true, h') := by
 have key : ∃ r h', D cfg 68 [] [] = some (r, h') ∧ (r = .bool true) := by
  refine call68 (R := fun r h' => r = .bool true) (args := []) (h := []) (by simp) ?_
  have hv : SlC [.cells ([contOf [97]].flatMap contCell) 52 true] (contSl 0 [contOf [97]]) [contOf [97]] := SlC.buf fun _ => rfl
  obtain ⟨h1, e1, _⟩ := run_track (s := [98, 97]) (m := 4) (most := 4) hv (by simp; exact contOf_small (by simp)) (by simp) (by simp) (by decide)
  have hr : runOf [contOf [97]] 4 [98, 97] = (2, true, 0) := by decide
  rw [hr] at e1
  have e1' : D cfg 70 [.sl (some ⟨0, 0, 8⟩) 1 1, .int .i64 4, .str [98, 97]] [.cells [.str [97], .bool false, .bool false, .int .i64 0, .int .i64 0, .bool false, .int .i64 0, .int .i64 0] 52 true] = some (.tup [.int .i64 2, .bool true, .int .i64 0], h1) := e1
  simp [c68, c68_r0, c68_r1, c68_r2, abuild, abuildSlice, afill, zeros, splice, e1', extractV]
 obtain ⟨r, h', h1, rfl⟩ := key
 exact ⟨h', h1⟩
theorem awake16c {fs : List FuncId} (hf : fs.contains 68 = true) {h : Heap} : mixed fs (D cfg) 68 [] h = some (.bool true, h) := by
 obtain ⟨h', hx⟩ := awake16w
 exact awake_ofD hx hf
noncomputable abbrev F21 : CallF := mixed [68] (D cfg)
theorem awake21 {h : Heap} : F21 68 [] h = some (.bool true, h) := awake16c rfl
theorem F21_D {f : FuncId} (hf : f ≠ 68) {args : List AV} {h : Heap} : F21 f args h = D cfg f args h := mixed_D (by simp [hf])
theorem run_same {l : List Cont} {k : Nat} {s : Txt} (hf : ∀ c ∈ l, c.few) : runOf l k s = runDfrom l k s 0 (s.length + 1) := by
 have hg : bgood (patsOf l) = true := by
  simp only [bgood, List.all_eq_true, decide_eq_true_eq, patsOf, List.mem_map]
  rintro _ ⟨c, hc, rfl⟩
  have := (hf c hc).2
  omega
 refine runT_doc (fun n hn => ?_) (init_inv fun c hc e => ?_)
 · show stepT _ (endsOf l.length (hsOf l s (n + 1))) = _
   rw [ends_steps hg hn]
 · have := (hf c hc).2.1
   rw [e] at this
   simp at this
theorem numbers_walk {h₀ : Heap} {v u : AV} {l t : List Int} {mo nn : Int} (hv : Sl1 h₀ v (intCells l)) (hu : Sl1 h₀ u (intCells t)) (hl : l.length ≤ 9223372036854775807) (ht : t.length ≤ 9223372036854775807) :
  Wt Try.prog F21 c21 ⟨argsEnv 0 [v, .int .i64 mo, u, .int .i64 nn], h₀⟩ (Ends Try.prog [.tmp 8] fun r _ => r = .bool true) := by
 have hvt : v.notTup = true := by rcases hv with ⟨rfl, _⟩ | ⟨_, _, _, _, _, rfl, _, _⟩ <;> rfl
 have hut : u.notTup = true := by rcases hu with ⟨rfl, _⟩ | ⟨_, _, _, _, _, rfl, _, _⟩ <;> rfl
 have vlen := fun L => hv.len (L := L) (t := 30) (e := 3) (by simp)
 have ulen := fun L => hu.len (L := L) (t := 30) (e := 3) (by simp)
 rw [intCells_len] at vlen ulen
 by_cases h10 : 10 < l.length
 · have h10' : (10 : Int) < l.length := by omega
   simp [-AV.notTup, hvt, hut, c21, c21_r0, c21_r1, c21_r2, F21_D, len1, vlen, h10, h10', awake21]
   try simp [AV.notTup]
 · have h10' : ¬ ((10 : Int) < l.length) := by omega
   by_cases h100 : 100 < t.length
   · have h100' : (100 : Int) < t.length := by omega
     simp [-AV.notTup, hvt, hut, c21, c21_r0, c21_r1, c21_r2, F21_D, len1, vlen, ulen, h10, h10', h100, h100', awake21]
     try simp [AV.notTup]
   · have h100' : ¬ ((100 : Int) < t.length) := by omega
     obtain ⟨zs, w, h1, e1, hw, hf, hz3, o1⟩ := contents2 hv (by omega)
     have hwt : w.notTup = true := by rcases hw with ⟨rfl, _⟩ | ⟨_, _, _, _, rfl, _, _⟩ <;> rfl
     have p1 := place_run (h := h1) (v := mo) (n := 5) (by decide) (by decide)
     obtain ⟨k', hk'⟩ : ∃ a : Nat, mo % 5 = a := ⟨(mo % 5).toNat, by omega⟩
     rw [hk'] at p1
     obtain ⟨k, hk⟩ : ∃ k, 1 + k' = k := ⟨_, rfl⟩
     have hwk : IntKind.wrap .i64 (1 + (k' : Int)) = k := by rw [wrap_i64 (by omega) (by omega)]; omega
     have p2 := place_run (h := h1) (v := nn) (n := 40) (by decide) (by decide)
     obtain ⟨N, hN⟩ : ∃ a : Nat, nn % 40 = a := ⟨(nn % 40).toNat, by omega⟩
     rw [hN] at p2
     obtain ⟨s, h2, e2, hs, o2⟩ := letters (hu.same o1) (n := N) (by omega) ht
     have hsm : ∀ c ∈ zs, c.small := fun c hc => (hf c hc).1
     have hkk : (k : Int) = max 1 (min (k : Int) 32) := by omega
     obtain ⟨h3, e3, o3⟩ := run_track (s := s) (hw.same o2) hsm (by omega) (by omega) hkk
     obtain ⟨h4, e4, o4⟩ := run_doc (s := s) ((hw.same o2).same o3) hsm (by omega) (by omega) hkk
     obtain ⟨h5, e5, o5⟩ := same_run (s := s) (m := (k : Int)) (((hw.same o2).same o3).same o4) hsm (fun c hc e => by
      have := (hf c hc).2.1
      rw [e] at this
      simp at this) (by omega) (by omega)
     rw [run_same hf] at e3
     obtain ⟨⟨x1, x2, x3⟩, hx⟩ : ∃ x, runDfrom zs k s 0 (s.length + 1) = x := ⟨_, rfl⟩
     rw [hx] at e3 e4
     simp only [tupR] at e4
     cases x2 <;>
     · simp [-AV.notTup, hvt, hut, hwt, c21, c21_r0, c21_r1, c21_r3, c21_r4, c21_r5, c21_r6, c21_r7, c21_r8, F21_D, len1, vlen, ulen, h10, h10', h100, h100', e1, p1, hwk, p2, e2, e3, e4, extractV, e5, awake21]
       try simp [AV.notTup]
end Go.AM
