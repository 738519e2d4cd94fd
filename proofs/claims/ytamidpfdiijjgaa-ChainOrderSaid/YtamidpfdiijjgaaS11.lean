/-
  The document's 'Ends', 'never', 'Holds', 'First' of contents.
-/
import Derived.Test.YtamidpfdiijjgaaS10
import Derived.Test.YtamidpfdiijjgaaS9
namespace Go.AM
open Go Go.Proofs
set_option linter.unusedVariables false
set_option linter.unusedSimpArgs false
set_option maxRecDepth 100000

theorem build_sl2 {n b : Nat} {l : List Int} : abuildSlice Try.prog n 44 1 [(0, intSl b l)] = some (.sl (some ⟨n, 0, 1⟩) 1 1, .new (.cells [intSl b l] 30 true)) := build_sl

abbrev env44 (v : AV) (s : Txt) (all : AV) (i : Nat) : Env := [(0, v), (1, .str s), (5, all), (6, .int .i64 i)]

def Out44 (h₀ : Heap) (s : Txt) (l : List Cont) (v : AV) (m : Nat) (st : St) : Prop :=
  ∃ i B bs h, m = l.length - i ∧ i ≤ l.length ∧ st = ⟨env44 v s (llSl B bs (endsAll (l.take i) s).1) i, h⟩ ∧ LL h₀ h B bs (endsAll (l.take i) s).1 ∧ Only (fun _ => False) h₀ h

theorem ends_doc {h : Heap} {s : Txt} {l : List Cont} {v : AV} (hv : SlC h v l) (hsm : ∀ c ∈ l, c.small) (hsl : s.length ≤ 100000) (hll : l.length ≤ 1000) :
    ∃ h' B bs, D cfg 44 [v, .str s] h = some (llSl B bs (endsAll l s).1, h') ∧ LL h h' B bs (endsAll l s).1 ∧ Only (fun _ => False) h h' := by
  have key : ∃ r h', D cfg 44 [v, .str s] h = some (r, h') ∧ (∃ B bs, r = llSl B bs (endsAll l s).1 ∧ LL h h' B bs (endsAll l s).1 ∧ Only (fun _ => False) h h') := by
    refine call44 (R := fun r h' => ∃ B bs, r = llSl B bs (endsAll l s).1 ∧ LL h h' B bs (endsAll l s).1 ∧ Only (fun _ => False) h h') (args := [v, .str s]) (h := h) (by simp) ?_
    have hlen := fun L => hv.len (L := L)
    have H0 : LL h h 0 [] [] := ⟨rfl, fun e => absurd rfl e, fun i q b hq => by simp at hq⟩
    simp [c44, c44_r0, c44_r1, c44_r2]
    refine Wt.loop (Out44 h s l v) (m := l.length) ⟨0, 0, [], h, rfl, Nat.zero_le _, rfl, H0, .refl⟩ ?_
    rintro m st ⟨i, B, bs, h1, rfl, hi, rfl, H, ho⟩
    obtain ⟨ls, hls⟩ : ∃ ls, ls = (endsAll (l.take i) s).1 := ⟨_, rfl⟩
    obtain ⟨ah, hah⟩ : ∃ ah, ah = (endsAll (l.take i) s).2 := ⟨_, rfl⟩
    obtain ⟨ok1, ok2, ok3, ok4⟩ := endsAll_ok (l := l.take i) (s := s)
    obtain ⟨la0, la1⟩ := endsAll_last (l := l.take i) (s := s)
    rw [← hah] at ok1 ok2
    rw [← hls] at ok3 la0 la1
    rw [← hah] at la0 la1
    rw [← hls] at H ⊢
    have ok3' : ls.length ≤ l.length := by have : (l.take i).length ≤ l.length := by simp; omega
                                           omega
    have hcut : cut (some [0, 1, 5, 6]) (env44 v s (llSl B bs ls) i) = env44 v s (llSl B bs ls) i := by simp
    simp only [hcut]
    by_cases hil : i < l.length
    · have hil' : (i : Int) < l.length := by omega
      obtain ⟨c, hc⟩ : ∃ c, c = l[i] := ⟨_, rfl⟩
      have hcs : c.small := hsm c (by rw [hc]; exact List.getElem_mem hil)
      have a1 := hv.at hil
      obtain ⟨p2, p5, f2, _, ff⟩ := hv.fields hil
      have f6 := (ff h1 ho).1
      rw [← hc] at f6
      have hwr : IntKind.wrap .i64 ((i : Int) + 1) = i + 1 := wrap_i64 (by omega) (by omega)
      have hstep := endsAll_step (s := s) hil
      rw [← hc] at hstep
      cases hnot : c.not with
      | true =>
        rw [hnot] at f6
        have hst : endsAll (l.take (i + 1)) s = (ls, ah) := by rw [hstep, endsStep, if_pos hnot, hls, hah]
        have hnext : Out44 h s l v (l.length - (i + 1)) ⟨env44 v s (llSl B bs ls) (i + 1), h1⟩ := ⟨i + 1, B, bs, h1, rfl, hil, by rw [hst], by rw [hst]; exact H, ho⟩
        simp only [env44] at hnext
        simp [c44_l3, c44_r3, c44_r4, c44_r5, len1, hlen, hil, hil', a1, f2, f6, hwr]
        exact ⟨l.length - (i + 1), by omega, by simpa using hnext⟩
      | false =>
        rw [hnot] at f6
        have hst : endsAll (l.take (i + 1)) s = (ls ++ [hits c s ah (s.length + 1)], hits c s ah (s.length + 1)) := by rw [hstep, endsStep, hnot, hls, hah]; simp
        have hin := fun Q hq => ref_inner (Q := Q) (hv.same ho) hil hc hcs H la0 la1 (fun p hp => by have := ok1 p hp; omega) (by omega) (by omega) hsl hll hq
        simp only [envM] at hin
        simp at hin
        simp [c44_l3, c44_r3, c44_r4, c44_r5, c44_r6, c44_r7, len1, hlen, hil, hil', a1, f2, f6]
        refine hin _ fun b h2 o2 hb => ?_
        obtain ⟨δ, h3, B', e1, e2, e3, e4, e5⟩ := append_sl (h := h2) (H.same o2) (b := b) (l := hits c s ah (s.length + 1)) (fun hne => ⟨(hb hne).1, by have := (hb hne).2; have := ho.1; omega, fun hl e => by
          have h9 := lt_of_at (H.top hl).1
          have := (hb hne).2
          omega⟩) (by have := ho.1; have := o2.1; omega) (by omega)
        have hnext : Out44 h s l v (l.length - (i + 1)) ⟨env44 v s (llSl B' (bs ++ [b]) (ls ++ [hits c s ah (s.length + 1)])) (i + 1), h3⟩ := by
          refine ⟨i + 1, B', bs ++ [b], h3, rfl, hil, by rw [hst], by rw [hst]; exact e3, (ho.trans o2).fresh e4 fun x hx => by rw [hx.1]; exact (H.top hx.2).2⟩
        simp only [env44] at hnext
        simp [c44_r19, build_sl, e1, e2, hwr]
        exact ⟨l.length - (i + 1), by omega, by simpa using hnext⟩
    · have : i = l.length := by omega
      subst this
      rw [List.take_length] at hls
      subst hls
      have hfin : ∃ B' bs', llSl B bs (endsAll l s).1 = llSl B' bs' (endsAll l s).1 ∧ LL h h1 B' bs' (endsAll l s).1 ∧ Only (fun _ => False) h h1 := ⟨B, bs, rfl, H, ho⟩
      simp [c44_l3, c44_r3, c44_r20, len1, hlen]
      exact ⟨bufSl_nt, hfin⟩
  obtain ⟨r, h', h1, B, bs, rfl, h2⟩ := key
  exact ⟨h', B, bs, h1, h2⟩

end Go.AM
