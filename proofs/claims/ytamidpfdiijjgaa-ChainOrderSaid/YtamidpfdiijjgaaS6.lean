/-
  The chain's 'Ends', whole.
-/
import Derived.Test.YtamidpfdiijjgaaS5
namespace Go.AM
open Go Go.Proofs
set_option linter.unusedVariables false
set_option linter.unusedSimpArgs false
set_option maxRecDepth 100000

abbrev envO (s : Txt) (bt : Nat) (out ahv v : AV) (n i : Nat) : Env := [(1, .str s), (5, .ptr (some ⟨bt, 0, 2⟩)), (6, out), (7, ahv), (16, v), (17, .int .i64 n), (18, .int .i64 i)]

structure OutI (h₀ h : Heap) (s : Txt) (bt B : Nat) (bs : List Nat) (ba : Nat) (ls : List (List Int)) (ah : List Int) : Prop where
  ll : LL h₀ h B bs ls
  ahead : ah ≠ [] → h[ba]? = some (.cells (intCells ah) 3 true)
  text : h[bt]? = some (.cells [.str s, .str (fold s)] 122 false)
  newT : h₀.length ≤ bt
  ne : ls.length ≠ 0 → bt ≠ B
  only : Only (fun _ => False) h₀ h

def Out43 (h₀ : Heap) (s : Txt) (l : List Cont) (v : AV) (bt : Nat) (m : Nat) (st : St) : Prop :=
  ∃ i B bs ba h, m = l.length - i ∧ i ≤ l.length ∧ st = ⟨envO s bt (llSl B bs (endsAll (l.take i) s).1) (intSl ba (endsAll (l.take i) s).2) v l.length i, h⟩ ∧ OutI h₀ h s bt B bs ba (endsAll (l.take i) s).1 (endsAll (l.take i) s).2

theorem bufSl_nt {b n : Nat} {xs : List AV} : AV.notTup (bufSl b n xs) = true := by
  unfold bufSl
  split <;> rfl

theorem build_sl {n b : Nat} {l : List Int} : abuildSlice Try.prog n 44 1 [(0, intSl b l)] = some (.sl (some ⟨n, 0, 1⟩) 1 1, .new (.cells [intSl b l] 30 true)) := by
  unfold intSl
  split <;> simp [abuildSlice, afill, zeros]

theorem ends_outer {h₀ : Heap} {s : Txt} {l : List Cont} {v : AV} {bt : Nat} (hv : SlC h₀ v l) (hsm : ∀ c ∈ l, c.small) (hsl : s.length ≤ 100000) (hll : l.length ≤ 1000) {i B : Nat} {bs : List Nat} {ba : Nat} {h : Heap} (hi : i < l.length)
    (H : OutI h₀ h s bt B bs ba (endsAll (l.take i) s).1 (endsAll (l.take i) s).2) {Q : AExit → St → Prop} (hq : ∀ st, Out43 h₀ s l v bt (l.length - (i + 1)) st → Q .normal st) :
    Wt Try.prog (D cfg) c43_l5 ⟨envO s bt (llSl B bs (endsAll (l.take i) s).1) (intSl ba (endsAll (l.take i) s).2) v l.length i, h⟩ Q := by
  obtain ⟨ls, hls⟩ : ∃ ls, ls = (endsAll (l.take i) s).1 := ⟨_, rfl⟩
  obtain ⟨ah, hah⟩ : ∃ ah, ah = (endsAll (l.take i) s).2 := ⟨_, rfl⟩
  obtain ⟨ok1, ok2, ok3, ok4⟩ := endsAll_ok (l := l.take i) (s := s)
  rw [← hah] at ok1 ok2
  rw [← hls] at ok3
  rw [← hls, ← hah] at H ⊢
  obtain ⟨c, hc⟩ : ∃ c, c = l[i] := ⟨_, rfl⟩
  have hcs : c.small := hsm c (by rw [hc]; exact List.getElem_mem hi)
  have a1 := hv.at hi
  have b1 := (hv.same H.only).load hi
  rw [← hc] at b1
  have hwr : IntKind.wrap .i64 ((i : Int) + 1) = i + 1 := wrap_i64 (by omega) (by omega)
  have hwl : IntKind.wrap .i64 ((s.length : Int) + 1) = s.length + 1 := wrap_i64 (by omega) (by omega)
  have hil : (i : Int) < l.length := by omega
  obtain ⟨h1, hh1⟩ : ∃ h1, h1 = h ++ [.cells (contCell c) 52 false] := ⟨_, rfl⟩
  have hbc : h1[h.length]? = some (.cells (contCell c) 52 false) := by rw [hh1]; simp
  have o1 : Only (fun _ => False) h h1 := by rw [hh1]; exact .app
  have hlen1 : h1.length = h.length + 1 := by rw [hh1]; simp
  have cl := contLoads hbc
  have hstep := endsAll_step (s := s) hi
  rw [← hc] at hstep
  have htk : l.length ≠ 0 := by omega
  cases hnot : c.not with
  | true =>
    have hst : endsAll (l.take (i + 1)) s = (ls, ah) := by rw [hstep, endsStep, if_pos hnot, hls, hah]
    have hnext : Out43 h₀ s l v bt (l.length - (i + 1)) ⟨envO s bt (llSl B bs ls) (intSl ba ah) v l.length (i + 1), h1⟩ := by
      refine ⟨i + 1, B, bs, ba, h1, rfl, hi, by rw [hst], ?_⟩
      rw [hst]
      exact ⟨H.ll.same o1, fun hne => o1.at (H.ahead hne) id, o1.at H.text id, H.newT, H.ne, H.only.trans o1⟩
    have := hq _ hnext
    simp only [envO] at this
    simp [c43_l5, c43_r5, c43_r6, c43_r7, c43_r17, hil, hi, a1, b1, zeros, astore, splice, ← hh1, fieldA, cl, hnot, hwr]
    simpa using this
  | false =>
    have hst : endsAll (l.take (i + 1)) s = (ls ++ [hits c s ah (s.length + 1)], hits c s ah (s.length + 1)) := by rw [hstep, endsStep, hnot, hls, hah]; simp
    have hin := fun Q hq => ends_inner (Q := Q) hcs (ahead := ah) (bt := bt) (out := llSl B bs ls) (ahv := intSl ba ah) (bc := h.length) (v := v) (n := l.length) (i := i) hsl (o1.at H.text id) hbc (Sl1.ints fun hne => o1.at (H.ahead hne) id) (fun p hp => by have := ok1 p hp; omega) (by omega) hq
    simp only [envE] at hin
    simp [c43_l5, c43_r5, c43_r6, c43_r7, c43_r8, c43_r9, hil, hi, a1, b1, zeros, astore, splice, ← hh1, fieldA, cl, hnot, hwr, len1, alenS, hwl]
    simp at hin
    refine hin _ fun b h2 o2 hb => ?_
    have o12 := o1.trans o2
    obtain ⟨δ, h3, B', e1, e2, e3, e4, e5⟩ := append_sl (h := h2) (H.ll.same o12) (b := b) (l := hits c s ah (s.length + 1)) (fun hne => ⟨(hb hne).1, by have := (hb hne).2; have := H.only.1; omega, fun hl e => by
      have h9 := lt_of_at (H.ll.top hl).1
      have := (hb hne).2
      omega⟩) (by have := H.only.1; have := o12.1; omega) (by have : (l.take i).length ≤ l.length := by simp; omega
                                                              omega)
    have hbt2 := lt_of_at H.text
    have hnext : Out43 h₀ s l v bt (l.length - (i + 1)) ⟨envO s bt (llSl B' (bs ++ [b]) (ls ++ [hits c s ah (s.length + 1)])) (intSl b (hits c s ah (s.length + 1))) v l.length (i + 1), h3⟩ := by
      refine ⟨i + 1, B', bs ++ [b], b, h3, rfl, hi, by rw [hst], ?_⟩
      rw [hst]
      refine ⟨e3, fun hne => ?_, e4.at (o12.at H.text id) fun e => H.ne e.2 e.1, H.newT, fun _ => ?_, (H.only.trans o12).fresh e4 fun x hx => by rw [hx.1]; exact (H.ll.top hx.2).2⟩
      · exact (e3.each ls.length _ b (by simp) (by rw [← H.ll.len]; simp) hne).1
      · have := o12.1
        rcases e5 with ⟨rfl, hl⟩ | rfl
        · exact H.ne hl
        · omega
    have := hq _ hnext
    simp only [envO] at this
    simp [c43_r15, c43_r16, c43_r17, build_sl, e1, e2, hwr]
    simpa using this

/-- 'Ends' of the chain. -/
theorem ends_chain {h : Heap} {s : Txt} {l : List Cont} {v : AV} (hv : SlC h v l) (hsm : ∀ c ∈ l, c.small) (hsl : s.length ≤ 100000) (hll : l.length ≤ 1000) :
    ∃ h' B bs, D cfg 43 [v, .str s] h = some (llSl B bs (endsAll l s).1, h') ∧ LL h h' B bs (endsAll l s).1 ∧ Only (fun _ => False) h h' := by
  have key : ∃ r h', D cfg 43 [v, .str s] h = some (r, h') ∧ (∃ B bs, r = llSl B bs (endsAll l s).1 ∧ LL h h' B bs (endsAll l s).1 ∧ Only (fun _ => False) h h') := by
    refine call43 (R := fun r h' => ∃ B bs, r = llSl B bs (endsAll l s).1 ∧ LL h h' B bs (endsAll l s).1 ∧ Only (fun _ => False) h h') (args := [v, .str s]) (h := h) (by simp) ?_
    obtain ⟨h1, e1, o1⟩ := fold_auto (h := h) (s := s) (by omega)
    have hlen := fun L => hv.len (L := L)
    have H0 : OutI h (h1 ++ [.cells [.str s, .str (fold s)] 122 false]) s h1.length 0 [] 0 [] [] :=
      ⟨⟨rfl, fun e => absurd rfl e, fun i q b hq => by simp at hq⟩, fun e => absurd rfl e, by simp, o1.1, fun e => absurd rfl e, o1.trans .app⟩
    simp [c43, c43_r0, c43_r1, c43_r2, c43_r3, c43_r4, e1, abuild, afill, zeros, astore, splice, len1, hlen]
    refine Wt.loop (Out43 h s l v h1.length) (m := l.length) ⟨0, 0, [], 0, _, rfl, Nat.zero_le _, rfl, H0⟩ ?_
    rintro m st ⟨i, B, bs, ba, h2, rfl, hi, rfl, H⟩
    have hcut : cut (some [1, 5, 6, 7, 16, 17, 18]) (envO s h1.length (llSl B bs (endsAll (l.take i) s).1) (intSl ba (endsAll (l.take i) s).2) v l.length i) = envO s h1.length (llSl B bs (endsAll (l.take i) s).1) (intSl ba (endsAll (l.take i) s).2) v l.length i := by simp
    simp only [hcut]
    by_cases hil : i < l.length
    · refine ends_outer hv hsm hsl hll hil H fun st hst => ⟨_, ?_, hst⟩
      omega
    · have : i = l.length := by omega
      subst this
      rw [List.take_length] at H ⊢
      have hfin : ∃ B' bs', llSl B bs (endsAll l s).1 = llSl B' bs' (endsAll l s).1 ∧ LL h h2 B' bs' (endsAll l s).1 ∧ Only (fun _ => False) h h2 := ⟨B, bs, rfl, H.ll, H.only⟩
      simp [c43_l5, c43_r5, c43_r18]
      exact ⟨bufSl_nt, hfin⟩
  obtain ⟨r, h', h1, B, bs, rfl, h2⟩ := key
  exact ⟨h', B, bs, h1, h2⟩

end Go.AM
