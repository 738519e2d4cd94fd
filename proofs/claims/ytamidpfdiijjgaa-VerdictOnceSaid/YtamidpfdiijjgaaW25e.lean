/-
  What the law VerdictOnce stands on, part 5.
-/
import Derived.Test.YtamidpfdiijjgaaW25d
import Derived.Test.YtamidpfdiijjgaaL25
namespace Go.AM
open Go Go.Proofs Go.RowKit
set_option linter.unusedVariables false
set_option linter.unusedSimpArgs false
set_option maxRecDepth 100000
section
theorem min2 {a b : Int} : amin [.int .i64 a, .int .i64 b] = some (.int .i64 (min a b)) := by
 simp only [amin, List.foldl, amin1, if_true]
 congr 2
 split <;> omega
section
variable {h : Heap} {xb lb cb sb : Nat} {lv nv : AV} {BB : AB} {al : List AskH} {sl : List AskS} {ct : List (Nat × Nat)} {pl : List Txt} {nc : List Bool} {w : Txt} {tab : Nat → Nat → Nat} {fl ob : Nat → Nat} {ou : Nat → List Int}
theorem SideAt.keep (H : SideAt h xb lb cb sb lv nv BB al sl ct pl nc w tab fl ob ou) {h' : Heap} {fp : Nat → Prop} (ho : Only fp h h')
  (hk : ∀ c, fp c → ∀ cs t g, h[c]? = some (.cells cs t g) → t ≠ 144 ∧ t ≠ 147 ∧ t ≠ 181 ∧ t ≠ 166 ∧ t ≠ 4 ∧ t ≠ 148 ∧ t ≠ 164 ∧ t ≠ 163 ∧ t ≠ 168) (hs : ∀ c, scFoot sb lv nv BB (begs (pl.map fold)).length ob ou c → ¬ fp c) :
  SideAt h' xb lb cb sb lv nv BB al sl ct pl nc w tab fl ob ou := by
 have out : ∀ {c : Nat} {cs' : List AV} {t : TypeId} {g : Bool}, h[c]? = some (.cells cs' t g) → (t = 144 ∨ t = 147 ∨ t = 181 ∨ t = 166 ∨ t = 4 ∨ t = 148 ∨ t = 164 ∨ t = 163 ∨ t = 168) → ¬ fp c := fun hc ht e => by
  obtain ⟨q1, q2, q3, q4, q5, q6, q7, q8, q9⟩ := hk _ e _ _ _ hc
  rcases ht with rfl | rfl | rfl | rfl | rfl | rfl | rfl | rfl | rfl
  · exact q1 rfl
  · exact q2 rfl
  · exact q3 rfl
  · exact q4 rfl
  · exact q5 rfl
  · exact q6 rfl
  · exact q7 rfl
  · exact q8 rfl
  · exact q9 rfl
 refine ⟨H.r.keep ho (out H.r.kx (by simp)) (fun hne => out (H.r.kl hne) (by simp)) (fun k a ha => ?_) (fun c cs t ht hc => out hc (by rcases ht with rfl | rfl <;> simp)), fun hne => ho.at (H.c hne) (out (H.c hne) (by simp)), H.s.keep ho hs, H.ok, H.cl, fun c hc => ?_⟩
 · obtain ⟨s, _, A⟩ := H.r.ak.get ha
   refine ⟨out A.hdr (by simp), out A.ends (by simp), fun c hc => ?_⟩
   obtain ⟨cs, t, q1, q2⟩ := A.trk.typ hc
   exact out q1 (by rcases q2 with e | e | e <;> simp [e])
 · obtain ⟨p1, p2, p3, p4⟩ := H.ap c hc
   exact ⟨Nat.lt_of_lt_of_le p1 ho.1, p2, p3, p4⟩
theorem SideAt.same (H : SideAt h xb lb cb sb lv nv BB al sl ct pl nc w tab fl ob ou) {h' : Heap} (ho : Only (fun _ => False) h h') : SideAt h' xb lb cb sb lv nv BB al sl ct pl nc w tab fl ob ou :=
 H.keep ho (fun _ e => e.elim) fun _ _ => id
theorem SideAt.out (H : SideAt h xb lb cb sb lv nv BB al sl ct pl nc w tab fl ob ou) {h' : Heap} (ho : Only (fun c => sideF xb sb al c ∨ h.length ≤ c) h h') {c : Nat} {cs : List AV} {t : TypeId} {g : Bool} (hc : h[c]? = some (.cells cs t g))
  (ht : t ≠ 163 ∧ t ≠ 136 ∧ t ≠ 166 ∧ t ≠ 144 ∧ t ≠ 147 ∧ t ≠ 181 ∧ t ≠ 4) : h'[c]? = some (.cells cs t g) := by
 refine ho.at hc fun e => ?_
 rcases e with e | e
 · obtain ⟨cs', t', g', h1, h2, _⟩ := H.typ e
   rw [hc] at h1
   simp only [Option.some.injEq, AObj.cells.injEq] at h1
   rw [← h1.2.1] at h2
   obtain ⟨q1, q2, q3, q4, q5, q6, q7⟩ := ht
   rcases h2 with e | e | e | e | e | e | e
   · exact q1 e
   · exact q2 e
   · exact q3 e
   · exact q4 e
   · exact q5 e
   · exact q6 e
   · exact q7 e
 · have := lt_of_at hc; omega
end
theorem stepS_T {stp : AskS → TS} {s : AskS} : (stepS stp s).T = s.T ∨ (stepS stp s).T = stp s := by
 unfold stepS
 split
 · exact .inl rfl
 · unfold toldS
   split <;> exact .inr rfl
theorem stepSl_at {ct : List (Nat × Nat)} {sl : List AskS} {zs : List Int} {n : Nat} (h : ∀ s ∈ sl, s.T.at_ ≤ n) : ∀ s ∈ stepSl ct sl zs, s.T.at_ ≤ n + 1 := by
 intro s hs
 obtain ⟨t, ht, e⟩ := setsTo_T hs
 obtain ⟨u, hu, rfl⟩ := List.mem_map.1 ht
 obtain ⟨x, hx, e2⟩ := setsTo_T hu
 have h1 := h x hx
 rw [e]
 rcases stepS_T (stp := stpS) (s := u) with h3 | h3
 · rw [h3, e2]; omega
 · rw [h3]
   have := stepT_atle (T := u.T) (e := u.ends)
   rw [e2] at this
   show (stepT u.T u.ends).at_ ≤ n + 1
   rw [e2]; omega
theorem stepSl_len {ct : List (Nat × Nat)} {sl : List AskS} {zs : List Int} : (stepSl ct sl zs).length = sl.length := by
 unfold stepSl
 rw [setsTo_len, List.length_map, setsTo_len]
theorem stepSl_N {ct : List (Nat × Nat)} {sl : List AskS} {zs : List Int} (H : SlN 0 sl) : SlN 0 (stepSl ct sl zs) := by
 unfold stepSl
 exact ((H.key (setsTo_key (b := true) (ct := ct) (zs := zs))).step stpS).key setsTo_key
theorem RulesN.slN {rs : List RuleV} (H : RulesN rs) {most : Nat} : SlN 0 (rs.map (askOf most)) := fun k s hs => by
 simp only [List.getElem?_map, Option.map_eq_some_iff] at hs
 obtain ⟨r, hr, rfl⟩ := hs
 have h := H.2 k r hr
 refine ⟨?_, h.act.1, h.act.2⟩
 have := h.sid
 simp only [askOf]
 rw [this]
 simp
theorem newTo_at {l : List Cont} {most : Nat} : ∀ {k : Nat}, (newTo l most k).at_ = 0 := (newTo_most).2.1
end
noncomputable abbrev F25 : CallF := mixed [79] (D cfg1)
theorem awake25c {h : Heap} : F25 79 [] h = some (.bool true, h) := awake24 rfl
theorem F25_D {f : FuncId} (hf : f ≠ 79) {args : List AV} {h : Heap} : F25 f args h = D cfg1 f args h := mixed_D (by simp [hf])
def upI (n : Nat) : List Int := (List.range n).map fun (i : Nat) => (i : Int)
theorem upI_len {n : Nat} : (upI n).length = n := by simp [upI]
theorem upI_succ {n : Nat} : upI (n + 1) = upI n ++ [(n : Int)] := by simp [upI, List.range_succ]
abbrev env25a (u : AV) (mo : Int) (rv w : AV) (i : Nat) : Env := [(1, u), (2, .int .i64 mo), (7, rv), (8, w), (9, .int .i64 i)]
def In25a (h₀ : Heap) (u : AV) (mo : Int) (rv : AV) (N : Nat) (m : Nat) (σ : St) : Prop := ∃ i b h, m = N - i ∧ i ≤ N ∧ σ = ⟨env25a u mo rv (intSl b (upI i)) i, h⟩ ∧ (upI i ≠ [] → h[b]? = some (.cells (intCells (upI i)) 3 true) ∧ h₀.length ≤ b) ∧ Only (fun _ => False) h₀ h
theorem ups_loop {h₀ : Heap} {u rv : AV} {mo : Int} {N : Nat} (hN : N ≤ 100) (hut : u.notTup = true) (hrt : rv.notTup = true) (hlen : ∀ L, alen Try.prog L 89 rv = some (.int .i64 N)) {Q : AExit → St → Prop}
  (hq : ∀ h b, (upI N ≠ [] → h[b]? = some (.cells (intCells (upI N)) 3 true)) → Only (fun _ => False) h₀ h → Q (.exit 0) ⟨env25a u mo rv (intSl b (upI N)) N ++ [(32, .bool false)], h⟩) :
  Wt Try.prog F25 (.loop c25_l6 (some [1, 2, 7, 8, 9])) ⟨env25a u mo rv (.sl none 0 0) 0, h₀⟩ Q := by
 refine Wt.loop (In25a h₀ u mo rv N) (m := N) ⟨0, 0, h₀, rfl, Nat.zero_le _, by simp [upI, intSl, bufSl], fun e => absurd rfl e, .refl⟩ ?_
 rintro m σ ⟨i, b, h, rfl, hi, rfl, hb, ho⟩
 have hcut : ∀ w, cut (some [1, 2, 7, 8, 9]) (env25a u mo rv w i) = env25a u mo rv w i := fun _ => by simp
 simp only [hcut]
 have n1 : (intSl b (upI i)).notTup = true := intSl_notTup
 by_cases hil : i < N
 · have hil' : (i : Int) < N := by omega
   have hwr : IntKind.wrap .i64 ((i : Int) + 1) = i + 1 := wrap_i64 (by omega) (by omega)
   obtain ⟨δ, h', e1, e2, d, o⟩ := append_int (h := h) (b := b) (l := upI i) (x := (i : Int)) (fun hne => (hb hne).1) (by rw [upI_len]; omega)
   rw [← upI_succ] at e1 d
   obtain ⟨b', hb'⟩ : ∃ y, (if upI i = [] then h.length + 1 else b) = y := ⟨_, rfl⟩
   rw [hb'] at e1 d
   have hnext : In25a h₀ u mo rv N (N - (i + 1)) ⟨env25a u mo rv (intSl b' (upI (i + 1))) (i + 1), h'⟩ := by
    refine ⟨i + 1, b', h', rfl, hil, rfl, fun _ => ⟨d, ?_⟩, ho.fresh o fun c hc => by rw [hc.1]; exact (hb hc.2).2⟩
    rw [← hb']
    have := ho.1
    split
    · omega
    · rename_i hz; exact (hb hz).2
   have n2 : (intSl b' (upI (i + 1))).notTup = true := intSl_notTup
   simp only [env25a] at hnext
   generalize intSl b (upI i) = x1 at *
   generalize intSl b' (upI (i + 1)) = x2 at *
   simp [-AV.notTup, hut, hrt, n1, n2, notTup_ptr, c25_l6, c25_r6, c25_r7, c25_r8, len1, hlen, hil, hil', abuildSlice, afill, zeros, splice, e1, e2, hwr]
   exact ⟨N - (i + 1), by omega, by simpa using hnext⟩
 · have hi2 : i = N := by omega
   subst hi2
   have hfin := hq h b (fun hne => (hb hne).1) ho
   simp only [env25a] at hfin
   generalize intSl b (upI i) = x1 at *
   simp [-AV.notTup, hut, hrt, n1, notTup_ptr, c25_l6, c25_r6, len1, hlen]
   simpa using hfin
abbrev env25n (xp bp tp : AV) (i : Nat) (nv : AV) (W worst : Int) (j : Nat) : Env := [(10, xp), (11, bp), (12, tp), (13, .int .i64 i), (14, nv), (15, .int .i64 W), (16, .int .i64 worst), (17, .int .i64 j)]
abbrev bPtr (bt : Nat) : AV := .ptr (some ⟨bt, 0, 200⟩)
def In25n (hA : Heap) (bt : Nat) (xp tp : AV) (i : Nat) (nv : AV) (W : Int) (ns : List Note) (arr : List Bool) (m : Nat) (σ : St) : Prop := ∃ j h B, m = ns.length - j ∧ j ≤ ns.length ∧ σ = ⟨env25n xp (bPtr bt) tp i nv W (worstM (ns.take j)) j, h⟩ ∧
 h[bt]? = some (.cells (boolCells B) 93 false) ∧ B.length = 200 ∧ (∀ k : Nat, B[k]? = some true → arr[k]? = some true ∨ ∃ x ∈ ns.take j, 0 < x.sid ∧ x.sid = k) ∧ Only (fun c => c = bt) hA h
theorem told_loop25 {hA : Heap} {bt i : Nat} {xp tp nv : AV} {W : Int} {ns : List Note} {arr : List Bool} (hxt : xp.notTup = true) (htt : tp.notTup = true) (hnt : nv.notTup = true) (hN : NotesAt hA nv ns) (K : NotesOK ns i arr) (hl : ns.length ≤ 100) (ha : hA[bt]? = some (.cells (boolCells arr) 93 false)) (hal : arr.length = 200) {Q : AExit → St → Prop}
  (hq : ∀ h B, h[bt]? = some (.cells (boolCells B) 93 false) → B.length = 200 → (∀ k : Nat, B[k]? = some true → arr[k]? = some true ∨ ∃ x ∈ ns, 0 < x.sid ∧ x.sid = k) → Only (fun c => c = bt) hA h →
   Q (.exit 4) ⟨env25n xp (bPtr bt) tp i nv W (worstM ns) ns.length ++ [(77, .bool false)], h⟩) :
  Wt Try.prog F25 (.loop c25_l24 (some [10, 11, 12, 13, 14, 15, 16, 17])) ⟨env25n xp (bPtr bt) tp i nv W 0 0, hA⟩ Q := by
 have nl := fun L => hN.len (L := L)
 have hN0 := hN
 refine Wt.loop (In25n hA bt xp tp i nv W ns arr) (m := ns.length) ⟨0, hA, arr, rfl, Nat.zero_le _, rfl, ha, hal, fun k hk => .inl hk, .refl⟩ ?_
 rintro m σ ⟨j, h, B, rfl, hj, rfl, hB, hBl, hBk, o⟩
 have hcut : ∀ w, cut (some [10, 11, 12, 13, 14, 15, 16, 17]) (env25n xp (bPtr bt) tp i nv W w j) = env25n xp (bPtr bt) tp i nv W w j := fun _ => by simp
 simp only [hcut]
 have hbt : ∀ c cs g, hA[c]? = some (.cells cs 99 g) → c ≠ bt := fun c cs g hc e => by
  rw [e, ha] at hc
  simp only [Option.some.injEq, AObj.cells.injEq] at hc
  exact absurd hc.2.1 (by decide)
 obtain ⟨nk, hnv, hnb⟩ := hN
 have hff := fun {h' : Heap} (o' : Only (fun c => c = bt) hA h') => notes_flds (h := h') hnv fun hne => o'.at (hnb hne) (hbt _ _ _ (hnb hne))
 have hf := hff o
 by_cases hjl : j < ns.length
 · have hjl' : (j : Int) < ns.length := by omega
   have hwr : IntKind.wrap .i64 ((j : Int) + 1) = j + 1 := wrap_i64 (by omega) (by omega)
   obtain ⟨x, hx⟩ : ∃ x, ns[j]? = some x := ⟨_, List.getElem?_eq_getElem hjl⟩
   have hxm := List.mem_of_getElem? hx
   obtain ⟨a0, l0, l1, l2, l3⟩ := hf j x hx
   have hat := K.at_ x hxm
   rw [hat] at l2
   have hr := K.rng x hxm
   obtain ⟨S, hS⟩ : ∃ S : Nat, x.sid = S := ⟨x.sid.toNat, by omega⟩
   rw [hS] at l0
   have hS2 : S < 200 := by omega
   have s1 : ¬ ((S : Int) < 0) := by omega
   have s2 : ¬ ((200 : Int) ≤ S) := by omega
   have s2' : ¬ (200 ≤ S) := by omega
   have s3 : (S : Int) < 200 := by omega
   have ia : aindexAddr Try.prog 93 (bPtr bt) (.int .i64 S) = some (.ptr (some ⟨bt, S, 200⟩)) := by simp [aindexAddr, hS2, s3]
   obtain ⟨bS, hbS⟩ : ∃ bS, B[S]? = some bS := ⟨_, List.getElem?_eq_getElem (by omega)⟩
   have lB : aload Try.prog (look h) 4 (.ptr (some ⟨bt, S, 200⟩)) = some (.bool bS) := by
    have hcl : (boolCells B).length = 200 := by rw [boolCells_len, hBl]
    have hg : (boolCells B)[S]? = some (.bool bS) := by simp [boolCells, hbS]
    simp [aload, AM.row, hB, hcl, hg]
   have hcl : (boolCells B).length = 200 := by rw [boolCells_len, hBl]
   have htk : ns.take (j + 1) = ns.take j ++ [x] := by
    rw [List.take_succ_eq_append_getElem hjl]
    simp [(List.getElem?_eq_some_iff.1 hx).2]
   have hwm : worstM (ns.take (j + 1)) = max (worstM (ns.take j)) x.action := by rw [htk, worstM_snoc]
   have stp : ∀ w : Bool, ∃ h2, astore Try.prog (look h) 4 (.ptr (some ⟨bt, S, 200⟩)) (.bool w) = some (.set bt (.cells (boolCells (B.set S w)) 93 false)) ∧ h.set bt (.cells (boolCells (B.set S w)) 93 false) = h2 ∧ h2[bt]? = some (.cells (boolCells (B.set S w)) 93 false) ∧ Only (fun c => c = bt) h h2 := fun w => by
    have s := cell_store hB hcl (t := 4) (by simp) (v := .bool w) rfl (off := S) hS2
    rw [boolCells_set] at s
    exact ⟨_, s, rfl, at_same (lt_of_at hB), .set rfl⟩
   obtain ⟨G, hG⟩ : ∃ G, (notesC ns).length = G := ⟨_, rfl⟩
   rw [hG] at a0 l0 l1 l2 l3
   obtain ⟨w0, hw0⟩ : ∃ w0, worstM (ns.take j) = w0 := ⟨_, rfl⟩
   rw [hw0] at hwm ⊢
   by_cases hS0 : S = 0
   ·
    obtain ⟨q1, q2⟩ := K.zero j x hx (by omega)
    rw [q1] at l3 hwm
    obtain ⟨h2, st, hh2, g2, o2⟩ := stp bS
    have hid : B.set S bS = B := set_id hbS
    obtain ⟨_, _, _, _, l5⟩ := hff (o.trans o2) j x hx
    rw [hG, q1] at l5
    rw [hid] at st hh2 g2
    have hnext : In25n hA bt xp tp i nv W ns arr (ns.length - (j + 1)) ⟨env25n xp (bPtr bt) tp i nv W (max w0 4) (j + 1), h2⟩ :=
     ⟨j + 1, h2, B, rfl, hjl, by rw [hwm], g2, hBl, fun k hk => by
      rcases hBk k hk with e | ⟨y, hy, e⟩
      · exact .inl e
      · exact .inr ⟨y, by rw [htk]; exact List.mem_append_left _ hy, e⟩, o.trans o2⟩
    obtain ⟨M, hM⟩ : ∃ M, ns.length = M := ⟨_, rfl⟩
    rw [hM] at nl hjl hjl' q2 hnext
    have wM : IntKind.wrap .i64 ((M : Int) - 1) = j := by rw [wrap_i64 (by omega) (by omega)]; omega
    subst hS0
    have hj0 : ∀ J, j = J + 1 → True := fun _ _ => trivial
    simp only [env25n] at hnext
    rw [show ((0 : Nat) : Int) = 0 from rfl] at l0 ia
    rw [hM]
    by_cases hj1 : 0 < j
    · have hj1' : (0 : Int) < j := by omega
      cases bS <;>
      · simp [-AV.notTup, hxt, htt, hnt, notTup_ptr, c25_l24, c25_r24, c25_r25, c25_r26, c25_r28, c25_r29, len1, nl, hjl, hjl', a0, fieldA, l0, l1, l2, l3, wM, hj1, hj1', ia, lB, st, hh2, l5, max2, hwr]
        exact ⟨M - (j + 1), by omega, by simpa using hnext⟩
    · have hj1' : ¬ ((0 : Int) < j) := by omega
      cases bS <;>
      · simp [-AV.notTup, hxt, htt, hnt, notTup_ptr, c25_l24, c25_r24, c25_r25, c25_r26, c25_r28, c25_r29, len1, nl, hjl, hjl', a0, fieldA, l0, l1, l2, l3, wM, hj1, hj1', ia, lB, st, hh2, l5, max2, hwr]
        exact ⟨M - (j + 1), by omega, by simpa using hnext⟩
   · have hp : 0 < x.sid := by omega
     have hSp : (0 : Int) < S := by omega
     have hSp' : 0 < S := by omega
     have hSn : ¬ ((S : Int) = 0) := by omega
     have hbF : bS = false := by
      cases hb2 : bS with
      | false => rfl
      | true =>
       rw [hb2] at hbS
       rcases hBk S hbS with e | ⟨y, hy, e1, e2⟩
       · exact absurd e (by have := K.fresh x hxm hp; rwa [hS, Int.toNat_natCast] at this)
       · obtain ⟨j', hj', hy'⟩ := List.mem_take_iff_getElem.1 hy
         have hj2 : j' < j := by omega
         have := K.rise j j' y x hj2 (by rw [← hy']; exact List.getElem?_eq_getElem _) hx hp
         omega
     rw [hbF] at hbS lB
     obtain ⟨h2, st, hh2, g2, o2⟩ := stp true
     obtain ⟨_, _, _, _, l5⟩ := hff (o.trans o2) j x hx
     rw [hG] at l5
     have hnext : In25n hA bt xp tp i nv W ns arr (ns.length - (j + 1)) ⟨env25n xp (bPtr bt) tp i nv W (max w0 x.action) (j + 1), h2⟩ :=
      ⟨j + 1, h2, B.set S true, rfl, hjl, by rw [hwm], g2, by rw [List.length_set]; exact hBl, fun k hk => by
       by_cases hkS : S = k
       · exact .inr ⟨x, by rw [htk]; simp, hp, by omega⟩
       · rw [List.getElem?_set_ne hkS] at hk
         rcases hBk k hk with e | ⟨y, hy, e⟩
         · exact .inl e
         · exact .inr ⟨y, by rw [htk]; exact List.mem_append_left _ hy, e⟩, o.trans o2⟩
     obtain ⟨M, hM⟩ : ∃ M, ns.length = M := ⟨_, rfl⟩
     rw [hM] at nl hjl hjl' hnext
     simp only [env25n] at hnext
     rw [hM]
     by_cases hj1 : 0 < j
     · obtain ⟨J, rfl⟩ : ∃ J, j = J + 1 := ⟨j - 1, by omega⟩
       obtain ⟨y, hy⟩ : ∃ y, ns[J]? = some y := ⟨_, List.getElem?_eq_getElem (by omega)⟩
       obtain ⟨a4, l4, _⟩ := hf J y hy
       rw [hG] at a4 l4
       have hlt := K.rise (J + 1) J y x (by omega) hy hx hp
       have hle : ¬ ((S : Int) ≤ y.sid) := by omega
       have hj1' : (0 : Int) < (J : Int) + 1 := by omega
       have wJ : IntKind.wrap .i64 (J : Int) = J := wrap_i64 (by omega) (by omega)
       have hcj : ((J + 1 : Nat) : Int) = (J : Int) + 1 := by omega
       rw [hcj] at hjl' a0 hwr
       simp [-AV.notTup, hxt, htt, hnt, notTup_ptr, c25_l24, c25_r24, c25_r25, c25_r26, c25_r28, c25_r29, len1, nl, hjl, hjl', a0, fieldA, l0, l1, l2, l3, s1, s2, s2', hSp, hSp', hSn, hS0, hj1', wJ, a4, l4, hle, ia, lB, st, hh2, l5, max2, hwr]
       exact ⟨M - (J + 1 + 1), by omega, by simpa using hnext⟩
     · have hj1' : ¬ ((0 : Int) < j) := by omega
       simp [-AV.notTup, hxt, htt, hnt, notTup_ptr, c25_l24, c25_r24, c25_r25, c25_r26, c25_r28, c25_r29, len1, nl, hjl, hjl', a0, fieldA, l0, l1, l2, l3, s1, s2, s2', hSp, hSp', hSn, hS0, hj1, hj1', ia, lB, st, hh2, l5, max2, hwr]
       exact ⟨M - (j + 1), by omega, by simpa using hnext⟩
 · have hj2 : j = ns.length := by omega
   subst hj2
   rw [List.take_length] at hBk ⊢
   have hfin := hq h B hB hBl hBk o
   simp only [env25n] at hfin
   generalize worstM ns = w0 at *
   obtain ⟨M, hM⟩ : ∃ M, ns.length = M := ⟨_, rfl⟩
   rw [hM] at nl hfin ⊢
   simp [-AV.notTup, hxt, htt, hnt, notTup_ptr, c25_l24, c25_r24, len1, nl]
   simpa using hfin
theorem SliceIn.ok {w : World} {k : Nat} {a : Option Addr} {len cap : Nat} {xs : List AV} {b : Nat} (h : SliceIn w k a len cap xs) : slOK (inSl b a len cap xs) := by
 rcases h with ⟨rfl, rfl, rfl, rfl⟩ | ⟨x, rfl, h1, _⟩
 · exact Nat.le_refl 0
 · exact h1
section
section
variable {xb lb cb sb : Nat} {lv nv : AV} {BB : AB} {ct : List (Nat × Nat)} {pl : List Txt} {nc : List Bool} {tab : Nat → Nat → Nat} {fl ob : Nat → Nat} {ou : Nat → List Int}
abbrev env25o (xb bt : Nat) (t : Txt) (i : Nat) : Env := [(10, xPtr xb), (11, bPtr bt), (12, .str t), (13, .int .i64 i)]
structure OI (h : Heap) (xb lb cb sb : Nat) (lv nv : AV) (BB : AB) (al : List AskH) (sl : List AskS) (ct : List (Nat × Nat)) (pl : List Txt) (nc : List Bool) (w : Txt) (tab : Nat → Nat → Nat) (fl ob : Nat → Nat) (ou : Nat → List Int) (bt : Nat) (arr : List Bool) (n : Nat) : Prop where
 sd : SideAt h xb lb cb sb lv nv BB al sl ct pl nc w tab fl ob ou
 num : SlN 0 sl
 len : sl.length ≤ 6
 tld : ToldBy arr sl
 a : h[bt]? = some (.cells (boolCells arr) 93 false)
 al : arr.length = 200
 at_ : ∀ s ∈ sl, s.T.at_ ≤ n
 ap : ∀ c, scFoot sb lv nv BB (begs (pl.map fold)).length ob ou c → c ≠ bt
def In25o (xb lb cb sb : Nat) (lv nv : AV) (BB : AB) (ct : List (Nat × Nat)) (pl : List Txt) (nc : List Bool) (tab : Nat → Nat → Nat) (fl ob : Nat → Nat) (ou : Nat → List Int) (bt : Nat) (t : Txt) (m : Nat) (σ : St) : Prop :=
 ∃ i al sl h arr, m = t.length + 1 - i ∧ i ≤ t.length + 1 ∧ σ = ⟨env25o xb bt t i, h⟩ ∧ OI h xb lb cb sb lv nv BB al sl ct pl nc (t.take (i - 1)) tab fl ob ou bt arr i
theorem byte25 {h2 : Heap} {bt i : Nat} {t : Txt} {v : AV} {al2 : List AskH} {sl2 : List AskS} {arr : List Bool} {ns : List Note} {W : Int} (ht : t.length ≤ 100) (hi : i ≤ t.length) (S2 : SideAt h2 xb lb cb sb lv nv BB al2 sl2 ct pl nc (t.take i) tab fl ob ou)
  (N2 : NotesAt h2 v ns) (v2 : v.notTup = true) (hW : W = worstM ns) (K : NotesOK ns i arr) (hnl : ns.length ≤ 100) (g2 : h2[bt]? = some (.cells (boolCells arr) 93 false)) (hal : arr.length = 200)
  (hN : SlN 0 sl2) (hl : sl2.length ≤ 6) (hat : ∀ s ∈ sl2, s.T.at_ ≤ i + 1) (hap : ∀ c, scFoot sb lv nv BB (begs (pl.map fold)).length ob ou c → c ≠ bt)
  (hT : ∀ B : List Bool, (∀ k : Nat, B[k]? = some true → arr[k]? = some true ∨ ∃ x ∈ ns, 0 < x.sid ∧ x.sid = k) → ToldBy B sl2) {Q : AExit → St → Prop}
  (hq : ∀ st, In25o xb lb cb sb lv nv BB ct pl nc tab fl ob ou bt t (t.length + 1 - (i + 1)) st → Q .normal st) :
  Wt Try.prog F25 (.seq (.reg c25_r22 none (some [10, 11, 12, 13, 14, 15, 16])) (.seq (.seq (.reg c25_r23 none (some [10, 11, 12, 13, 14, 15, 16, 17])) (.block 4 (.loop c25_l24 (some [10, 11, 12, 13, 14, 15, 16, 17])))) (.seq (.reg c25_r30 none (some [10, 11, 12, 13, 213])) (.cond (.tmp 213) (.seq (.reg c25_r31 none (some [6])) .ret) .skip (some [10, 11, 12, 13])))))
   ⟨env25o xb bt t i ++ [(14, v), (15, .int .i64 W)], h2⟩ (inBlock 3 (andThen (fun s' => Wt Try.prog F25 (.reg c25_r16 none (some [10, 11, 12, 13])) s' Q) Q)) := by
 have wr : IntKind.wrap .i64 ((i : Int) + 1) = i + 1 := wrap_i64 (by omega) (by omega)
 have hloop := fun Q hq => told_loop25 (hA := h2) (bt := bt) (i := i) (xp := xPtr xb) (tp := .str t) (nv := v) (W := W) (Q := Q) rfl rfl v2 N2 K hnl g2 hal hq
 simp only [env25n] at hloop
 rw [show ((0 : Nat) : Int) = 0 from rfl] at hloop
 simp [-AV.notTup, v2, notTup_ptr, c25_r22, c25_r23]
 refine hloop _ fun h3 B g3 hB hBk o3 => ?_
 have S3 := S2.keep o3 (fun c hc cs t g hg => by
  rw [hc, g2] at hg
  simp only [Option.some.injEq, AObj.cells.injEq] at hg
  rw [← hg.2.1]
  decide) hap
 have e3 := lift (at_run S3.r)
 have hlen : (t.take i).length = i := by rw [List.length_take]; omega
 rw [hlen] at e3
 have hnext : In25o xb lb cb sb lv nv BB ct pl nc tab fl ob ou bt t (t.length + 1 - (i + 1)) ⟨env25o xb bt t (i + 1), h3⟩ :=
  ⟨i + 1, al2, sl2, h3, B, rfl, by omega, rfl, ⟨S3, hN, hl, hT B hBk, g3, hB, hat, hap⟩⟩
 have hfin := hq _ hnext
 simp only [env25o] at hfin
 rw [hW]
 generalize worstM ns = w0 at *
 simp [-AV.notTup, v2, notTup_ptr, c25_r30, c25_r16, F25_D, e3, wr]
 simpa using hfin
theorem bytes_loop25 {h : Heap} {bt : Nat} {t : Txt} {al : List AskH} {sl : List AskS} {arr : List Bool} (ht : t.length ≤ 100) (I : OI h xb lb cb sb lv nv BB al sl ct pl nc [] tab fl ob ou bt arr 0) {Q : AExit → St → Prop}
  (hq : ∀ h', Q (.exit 2) ⟨env25o xb bt t (t.length + 1) ++ [(55, .bool false)], h'⟩) :
  Wt Try.prog F25 (.loop c25_l15 (some [10, 11, 12, 13])) ⟨env25o xb bt t 0, h⟩ Q := by
 refine Wt.loop (In25o xb lb cb sb lv nv BB ct pl nc tab fl ob ou bt t) (m := t.length + 1) ⟨0, al, sl, h, arr, rfl, Nat.zero_le _, rfl, by simpa using I⟩ ?_
 rintro m σ ⟨i, al1, sl1, h1, arr1, rfl, hi, rfl, I1⟩
 have hcut : cut (some [10, 11, 12, 13]) (env25o xb bt t i) = env25o xb bt t i := by simp
 simp only [hcut]
 have hsl1 : sl1.length ≤ 1000 := Nat.le_trans I1.len (by decide)
 by_cases hil : i ≤ t.length
 · have hil' : (i : Int) ≤ t.length := by omega
   unfold c25_l15
   by_cases hi0 : i = 0
   · subst hi0
     have S1 := I1.sd
     simp only [Nat.zero_sub, List.take_zero] at S1
     obtain ⟨v, al2, h2, e2, N2, v2, S2, o2, f2⟩ := begin_side S1 hsl1 rfl
     have e2' : D cfg1 82 [xPtr xb] h1 = some (.tup [v, .int .i64 (worstM (toldNotes (fun s => s.T) 0 sl1))], h2) := e2
     have K := notes_ok (stp := fun s => s.T) (n := 0) I1.num I1.len I1.tld
     have hnl : (toldNotes (fun s => s.T) 0 sl1).length ≤ 100 := by
      have := toldNotes_len (stp := fun s => s.T) (n := 0) (sl := sl1)
      have := I1.len
      omega
     have g2 := S1.out o2 I1.a ⟨by decide, by decide, by decide, by decide, by decide, by decide, by decide⟩
     have hat : ∀ s ∈ sl1.map (stepS fun s => s.T), s.T.at_ ≤ 0 + 1 := fun s hs => by
      obtain ⟨u, hu, rfl⟩ := List.mem_map.1 hs
      have := I1.at_ u hu
      rcases stepS_T (stp := fun s => s.T) (s := u) with e | e <;> rw [e] <;> omega
     have hT : ∀ B : List Bool, (∀ k : Nat, B[k]? = some true → arr1[k]? = some true ∨ ∃ x ∈ toldNotes (fun s => s.T) 0 sl1, 0 < x.sid ∧ x.sid = k) → ToldBy B (sl1.map (stepS fun s => s.T)) := fun B hB => told_next I1.num I1.tld hB
     have T := fun Q hq => byte25 (Q := Q) (t := t) (i := 0) ht (by omega) (by simpa using S2) N2 v2 rfl K hnl g2 I1.al (I1.num.step _) (by rw [List.length_map]; exact I1.len) hat I1.ap hT hq
     generalize hU : (SC.seq (.reg c25_r22 none (some [10, 11, 12, 13, 14, 15, 16])) (.seq (.seq (.reg c25_r23 none (some [10, 11, 12, 13, 14, 15, 16, 17])) (.block 4 (.loop c25_l24 (some [10, 11, 12, 13, 14, 15, 16, 17])))) (.seq (.reg c25_r30 none (some [10, 11, 12, 13, 213])) (.cond (.tmp 213) (.seq (.reg c25_r31 none (some [6])) .ret) .skip (some [10, 11, 12, 13]))))) = U at *
     simp only [env25o, List.cons_append, List.nil_append] at T
     rw [show ((0 : Nat) : Int) = 0 from rfl] at T
     generalize worstM (toldNotes (fun s => s.T) 0 sl1) = w0 at *
     simp [-AV.notTup, v2, notTup_ptr, c25_r15, c25_r17, c25_r18, c25_r19, c25_r20, len1, alenS, F25_D, e2', extractV]
     refine T _ fun st hst => ⟨_, ?_, hst⟩
     omega
   · obtain ⟨J, rfl⟩ : ∃ J, i = J + 1 := ⟨i - 1, by omega⟩
     have S1 := I1.sd
     simp only [Nat.add_sub_cancel] at S1
     have hJ : J < t.length := by omega
     obtain ⟨b, hb⟩ : ∃ b, t[J]? = some b := ⟨_, List.getElem?_eq_getElem hJ⟩
     have hcj : ((J + 1 : Nat) : Int) = (J : Int) + 1 := by omega
     have wJ : IntKind.wrap .i64 (J : Int) = J := wrap_i64 (by omega) (by omega)
     have hwl : (t.take J).length = J := by rw [List.length_take]; omega
     obtain ⟨zs, hzs⟩ : ∃ zs, zs = scHits nc (t.take J ++ [b]) pl 0 := ⟨_, rfl⟩
     obtain ⟨ns, hns⟩ : ∃ ns, ns = toldNotes stpS ((t.take J).length + 1) (setsTo true ct sl1 zs) := ⟨_, rfl⟩
     obtain ⟨v, al2, h2, e2, N2, v2, S2, o2, f2⟩ := step_side S1 hsl1 (fun s hs => by have := I1.at_ s hs; omega) (by rw [hwl]; omega) (b := b) hzs hns
     rw [hwl] at hns
     have htk : t.take J ++ [b] = t.take (J + 1) := by
      rw [List.take_succ_eq_append_getElem hJ, (List.getElem?_eq_some_iff.1 hb).2]
     rw [htk] at S2
     have hset := I1.num.key (setsTo_key (b := true) (ct := ct) (zs := zs))
     have hset2 : ToldBy arr1 (setsTo true ct sl1 zs) := I1.tld.key setsTo_key
     have hsl6 : (setsTo true ct sl1 zs).length ≤ 6 := by rw [setsTo_len]; exact I1.len
     have K := notes_ok (stp := stpS) (n := J + 1) hset hsl6 hset2
     rw [← hns] at K
     have hnl : ns.length ≤ 100 := by
      have := toldNotes_len (stp := stpS) (n := J + 1) (sl := setsTo true ct sl1 zs)
      rw [hns]
      omega
     have g2 := S1.out o2 I1.a ⟨by decide, by decide, by decide, by decide, by decide, by decide, by decide⟩
     have hat := stepSl_at (ct := ct) (zs := zs) I1.at_
     have hT : ∀ B : List Bool, (∀ k : Nat, B[k]? = some true → arr1[k]? = some true ∨ ∃ x ∈ ns, 0 < x.sid ∧ x.sid = k) → ToldBy B (stepSl ct sl1 zs) := fun B hB => by
      rw [hns] at hB
      exact (told_next hset hset2 hB).key setsTo_key
     have T := fun Q hq => byte25 (Q := Q) (t := t) (i := J + 1) ht (by omega) S2 N2 v2 rfl K hnl g2 I1.al (stepSl_N I1.num) (by rw [stepSl_len]; exact I1.len) hat I1.ap hT hq
     generalize hU : (SC.seq (.reg c25_r22 none (some [10, 11, 12, 13, 14, 15, 16])) (.seq (.seq (.reg c25_r23 none (some [10, 11, 12, 13, 14, 15, 16, 17])) (.block 4 (.loop c25_l24 (some [10, 11, 12, 13, 14, 15, 16, 17])))) (.seq (.reg c25_r30 none (some [10, 11, 12, 13, 213])) (.cond (.tmp 213) (.seq (.reg c25_r31 none (some [6])) .ret) .skip (some [10, 11, 12, 13]))))) = U at *
     simp only [env25o, List.cons_append, List.nil_append] at T ⊢
     rw [hcj] at T hil' ⊢
     have hne : ¬ ((J : Int) + 1 = 0) := by omega
     have hix : aindex Try.prog 9 (.str t) (.int .i64 (J : Int)) = some (.int .u8 (b.toNat : Int)) := by simp [aindex, hb]
     generalize worstM ns = w0 at *
     simp [-AV.notTup, v2, notTup_ptr, c25_r15, c25_r17, c25_r18, c25_r19, c25_r21, len1, alenS, hil', hne, wJ, hix, F25_D, e2, extractV]
     refine T _ fun st hst => ⟨_, ?_, hst⟩
     omega
 · have hi2 : i = t.length + 1 := by omega
   subst hi2
   have hfin := hq h1
   simp only [env25o] at hfin
   have hcj : ((t.length + 1 : Nat) : Int) = (t.length : Int) + 1 := by omega
   rw [hcj] at hfin
   have hle : ¬ ((t.length : Int) + 1 ≤ t.length) := by omega
   simp [c25_l15, c25_r15, len1, alenS, hle]
   simpa using hfin
end
theorem zero93 : tzero Try.prog 93 = some (.agg (boolCells (List.replicate 200 false))) := by
 kernel_rfl
theorem once_walk {h₀ : Heap} {v u : AV} {l t : List Int} {mo : Int} (hv : Sl1 h₀ v (intCells l)) (hu : Sl1 h₀ u (intCells t)) (hok : slOK v) (hl : l.length ≤ 9223372036854775807) (ht : t.length ≤ 9223372036854775807) :
  Wt Try.prog F25 c25 ⟨argsEnv 0 [v, u, .int .i64 mo], h₀⟩ (Ends Try.prog [.tmp 6] fun r _ => r = .bool true) := by
 have hvt : v.notTup = true := by rcases hv with ⟨rfl, _⟩ | ⟨_, _, _, _, _, rfl, _, _⟩ <;> rfl
 have hut : u.notTup = true := by rcases hu with ⟨rfl, _⟩ | ⟨_, _, _, _, _, rfl, _, _⟩ <;> rfl
 have hlen := fun L => hv.len (t := 30) (e := 3) (by simp) (L := L)
 have htlen := fun L => hu.len (t := 30) (e := 3) (by simp) (L := L)
 simp only [intCells_len] at hlen htlen
 by_cases hbig : 40 < l.length ∨ 60 < t.length
 · by_cases h1 : 40 < l.length
   · have h1' : (40 : Int) < l.length := by omega
     simp [-AV.notTup, hvt, hut, c25, c25_r0, c25_r1, c25_r2, len1, hlen, htlen, h1, h1', awake25c]
     rfl
   · have h1' : ¬ ((40 : Int) < l.length) := by omega
     have h2 : 60 < t.length := by omega
     have h2' : (60 : Int) < t.length := by omega
     simp [-AV.notTup, hvt, hut, c25, c25_r0, c25_r1, c25_r2, len1, hlen, htlen, h1, h1', h2, h2', awake25c]
     rfl
 · have h1 : ¬ (40 < l.length) := by omega
   have h1' : ¬ ((40 : Int) < l.length) := by omega
   have h2 : ¬ (60 < t.length) := by omega
   have h2' : ¬ ((60 : Int) < t.length) := by omega
   obtain ⟨rs, rb, hA, eA, RI, hN, _, oA⟩ := rules_run hv hok (by omega)
   replace eA := lift eA
   have n1 : (rulesSl rb rs).notTup = true := rulesSl_nt
   have rl := fun L => RI.len (L := L)
   have hr6 := hN.1
   obtain ⟨x1, hx1⟩ : ∃ x1, rulesSl rb rs = x1 := ⟨_, rfl⟩
   rw [hx1] at eA n1 rl
   have hups := fun Q hq => ups_loop (h₀ := hA) (u := u) (rv := x1) (mo := mo) (N := rs.length) (Q := Q) (by omega) hut n1 rl hq
   simp only [env25a] at hups
   rw [show ((0 : Nat) : Int) = 0 from rfl] at hups
   simp [-AV.notTup, hvt, hut, n1, c25, c25_r0, c25_r1, c25_r3, c25_r4, c25_r5, len1, hlen, htlen, h1, h1', h2, h2', F25_D, eA]
   refine hups _ fun hB b hb oB => ?_
   have p1 := lift (place_run (h := hB) (v := mo) (n := 32) (by decide) (by decide))
   obtain ⟨q, hq⟩ : ∃ q : Nat, mo % 32 = q := ⟨(mo % 32).toNat, by omega⟩
   rw [hq] at p1
   have hq32 : q < 32 := by omega
   have wq : IntKind.wrap .i64 (1 + (q : Int)) = 1 + q := wrap_i64 (by omega) (by omega)
   have hp : Sl1 hB (intSl b (upI rs.length)) (intCells (upI rs.length)) := Sl1.ints hb
   have hsel : selL rs (upI rs.length) = rs := selL_all
   have hfew : ∀ r ∈ rs, r.conts.length ≤ 3 := fun r hr => by
    obtain ⟨k, hk, e⟩ := List.mem_iff_getElem.1 hr
    exact (hN.2 k r (by rw [← e]; exact List.getElem?_eq_getElem hk)).len
   have hit : (itF 0 (selL rs (upI rs.length))).length ≤ 200 := by
    rw [hsel]
    have := itF_len (B := 3) (rs := rs) (q := 0) hfew
    omega
   obtain ⟨xb, lb, cb, sb, lv, nv, BB, al, tab, fl, ob, ou, hC, eC, S, oC, f1, f2⟩ := new_side (m0 := 1 + q) (most := 1 + q) (by omega) (RI.same oB) hp (by rw [upI_len]; omega) (fun r hr => by have := hfew r hr; omega) hit
   replace eC := lift eC
   rw [hx1] at eC
   rw [hsel] at S f2
   have n2 : (intSl b (upI rs.length)).notTup = true := intSl_notTup
   obtain ⟨hD, hhD⟩ : ∃ hD, hC ++ [AObj.cells (boolCells (List.replicate 200 false)) 93 false] = hD := ⟨_, rfl⟩
   have oD : Only (fun _ => False) hC hD := by rw [← hhD]; exact .app
   have gD : hD[hC.length]? = some (.cells (boolCells (List.replicate 200 false)) 93 false) := by rw [← hhD]; simp
   have oo := ((oA.trans oB).trans oC).trans oD
   obtain ⟨tt, hE, eE, htt, oE⟩ := letters (hu.same oo) (n := min t.length 40) (by omega) ht
   replace eE := lift eE
   have hmin : min (t.length : Int) 40 = (min t.length 40 : Nat) := by omega
   have hS := (S.same oD).same oE
   have I0 : OI hE xb lb cb sb lv nv BB al (rs.map (askOf (1 + q))) (ctI (itF 0 rs)) (plI (itF 0 rs)) (ncI (itF 0 rs)) [] tab fl ob ou hC.length (List.replicate 200 false) 0 := by
    refine ⟨hS, hN.slN, by rw [List.length_map]; exact hr6, fun i hi => ?_, oE.at gD id, by simp, fun s hs => ?_, fun c hc => ?_⟩
    · rw [List.getElem?_replicate] at hi
      split at hi <;> simp at hi
    · obtain ⟨r, _, rfl⟩ := List.mem_map.1 hs
      exact Nat.le_of_eq newTo_at
    · have := (S.ap c hc).1; omega
   have hloop := fun Q hq => bytes_loop25 (Q := Q) (t := tt) (by omega) I0 hq
   simp only [env25o] at hloop
   rw [show ((0 : Nat) : Int) = 0 from rfl] at hloop
   have hz : (boolCells (List.replicate 200 false)).length = 200 := by simp [boolCells]
   have hone : (boolCells (List.replicate 200 false)).all AV.one = true := by
    simp [boolCells, AV.one]
   have hz93 := zero93
   generalize intSl b (upI rs.length) = x2 at *
   generalize boolCells (List.replicate 200 false) = zz at *
   have hone' : (∀ x, x ∈ zz → x.one = true) = True := eq_true (by simpa [List.all_eq_true] using hone)
   simp [-AV.notTup, -AV.one, -AV.cells, cells_agg, one_agg, hvt, hut, n1, n2, c25_r9, c25_r10, c25_r12, c25_r13, c25_r14, len1, hlen, htlen, F25_D, p1, wq, eC, hz93, hz, hone', hhD, min2, hmin, eE]
   refine hloop _ fun h' => ?_
   simp [c25_r32, awake25c]
end
end Go.AM
